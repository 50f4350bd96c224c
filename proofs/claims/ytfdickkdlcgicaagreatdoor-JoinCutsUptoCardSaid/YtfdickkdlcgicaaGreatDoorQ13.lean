/-
  Walks: a rule in memory of its own. Plain words: a plan as i
-/
import Derived.Test.YtfdickkdlcgicaaGreatDoorQ12
import Derived.Deep.DeepCutAuto
set_option maxRecDepth 100000
set_option maxHeartbeats 8000000
set_option linter.all false
namespace Go.Proofs.YtfdickkdlcgicaaGreatDoor.C
open Go.Proofs.Tryz Go Go.RowKit Go.Maps Go.WideMaps
variable {Q Q':Nat->Prop}{W w w':World}{e:Ending}{s:Sp}
section
theorem znF:qB prog 22 102 5 56:=qB.of (z:=.agg #[.int .i8 0,.string ⟨#[]⟩,.int .i8 0,.int .i64 0,.string ⟨#[]⟩]) underlying22 zo rfl zr
theorem zhP(w:World)(A:Option Addr)(cap n:Nat)(xs:List Ar)(L:xs.length=n)(q:zZ Ar.cells w A xs)(I:n<=4194304):Calls prog 98 #[.slice A n cap] w (XA Ar.cells 102 5 xs w):=
 UL Tryz.zor znF rfl (fun w=>sizeOf102 w) (fun _=>rfl) (fun x u h=>by simp[Ar.cells]at h;rcases h with rfl|rfl|rfl|rfl|rfl<;>rfl) w A cap n xs L q I zr
theorem zlJ(w:World)(A:Option Addr)(cap n:Nat)(xs:List Tm)(L:xs.length=n)(q:zZ Tm.cells w A xs)(I:n<=4194304):Calls prog 99 #[.slice A n cap] w (XA Tm.cells 45 4 xs w):=
 UL Tryz.zh2 Jz rfl (fun w=>sizeOf45 w) (fun _=>rfl) (fun x u h=>by simp[Tm.cells]at h;rcases h with rfl|rfl|rfl|rfl<;>rfl) w A cap n xs L q I zr
theorem Li.off.XW{x:Li}(h:x.off Q)(q:∀g,Q g->Q' g):x.off Q':=⟨fun g I=>q g (h.1 g I),h.2.1.mono q,h.2.2.mono q⟩
theorem Ex.off.XW{x:Ex}(h:x.off Q)(q:∀g,Q g->Q' g):x.off Q':=Ex.off.mono q h
def zhy(r:Ru)(w:World)(e:Ending)(w':World):Prop:=∃h:Ru,e=.returned (.agg h.cells.toArray)/\h.bare=r.bare/\h.zN w'/\h.off (fun g=>w.heap.size<=g/\g<w'.heap.size)/\Bl w w'
theorem zc7(w:World)(r:Ru)(hl:r.zN w)(ht:r.zO.length<=1048576)(hb:r.body.length<=24)(hh:r.head.length<=24):Calls prog 45 #[.agg r.cells.toArray] w (zhy r w):=by
 have aq:=hl.XY;have ap:=hl.y8;have bj:=zz hl.body;have bv:=zz (show ∀x∈r.body,x.zO.length<=1048576 from fun x I=>by
  have h1:r.zO.length=(r.head.map (·.t)).length+(r.body.flatMap Li.zO).length:=zpA;have h2:x.zO.length<=(r.body.flatMap Li.zO).length:=by
   obtain⟨a,b,O⟩:=List.append_of_mem I;rw[O,zp2,zpZ,zpA,zpA];omega
  omega)
 have bn:=zz (fun W (Y:Bl w W) n (hn:r.head.length=n)=>zhP W r.A r.cap n r.head hn (hl.head.below Y) zd);have bi:=zz (fun W (Y:Bl w W) n (hn:r.body.length=n)=>zfY W r.B r.zM n r.body hn (hl.rd.below Y) zd);clear hl ht;obtain⟨p,A,aC,aa,B,zM,q⟩:=r;simp only[Ru.cells]at *;obtain⟨N,V⟩:∃N,aa.length=N:=⟨_,rfl⟩;obtain⟨M,U⟩:∃M,q.length=M:=⟨_,rfl⟩;rw[V]at aq hh ⊢;rw[U]at ap hb ⊢;have HN:=zz V;have HM:=zz U;obtain⟨W2,R,O⟩:=yb w 25 25 #[.string p,.slice A N aC,.slice B M zM] #[.string ⟨#[]⟩,.slice none 0 0,.slice none 0 0];have HX:=zz O;have aj:=zz R;have ae:=zz O.size;have H0:Kz (∀W,zh (·=w.heap.size) W2 W->True):=fun _ _=>trivial
 have H1:Kz (∀W:World,W.heap[w.heap.size]? = W2.heap[w.heap.size]?->W.cell? ⟨w.heap.size,1,none⟩=some (.slice A N aC)/\W.cell? ⟨w.heap.size,2,none⟩=some (.slice B M zM)):=fun W Y=>⟨(O.b0.same Y).cell 1,(O.b0.same Y).cell 2⟩
 clear O R V U;go_enter func45,ntmps45;go_wp2;rw[aj.o];refine Te [(0,0),(1,1),(3,0),(4,1),(2,2),(6,0),(5,2),(7,3),(8,0),(9,2)] 7 (fun W=>zh (·=w.heap.size) W2 W) (fun W=>W.heap[w.heap.size]? = W2.heap[w.heap.size]?) ?s0 ?s1 ?_
 case s0=>exact yw
 case s1=>rfl
 try refine zQ ?_
 repeat refine xM H0.o H1.o ?_
 refine xf fun K V=>?_
 go_simp;refine(bn.o _ (zl HX.o.below (Below.refl _ _).drew) _ HN.o).mono ?_;rintro e w3⟨A3,af,N3,rfl,O,Z,X,R⟩;obtain rfl:N3=N:=by rw[<-O,HN.o]
 have U:=zz (show Bl W2 w3 from(Below.refl _ _).drew.trans X);have ah:=zz Z;have al:Kz (∀g∈zw A3,W2.heap.size<=g):=R;refine V.out _ _ (zh.xj _ U.o) (fun _=>U.o.block _ HX.o.b0.lt) ?_;clear V K O Z X R;try refine zQ ?_
 repeat refine xM H0.o H1.o ?_
 refine xf fun K V=>?_
 go_simp;refine(bi.o _ (zl HX.o.below U.o) _ HM.o).mono ?_;rintro e w4⟨B4,X,M4,rfl,Z,ad,R,ab⟩;obtain rfl:M4=M:=by rw[<-Z,HM.o]
 have O:=zz (zl U.o R);have ak:=zz ad;have ac:=zz (ah.o.below R);have ag:=zz ab;refine V.out _ _ (zh.xj _ O.o) (fun _=>O.o.block _ HX.o.b0.lt) ?_;clear V K Z ad R ab;try refine zQ ?_
 repeat refine xM H0.o H1.o ?_
 refine Xf zj (fun K V=>?_);have K4:=zz (HX.o.b0.below O.o);have Z4:=zz (HX.o.b1.below O.o);refine XC 22 _ _ rfl w.heap.size 1 _ _ K4.o (.slice A3 N3 af) rfl rfl zp (zo) rfl ?_;intro W5 R;have K5:=zz R.zH;have S5:=zz R;refine V.out _ _ ((zh.xj _ O.o).trans R.zC (fun x I _=>I)) ?_;clear V K R;try refine zQ ?_
 repeat refine xM H0.o H1.o ?_
 refine xf fun K V=>?_
 refine XC 23 _ _ rfl w.heap.size 2 _ _ K5.o (.slice B4 M4 X) rfl rfl zp (zo) rfl ?_;intro W6 R;have S6:=zz R;refine V.out _ _ (((zh.xj _ O.o).trans S5.o.zC (fun x I _=>I)).trans R.zC (fun x I _=>I)) (fun h=>by cases h) ?_;clear V K R;refine xt ?_;have a9:Kz (zD W6 w.heap.size 25 #[.string p,.slice A3 N3 af,.slice B4 M4 X]):=S6.o.zH;have ad:w.heap.size+1≠w.heap.size:=zd;have be:=zz (S6.o.qj (S5.o.qj Z4.o ad) ad);have aI:=zz (S6.o.below (S5.o.below (zl HX.o.below O.o) (zpx _) (zpx _)) (zpx _) (zpx _));have bF:=zz (show w4.heap.size=W6.heap.size from(S5.o.size.symm.trans S6.o.size.symm));have Z:∀g∈zw A3,w.heap.size+1+1<=g:=fun g R=>by have:=al.o g R;have:=ae.o;omega
 have ab:∀g∈zw B4,w.heap.size+1+1<=g:=fun g R=>by have:=ag.o g R;have:=ae.o;have:=U.o.size;omega
 have ba:=zz (S6.o.own (S5.o.own ac.o (fun g R=>by have:=Z g R;omega)) (fun g R=>by have:=Z g R;omega));have aE:=zz (S6.o.own (S5.o.own ak.o (fun g R=>by have:=ab g R;omega)) (fun g R=>by have:=ab g R;omega));have a5:=zz Z;have ai:=zz ab;have aY:Kz (∀g∈zw A3,g∉zw B4):=fun g R hm=>by have:=ah.o.lt g R;have:=ag.o g hm;omega
 clear Z ab K4 Z4 K5 S5 S6 ah ak ac al ag U O HX aj H0 H1 ae ad;have c2:=a9.o.cell 2;go_wp2;clear c2
 go_loopg[3,4,16] M4 (fun gk s3 s4 U O=>∃(i:Nat) (zs:List Li),i<=M4/\gk=M4-i/\U=.int .i64 (i:Int)/\zs.length=M4/\Own Li.cells 50 16 O B4 X zs/\zh (·∈zw B4) W6 O/\
  (∀j (hj:j<q.length) (av:j<zs.length),(j<i->zs[j].bare=q[j].bare/\zs[j].zN O/\zs[j].off (fun g=>W6.heap.size<=g/\g<O.heap.size))/\(i<=j->zs[j]=q[j])))
 case atStart=>exact⟨0,q,zpD _,rfl,rfl,HM.o,aE.o,zh.refl _ _,fun j hj av=>⟨fun h=>zd,fun _=>rfl⟩⟩
 case round=>
  obtain⟨i,zs,hi,rfl,rfl,ay,ho,hC,hz⟩:=hrel;have a2:=zz (a9.o.zC hC (fun h=>by have:=ai.o _ h;omega));have bd:=zz (be.o.zC hC (fun h=>by have:=ai.o _ h;omega));have bf:=zz (ba.o.zC hC (fun g R=>aY.o g R));have an:=zz ay;have Ho:=zz ho;have HC:=zz hC;have Hz:=zz hz;have aA:Kz (Bl w wr):=aI.o.trans (hC.below (by have:=aI.o.size;omega) (fun x I=>by have:=ai.o x I;omega));have c2:=a2.o.cell 2
  by_cases aT:i<M4
  ·have ak:i<q.length:=by rw[HM.o];exact aT
   have R:i<zs.length:=by rw[ay];exact aT
   have ah:=(hz i ak R).2 (zpx _);obtain⟨g,rfl⟩:∃g,B4=some ⟨g,0,none⟩:=by
    rcases ho.form with⟨-,-,O⟩ |⟨g,h,-⟩
    ·rw[O]at R;simp at R
    ·exact⟨g,h⟩
   obtain⟨b,o,hA,ao,hr⟩:=ho.xI.at Li.Yn i R;injection hA with hA
   injection hA with bo bh
   subst bo bh;rw[ah]at hr;have Z:=zpB ak;have U:=bj.o _ Z;have aj:=bv.o _ Z;unfold Li.zO at aj;simp only[zpA]at aj;have aN:=zz (fun W (Y:Bl w W) n (hn:q[i].a.args.length=n)=>zlJ W q[i].a.A q[i].a.cap n q[i].a.args hn (U.a.rd.below Y) zd);have aB:=zz (fun W (Y:Bl w W)=>DG q[i].l W (U.l.below Y) zd);have ax:=zz (fun W (Y:Bl w W)=>DG q[i].r W (U.r.below Y) zd);have aP:=zz U.a.len;obtain⟨bC,ae⟩:=ho.zH;have bA:=zz ae;have bD:=zz (ai.o g (by simp[zw]));have aw:=zz R;have a8:Kz (∀h:i<zs.length,zs[i]=q[i]):=fun _=>ah
   generalize I:q[i]=x at hr aN aB ax aP a8;have Hx:Kz (∀h:i<q.length,q[i]=x):=fun _=>I
   obtain⟨xk,⟨xp,xA,a6,O⟩,ab,⟨q1,⟨v1,⟨k1,n1,s1⟩⟩,A1,al,az⟩,⟨q2,⟨v2,⟨k2,n2,s2⟩⟩,A2,ag,am⟩⟩:=x;simp only[Li.cells,Ex.cells,zpJ,zpI]at hr aB ax;simp only at aN aP;obtain⟨L,hL⟩:∃L,O.length=L:=⟨_,rfl⟩;obtain⟨M1,ac⟩:∃M1,az.length=M1:=⟨_,rfl⟩;obtain⟨M2,ad⟩:∃M2,am.length=M2:=⟨_,rfl⟩;rw[hL,ac,ad]at hr;rw[ac]at aB;rw[ad]at ax;have HL:=zz hL;have bx:=zz ac;have br:=zz ad;have d2:wr.cell? ⟨g,i*16+2,none⟩=some (.slice xA L a6):=by simpa using hr 2 _ rfl
   have Hr:=zz (show wr.rangeAt g (i*16) _ from by simpa using hr);clear hL ac ad hr I R ah ak Z U aj ae ay ho hC hz ao;have R:w.heap.size+1+1<=g:=ai.o g (by simp[zw]);have bl:=zz R;have bq:Kz (W6.heap.size<=wr.heap.size):=HC.o.size;clear R;go_upto_region 6 with fail
   go_upto_region 7 with(first
    |(go_at_call 99;refine(aN.o _ aA.o _ HL.o).mono ?_;rintro e w6⟨A6,U,L6,rfl,aQ,aX,aM,a4⟩;obtain rfl:L6=L:=aQ.symm.trans HL.o;have a1:=zz aX;have aG:=zz a4;have ak:=zz aM;have bp:=zz (Ho.o.below aM);clear aQ aX aM a4 d2)
    |(refine xy 36 _ _ rfl ?_;refine ziK zj 36 _ _ rfl bp.o Li.xG i aw.o 2 (.slice A6 L6 U) ⟨xk,⟨xp,A6,U,O⟩,ab,.mk q1 ⟨v1,⟨k1,n1,s1⟩⟩ A1 al az,.mk q2 ⟨v2,⟨k2,n2,s2⟩⟩ A2 ag am⟩ zd (by rw[a8.o aw.o];simp[Li.cells,Ex.cells,HL.o]) rfl rfl zo rfl ?_;intro w7 aU aS a7;have aK:=zz aU;have aO:=zz aS;have bk:=zz a7;clear aU aS a7))
   have ah:i<(zs.set i ⟨xk,⟨xp,A6,U,O⟩,ab,.mk q1 ⟨v1,⟨k1,n1,s1⟩⟩ A1 al az,.mk q2 ⟨v2,⟨k2,n2,s2⟩⟩ A2 ag am⟩).length:=by rw[zqe];exact aw.o
   have R:=aK.o.at Li.xG zd i ah;rw[zqR]at R;simp only[Li.cells,Ex.cells,zpJ,zpI,bx.o,br.o]at R;have Z:=zz R;have aH:=zz aK.o.Y4;have a3:=zz (show Bl w w7 from(zl aA.o ak.o).trans (aO.o.below (by have:=aA.o.size;have:=ak.o.size;omega) (fun x I=>by have:=bl.o;omega)));have H0:Kz (∀W,zh (·=g) w7 W->True):=fun _ _=>trivial
   have H1:=zz (show ∀W:World,W.heap[g]? = w7.heap[g]?->W.cell? ⟨g,i*16+4,none⟩=some (.int .i8 q1)/\W.cell? ⟨g,i*16+4+1,none⟩=some (.string v1)/\W.cell? ⟨g,i*16+4+2,none⟩=some (.int .i8 k1)/\W.cell? ⟨g,i*16+4+3,none⟩=some (.int .i64 n1)/\W.cell? ⟨g,i*16+4+4,none⟩=some (.string s1)/\W.cell? ⟨g,i*16+4+5,none⟩=some (.slice A1 M1 al)/\
    W.cell? ⟨g,i*16+10,none⟩=some (.int .i8 q2)/\W.cell? ⟨g,i*16+10+1,none⟩=some (.string v2)/\W.cell? ⟨g,i*16+10+2,none⟩=some (.int .i8 k2)/\W.cell? ⟨g,i*16+10+3,none⟩=some (.int .i64 n2)/\W.cell? ⟨g,i*16+10+4,none⟩=some (.string s2)/\W.cell? ⟨g,i*16+10+5,none⟩=some (.slice A2 M2 ag)from fun W Y=>
    have e:=fun o=>World.cell?_of_block (w:=w7) (w':=W) (a:=⟨g,o,none⟩) Y
    ⟨(e _).trans (Z.o 4 _ rfl),(e _).trans (Z.o 5 _ rfl),(e _).trans (Z.o 6 _ rfl),(e _).trans (Z.o 7 _ rfl),(e _).trans (Z.o 8 _ rfl),(e _).trans (Z.o 9 _ rfl),(e _).trans (Z.o 10 _ rfl),(e _).trans (Z.o 11 _ rfl),(e _).trans (Z.o 12 _ rfl),(e _).trans (Z.o 13 _ rfl),(e _).trans (Z.o 14 _ rfl),(e _).trans (Z.o 15 _ rfl)⟩)
   clear R ah c2;refine Te [(0,0),(1,0),(2,0),(3,0),(4,0),(5,1),(7,0),(8,0),(9,0),(10,1),(6,2),(11,2),(12,0),(13,0),(14,3),(15,0),(16,0),(17,2)] 14 (fun W=>zh (·=g) w7 W) (fun W=>W.heap[g]? = w7.heap[g]?) ?s0 ?s1 ?_
   case s0=>exact yw
   case s1=>rfl
   try refine zQ ?_
   repeat refine xM H0.o H1.o ?_
   refine xf fun K V=>?_
   go_simp;refine(aB.o _ (zl a3.o (Below.refl _ _).drew)).mono ?_;rintro e w8⟨Y,rfl,au,ao,aj,ac⟩;obtain⟨q3,⟨v3,⟨k3,n3,s3⟩⟩,ae,R,ad⟩:=Y;simp only[Ex.cells];obtain⟨M3,Y⟩:∃M3,ad.length=M3:=⟨_,rfl⟩;rw[Y];have bu:=zz Y;have ar:=zz (show Bl w7 w8 from(Below.refl _ _).drew.trans ac);have bm:=zz au;have bs:=zz ao;have aZ:Kz (Ex.off (fun g=>w7.heap.size<=g/\g<w8.heap.size) (.mk q3 ⟨v3,⟨k3,n3,s3⟩⟩ ae R ad)):=aj;refine V.out _ _ (zh.xj _ ar.o) (fun _=>ar.o.block _ aH.o) ?_;clear V K Y au ao aj ac;try refine zQ ?_
   repeat refine xM H0.o H1.o ?_
   refine xf fun K V=>?_
   go_simp;refine(ax.o _ (zl a3.o ar.o)).mono ?_;rintro e w9⟨Y,rfl,aL,aF,aD,ao⟩;obtain⟨q4,⟨v4,⟨k4,n4,s4⟩⟩,A4,ac,aj⟩:=Y;simp only[Ex.cells];obtain⟨M5,au⟩:∃M5,aj.length=M5:=⟨_,rfl⟩;rw[au];have bg:=zz au;have aJ:=zz ao;have bt:=zz aL;have bw:=zz aF;have aR:=zz aD;have Y:=zz (zl ar.o ao);refine V.out _ _ (zh.xj _ Y.o) (fun _=>Y.o.block _ aH.o) ?_;clear V K au aL aF aD ao;try refine zQ ?_
   repeat refine xM H0.o H1.o ?_
   refine Xf zj (fun K V=>?_);have ah:i<(zs.set i ⟨xk,⟨xp,A6,U,O⟩,ab,.mk q1 ⟨v1,⟨k1,n1,s1⟩⟩ A1 al az,.mk q2 ⟨v2,⟨k2,n2,s2⟩⟩ A2 ag am⟩).length:=by rw[zqe];exact aw.o
   refine JU 48 _ _ rfl (aK.o.below Y.o) Li.xG i ah 4 [.int .i8 q3,.string v3,.int .i8 k3,.int .i64 n3,.string s3,.slice ae M3 R] ⟨xk,⟨xp,A6,U,O⟩,ab,.mk q3 ⟨v3,⟨k3,n3,s3⟩⟩ ae R ad,.mk q2 ⟨v2,⟨k2,n2,s2⟩⟩ A2 ag am⟩ zp (by rw[zqR];simp[Li.cells,Ex.cells,bu.o]) rfl rfl zo (zt) ?_;intro bI ao au aD;rw[List.set_set]at ao;have bc:=zz ao;have aF:=zz au;have bz:=zz aD;refine V.out _ _ ((zh.xj _ Y.o).trans au (fun x I _=>I)) ?_;clear V K ao au aD ah;try refine zQ ?_
   repeat refine xM H0.o H1.o ?_
   refine xf fun K V=>?_
   have ah:i<(zs.set i ⟨xk,⟨xp,A6,U,O⟩,ab,.mk q3 ⟨v3,⟨k3,n3,s3⟩⟩ ae R ad,.mk q2 ⟨v2,⟨k2,n2,s2⟩⟩ A2 ag am⟩).length:=by rw[zqe];exact aw.o
   refine JU 48 _ _ rfl bc.o Li.xG i ah 10 [.int .i8 q4,.string v4,.int .i8 k4,.int .i64 n4,.string s4,.slice A4 M5 ac] ⟨xk,⟨xp,A6,U,O⟩,ab,.mk q3 ⟨v3,⟨k3,n3,s3⟩⟩ ae R ad,.mk q4 ⟨v4,⟨k4,n4,s4⟩⟩ A4 ac aj⟩ zp (by rw[zqR];simp[Li.cells,Ex.cells,bg.o]) rfl rfl zo (zt) ?_;intro aL au ao aD;rw[List.set_set]at au;have aW:=zz au;have aV:=zz ao;have bB:=zz aD;refine V.out _ _ (((zh.xj _ Y.o).trans aF.o (fun x I _=>I)).trans ao (fun x I _=>I)) (fun h=>by cases h) ?_;clear V K au ao aD ah;refine xt ?_;have V:=zz (aF.o.trans aV.o (fun x I _=>I));have ah:=zz (show zh (·=g) wr aL from(((zh.xj _ ak.o).trans aO.o (fun x I _=>I)).trans (zh.xj (·=g) Y.o) (fun x I _=>I)).trans V.o (fun x I _=>I));have ao:∀j (hj:j<q.length) (av:j<(zs.set i ⟨xk,⟨xp,A6,U,O⟩,ab,.mk q3 ⟨v3,⟨k3,n3,s3⟩⟩ ae R ad,.mk q4 ⟨v4,⟨k4,n4,s4⟩⟩ A4 ac aj⟩).length),(j<i+1->(zs.set i ⟨xk,⟨xp,A6,U,O⟩,ab,.mk q3 ⟨v3,⟨k3,n3,s3⟩⟩ ae R ad,.mk q4 ⟨v4,⟨k4,n4,s4⟩⟩ A4 ac aj⟩)[j].bare=q[j].bare/\(zs.set i ⟨xk,⟨xp,A6,U,O⟩,ab,.mk q3 ⟨v3,⟨k3,n3,s3⟩⟩ ae R ad,.mk q4 ⟨v4,⟨k4,n4,s4⟩⟩ A4 ac aj⟩)[j].zN aL/\(zs.set i ⟨xk,⟨xp,A6,U,O⟩,ab,.mk q3 ⟨v3,⟨k3,n3,s3⟩⟩ ae R ad,.mk q4 ⟨v4,⟨k4,n4,s4⟩⟩ A4 ac aj⟩)[j].off (fun g=>W6.heap.size<=g/\g<aL.heap.size))/\(i+1<=j->(zs.set i ⟨xk,⟨xp,A6,U,O⟩,ab,.mk q3 ⟨v3,⟨k3,n3,s3⟩⟩ ae R ad,.mk q4 ⟨v4,⟨k4,n4,s4⟩⟩ A4 ac aj⟩)[j]=q[j]):=fun j hj av=>by
    have au:j<zs.length:=by rw[zqe]at av;exact av
    have bJ:g<wr.heap.size:=Ho.o.Y4;have bG:=aH.o;have bH:wr.heap.size<=w6.heap.size:=ak.o.size;have h7:=bk.o;have aD:=Y.o.size;have h8:=ar.o.size;have bE:=bq.o;refine⟨fun h=>?_,fun h=>?_⟩
    ·by_cases e:i=j
     ·subst e;rw[zqR,Hx.o hj];refine⟨?_,⟨⟨?_,?_⟩,?_,?_⟩,⟨fun x I=>?_,?_,?_⟩⟩
      ·simp only[Li.bare];rw[bm.o,bt.o]
      ·refine((((a1.o.zC aO.o fun x I e=>by have:=aG.o x I;omega).below Y.o).zC V.o fun x I e=>by have:=aG.o x I;omega)).xI
      ·rw[HL.o];have:=aP.o;rw[HL.o]at this;exact this
      ·exact(bs.o.below aJ.o).kept V.o (aZ.o.XW fun x I e=>zd)
      ·exact bw.o.kept V.o (aR.o.XW fun x I e=>zd)
      ·have:=aG.o x I;have:=a1.o.lt x I;have:=ah.o.size;have:=V.o.size;omega
      ·exact aZ.o.XW fun x I=>by have:=V.o.size;have:=aJ.o.size;omega
      ·exact aR.o.XW fun x I=>by have:=V.o.size;have:=aJ.o.size;omega
     ·rw[zre e];have h1:=(Hz.o j hj au).1 zd;exact⟨h1.1,h1.2.1.kept ah.o (h1.2.2.XW fun x I e=>by have:=aE.o.Y4;omega),h1.2.2.XW fun x I=>by have:=ah.o.size;omega⟩
    ·rw[zre zd];exact(Hz.o j hj au).2 zd
   have au:=zz ao;clear ao;go_wp2
   go_roundg (M4-(i+1))
   case measure=>omega
   case rel=>exact⟨i+1,_,zd,rfl,ze,by rw[zqe];exact an.o,aW.o,HC.o.trans ah.o (fun x I _=>by rw[I];simp[zw]),au.o⟩
  ·obtain rfl:i=M4:=zd;clear ay ho hC hz c2
   go_wp2_with (first
    |(refine xW 25 _ rfl ?_;refine y7 zj 25 _ rfl w.heap.size 0 rfl [.string p,.slice A3 N3 af,.slice B4 i X] _ a2.o.range underlying25 rfl zo ?_)
    |(refine xy 25 _ _ rfl ?_;refine yH 25 (w.heap.size+1) 0 bd.o [.string p,.slice A3 N3 af,.slice B4 i X] ?_;intro Y O;have z0:=O.zH.cell 0;have z1:=O.zH.cell 1;have z2:=O.zH.cell 2;have U:=zz O;clear O))
   simp only[zpY,zpI,zpL,zpJ,zpH,zpM]at z0 z1 z2;refine bodyPost_ret (v:=.agg #[.string p,.slice A3 N3 af,.slice B4 i X]) (by simp[results,results45,go_sem,z0,z1,z2]) rfl ?_;have ab:zs.length=q.length:=by rw[an.o,HM.o]
   have Z:=U.o.below aA.o (zpx _) zd;have R:∀y∈zs,y.zN Y/\y.off (fun g=>w.heap.size<=g/\g<Y.heap.size):=fun y V=>by
    obtain⟨j,hj,rfl⟩:=zpS.1 V;have h1:=(Hz.o j zd hj).1 (by rw[an.o]at hj;exact hj);have:=aI.o.size;have:=bd.o.lt;have h6:w.heap.size+1<W6.heap.size:=be.o.lt;exact⟨h1.2.1.kept U.o.zC (h1.2.2.XW fun x I e=>zd),h1.2.2.XW fun x I=>by have:=U.o.zC.size;omega⟩
   refine⟨⟨p,A3,af,aa,B4,X,zs⟩,by rw[Ru.cells,HN.o,an.o],?_,⟨?_,?_,?_,?_,fun y V=>(R y V).1⟩,⟨fun x I=>?_,fun x I=>?_,fun y V=>(R y V).2⟩,Z⟩
   ·simp only[Ru.bare]
    congr 1
    refine zrj (by simp[ab]) fun j h1 h2=>?_
    rw[zqz,zqz];exact((Hz.o j (by simpa using h2) (by simpa using h1)).1 (by rw[zpO,an.o]at h1;exact h1)).1
   ·exact(U.o.own bf.o (fun x I e=>by have:=a5.o x I;omega)).xI
   ·rw[HN.o];exact aq
   ·exact(U.o.own Ho.o (fun x I e=>by have:=ai.o x I;omega)).xI
   ·rw[an.o];exact ap
   ·have:=a5.o x I;have:=bf.o.lt x I;have:=U.o.zC.size;omega
   ·have:=ai.o x I;have:=Ho.o.lt x I;have:=U.o.zC.size;omega
structure Sx where
 s:Sp
 A:Option Addr
 cap:Nat
abbrev Sx.cells(x:Sx):List Value:=[.int .i8 x.s.k,.int .i64 (x.s.lit:Int),.int .u32 (x.s.known:Int),.slice x.A x.s.gives.length x.cap]
def Sx.own(x:Sx)(w:World):Prop:=Own xD 9 1 w x.A x.cap x.s.gives
def Sx.zN(x:Sx)(w:World):Prop:=zZ xD w x.A x.s.gives
theorem Sx.own.zN{x:Sx}(h:x.own w):x.zN w:=Own.xI h
theorem Sx.zN.below{x:Sx}(h:x.zN w)(q:Bl w W):x.zN W:=zZ.below h q
theorem zeI:qB prog 55 107 4 48:=qB.of (z:=.agg #[.int .i8 0,.int .i64 0,.int .u32 0,.slice none 0 0]) underlying55 zo rfl zr
theorem Sx.one(x:Sx):∀u∈x.cells,u.oneCell'=true:=zt
structure Px where
 r:Ru
 A:Option Addr
 cap:Nat
 ss:List Sx
abbrev Px.cells(p:Px):List Value:=[.string p.r.p,.slice p.r.A p.r.head.length p.r.cap,.slice p.r.B p.r.body.length p.r.zM,.slice p.A p.ss.length p.cap]
structure Px.zN (p:Px) (w:World):Prop where
 r:p.r.zN w
 rd:zZ Sx.cells w p.A p.ss
 ss:∀s∈p.ss,s.zN w
theorem Px.zN.below{p:Px}(h:p.zN w)(q:Bl w W):p.zN W:=⟨h.r.below q,h.rd.below q,fun s I=>(h.ss s I).below q⟩
theorem Ru.off.XW{x:Ru}(h:x.off Q)(q:∀g,Q g->Q' g):x.off Q':=⟨fun g I=>q g (h.1 g I),fun g I=>q g (h.2.1 g I),fun y L=>(h.2.2 y L).XW q⟩
structure qE (r r':Ru):Prop where
 bare:r'.bare=r.bare
theorem qE.p{r q:Ru}(h:qE r q):q.p=r.p:=show q.bare.p=r.bare.p from congrArg Ru.p h.bare
theorem qE.head{r q:Ru}(h:qE r q):q.head=r.head:=show q.bare.head=r.bare.head from congrArg Ru.head h.bare
theorem qE.body{r q:Ru}(h:qE r q):q.body.map Li.bare=r.body.map Li.bare:=show q.bare.body=r.bare.body from congrArg Ru.body h.bare
theorem qE.len{r q:Ru}(h:qE r q):q.body.length=r.body.length:=by
 have:=congrArg List.length h.body;simpa using this
theorem qE.mem{r q:Ru}(h:qE r q){x:Li}(L:x∈q.body):∃y∈r.body,y.bare=x.bare:=by
 have:x.bare∈r.body.map Li.bare:=h.body▸zp8.2 ⟨x,L,rfl⟩;obtain⟨y,I,e⟩:=zp8.1 this;exact⟨y,I,e⟩
theorem Li.zb1{x y:Li}(e:y.bare=x.bare)(h:y.ok):x.ok:=(Li.UZ x).1 (e▸(Li.UZ y).2 h)
theorem Li.zbj{x y:Li}(e:y.bare=x.bare):y.zO=x.zO:=by rw[<-Li.Yp y,e,Li.Yp]
theorem Li.zfa{r:Ru}{x:Li}(q:x∈r.body):x.zO.length<=r.zO.length:=by
 have L:r.zO.length=(r.head.map (·.t)).length+(r.body.flatMap Li.zO).length:=zpA;have I:x.zO.length<=(r.body.flatMap Li.zO).length:=by
  obtain⟨a,b,h⟩:=List.append_of_mem q;rw[h,zp2,zpZ,zpA,zpA];omega
 omega
theorem qE.at{r O:Ru}(h:qE r O)(R:O.zN w)(q:r.ok)(U:r.fits)(V:r.zO.length<=1048576):VL w O.B r.body.length O.body:=by
 refine⟨h.len,R.rd,R.body,fun x L=>?_,fun x L=>?_,fun x L t N=>?_,by have:=q.y8;omega⟩
 ·obtain⟨y,I,e⟩:=h.mem L;exact Li.zb1 e (q.body y I)
 ·obtain⟨y,I,e⟩:=h.mem L;rw[<-Li.zbj e];have:=Li.zfa I;omega
 ·obtain⟨y,I,e⟩:=h.mem L;rw[<-Li.zbj e]at N;exact(U.2.2 t (zpR _ (zqP.2 ⟨y,I,N⟩)))
theorem qE.lim{r q:Ru}(h:qE r q)(N:∀v∈r.vars,yo r.body v):∀x∈q.body,∀v∈x.vars,yo q.body v:=fun x O v I=>by
 have L:v∈q.vars:=Ru.qJ O I;rw[<-Ru.J0,h.bare,Ru.J0]at L;exact yo.bare h.body.symm (N v L)
theorem qE.kind{r q:Ru}(h:qE r q){j:Nat}(L:j<q.body.length)(I:j<r.body.length):q.body[j].k=r.body[j].k:=by
 have:=congrArg (fun l:List Li=>(l[j]?).map Li.k) h.body;simp only[zqt,zpF L,zpF I,zqh,Li.bare]at this;injection this
def zaW(fst:Option Nat)(m:Nat)(ss:List Sx):Prop:=∀j,fst=some j->(ss=[]/\j∈bitsOf m)\/(j∉bitsOf m/\∃s h,ss.map (·.s)=s::h/\s.lit=j)
structure ZZ (w9:World) (sb mb pb:Nat) (B:Option Addr) (zM nb:Nat) (body:List Li) (c0 c1 c2:Value) (fst:Option Nat) (m:Nat) (K:List ByteArray) (f:Value->Option Value) (ss:List Sx) (A:Option Addr) (cap n:Nat) (wx:World):Prop where
 lt:m<2 ^ 24
 bits:∀i∈bitsOf m,i<nb
 st:yN wx sb mb B zM nb f K
 yS:zD wx pb 57 #[c0,c1,c2,.slice A n cap]
 len:ss.length=n
 le:n+(bitsOf m).length=nb
 own:Own Sx.cells 107 4 wx A cap ss
 each:∀s∈ss,s.own wx
 zC:zh (fun g=>g=mb\/g=pb) w9 wx
 zbq:∀rest,yi body K (bitsOf m) rest->yi body [] (List.range nb) (ss.map (·.s)++rest)
 known:∀i (h:i<body.length),i∉bitsOf m->∀v∈body[i].vars,v∈K
 first:zaW fst m ss
 news:∀g∈zw A,w9.heap.size<=g
 zby:sb≠pb
 zbu:mb≠pb
 low:pb<w9.heap.size
 DB:∀s∈ss,∀g∈zw s.A,w9.heap.size<=g
theorem zd4{α β:Type}{f:α->List Value}{f':β->List Value}{e R:TypeId}{size I:Nat}{A A':Option Addr}{cap cap':Nat}{xs:List α}{X:List β}(h:Own f e size w A cap xs)(k:Own f' R I w A' cap' X)(L:e≠R):∀g∈zw A,g∉zw A':=fun g U q=>by
 rcases k.2 with⟨O,_⟩ |⟨Y,c0,V,O,_,W,_⟩
 ·injection O with N;subst N;simp[zw]at q
 ·injection O with N;subst N
  simp[zw]at q;subst q;exact h.yD W L U
theorem zi7{body:List Li}{K:List ByteArray}{m i nb:Nat}{ss:List Sx}(hi:i∈bitsOf m)(N:i<body.length)(L:stepOf K i body[i]=some s)(h:∀q,yi body K (bitsOf m) q->yi body [] (List.range nb) (ss.map (·.s)++q))(x:Sx)(O:x.s=s):
 ∀q,yi body (K++s.gives) (bitsOf (Xd m i)) q->yi body [] (List.range nb) ((ss++[x]).map (·.s)++q):=fun q I=>by
 rw[Vs (Y6.1 hi).1]at I;have:=h (s::q) (.cons hi N L I);rw[zp1,zpX];simpa[O]using this
theorem zgE{body:List Li}{K:List ByteArray}{m i:Nat}(hi:i∈bitsOf m)(R:i<body.length)(O:stepOf K i body[i]=some s)(h:∀j (h:j<body.length),j∉bitsOf m->∀v∈body[j].vars,v∈K):
 ∀j (h:j<body.length),j∉bitsOf (Xd m i)->∀v∈body[j].vars,v∈K++s.gives:=fun j N L v I=>by
 rw[Vs (Y6.1 hi).1]at L
 by_cases e:j=i
 ·subst e;rw[(YQ O).2]
  by_cases q:v∈K
  ·exact zp0 _ q
  ·exact zpR _ (Uq.2 ⟨I,q⟩)
 ·exact zp0 _ (h j N (fun q=>L ((List.mem_erase_of_ne e).2 q)) v I)
theorem zge{fst:Option Nat}{m i:Nat}{ss:List Sx}(h:zaW fst m ss)(hi:i∈bitsOf m)(L:∀j,fst=some j->j∈bitsOf m->i=j)(W:s.lit=i)(x:Sx)(X:x.s=s):zaW fst (Xd m i) (ss++[x]):=fun j O=>by
 have N:=(zdU m).mem_erase_iff (a:=j) (b:=i);rw[Vs (Y6.1 hi).1]
 rcases h j O with⟨rfl,I⟩ |⟨I,V,q,U,R⟩
 ·obtain rfl:=L j O I;exact .inr ⟨fun h=>by rw[N]at h;exact h.1 rfl,s,[],by simp[X],W⟩
 ·exact .inr ⟨fun h=>I (N.1 h).2,V,q++[x.s],by rw[zp1,U];simp,R⟩
theorem zol{m i n nb:Nat}(hi:i∈bitsOf m)(h:n+(bitsOf m).length=nb):n+1+(bitsOf (Xd m i)).length=nb:=by
 rw[Vs (Y6.1 hi).1,List.length_erase_of_mem hi];have:=List.length_pos_of_mem hi;omega
section
variable {w9:World}{sb mb pb:Nat}{B:Option Addr}{zM nb:Nat}{body:List Li}{c0 c1 c2:Value}{fst:Option Nat}{m:Nat}{K:List ByteArray}{f:Value->Option Value}{ss:List Sx}{A:Option Addr}{cap n:Nat}{wr w12 w13 W14 w15:World}
variable {i:Nat}{st:Sp}{A11:Option Addr}{cap11 g13 cap13:Nat}{f':Value->Option Value}
theorem ZZ.za5(h:ZZ w9 sb mb pb B zM nb body c0 c1 c2 fst m K f ss A cap n wr)(I:Bl wr w12)(R:Own xD 9 1 w12 A11 cap11 st.gives)(L:zh (·∈zw A) w12 w13):
 zD w13 pb 57 #[c0,c1,c2,.slice A n cap]/\yN w13 sb mb B zM nb f K/\Own xD 9 1 w13 A11 cap11 st.gives:=by
 have q:=h.own.below I;have O:=h.yS.below I;have N:=h.st.below I;exact⟨O.zC L (q.yD O zr),N.zC L (q.yD N.r zr) (q.qU N.m),R.zC L (zd4 R q zr)⟩
theorem ZZ.stored{R:Array Value}(h:ZZ w9 sb mb pb B zM nb body c0 c1 c2 fst m K f ss A cap n wr)(U:yN w13 sb mb B zM nb f K)(O:zD w13 pb 57 #[c0,c1,c2,.slice A n cap])(N:Own xD 9 1 w13 A11 cap11 st.gives)(q:XX w13 pb 57 R W14):
 yN W14 sb mb B zM nb f K/\Own xD 9 1 W14 A11 cap11 st.gives/\mb∉zw A11:=by
 have L:=q.own N (fun g I e=>N.yD O zr (e▸I));have I:=U.zC q.zC h.zby h.zbu;exact⟨I,L,L.qU I.m⟩
theorem ZZ.next{cs:Array Value}(h:ZZ w9 sb mb pb B zM nb body c0 c1 c2 fst m K f ss A cap n wr)(hi:i∈bitsOf m)(ad:i<body.length)(W:stepOf K i body[i]=some st)(aj:∀j,fst=some j->j∈bitsOf m->i=j)(Z:Bl wr w12)(ho:Own xD 9 1 w12 A11 cap11 st.gives)(hc:zh (·∈zw A) w12 w13)(V:Own Sx.cells 107 4 w13 (some ⟨g13,0,none⟩) cap13 (ss++[⟨st,A11,cap11⟩]))(ah:g13∈zw A\/w12.heap.size<=g13)(I:XX w13 pb 57 cs W14)(ai:cs=#[c0,c1,c2,.slice (some ⟨g13,0,none⟩) (n+1) cap13])(af:yN w15 sb mb B zM nb f' (K++st.gives))(q:zh (·=mb) W14 w15)(ac:∀g∈zw A11,w9.heap.size<=g):
 ZZ w9 sb mb pb B zM nb body c0 c1 c2 fst (Xd m i) (K++st.gives) f' (ss++[⟨st,A11,cap11⟩]) (some ⟨g13,0,none⟩) cap13 (n+1) w15:=by
 subst ai;obtain⟨L,ae,aa⟩:=h.za5 Z ho hc;obtain⟨U,ab,ak⟩:=h.stored ae L aa I;have X:g13≠pb:=fun e=>(V.yD L zr) (by simp[zw,e])
 have O:=I.own V (xY X);have ag:=Y6.1 hi;refine⟨Nat.lt_of_le_of_lt (zaP _ _) h.lt,fun j hj=>h.bits j ?_,af,I.zH.zC q (fun e=>h.zbu e.symm),by rw[zpA,h.len];rfl,zol hi h.le,O.zC q (fun g R e=>O.qU U.m (e▸R)),fun s N=>?_,?_,zi7 hi ad W h.zbq _ rfl,zgE hi ad W h.known,zge h.first hi aj (YQ W).1 _ rfl,?_,h.zby,h.zbu,h.low,fun s N=>(by
  rcases zpE.1 N with N|N
  ·exact h.DB s N
  ·rw[zpy.1 N];exact ac)⟩
 ·rw[Vs ag.1]at hj;exact List.mem_of_mem_erase hj
 ·have Y:Own xD 9 1 W14 s.A s.cap s.s.gives:=by
   rcases zpE.1 N with N|N
   ·have k0:=(h.each s N).below Z;have k1:=k0.zC hc (zd4 k0 (h.own.below Z) zr);exact I.own k1 (fun g R e=>k1.yD L zr (e▸R))
   ·rw[zpy.1 N];exact ab
  exact Y.zC q (fun g R e=>Y.qU U.m (e▸R))
 ·refine(((h.zC.trans (zh.xj (fun _=>False) Z) (fun x Y _=>Y.elim)).trans hc (fun x Y al=>?_)).trans I.zC (fun x Y _=>.inr Y)).trans q (fun x Y _=>.inl Y);have:=h.news x Y;omega
 ·refine xY ?_
  rcases ah with R|R
  ·exact h.news _ R
  ·have:=h.zC.size;have:=Z.size;omega
theorem ZZ.zcP(h:ZZ w9 sb mb pb B zM nb body c0 c1 c2 fst m K f ss A cap n wr)(L:VL w9 B nb body)(q:∀x∈body,∀v∈x.vars,yo body v)(I:m≠0):∃i,Va body K (bitsOf m)=some i:=
 zos L.ok q (fun e=>I (zcF h.lt e)) (fun i N=>by rw[L.len];exact h.bits i N) h.known
end
theorem zcD{A:Option Addr}{o:Obj}(h:zh (·∈zw A) (w.alloc o) w'):zh (·∈zw A) w w':=((zh.refl _ w).alloc o).trans h (fun x q _=>q)
theorem Sx.zee{A:Option Addr}{cap i n h:Nat}{k:Int}(L:s.k=k)(q:s.lit=i)(N:s.known=h)(I:s.gives.length=n):Sx.cells ⟨s,A,cap⟩=[.int .i8 k,.int .i64 (i:Int),.int .u32 (h:Int),.slice A n cap]:=by
 rw[Sx.cells,L,q,N,I]
theorem zbd{B:Option Addr}{nb n i:Nat}{K:List ByteArray}{body:List Li}{st:Sp}{I:i<body.length}(h:VL w B nb body)(q:stepOf K i body[i]=some st)(N:st.gives.length=n):n<=4194304:=by
 rw[(YQ q).2]at N;have L:(qF K body[i]).length<=body[i].vars.length:=zqS _ _;have O:=YY body[i].zO;have R:=h.zO _ (zpB I);unfold Li.vars at L;omega
def zcM(r:Ru)(fst:Option Nat)(w:World)(e:Ending)(w':World):Prop:=
 ∃p:Px,e=.returned (.tuple #[.agg p.cells.toArray,.int .i64 0])/\qE r p.r/\p.zN w'/\yi p.r.body [] (List.range r.body.length) (p.ss.map (·.s))/\p.ss.length=r.body.length/\(∀j,fst=some j->∃s h,p.ss.map (·.s)=s::h/\s.lit=j)/\p.r.off (fun g=>w.heap.size<=g/\g<w'.heap.size)/\(∀s∈p.ss,qV (fun g=>w.heap.size<=g/\g<w'.heap.size) s.A)/\qV (fun g=>w.heap.size<=g/\g<w'.heap.size) p.A/\Bl w w'
end
section
theorem zjw(w:World)(xs:List ByteArray)(n:Nat)(hn:xs.length=n)(A:Option Addr)(cap:Nat)(hA:zZ xD w A xs)(A2:Option Addr)(I:Nat)(O:zZ xD w A2 xs)(hb:n<=4194304):
 Calls prog 107 #[.slice A n cap,.slice A2 n I] w fun e h=>e=.returned (.bool true)/\Bl w h:=by
 have HN:=zz hn;have HA:=zz hA;have Y:=zz O;clear hn hA O;go_enter func107,ntmps107;go_wp2
 go_loopg[5,13] n (fun gk L h q=>∃i:Nat,i<=n/\gk=n-i/\h=.int .i64 (i:Int)/\Bl w q)
 case atStart=>exact⟨0,zpD _,rfl,rfl,Below.refl _ _⟩
 case round=>
  obtain⟨i,hi,rfl,rfl,R⟩:=hrel;have HB:=zz R
  by_cases X:i<n
  ·have L:i<xs.length:=by rw[HN.o];exact X
   obtain⟨b,o,rfl,N,hr⟩:=(HA.o.below R).at (c:=0) (fun _=>rfl) i L;obtain⟨b2,o2,rfl,h,q⟩:=(Y.o.below R).at (c:=0) (fun _=>rfl) i L;have V:=hr 0 _ rfl;have U:=q 0 _ rfl;generalize xs[i]=u at V U;simp only[zqI,zqk,zp6]at V U;have H0:Kz (∀W,Bl wr W->W.cell? ⟨b,o+i,none⟩=some (.string u)/\W.cell? ⟨b2,o2+i,none⟩=some (.string u)):=fun W Z=>⟨(Z.cell (p:=⟨b,o+i,none⟩) N).trans V,(Z.cell (p:=⟨b2,o2+i,none⟩) h).trans U⟩
   have Z:(u.toList != u.toList)=false:=zp;clear hr q V U N h R;go_upto_region 6 with fail
   refine xX [0,0,0,0,0,0,0,0,0] (fun W=>Bl wr W) ?_
   repeat refine zS H0.o ?_
   refine xt ?_;have h:Bl wr wr.drew:=(Below.refl _ _).drew;generalize wr.drew=N at h ⊢;have q:=zz (zl HB.o h);clear h;go_wp2
   go_roundg (n-(i+1))
   case measure=>omega
   case rel=>exact⟨i+1,zd,rfl,ze,q.o⟩
  ·obtain rfl:i=n:=zd;clear R;go_wp2;go_returns;exact⟨rfl,HB.o⟩
theorem qE.fits{r I:Ru}(h:qE r I)(q:r.fits):I.fits:=by
 refine⟨by rw[h.p];exact q.1,fun x O=>?_,fun t L=>q.2.2 t ?_⟩
 ·obtain⟨y,N,e⟩:=h.mem O;have:y.a.p=x.a.p:=show y.bare.a.p=x.bare.a.p from congrArg (fun z:Li=>z.a.p) e
  rw[<-this];exact q.2.1 y N
 ·rw[<-Ru.Yp,h.bare,Ru.Yp]at L;exact L
theorem qE.zO{r q:Ru}(h:qE r q):q.zO=r.zO:=by rw[<-Ru.Yp,h.bare,Ru.Yp]
theorem qE.vars{r q:Ru}(h:qE r q):q.vars=r.vars:=by rw[<-Ru.J0,h.bare,Ru.J0]
theorem qE.ok{r I:Ru}(h:qE r I)(q:r.ok):I.ok:=
 ⟨by rw[h.p];exact q.name,by rw[h.head];exact q.XY,by rw[h.len];exact q.y8,by rw[h.head];exact q.head,fun x N=>by
  obtain⟨y,L,e⟩:=h.mem N;exact Li.zb1 e (q.body y L),by rw[h.vars];exact q.vars⟩
theorem qE.zoy{r I:Ru}(h:qE r I)(L:∀v∈r.vars,yo r.body v):∀v∈I.vars,yo I.body v:=fun v q=>by
 rw[h.vars]at q;exact yo.bare h.body.symm (L v q)
theorem Dm{body:List Li}{K:List ByteArray}{left:List Nat}{rest:List Sp}(h:yi body K left (s::rest)):s.lit∈left/\∃I:s.lit<body.length,stepOf K s.lit body[s.lit]=some s/\yi body (K++s.gives) (left.erase s.lit) rest:=by
 generalize L:s::rest=Z at h
 cases h with
 |nil=>cases L
 |@cons _ _ q Y O R N I W=>
  injection L with X V
  subst X V;have U:=(YQ I).1;subst U;exact⟨R,N,I,W⟩
theorem JT{body:List Li}:∀{K:List ByteArray}{left:List Nat}{h:List Sp},yi body K left h->h.length=left.length
 |_,_,_,.nil=>rfl
 |_,_,_,.cons h _ _ q=>by
  rw[zpV,JT q,List.length_erase_of_mem h];have:=List.length_pos_of_mem h;omega
theorem zgc(w:World)(p:Px)(hl:p.zN w)(hf:p.r.fits)(ht:p.r.zO.length<=1048576)(h:p.r.ok)(hv:∀v∈p.r.vars,yo p.r.body v)(hR:yi p.r.body [] (List.range p.r.body.length) (p.ss.map (·.s))):
 Calls prog 53 #[.agg p.cells.toArray,.slice none 0 0] w fun e q=>e=.returned (.bool true)/\Bl w q:=by
 have az:=h.y8;have q:=JT hR;rw[zpO,zro]at q;have am:=zz (fun W (I:Bl w W)=>DS W p.r (hl.r.below I) hf ht h hv);have af:=zz ((⟨rfl⟩:qE p.r p.r).at hl.r h hf ht);have a8:=zz hl.rd;have aG:=zz hl.ss;obtain⟨⟨rp,rA,aL,aP,rB,X,N⟩,sA,aM,ss⟩:=p;simp only at *;obtain⟨R,I⟩:∃R,N.length=R:=⟨_,rfl⟩;rw[I]at hR q az af;simp only[Px.cells,Ru.cells,I,q]at am ⊢;have HR:=zz hR;have a1:=zz q;have bn:=zz I;have bm:=zz (fun W=>GU W R zd);obtain⟨W2,L,O⟩:=xi w 57 #[.string rp,.slice rA aP.length aL,.slice rB R X,.slice sA R aM];have HX:=zz O;have ba:=zz L;clear O L hl hf ht h hv hR q I;go_enter func53,ntmps53;go_upto_region 3 with(go_at_call 44;rw[ba.o];refine(am.o _ HX.o.below).mono ?_;rintro e w3⟨rfl,aB⟩;have aE:=zz (HX.o.b0.below aB);have aS:=zz (zl HX.o.below aB);have q:=aE.o.cell 2;clear aB)
 go_upto_region 4 with(go_at_call 46;refine(za3 _ _ _ _).mono ?_;rintro e w6⟨sb,mb,f6,rfl,a5,aT,a6,aC⟩;have bi:=zz a5;have be:=zz a6;have aH:=zz (aE.o.below aC);have aO:=zz (zl aS.o aC);have b2:=aH.o.cell 2;have U:=aH.o.cell 3;clear a5 aT a6 aC q)
 go_upto_region 6 with(go_at_call 47;refine(bm.o _).mono ?_;rintro e w7⟨rfl,bq⟩;obtain rfl:w6=w7:=bq.symm)
 obtain⟨m0,L⟩:∃m0,2 ^ R-1=m0:=⟨_,rfl⟩;have q:=DR R zd;have O:2 ^ R<=2 ^ 24:=zqo zr (zd);rw[L]at q ⊢;have I:m0<2 ^ 24:=by have:0<2 ^ R:=Nat.pow_pos zr;omega
 have aw:=zz q;have aR:=zz I;have aX:=zz (show w.heap.size<mb by have:=be.o;have:=aS.o.size;have:=aE.o.lt;omega);clear L q O I b2 U
 go_loopg[6,8,9,10,29] R (fun gk O V U L q I=>∃(i:Nat) (m:Nat) (K:List ByteArray) (f:Value->Option Value),i<=R/\q=.int .i64 (i:Int)/\O=.int .u32 (m:Int)/\gk=R-i/\m<2 ^ 24/\yN I sb mb rB X R f K/\zh (·=mb) w6 I/\yi N K (bitsOf m) ((ss.drop i).map (·.s)))
 case atStart=>exact⟨0,m0,[],f6,zpD _,rfl,rfl,rfl,aR.o,bi.o,zh.refl _ _,by rw[aw.o,zrm];exact HR.o⟩
 case round=>
  obtain⟨i,m,K,f,hi,rfl,rfl,rfl,hm,O,I,L⟩:=hrel;have HS:=zz O;have HC:=zz I;have Hr:=zz L;have q:Bl w wr:=aO.o.trans (I.below (by have:=aO.o.size;omega) (fun x hx=>by have:=aX.o;omega));have ac:=zz q;have bs:=zz (aH.o.zC I (fun e=>by have:=aX.o;omega));clear O I L q
  by_cases bf:i<R
  ·have ay:i<ss.length:=by rw[a1.o];exact bf
   obtain⟨b,o,rfl,ag,O⟩:=(a8.o.below ac.o).at (c:=3) (fun _=>rfl) i ay;have ad:=(aG.o _ (zpB ay)).below ac.o;have aa:ss.drop i=ss[i]::ss.drop (i+1):=zqa ay;have ab:=Hr.o;rw[aa,zqb]at ab;generalize ss[i]=x at O ad ab;obtain⟨⟨k,q,kn,I⟩,A,a4⟩:=x;simp only[Sx.cells,Sx.zN]at O ad ab;obtain⟨n,hn⟩:∃n,I.length=n:=⟨_,rfl⟩;rw[hn]at O
   replace O:wr.rangeAt b (o+i*4) _:=O
   obtain⟨d0,d1,d2,d3⟩:=four O;obtain⟨hq,ae,V,L⟩:=Dm ab;simp only at hq ae V L;have bx:q<R:=by rw[<-bn.o];exact ae
   have Y:=(Y6.1 hq).1;have Z:=(Y6.1 hq).2;have bu:=GB q m Y hm;have hz:(((m &&& 2 ^ q:Nat):Int)==0)=false:=by
    have:¬m &&& 2 ^ q=0:=fun e=>by rw[(and_zero m q).1 e]at Z;cases Z
    simp;omega
   have bt:decide ((q:Int)<0)=false:=zp;have bw:decide ((R:Int)<=(q:Int))=false:=by first |(simp;done) |(simp;omega)
   have U:yi N (K++I) (bitsOf (Xd m q)) ((ss.drop (i+1)).map (·.s)):=by rw[Vs Y];exact L
   have au:=zz U;have aJ:=zz V;have aG:=zz ad;have Hn:=zz hn;have aK:Kz (Xd m q<2 ^ 24):=Nat.lt_of_le_of_lt (zaP _ _) hm;have bg:=zz (af.o.below ac.o);have an:Kz (n<=4194304):=zbd af.o V hn;have bj:=zz (show ∀u∈I,u.size<=maxLen from fun u hu=>by
    have e:=(YQ V).2;simp only at e;rw[e]at hu;obtain⟨_,t,ah,rfl⟩:=C.qJ.1 (Uq.1 hu).1;exact af.o.fits _ (zpB ae) t ah)
   have a9:=zz ae;have aT:=G7 q m Y hm;clear L U V ad hn ab Z aa O ag hq hm;go_upto_region 8 with fail
   obtain⟨W8,O,L⟩:=xi wr 107 #[.int .i8 k,.int .i64 (q:Int),.int .u32 (kn:Int),.slice A n a4];rw[O];have aA:=zz L.b0;have aN:=zz L.below;have aY:=zz (HS.o.below L.below);have bk:=zz (bs.o.below L.below);have e1:=aA.o.cell 1;have b2:=bk.o.cell 2;have aD:=zz ((bg.o.below L.below).step aY.o q a9.o);clear L O d0 d1 d2 d3;go_upto_region 11 with(go_at_call 49;go_loud (refine aD.o.mono ?_;rintro e bl⟨kk,bc,av,V,bd,aW,rfl,Z,aa,ad⟩;obtain⟨aZ,ax,ag,al,aU⟩:=aa _ aJ.o;obtain rfl:aW=true:=(Z.trans (by rw[aJ.o];rfl));obtain rfl:k=kk:=aZ;obtain rfl:kn=bc:=ax;obtain rfl:n=bd:=(Hn.o.symm.trans ag);have aI:=zz al;have a3:=zz ad;clear Z aa ag al aU ad e1 b2))
   obtain⟨bo,ab,O⟩:=xi bl 107 #[.int .i8 k,.int .i64 (q:Int),.int .u32 (kn:Int),.slice av n V];rw[ab];have HY:=zz O.b0;have L:=zz (zl a3.o O.below);have U:=zz (aA.o.below L.o);have aq:=zz (aI.o.below O.below);have ak:=zz (aY.o.below L.o);have aF:=zz ((aG.o.below aN.o).below L.o);have g0:=U.o.cell 0;have g2:=U.o.cell 2;have g3:=U.o.cell 3;have y0:=HY.o.cell 0;have y2:=HY.o.cell 2;have y3:=HY.o.cell 3;have aj:(k != k)=false:=zp;have ai:((kn:Int) !=(kn:Int))=false:=zp;have br:=zz (zjw bo I n Hn.o A a4 aF.o av V aq.o.xI an.o);clear O ab;go_upto_region 13 with(go_at_call 107;refine br.o.mono ?_;rintro e aV⟨rfl,ar⟩;have O:=zz ar;clear g0 g2 g3 y0 y2 y3 ar;have y3:=(HY.o.below O.o).cell 3)
   have ah:=zz (ak.o.below O.o);have ao:=zz (aq.o.below O.o);have ab:=zz (T1 aV sb mb rB X R f K ah.o av V n I Hn.o ao.o.xI (fun g hg e=>(ao.o.qU ah.o.m) (e▸hg)) bj.o an.o);clear aj ai;have bv:=zz (show wr.heap.size<aV.heap.size by have:=aA.o.lt;have:=L.o.size;have:=O.o.size;omega);go_upto_region 14 with(go_at_call 50;refine ab.o.mono ?_;rintro e aQ⟨rfl,bh,ap,aj⟩;have a7:=zz ap;have ai:=zz aj;clear ap aj y3)
   have e1:aQ.cell? ⟨wr.heap.size,1,none⟩=some (.int .i64 (q:Int)):=((U.o.below O.o).zC ai.o (fun e=>U.o.qU ak.o.m e)).cell 1;have bp:=zz (show zh (·=mb) w6 aQ from(HC.o.trans (zh.xj (fun _=>False) (zl (zl aN.o L.o) O.o)) (fun x hx _=>hx.elim)).trans ai.o (fun x hx _=>hx));go_wp2
   go_roundg (R-(i+1))
   case measure=>omega
   case rel=>exact⟨i+1,Xd m q,K++I,bh,zd,ze,rfl,rfl,aK.o,a7.o,bp.o,au.o⟩
  ·obtain rfl:i=R:=zd;have q:bitsOf m=[]:=by
    have I:=JT Hr.o;rw[zqc (by rw[a1.o];exact zpx _)]at I;exact zqg I.symm
   obtain rfl:=zcF hm q;clear q;go_wp2;go_returns;exact⟨rfl,ac.o⟩
def G9(h:Int):Nat:=if h=2\/h=4 then 2 else 1
def TD(h:Int):Int:=if h=4\/h=3 then 2 else 1
def y9(h:Int)(l:List Vl):Prop:=h≠0/\l.length=G9 h/\∀v∈l,v.k=TD h
theorem YZ(w:World)(q:Int)(A:Option Addr)(cap n:Nat)(l:List Vl)(hn:l.length=n)(hl:zZ Vl.cells w A l)(aj:∀v∈l,v.ok)(hb:n<=4194304):
 Calls prog 264 #[.int .i8 q,.slice A n cap] w (zai (tf (y9 q l)) w):=by
 by_cases h0:q=0
 ·subst h0;rw[qu (fun h=>h.1 rfl)];go_enter func264,ntmps264;go_wp2;go_returns;exact⟨rfl,Below.refl _ _⟩
 ·have k0:(q==0)=false:=by simp[h0]
  have HN:=zz hn;have HL:=zz hl;have ai:=zz aj;have I:y9 q l↔n=G9 q/\∀v∈l,v.k=TD q:=by unfold y9;rw[hn];exact⟨fun h=>h.2,fun h=>⟨h0,h⟩⟩
  obtain⟨N,L⟩:∃N,G9 q=N:=⟨_,rfl⟩;obtain⟨k,hk⟩:∃k,TD q=k:=⟨_,rfl⟩;have ak:=zz (show(q=2/\N=2/\k=1)\/(q=4/\N=2/\k=2)\/(q=3/\N=1/\k=2)\/(q≠2/\q≠4/\q≠3/\N=1/\k=1) by
   subst L hk;unfold G9 TD
   by_cases h2:q=2
   ·subst h2;left;decide
   ·by_cases h4:q=4
    ·subst h4;right;left;decide
    ·by_cases h3:q=3
     ·subst h3;right;right;left;decide
     ·right;right;right;simp[h2,h3,h4])
  rw[L,hk]at I;have HP:=zz I;clear L hk hn hl aj I h0;go_enter func264,ntmps264
  rcases ak.o with⟨rfl,rfl,rfl⟩ |⟨rfl,rfl,rfl⟩ |⟨rfl,rfl,rfl⟩ |⟨h2,h4,h3,rfl,rfl⟩
  ·go_upto_region 11 with fail
   by_cases V:n=2
   ·have hq:((n:Int) != 2)=false:=zb;go_wp2;clear hq
    go_loopg[8,24] n (fun gk s8 ah wx=>∃i:Nat,i<=n/\gk=n-i/\ah=.int .i64 (i:Int)/\(∀v∈l.take i,v.k=1)/\Bl w wx)
    case atStart=>exact⟨0,zpD _,rfl,rfl,fun v Y=>(by simp at Y),Below.refl _ _⟩
    case round=>
     obtain⟨i,hi,rfl,rfl,ha,hB⟩:=hrel;have Ha:=zz ha;have HB:=zz hB;clear ha hB
     by_cases af:i<n
     ·have R:i<l.length:=by rw[HN.o];exact af
      obtain⟨b,o,rfl,ag,X⟩:=(HL.o.below HB.o).at (c:=2) (fun _=>rfl) i R;have aa:Kz (l.take (i+1)=l.take i++[l[i]]):=zpC R;have Hm:=zz (zpB R);have U:=ai.o _ Hm.o;generalize l[i]=x at X aa Hm U;have L:=zz (fun W=>VP W x U);obtain⟨xk,xn,xs⟩:=x;simp only[Vl.cells]at X L
      replace X:wr.rangeAt b (o+i*3) _:=X
      obtain⟨d0,d1,d2⟩:=three X;clear X ag U;go_upto_region 16 with fail
      obtain⟨W5,ac,I⟩:=xi wr 43 #[.int .i8 xk,.int .i64 xn,.string xs];rw[ac];have ad:=zz (zl HB.o I.below);have e0:=I.b0.cell 0;have e1:=I.b0.cell 1;have e2:=I.b0.cell 2;clear I ac d0 d1 d2
      by_cases hk:xk=1
      ·subst hk
       go_wp2_with (go_at_call 32;refine(L.o _).mono ?_;rintro e w6⟨rfl,ab⟩;have ae:=zz (zl ad.o ab);clear ab)
       go_roundg (n-(i+1))
       case measure=>omega
       case rel=>exact⟨i+1,zd,rfl,ze,fun v Y=>by
        rw[aa.o]at Y
        rcases zpE.1 Y with h|h
        ·exact Ha.o v h
        ·rw[zpy.1 h],ae.o⟩
      ·have hq:(xk != 1)=true:=by simp[hk]
       have O:Kz (tf (y9 2 l)=false):=qu (fun h=>hk ((HP.o.1 h).2 _ Hm.o));clear hk;go_wp2;go_returns;exact⟨Ym O.o.symm,ad.o⟩
     ·obtain rfl:i=n:=zd;have Z:Kz (tf (y9 2 l)=true):=qs (HP.o.2 ⟨V,fun v Y=>Ha.o v (by rw[<-HN.o,zp5];exact Y)⟩);go_wp2;go_returns;exact⟨Ym Z.o.symm,HB.o⟩
   ·have hq:((n:Int) != 2)=true:=zb;have O:Kz (tf (y9 2 l)=false):=qu (fun h=>V (HP.o.1 h).1);clear V;go_wp2;go_returns;exact⟨Ym O.o.symm,Below.refl _ _⟩
  ·go_upto_region 11 with fail
   by_cases V:n=2
   ·have hq:((n:Int) != 2)=false:=zb;go_wp2;clear hq
    go_loopg[8,24] n (fun gk s8 ah wx=>∃i:Nat,i<=n/\gk=n-i/\ah=.int .i64 (i:Int)/\(∀v∈l.take i,v.k=2)/\Bl w wx)
    case atStart=>exact⟨0,zpD _,rfl,rfl,fun v Y=>(by simp at Y),Below.refl _ _⟩
    case round=>
     obtain⟨i,hi,rfl,rfl,ha,hB⟩:=hrel;have Ha:=zz ha;have HB:=zz hB;clear ha hB
     by_cases af:i<n
     ·have R:i<l.length:=by rw[HN.o];exact af
      obtain⟨b,o,rfl,ag,X⟩:=(HL.o.below HB.o).at (c:=2) (fun _=>rfl) i R;have aa:Kz (l.take (i+1)=l.take i++[l[i]]):=zpC R;have Hm:=zz (zpB R);have U:=ai.o _ Hm.o;generalize l[i]=x at X aa Hm U;have L:=zz (fun W=>VP W x U);obtain⟨xk,xn,xs⟩:=x;simp only[Vl.cells]at X L
      replace X:wr.rangeAt b (o+i*3) _:=X
      obtain⟨d0,d1,d2⟩:=three X;clear X ag U;go_upto_region 16 with fail
      obtain⟨W5,ac,I⟩:=xi wr 43 #[.int .i8 xk,.int .i64 xn,.string xs];rw[ac];have ad:=zz (zl HB.o I.below);have e0:=I.b0.cell 0;have e1:=I.b0.cell 1;have e2:=I.b0.cell 2;clear I ac d0 d1 d2
      by_cases hk:xk=2
      ·subst hk
       go_wp2_with (go_at_call 32;refine(L.o _).mono ?_;rintro e w6⟨rfl,ab⟩;have ae:=zz (zl ad.o ab);clear ab)
       go_roundg (n-(i+1))
       case measure=>omega
       case rel=>exact⟨i+1,zd,rfl,ze,fun v Y=>by
        rw[aa.o]at Y
        rcases zpE.1 Y with h|h
        ·exact Ha.o v h
        ·rw[zpy.1 h],ae.o⟩
      ·have hq:(xk != 2)=true:=by simp[hk]
       have O:Kz (tf (y9 4 l)=false):=qu (fun h=>hk ((HP.o.1 h).2 _ Hm.o));clear hk;go_wp2;go_returns;exact⟨Ym O.o.symm,ad.o⟩
     ·obtain rfl:i=n:=zd;have Z:Kz (tf (y9 4 l)=true):=qs (HP.o.2 ⟨V,fun v Y=>Ha.o v (by rw[<-HN.o,zp5];exact Y)⟩);go_wp2;go_returns;exact⟨Ym Z.o.symm,HB.o⟩
   ·have hq:((n:Int) != 2)=true:=zb;have O:Kz (tf (y9 4 l)=false):=qu (fun h=>V (HP.o.1 h).1);clear V;go_wp2;go_returns;exact⟨Ym O.o.symm,Below.refl _ _⟩
  ·go_upto_region 11 with fail
   by_cases V:n=1
   ·have hq:((n:Int) != 1)=false:=zb;go_wp2;clear hq
    go_loopg[8,24] n (fun gk s8 ah wx=>∃i:Nat,i<=n/\gk=n-i/\ah=.int .i64 (i:Int)/\(∀v∈l.take i,v.k=2)/\Bl w wx)
    case atStart=>exact⟨0,zpD _,rfl,rfl,fun v Y=>(by simp at Y),Below.refl _ _⟩
    case round=>
     obtain⟨i,hi,rfl,rfl,ha,hB⟩:=hrel;have Ha:=zz ha;have HB:=zz hB;clear ha hB
     by_cases af:i<n
     ·have R:i<l.length:=by rw[HN.o];exact af
      obtain⟨b,o,rfl,ag,X⟩:=(HL.o.below HB.o).at (c:=2) (fun _=>rfl) i R;have aa:Kz (l.take (i+1)=l.take i++[l[i]]):=zpC R;have Hm:=zz (zpB R);have U:=ai.o _ Hm.o;generalize l[i]=x at X aa Hm U;have L:=zz (fun W=>VP W x U);obtain⟨xk,xn,xs⟩:=x;simp only[Vl.cells]at X L
      replace X:wr.rangeAt b (o+i*3) _:=X
      obtain⟨d0,d1,d2⟩:=three X;clear X ag U;go_upto_region 16 with fail
      obtain⟨W5,ac,I⟩:=xi wr 43 #[.int .i8 xk,.int .i64 xn,.string xs];rw[ac];have ad:=zz (zl HB.o I.below);have e0:=I.b0.cell 0;have e1:=I.b0.cell 1;have e2:=I.b0.cell 2;clear I ac d0 d1 d2
      by_cases hk:xk=2
      ·subst hk
       go_wp2_with (go_at_call 32;refine(L.o _).mono ?_;rintro e w6⟨rfl,ab⟩;have ae:=zz (zl ad.o ab);clear ab)
       go_roundg (n-(i+1))
       case measure=>omega
       case rel=>exact⟨i+1,zd,rfl,ze,fun v Y=>by
        rw[aa.o]at Y
        rcases zpE.1 Y with h|h
        ·exact Ha.o v h
        ·rw[zpy.1 h],ae.o⟩
      ·have hq:(xk != 2)=true:=by simp[hk]
       have O:Kz (tf (y9 3 l)=false):=qu (fun h=>hk ((HP.o.1 h).2 _ Hm.o));clear hk;go_wp2;go_returns;exact⟨Ym O.o.symm,ad.o⟩
     ·obtain rfl:i=n:=zd;have Z:Kz (tf (y9 3 l)=true):=qs (HP.o.2 ⟨V,fun v Y=>Ha.o v (by rw[<-HN.o,zp5];exact Y)⟩);go_wp2;go_returns;exact⟨Ym Z.o.symm,HB.o⟩
   ·have hq:((n:Int) != 1)=true:=zb;have O:Kz (tf (y9 3 l)=false):=qu (fun h=>V (HP.o.1 h).1);clear V;go_wp2;go_returns;exact⟨Ym O.o.symm,Below.refl _ _⟩
  ·have b2:(q==2)=false:=by simp[h2]
   have b4:(q==4)=false:=by simp[h4]
   have b3:(q==3)=false:=by simp[h3]
   clear h2 h4 h3;go_upto_region 11 with fail
   by_cases V:n=1
   ·have hq:((n:Int) != 1)=false:=zb;go_wp2;clear hq
    go_loopg[8,24] n (fun gk s8 ah wx=>∃i:Nat,i<=n/\gk=n-i/\ah=.int .i64 (i:Int)/\(∀v∈l.take i,v.k=1)/\Bl w wx)
    case atStart=>exact⟨0,zpD _,rfl,rfl,fun v Y=>(by simp at Y),Below.refl _ _⟩
    case round=>
     obtain⟨i,hi,rfl,rfl,ha,hB⟩:=hrel;have Ha:=zz ha;have HB:=zz hB;clear ha hB
     by_cases af:i<n
     ·have R:i<l.length:=by rw[HN.o];exact af
      obtain⟨b,o,rfl,ag,X⟩:=(HL.o.below HB.o).at (c:=2) (fun _=>rfl) i R;have aa:Kz (l.take (i+1)=l.take i++[l[i]]):=zpC R;have Hm:=zz (zpB R);have U:=ai.o _ Hm.o;generalize l[i]=x at X aa Hm U;have L:=zz (fun W=>VP W x U);obtain⟨xk,xn,xs⟩:=x;simp only[Vl.cells]at X L
      replace X:wr.rangeAt b (o+i*3) _:=X
      obtain⟨d0,d1,d2⟩:=three X;clear X ag U;go_upto_region 16 with fail
      obtain⟨W5,ac,I⟩:=xi wr 43 #[.int .i8 xk,.int .i64 xn,.string xs];rw[ac];have ad:=zz (zl HB.o I.below);have e0:=I.b0.cell 0;have e1:=I.b0.cell 1;have e2:=I.b0.cell 2;clear I ac d0 d1 d2
      by_cases hk:xk=1
      ·subst hk
       go_wp2_with (go_at_call 32;refine(L.o _).mono ?_;rintro e w6⟨rfl,ab⟩;have ae:=zz (zl ad.o ab);clear ab)
       go_roundg (n-(i+1))
       case measure=>omega
       case rel=>exact⟨i+1,zd,rfl,ze,fun v Y=>by
        rw[aa.o]at Y
        rcases zpE.1 Y with h|h
        ·exact Ha.o v h
        ·rw[zpy.1 h],ae.o⟩
      ·have hq:(xk != 1)=true:=by simp[hk]
       have O:Kz (tf (y9 q l)=false):=qu (fun h=>hk ((HP.o.1 h).2 _ Hm.o));clear hk;go_wp2;go_returns;exact⟨Ym O.o.symm,ad.o⟩
     ·obtain rfl:i=n:=zd;have Z:Kz (tf (y9 q l)=true):=qs (HP.o.2 ⟨V,fun v Y=>Ha.o v (by rw[<-HN.o,zp5];exact Y)⟩);go_wp2;go_returns;exact⟨Ym Z.o.symm,HB.o⟩
   ·have hq:((n:Int) != 1)=true:=zb;have O:Kz (tf (y9 q l)=false):=qu (fun h=>V (HP.o.1 h).1);clear V;go_wp2;go_returns;exact⟨Ym O.o.symm,Below.refl _ _⟩
def Vl.num(n:Int):Vl:=⟨1,n,⟨#[]⟩⟩
def Vl.YU(s:ByteArray):Vl:=⟨2,0,s⟩
def y6(r:Option Vl)(w:World)(e:Ending)(w':World):Prop:=(match r with|some x=>e=.returned (.tuple #[.agg x.cells.toArray,.bool true])|none=>∃x:Vl,e=.returned (.tuple #[.agg x.cells.toArray,.bool false]))/\Bl w w'
theorem y6.Yx{x:Vl}(h:e=.returned (.tuple #[.agg x.cells.toArray,.bool true]))(q:Bl w w'):y6 (some x) w e w':=⟨h,q⟩
theorem y6.Zx{x:Vl}(h:e=.returned (.tuple #[.agg x.cells.toArray,.bool false]))(q:Bl w w'):y6 none w e w':=⟨⟨x,h⟩,q⟩
theorem V0(w:World)(n:Int):Calls prog 265 #[.int .i64 n] w (y6 (some (.num n)) w):=by
 go_enter func265,ntmps265;go_wp2;go_returns;exact .Yx rfl (xq w _)
theorem Tf(w:World)(s:ByteArray):Calls prog 267 #[.string s] w (y6 (if s.size<=200 then some (.YU s)else none) w):=by
 by_cases h:s.size<=200
 ·rw[if_pos h];have q:decide ((200:Int)<(s.size:Int))=false:=by first |(simp;done) |(simp;omega)
  go_enter func267,ntmps267;go_wp2;go_returns;exact .Yx rfl (xq w _)
 ·rw[if_neg h];have q:decide ((200:Int)<(s.size:Int))=true:=by first |(simp;done) |(simp;omega)
  go_enter func267,ntmps267;go_wp2;go_returns;exact .Zx (x:=⟨0,0,⟨#[]⟩⟩) rfl (xq w _)
end
