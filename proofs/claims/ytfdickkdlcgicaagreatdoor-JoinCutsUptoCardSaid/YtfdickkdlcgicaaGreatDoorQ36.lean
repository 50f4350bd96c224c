/-
  A run: steps made for it: rows, set. A run: steps made for i
-/
import Derived.Test.YtfdickkdlcgicaaGreatDoorQ35
set_option maxRecDepth 100000
set_option maxHeartbeats 8000000
set_option linter.all false
namespace Go.Proofs.YtfdickkdlcgicaaGreatDoor.C
open Go.Proofs.Tryz Go Go.RowKit Go.Maps Go.WideMaps
variable {K:List ByteArray}{body:List Li}{c:Cx}{i:Nat}{s:Sx}{x:Li}
section
theorem zlI(w:World)(pp:ByteArray)(pA pB sA gA:Option Addr)(pn aa nb N sn ab gn L h q:Nat)(F T:Option Addr)(ao ak:Nat)(Z R:List Nat)(hm:Mk w F T Z R nb h)(body:List Li)(hB:zZ Li.cells w pB body)(hb:body.length=nb)(x:Li)(hx:body[h]? = some x)(kk:Int)(h4:kk≠4)(h5:kk≠5)(h6:kk≠6)(O:List ByteArray)(ai:O.length=gn):
 Calls prog 108 #[.agg #[.string pp,.slice pA pn aa,.slice pB nb N,.slice sA sn ab],.agg #[.int .i8 kk,.int .i64 (h:Int),.int .u32 (q:Int),.slice gA gn L],.slice F nb ao,.slice T nb ak] w
  fun e I=>e=.returned (Sv.rows x.a q gA L O (Z.getD h 0) (R.getD h 0)).val/\Bl w I:=by
 have I:=hm.lit;have aF:=hm.le;have aq:h<body.length:=by rw[hb];exact I
 have af:body[h]=x:=by rw[zpF aq]at hx;injection hx
 have aD:=zz (fun W (Y:Bl w W)=>hB.below Y);have X:=zz hm;clear hm hB;have av:=zz ai;have e4:(kk==4)=false:=by simpa using h4
 have e5:(kk==5)=false:=by simpa using h5
 have e6:(kk==6)=false:=by simpa using h6
 obtain⟨lo,U⟩:∃lo,Z.getD h 0=lo:=⟨_,rfl⟩;obtain⟨hi,V⟩:∃hi,R.getD h 0=hi:=⟨_,rfl⟩;rw[U,V];have az:=zz U;have aA:=zz V;clear ai h4 h5 h6 U V;obtain⟨W0,V,U⟩:=yb w 57 107 #[.string pp,.slice pA pn aa,.slice pB nb N,.slice sA sn ab] #[.int .i8 kk,.int .i64 (h:Int),.int .u32 (q:Int),.slice gA gn L];have aC:=zz V;have HX:=zz U;have p2:=U.b0.cell 2;have ag:=U.b1.cell 1;have am:=U.b1.cell 0;clear U V;go_enter func108,ntmps108;go_upto_region 1 with fail
 rw[aC.o];obtain⟨b,o,rfl,aE,hr⟩:=(aD.o _ HX.o.below).at Li.xG h aq;rw[af]at hr
 replace hr:W0.rangeAt b (o+h*16) x.cells:=hr
 obtain⟨k,⟨p,A,ah,aj⟩,rl,⟨q1,⟨v1,⟨k1,n1,s1⟩⟩,A1,ac,ay⟩,⟨q2,⟨v2,⟨k2,n2,s2⟩⟩,A2,ad,au⟩⟩:=x;simp only[Li.cells,Ex.cells,zpJ,zpI]at hr;obtain⟨N0,U⟩:∃n,aj.length=n:=⟨_,rfl⟩;obtain⟨N1,ae⟩:∃n,ay.length=n:=⟨_,rfl⟩;obtain⟨N2,V⟩:∃n,au.length=n:=⟨_,rfl⟩;rw[U,ae,V]at hr;have HN:=zz (zpG U (zpG ae V));clear U ae V;have Hr:=zz hr;clear hr af hx;have ar:(prog.info? 50).map (·.size)=some 16:=zo;go_upto_region 2 with(refine xW 50 _ rfl ?_;refine wpList_load_mid rfl 50 _ rfl b (o+h*16) rfl [.int .i8 k,.string p,.slice A N0 ah,.int .i8 rl,.int .i8 q1,.string v1,.int .i8 k1,.int .i64 n1,.string s1,.slice A1 N1 ac,.int .i8 q2,.string v2,.int .i8 k2,.int .i64 n2,.string s2,.slice A2 N2 ad] _ Hr.o underlying50 rfl ar ?_)
 obtain⟨W5,ae,U⟩:=xi W0 50 #[.int .i8 k,.string p,.slice A N0 ah,.int .i8 rl,.int .i8 q1,.string v1,.int .i8 k1,.int .i64 n1,.string s1,.slice A1 N1 ac,.int .i8 q2,.string v2,.int .i8 k2,.int .i64 n2,.string s2,.slice A2 N2 ad];rw[ae];have V:=zz U;clear U ae p2 ag am;have ag:=zz (zl HX.o.below V.o.below);have an:=zz V.o.b0;have U:=zz (HX.o.b1.below V.o.below);clear V;have al:h<Z.length:=by rw[X.o.fl];exact I
 have ap:h<R.length:=by rw[X.o.tl];exact I
 obtain⟨fb,fo,rfl,aB,af⟩:=(X.o.f.below ag.o).at (c:=0) (fun _=>rfl) h al;obtain⟨tb,ae,rfl,aw,V⟩:=(X.o.t.below ag.o).at (c:=0) (fun _=>rfl) h ap;have h1:=az.o;have h2:=aA.o;rw[getD_at _ al]at h1;rw[getD_at _ ap]at h2;rw[h1]at af;rw[h2]at V;clear h1 h2;have f0:W5.cell? ⟨fb,fo+h,none⟩=some (.int .i64 (lo:Int)):=by simpa using af 0 _ rfl
 have t0:W5.cell? ⟨tb,ae+h,none⟩=some (.int .i64 (hi:Int)):=by simpa using V 0 _ rfl
 have ax:=zz (show ∀W,Bl W5 W->W.cell? ⟨W0.heap.size,1,none⟩=some (.string p)/\W.cell? ⟨W0.heap.size,2,none⟩=some (.slice A N0 ah)/\W.cell? ⟨w.heap.size+1,1,none⟩=some (.int .i64 (h:Int))/\W.cell? ⟨w.heap.size+1,2,none⟩=some (.int .u32 (q:Int))/\W.cell? ⟨w.heap.size+1,3,none⟩=some (.slice gA gn L)/\W.cell? ⟨fb,fo+h,none⟩=some (.int .i64 (lo:Int))/\W.cell? ⟨tb,ae+h,none⟩=some (.int .i64 (hi:Int))/\(h:Int)<(nb:Int)/\h<nb from fun W Y=>
  ⟨(an.o.below Y).cell 1,(an.o.below Y).cell 2,(U.o.below Y).cell 1,(U.o.below Y).cell 2,(U.o.below Y).cell 3,(Y.cell (p:=⟨fb,fo+h,none⟩) aB).trans f0,(Y.cell (p:=⟨tb,ae+h,none⟩) aw).trans t0,zd,I⟩)
 have am:=U.o.cell 0;clear af V f0 t0;go_upto_region 12 with fail
 refine xX [0,0,0,0,0,0,0,0,0,0,0,0,0,0,0,0,0,0,0] (fun W=>Bl W5 W) ?_
 repeat refine zS ax.o ?_
 refine xt ?_;have V:Kz (Bl w W5.drew):=zl ag.o (Below.refl _ _).drew;go_wp2;go_returns;refine⟨?_,V.o⟩;simp only[Sv.val,HN.o.1,av.o];rfl
theorem znC(w:World)(pp:ByteArray)(pA pB sA gA:Option Addr)(pn aw nb am sn ax Z Y aq:Nat)(F T:Option Addr)(aL aH:Nat)(aU aQ:List Nat)(hm:Mk w F T aU aQ nb Y)(body:List Li)(hB:zZ Li.cells w pB body)(hb:body.length=nb)(x:Li)(hx:body[Y]? = some x)(v:ByteArray)(aM:zZ xD w gA [v]):
 Calls prog 108 #[.agg #[.string pp,.slice pA pn aw,.slice pB nb am,.slice sA sn ax],.agg #[.int .i8 6,.int .i64 (Y:Int),.int .u32 (aq:Int),.slice gA 1 Z],.slice F nb aL,.slice T nb aH] w
  fun e I=>e=.returned (if x.l.q=0/\x.l.t.v=v then Sv.set v x.r else Sv.set v x.l).val/\Bl w I:=by
 have aE:=hm.lit;have aW:=hm.le;have aO:Y<body.length:=by rw[hb];exact aE
 have X:body[Y]=x:=by rw[zpF aO]at hx;injection hx
 have af:=zz (fun W (O:Bl w W)=>hB.below O);have aX:=zz hm;clear hm hB;have aS:=zz (fun W (O:Bl w W)=>aM.below O);obtain⟨aj,I⟩:∃aj,(if x.l.q=0/\x.l.t.v=v then Sv.set v x.r else Sv.set v x.l)=aj:=⟨_,rfl⟩;rw[I];have aC:Kz (x.l.q=0/\x.l.t.v=v->aj=Sv.set v x.r):=fun h=>by rw[<-I,if_pos h]
 have ay:Kz (¬(x.l.q=0/\x.l.t.v=v)->aj=Sv.set v x.l):=fun h=>by rw[<-I,if_neg h]
 clear aM I;obtain⟨W0,L,I⟩:=yb w 57 107 #[.string pp,.slice pA pn aw,.slice pB nb am,.slice sA sn ax] #[.int .i8 6,.int .i64 (Y:Int),.int .u32 (aq:Int),.slice gA 1 Z];have aT:=zz L;have HX:=zz I;have p2:=I.b0.cell 2;have aa:=I.b1.cell 1;have R:=I.b1.cell 0;clear I L;go_enter func108,ntmps108;go_upto_region 1 with fail
 rw[aT.o];obtain⟨b,o,rfl,aV,U⟩:=(af.o _ HX.o.below).at Li.xG Y aO;rw[X]at U
 replace U:W0.rangeAt b (o+Y*16) x.cells:=U
 obtain⟨k,⟨p,A,aN,aG⟩,rl,⟨q1,⟨v1,⟨k1,n1,s1⟩⟩,A1,V,aJ⟩,⟨q2,⟨v2,⟨k2,n2,s2⟩⟩,A2,ab,aF⟩⟩:=x;simp only[Li.cells,Ex.cells,zpJ,zpI]at U;obtain⟨N0,I⟩:∃n,aG.length=n:=⟨_,rfl⟩;obtain⟨N1,N⟩:∃n,aJ.length=n:=⟨_,rfl⟩;obtain⟨N2,L⟩:∃n,aF.length=n:=⟨_,rfl⟩;rw[I,N,L]at U;have HN:=zz (zpG I (zpG N L));clear I N L;have Hr:=zz U;clear U X hx;have aP:(prog.info? 50).map (·.size)=some 16:=zo;go_upto_region 2 with(refine xW 50 _ rfl ?_;refine wpList_load_mid rfl 50 _ rfl b (o+Y*16) rfl [.int .i8 k,.string p,.slice A N0 aN,.int .i8 rl,.int .i8 q1,.string v1,.int .i8 k1,.int .i64 n1,.string s1,.slice A1 N1 V,.int .i8 q2,.string v2,.int .i8 k2,.int .i64 n2,.string s2,.slice A2 N2 ab] _ Hr.o underlying50 rfl aP ?_)
 obtain⟨U,N,L⟩:=xi W0 50 #[.int .i8 k,.string p,.slice A N0 aN,.int .i8 rl,.int .i8 q1,.string v1,.int .i8 k1,.int .i64 n1,.string s1,.slice A1 N1 V,.int .i8 q2,.string v2,.int .i8 k2,.int .i64 n2,.string s2,.slice A2 N2 ab];rw[N];have I:=zz L;clear L N p2 aa R;have av:=zz (zl HX.o.below I.o.below);have ae:=zz I.o.b0;have aA:=zz (HX.o.b1.below I.o.below);clear I;obtain⟨gb,N,rfl,L,I⟩:=(aS.o _ av.o).at (c:=0) (fun _=>rfl) 0 zp;have g0:U.cell? ⟨gb,N,none⟩=some (.string v):=by simpa using I 0 _ rfl
 have R:=aA.o.cell 0;have ah:=ae.o.cell 10;have ad:=ae.o.cell 11;have al:=ae.o.cell 12;have ai:=ae.o.cell 13;have ak:=ae.o.cell 14;have ag:=ae.o.cell 15;clear I;go_upto_region 9 with fail
 obtain⟨W6,aa,I⟩:=xi U 48 #[.int .i8 q2,.string v2,.int .i8 k2,.int .i64 n2,.string s2,.slice A2 N2 ab];rw[aa];have X:=zz (ae.o.below I.below);have ar:=zz (aA.o.below I.below);have aB:=zz I.b0;have aD:=zz (show ¬w.heap.size+1=U.heap.size/\¬gb=U.heap.size from⟨by have:=aA.o.lt;omega,zd⟩);have an:=zz (zl av.o I.below);have au:=zz ((I.below.cell (p:=⟨gb,N,none⟩) L).trans g0);have ac:Kz (gb<W6.heap.size):=zpz L I.below.size;have H9:=zz (show ∀W,Bl W6 W->W.cell? ⟨W0.heap.size,4,none⟩=some (.int .i8 q1)/\W.cell? ⟨W0.heap.size,5,none⟩=some (.string v1)/\W.cell? ⟨w.heap.size+1,3,none⟩=some (.slice (some ⟨gb,N,none⟩) 1 Z)/\W.cell? ⟨gb,N,none⟩=some (.string v)from fun W O=>
  ⟨(X.o.below O).cell 4,(X.o.below O).cell 5,(ar.o.below O).cell 3,(O.cell (p:=⟨gb,N,none⟩) ac.o).trans au.o⟩)
 clear I aa g0 ah ad al ai ak ag R L;have ai:=zz aD.o
 by_cases hq:q1=0/\v1=v
 ·have ah:Kz (aj=Sv.set v (.mk q2 ⟨v2,⟨k2,n2,s2⟩⟩ A2 ab aF)):=aC.o hq;have aK:(q1 != 0)=false:=by simp[hq.1]
  have aI:(v1.toList != v.toList)=false:=by simp[hq.2]
  have aR:(v1.toList==v.toList)=true:=by simp[hq.2]
  clear hq;refine xX [0,0,0,0,0,0,0,0,0,0,0,0,0,0,0] (fun W=>Bl W6 W) ?_
  repeat refine zS H9.o ?_
  refine xt ?_;obtain⟨W7,ad⟩:∃W7,W6.drew=W7:=⟨_,rfl⟩;have L:Bl W6 W7:=ad▸(Below.refl _ W6).drew;rw[ad];have R:=zz (zh.xj (·=U.heap.size) L);have I:=zz (aB.o.below L);have aa:=zz (zl an.o L);clear L ad;have al:=zz (show ∀W,Bl W7 W->W.cell? ⟨w.heap.size+1,3,none⟩=some (.slice (some ⟨gb,N,none⟩) 1 Z)/\W.cell? ⟨gb,N,none⟩=some (.string v)/\W.cell? ⟨U.heap.size,0,none⟩=some (.int .i8 q2)/\W.cell? ⟨U.heap.size,1,none⟩=some (.string v2)/\W.cell? ⟨U.heap.size,2,none⟩=some (.int .i8 k2)/\W.cell? ⟨U.heap.size,3,none⟩=some (.int .i64 n2)/\W.cell? ⟨U.heap.size,4,none⟩=some (.string s2)/\W.cell? ⟨U.heap.size,5,none⟩=some (.slice A2 N2 ab)from fun W O=>
   ⟨((ar.o.zC R.o ai.o.1).below O).cell 3,(O.cell (p:=⟨gb,N,none⟩) (zpz ac.o R.o.size)).trans ((R.o.cell (p:=⟨gb,N,none⟩) ac.o ai.o.2).trans au.o),(I.o.below O).cell 0,(I.o.below O).cell 1,(I.o.below O).cell 2,(I.o.below O).cell 3,(I.o.below O).cell 4,(I.o.below O).cell 5⟩)
  go_upto_region 11 with fail
  refine xX [0,0,0,0,0,0,0,0] (fun W=>Bl W7 W) ?_
  repeat refine zS al.o ?_
  refine xt ?_;have ao:Kz (Bl w W7.drew):=zl aa.o (Below.refl _ _).drew;go_wp2;go_returns;refine⟨?_,ao.o⟩;simp only[ah.o,Sv.val,Ex.cells,HN.o.1,HN.o.2.1,HN.o.2.2];rfl
 ·have ah:Kz (aj=Sv.set v (.mk q1 ⟨v1,⟨k1,n1,s1⟩⟩ A1 V aJ)):=ay.o hq
  by_cases ak:q1=0
  ·have aK:(q1 != 0)=false:=by simp[ak]
   have aI:(v1.toList != v.toList)=true:=by rw[zlD,qu fun e=>hq ⟨ak,e⟩];rfl
   have aR:(v1.toList==v.toList)=false:=by rw[bytes_beq,qu fun e=>hq ⟨ak,e⟩]
   clear hq ak;refine xX [0,0,0,0,0,0,0,0,0,0,0,0,0,0,0] (fun W=>Bl W6 W) ?_
   repeat refine zS H9.o ?_
   refine xt ?_;obtain⟨Wd,ad⟩:∃Wd,W6.drew=Wd:=⟨_,rfl⟩;have L:Bl W6 Wd:=ad▸(Below.refl _ W6).drew;rw[ad];have l4:=(X.o.below L).cell 4;have l5:=(X.o.below L).cell 5;have l6:=(X.o.below L).cell 6;have l7:=(X.o.below L).cell 7;have l8:=(X.o.below L).cell 8;have l9:=(X.o.below L).cell 9;have az:=zz (aB.o.below L);have af:=zz L;clear L ad;go_upto_region 11 with(refine xy 48 _ _ rfl ?_;refine yH 48 U.heap.size 0 az.o [.int .i8 q1,.string v1,.int .i8 k1,.int .i64 n1,.string s1,.slice A1 N1 V] ?_;intro W7 ap;have ag:=zz ap;clear ap l4 l5 l6 l7 l8 l9)
   have R:=zz (show zh (·=U.heap.size) W6 W7 from(zh.xj (·=U.heap.size) af.o).trans ag.o.zC fun x hx _=>hx);have I:Kz (zD W7 U.heap.size 48 #[.int .i8 q1,.string v1,.int .i8 k1,.int .i64 n1,.string s1,.slice A1 N1 V]):=ag.o.zH;have aa:=zz (ag.o.below (zl an.o af.o) (zpx _) av.o.size);have al:=zz (show ∀W,Bl W7 W->W.cell? ⟨w.heap.size+1,3,none⟩=some (.slice (some ⟨gb,N,none⟩) 1 Z)/\W.cell? ⟨gb,N,none⟩=some (.string v)/\W.cell? ⟨U.heap.size,0,none⟩=some (.int .i8 q1)/\W.cell? ⟨U.heap.size,1,none⟩=some (.string v1)/\W.cell? ⟨U.heap.size,2,none⟩=some (.int .i8 k1)/\W.cell? ⟨U.heap.size,3,none⟩=some (.int .i64 n1)/\W.cell? ⟨U.heap.size,4,none⟩=some (.string s1)/\W.cell? ⟨U.heap.size,5,none⟩=some (.slice A1 N1 V)from fun W O=>
    ⟨((ar.o.zC R.o ai.o.1).below O).cell 3,(O.cell (p:=⟨gb,N,none⟩) (zpz ac.o R.o.size)).trans ((R.o.cell (p:=⟨gb,N,none⟩) ac.o ai.o.2).trans au.o),(I.o.below O).cell 0,(I.o.below O).cell 1,(I.o.below O).cell 2,(I.o.below O).cell 3,(I.o.below O).cell 4,(I.o.below O).cell 5⟩)
   go_upto_region 11 with fail
   refine xX [0,0,0,0,0,0,0,0] (fun W=>Bl W7 W) ?_
   repeat refine zS al.o ?_
   refine xt ?_;have ao:Kz (Bl w W7.drew):=zl aa.o (Below.refl _ _).drew;go_wp2;go_returns;refine⟨?_,ao.o⟩;simp only[ah.o,Sv.val,Ex.cells,HN.o.1,HN.o.2.1,HN.o.2.2];rfl
  ·have aK:(q1 != 0)=true:=by simpa using ak
   have aI:True:=trivial;clear hq ak;refine xX [0,0,0,0,0,0,0,0,0,0,0,0,0,0,0] (fun W=>Bl W6 W) ?_
   repeat refine zS H9.o ?_
   refine xt ?_;obtain⟨Wd,ad⟩:∃Wd,W6.drew=Wd:=⟨_,rfl⟩;have L:Bl W6 Wd:=ad▸(Below.refl _ W6).drew;rw[ad];have l4:=(X.o.below L).cell 4;have l5:=(X.o.below L).cell 5;have l6:=(X.o.below L).cell 6;have l7:=(X.o.below L).cell 7;have l8:=(X.o.below L).cell 8;have l9:=(X.o.below L).cell 9;have az:=zz (aB.o.below L);have af:=zz L;clear L ad;go_upto_region 11 with(refine xy 48 _ _ rfl ?_;refine yH 48 U.heap.size 0 az.o [.int .i8 q1,.string v1,.int .i8 k1,.int .i64 n1,.string s1,.slice A1 N1 V] ?_;intro W7 ap;have ag:=zz ap;clear ap l4 l5 l6 l7 l8 l9)
   have R:=zz (show zh (·=U.heap.size) W6 W7 from(zh.xj (·=U.heap.size) af.o).trans ag.o.zC fun x hx _=>hx);have I:Kz (zD W7 U.heap.size 48 #[.int .i8 q1,.string v1,.int .i8 k1,.int .i64 n1,.string s1,.slice A1 N1 V]):=ag.o.zH;have aa:=zz (ag.o.below (zl an.o af.o) (zpx _) av.o.size);have al:=zz (show ∀W,Bl W7 W->W.cell? ⟨w.heap.size+1,3,none⟩=some (.slice (some ⟨gb,N,none⟩) 1 Z)/\W.cell? ⟨gb,N,none⟩=some (.string v)/\W.cell? ⟨U.heap.size,0,none⟩=some (.int .i8 q1)/\W.cell? ⟨U.heap.size,1,none⟩=some (.string v1)/\W.cell? ⟨U.heap.size,2,none⟩=some (.int .i8 k1)/\W.cell? ⟨U.heap.size,3,none⟩=some (.int .i64 n1)/\W.cell? ⟨U.heap.size,4,none⟩=some (.string s1)/\W.cell? ⟨U.heap.size,5,none⟩=some (.slice A1 N1 V)from fun W O=>
    ⟨((ar.o.zC R.o ai.o.1).below O).cell 3,(O.cell (p:=⟨gb,N,none⟩) (zpz ac.o R.o.size)).trans ((R.o.cell (p:=⟨gb,N,none⟩) ac.o ai.o.2).trans au.o),(I.o.below O).cell 0,(I.o.below O).cell 1,(I.o.below O).cell 2,(I.o.below O).cell 3,(I.o.below O).cell 4,(I.o.below O).cell 5⟩)
   go_upto_region 11 with fail
   refine xX [0,0,0,0,0,0,0,0] (fun W=>Bl W7 W) ?_
   repeat refine zS al.o ?_
   refine xt ?_;have ao:Kz (Bl w W7.drew):=zl aa.o (Below.refl _ _).drew;go_wp2;go_returns;refine⟨?_,ao.o⟩;simp only[ah.o,Sv.val,Ex.cells,HN.o.1,HN.o.2.1,HN.o.2.2];rfl
theorem ziE(w:World)(p:Px)(hp:p.zN w)(s:Sx)(hs:s.zN w)(F T:Option Addr)(V R:Nat)(U W:List Nat)(hm:Mk w F T U W p.r.body.length s.s.lit)(x:Li)(Z:p.r.body[s.s.lit]? = some x)(h6:s.s.k=6->∃v,s.s.gives=[v]):
 Calls prog 108 #[.agg p.cells.toArray,.agg s.cells.toArray,.slice F p.r.body.length V,.slice T p.r.body.length R] w
  fun e L=>e=.returned (Yz p.r.body (fun i=>U.getD i 0) (fun i=>W.getD i 0) s).val/\Bl w L:=by
 obtain⟨⟨k,O,L,I⟩,Y,N⟩:=s;simp only at Z h6 hm;have hB:=hp.r.rd;have aa:Yz p.r.body (fun i=>U.getD i 0) (fun i=>W.getD i 0) ⟨⟨k,O,L,I⟩,Y,N⟩=
  if k=4 then .Xm x.a L else if k=5 then .test x else if k=6 then(if x.l.q=0/\[x.l.t.v]=I then .set x.l.t.v x.r else .set (I.headD ⟨#[]⟩) x.l)else .rows x.a L Y N I (U.getD O 0) (W.getD O 0):=by
  unfold Yz;simp only[Z]
 rw[aa]
 by_cases h4:k=4
 ·subst h4;rw[if_pos rfl];exact zia w p.r.p p.r.A p.r.B p.A Y p.r.head.length p.r.cap p.r.body.length p.r.zM p.ss.length p.cap I.length N O L F T V R U W hm p.r.body hB rfl x Z
 ·rw[if_neg h4]
  by_cases h5:k=5
  ·subst h5;rw[if_pos rfl];exact zjT w p.r.p p.r.A p.r.B p.A Y p.r.head.length p.r.cap p.r.body.length p.r.zM p.ss.length p.cap I.length N O L F T V R U W hm p.r.body hB rfl x Z
  ·rw[if_neg h5]
   by_cases X:k=6
   ·subst X;obtain⟨v,rfl⟩:=h6 rfl;rw[if_pos rfl];have:=znC w p.r.p p.r.A p.r.B p.A Y p.r.head.length p.r.cap p.r.body.length p.r.zM p.ss.length p.cap N O L F T V R U W hm p.r.body hB rfl x Z v hs
    by_cases h:x.l.q=0/\x.l.t.v=v
    ·rw[if_pos h]at this;rw[if_pos ⟨h.1,by rw[h.2]⟩,h.2];exact this
    ·rw[if_neg h]at this;rw[if_neg (fun h'=>h ⟨h'.1,by injection h'.2⟩)];exact this
   ·rw[if_neg X];exact zlI w p.r.p p.r.A p.r.B p.A Y p.r.head.length p.r.cap p.r.body.length p.r.zM p.ss.length p.cap I.length N O L F T V R U W hm p.r.body hB rfl x Z k h4 h5 X I rfl
theorem zmU:qB prog 221 223 1 16:=qB.of (z:=.nilIface) underlying221 zo rfl zr
abbrev vC(v:Value):List Value:=[v]
theorem zgq(l:List Sv):(l.map Sv.val).flatMap vC=l.flatMap Gj:=by rw[List.flatMap_map]
theorem Sv.iface(s:Sv):∃q h,s.val=.iface q h:=by cases s<;>exact⟨_,_,rfl⟩
structure zdL (p:Px):Prop where
 lit:∀s∈p.ss,∃x,p.r.body[s.s.lit]? = some x/\(s.s.k=6->∃v,s.s.gives=[v])
 Ze:p.ss.length<=1048576
 zkV:p.r.body.length<=1048576
theorem zhI(hc:c.qT)(p:Px)(L I:List Nat)(aE:Jy c K (p.ss.map (Yz p.r.body (fun i=>L.getD i 0) (fun i=>I.getD i 0))))(O:List Env)(D:Nat->Prop)(ρ:Env)(w:World)(hj:JS c O D ρ w)(hv:Yj ρ)(hd:Ya ρ K)(hp:p.zN w)(ab:zdL p)(aa:∀s∈p.ss.map (Yz p.r.body (fun i=>L.getD i 0) (fun i=>I.getD i 0)),s.zN w/\s.off fun g=>¬D g/\g<w.heap.size)(F T:Option Addr)(ag af:Nat)(hF:zZ yX w F L)(hT:zZ yX w T I)(aw:L.length=p.r.body.length)(aC:I.length=p.r.body.length)(hM:O.length+(c.solve (p.ss.map fun s=>madeOf p.r.body (fun i=>L.getD i 0) (fun i=>I.getD i 0) s.s) ρ).length<=c.M):
 Calls prog 59 #[.pointer (some ⟨c.sb,0,none⟩),.agg p.cells.toArray,.slice F p.r.body.length ag,.slice T p.r.body.length af] w (ZV c O D ρ (c.solve (p.ss.map fun s=>madeOf p.r.body (fun i=>L.getD i 0) (fun i=>I.getD i 0) s.s) ρ) w):=by
 have ac:∀g,D g->g<w.heap.size:=by obtain⟨S,U,f,h⟩:=hj;exact h.lt
 have X:(p.ss.map (Yz p.r.body (fun i=>L.getD i 0) (fun i=>I.getD i 0))).map Sv.st=p.ss.map fun s=>madeOf p.r.body (fun i=>L.getD i 0) (fun i=>I.getD i 0) s.s:=by
  rw[List.map_map];exact zrh fun s _=>zkr _ _ _ _
 have V:=zz (fun W (hW:Bl w W) s (hs:s∈p.ss)=>by
  obtain⟨x,hx,R⟩:=ab.lit s hs;exact ziE W p (hp.below hW) s ((hp.ss s hs).below hW) F T ag af L I ⟨hF.below hW,hT.below hW,aw,aC,(zp9.1 hx).1,ab.zkV⟩ x hx R)
 have Z:=zz (fun W (hW:Bl w W) A n R (ho:Own Gj 223 1 W A R (p.ss.map (Yz p.r.body (fun i=>L.getD i 0) (fun i=>I.getD i 0)))) (hn:(p.ss.map (Yz p.r.body (fun i=>L.getD i 0) (fun i=>I.getD i 0))).length=n) (hA:∀g∈zw A,w.heap.size<=g) (Y:n<=R)=>(zlU hc aE O D ρ W A n R (hj.below hc hW) hv hd
  ⟨ho.xI,fun g hg=>⟨fun ad=>by have:=ac g ad;have:=hA g hg;omega,by
   rcases ho.form with⟨rfl,_,_⟩ |⟨g',rfl,_⟩
   ·simp[zw]at hg
   ·obtain rfl:g=g':=by simpa[zw]using hg
    exact ho.Y4⟩,fun s hs=>((aa s hs).1).below hW,fun s hs=>(aa s hs).2.mono fun g hg=>⟨hg.1,zpz hg.2 hW.size⟩⟩ hn Y (by rw[<-hn,zpO];exact ab.Ze) (by rw[X];exact hM)).mono fun e w' h=>ZV.qt h hW)
 rw[X]at Z;obtain⟨es,ae⟩:∃es,c.solve (p.ss.map fun s=>madeOf p.r.body (fun i=>L.getD i 0) (fun i=>I.getD i 0) s.s) ρ=es:=⟨_,rfl⟩;rw[ae]at Z ⊢;have HP:=zz hp;have ad:=zz ab.Ze;clear X ae aE hj hv hd ab aa hF hT aw aC ac hp hM;obtain⟨⟨pp,pA,am,av,pB,ah,q⟩,sA,aq,N⟩:=p;obtain⟨nh,ac⟩:∃n,av.length=n:=⟨_,rfl⟩;obtain⟨nb,ae⟩:∃n,q.length=n:=⟨_,rfl⟩;obtain⟨ns,X⟩:∃n,N.length=n:=⟨_,rfl⟩;have ao:Kz (zZ Sx.cells w sA N):=HP.o.rd;have aN:ns<=1048576:=by rw[<-X];exact ad.o
 simp only[Px.cells]at V Z ⊢;obtain⟨sv,ai⟩:∃sv:Sx->Sv,sv=Yz q (fun i=>L.getD i 0) (fun i=>I.getD i 0):=⟨_,rfl⟩;rw[<-ai]at V Z;rw[ac,ae,X]at V;rw[ac,ae,X];have al:=zz X;clear ac ae X ai HP ad;obtain⟨W0,X,hX⟩:=xi w 57 #[.string pp,.slice pA nh am,.slice pB nb ah,.slice sA ns aq];have aJ:=zz X;have HX:=zz hX;have p3:=hX.b0.cell 3;clear hX X;go_enter func59,ntmps59;go_upto_region 1 with fail
 rw[aJ.o];go_wp2;clear p3
 go_loopg[8,10,14] ns (fun gk s8 ac X wx=>∃(i:Nat) (A:Option Addr) (R:Nat) (ys:List Value),i<=ns/\gk=ns-i/\X=.int .i64 (i:Int)/\s8=.slice A i R/\ys.length=i/\ys=((N.take i).map sv).map Sv.val/\Own vC 223 1 wx A R ys/\(∀g∈zw A,W0.heap.size<=g)/\Bl W0 wx)
 case atStart=>exact⟨0,none,0,[],zpD _,rfl,rfl,rfl,rfl,rfl,Own.qz _,by simp[zw],Below.refl _ _⟩
 case round=>
  obtain⟨i,A,R,ys,hi,rfl,rfl,rfl,ac,X,ho,hg,hB⟩:=hrel;have ae:=zz ac;have ar:=zz X;have Ho:=zz ho;have Hg:=zz hg;have HB:=zz hB;have ai:=zz (zl HX.o.below hB);clear ac X ho hg hB
  by_cases au:i<ns
  ·have ac:i<N.length:=by rw[al.o];exact au
   obtain⟨b,o,rfl,aO,hr⟩:=(ao.o.below ai.o).at (c:=3) (fun _=>rfl) i ac;have ak:N.take (i+1)=N.take i++[N[i]]:=zpC ac;have hm:=fun W (hW:Bl w W)=>V.o W hW _ (zpB ac)
   obtain⟨s,hs⟩:∃s,N[i]=s:=⟨_,rfl⟩;rw[hs]at hr ak hm;obtain⟨ty,pv,ad⟩:=(sv s).iface;rw[ad]at hm;have aj:=zz (show((N.take (i+1)).map sv).map Sv.val=ys++[.iface ty pv] by rw[ak,zp1,zp1,<-ar.o];simp[ad]);clear hs ak ad;obtain⟨⟨k,aI,aK,ad⟩,gA,aM⟩:=s;simp only[Sx.cells]at hr hm;generalize ad.length=ng at hr hm
   replace hr:wr.rangeAt b (o+i*4) _:=hr
   obtain⟨d0,d1,d2,d3⟩:=four hr;have Hm:=zz hm;have q0:=(HX.o.b0.below HB.o).cell 0;have q1:=(HX.o.b0.below HB.o).cell 1;have q2:=(HX.o.b0.below HB.o).cell 2;have q3:=(HX.o.b0.below HB.o).cell 3;have aL:i<=1048576:=zd;have aP:w.heap.size<wr.heap.size:=zpz HX.o.b0.lt HB.o.size;clear hr hm
   go_wp2_with (first
    |(go_at_call 108;refine(Hm.o _ (zl ai.o (xq _ _))).mono ?_;rintro e w5⟨rfl,aD⟩;have ak:Kz (Bl wr w5):=yf aD;clear aD q0 q1 q2 q3 d0 d1 d2 d3)
    |(at_builtin;refine ZP zmU (f:=vC) (xs:=ys) ((Ho.o.below ak.o).alloc _) ae.o (.iface ty pv) ?_))
   intro g an w6 aA ax aB;have ay:zh (·∈zw A) wr w6:=(((zh.xj (·∈zw A) ak.o).alloc _)).trans ax (fun x hx _=>hx);have az:Bl W0 w6:=ay.qt HB.o (zpx _) Hg.o;have ap:W0.heap.size<=g:=by
    rcases aB with h|h
    ·exact Hg.o g h
    ·have h4:=HB.o.size;have h5:=ak.o.size;try simp at h
     omega
   have aH:=zz aA;have aF:=zz az;have aG:=zz ap;clear aA ax aB ay az ap;go_wp2
   go_roundg (ns-(i+1))
   case measure=>omega
   case rel=>exact⟨i+1,some ⟨g,0,none⟩,an,ys++[.iface ty pv],au,rfl,ze,rfl,by simp[ae.o],aj.o.symm,aH.o,xY aG.o,aF.o⟩
  ·obtain rfl:i=ns:=zd;have X:=ar.o;rw[zpT (zq4 al.o)]at X;have xV:Own Gj 223 1 wr A R (N.map sv):=by
    have:=Ho.o;rw[X]at this;unfold Own at this ⊢;rw[<-zgq];rw[show(List.map Sv.val (List.map sv N)).length=(List.map sv N).length from zpO _]at this;exact this
   have Y:i<=R:=by
    rcases Ho.o.form with⟨_,_,h⟩ |⟨g',_,_,h,_⟩
    ·have:=ae.o;rw[h]at this;simp at this;omega
    ·rw[ae.o]at h;exact h
   have ac:=zz (Z.o wr ai.o A i R xV (by rw[zpO];exact al.o) (fun g hg=>zpK HX.o.below.size (Hg.o g hg)) Y);clear X xV Y
   go_wp2_with (go_at_call 109;refine ac.o.mono ?_;intro e w8 X;have HE:=zz X;obtain⟨rfl,-⟩:=X)
   go_end0;exact HE.o
structure Zi (c:Cx) (x:Li):Prop where
 ok:x.ok
 p:x.a.p.size<=maxLen
 sz:∀t∈x.a.args,t.v.size<=maxLen
 wf:∀t∈x.a.args,t.x.val.wf
 ar:x.k≠3->∀a R,c.G x.a.p=some (a,R)->a=x.a.args.length/\R.length<=4194304
 tl:x.l.zO.length<=1048576
 tr:x.r.zO.length<=1048576
 el:J4 c x.l
 er:J4 c x.r
 vs:∀v∈x.vars,v.size<=maxLen
 Ze:x.vars.length<=1048576
theorem Zi.args(h:Zi c x)(q:x.k≠3):x.a.args.length<=24:=by
 rcases h.ok with⟨_,_,_,_,I⟩ |⟨L,_⟩
 ·exact I.2.1
 ·exact absurd L q
theorem Zi.atom{c:Cx}{x:Li}(h:Zi c x)(L:x.k≠3)(K:List ByteArray):DI c K x.a (qm K 0 x.a.args) where
 n24:=h.args L
 m2:=zlO K _
 sz:=h.sz
 p:=h.p
 val:=fun ρ R O i N I=>by
  obtain⟨t,q,U⟩:=(zaN K x.a.args i).1 I;rw[zpF N]at q;injection q with q
  rw[q];unfold Tm.at
  by_cases I:t.v.toList=[]
  ·rw[if_pos I];exact h.wf t (q▸zpB N)
  ·rw[if_neg I];obtain⟨y,N⟩:=zqq.1 ((O t.v).2 (U.resolve_left I));rw[N];exact(R _ _ N).2
 ar:=h.ar L
theorem zfr{v:ByteArray}(h:v∈qF K x):v∈x.vars:=(Uq.1 h).1
theorem znr(K:List ByteArray)(x:Li):(qF K x).length<=x.vars.length:=by unfold qF;exact zqS _ _
theorem Zi.rows(h:Zi c x)(q:x.k≠3)(K:List ByteArray):zf6 c K x.a (qm K 0 x.a.args) (qF K x) where
 atom:=h.atom q K
 dom:=fun _ _ I N L=>ziy I h.ok q N L
 back:=fun _ L I=>zjG I h.ok q L
 sz:=fun v I=>h.vs v (zfr I)
 Ze:=zpK (znr K x) h.Ze
theorem Zi.exprs(h:Zi c x)(L:x.k≠1)(I:x.k≠2):1<=x.rl/\x.rl<=6/\x.l.ok 8/\x.r.ok 8:=by
 rcases h.ok with⟨q|q,_⟩ |⟨_,_,_,q⟩
 ·exact absurd q L
 ·exact absurd q I
 ·exact q
theorem zic{lo hi:Nat->Nat}(I:i<body.length)(h:s.s.lit=i):Yz body lo hi s =
 if s.s.k=4 then .Xm body[i].a s.s.known else if s.s.k=5 then .test body[i]else if s.s.k=6 then(if body[i].l.q=0/\[body[i].l.t.v]=s.s.gives then .set body[i].l.t.v body[i].r else .set (s.s.gives.headD ⟨#[]⟩) body[i].l)else .rows body[i].a s.s.known s.A s.cap s.s.gives (lo s.s.lit) (hi s.s.lit):=by
 subst h;unfold Yz;simp only[zpF I]
theorem zlx(Z:c.qT)(hb:i<body.length)(q:Zi c body[i])(h:stepOf K i body[i]=some s.s)(lo hi:Nat->Nat)(rest:List St):UF c K (K++s.s.gives) (Yz body lo hi s) rest:=by
 obtain⟨⟨k,R,N,I⟩,A,U⟩:=s;have W:R=i:=(YQ h).1;rw[zic (s:=⟨⟨k,R,N,I⟩,A,U⟩) hb W];generalize body[i]=x at q h ⊢;simp only;unfold stepOf at h
 by_cases h1:x.k=1
 ·have O:x.k≠3:=zd;rw[if_pos h1]at h;injection h with h
  injection h with e1 e2 e3 e4
  have L:k≠4/\k≠5/\k≠6:=by
   rw[<-e1];refine⟨?_,?_,?_⟩<;>(split<;>(try split)<;>decide)
  rw[if_neg L.1,if_neg L.2.1,if_neg L.2.2,<-e3,<-e4];exact zlL Z (q.rows O K) A U _ _ rest
 ·rw[if_neg h1]at h
  by_cases h2:x.k=2
  ·have O:x.k≠3:=zd;rw[if_pos h2]at h;split at h
   ·injection h with h
    injection h with e1 e2 e3 e4
    rw[if_pos e1.symm,<-e3,<-e4,zp7];exact zn2 Z (q.atom O K) rest
   ·cases h
  ·rw[if_neg h2]at h;obtain⟨ac,aa,O,V⟩:=q.exprs h1 h2;split at h
   ·injection h with h
    injection h with e1 e2 e3 e4
    rw[if_neg (by rw[<-e1];decide),if_pos e1.symm,<-e4,zp7];exact znN Z O V q.tl q.tr ⟨ac,aa⟩ rest
   ·split at h
    ·rename_i hv;obtain⟨v,hv,ad,ab⟩:=hv;injection h with h
     injection h with e1 e2 e3 e4
     rw[hv]at e4;have L:v∈qF K x:=by rw[hv];exact zpy.2 rfl
     have Y:=(Uq.1 L).2;have X:=q.vs v (zfr L);rw[if_neg (by rw[<-e1];decide),if_neg (by rw[<-e1];decide),if_pos e1.symm,<-e4];split
     ·rename_i hq;have:x.l.t.v=v:=by have:=hq.2;injection this
      rw[this];exact zdV Z Y X V q.tr q.er rest
     ·exact zdV Z Y X O q.tl q.el rest
    ·cases h
theorem zbR{c:Cx}(R:c.qT){body:List Li}(L:∀x∈body,Zi c x)(O:∀K,G8 c K)(lo hi:Nat->Nat):∀(q:List Sx)(K:List ByteArray)(left:List Nat),yi body K left (q.map (·.s))->∃I,Jy c K (q.map (Yz body lo hi))/\I=K
 |[],K,left,_=>⟨K,.nil (O K),rfl⟩
 |s::q,K,left,h=>by
  obtain⟨_,N,I,V⟩:=Dm h;obtain⟨_,U,_⟩:=zbR R L O lo hi q _ _ V;exact⟨K,.cons (zlx R N (L _ (zpB N)) I lo hi _) U,rfl⟩
end
