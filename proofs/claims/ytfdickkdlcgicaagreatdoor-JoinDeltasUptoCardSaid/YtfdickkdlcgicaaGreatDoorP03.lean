/-
  Walks: the document's literal, rule, head. Walks: the terms 
-/
import Derived.Test.YtfdickkdlcgicaaGreatDoorP02
set_option maxRecDepth 100000
set_option maxHeartbeats 8000000
set_option linter.all false
namespace Go.Proofs.YtfdickkdlcgicaaGreatDoor.C
open Go.Proofs.Tryz Go Go.RowKit Go.Maps Go.WideMaps
section
def Li.fits(x:Li):Prop:=x.a.p.size<=maxLen/\∀t∈x.zN,t.v.size<=maxLen
def Ru.fits(r:Ru):Prop:=r.p.size<=maxLen/\(∀x∈r.body,x.a.p.size<=maxLen)/\∀t∈r.zN,t.v.size<=maxLen
theorem Ru.ziS{r:Ru}(h:r.fits){x:Li}(q:x∈r.body):x.fits:=⟨h.2.1 x q,fun t I=>h.2.2 t (zpk _ (zqg.2 ⟨x,q,I⟩))⟩
theorem Ru.zi9{r:Ru}(h:r.fits){a:Ar}(q:a∈r.head):a.t.v.size<=maxLen:=h.2.2 _ (zpu _ (zpA.2 ⟨a,q,rfl⟩))
theorem zmV(w:World)(x:Li)(hl:x.zO w)(hf:x.fits):Calls prog 238 #[.agg x.cells.toArray] w (xY x.ok w):=by
 obtain⟨k,⟨p,A,ab,O⟩,rl,l,r⟩:=x;obtain⟨U,I,q⟩:=hl;obtain⟨V,L⟩:=hf;unfold Li.zN at L;simp only at U I q V L;have Ha:=zz (fun W (R:Bl w W)=>zkL W _ (U.below R) V (fun t h=>L t (zpu _ h)));have Hl:=zz (fun W=>zbR W l);have Hr:=zz (fun W=>zbR W r);have X:=zz (fun W (R:Bl w W)=>zaf 8 (zoZ _) l W (I.below R) (fun t h=>L t (zpk _ (zpu _ h))));have ad:=zz (fun W (R:Bl w W)=>zaf 8 (zoZ _) r W (q.below R) (fun t h=>L t (zpk _ (zpk _ h))));clear U I q V L;obtain⟨q1,v1,Z,n1,s1,A1,N1,Y,q2,v2,V,n2,s2,A2,N2,ac,I,q⟩:=Li.JQ ⟨k,⟨p,A,ab,O⟩,rl,l,r⟩;simp only at I q;simp only[Li.cells,I,q,At.cells,zpc,zpa]at Ha Hl Hr X ad ⊢;clear I q;obtain⟨N,q⟩:∃N,O.length=N:=⟨_,rfl⟩;rw[q]at Ha ⊢;have HN:=zz q;clear q;obtain⟨W0,q,I⟩:=Vm w #[.int .i8 k,.string p,.slice A N ab,.int .i8 rl,.int .i8 q1,.string v1,.int .i8 Z,.int .i64 n1,.string s1,.slice A1 N1 Y,.int .i8 q2,.string v2,.int .i8 V,.int .i64 n2,.string s2,.slice A2 N2 ac] 50;have L:=zz I;have aa:=zz q;clear I q
 by_cases U:k=1\/k=2
 ·rcases U with rfl|rfl
  all_goals
   go_enter func238,ntmps238
   go_wp2_with (first
    |(go_at_call 262;refine(Hr.o w2).mono ?_;rintro e w3⟨b3,rfl,k3,ag⟩)
    |(go_at_call 262;refine(Hl.o w1).mono ?_;rintro e w2⟨b2,rfl,V,R⟩;have I:=q.trans (R.mono q.size);have af:=L.o.at I 10;have ai:=L.o.at I 11;have ah:=L.o.at I 12;have ak:=L.o.at I 13;have ae:=L.o.at I 14;have aj:=L.o.at I 15)
    |(go_at_call 261;refine(Ha.o _ (xo _ _)).mono ?_;rintro e w1⟨b1,rfl,Z,q⟩;rw[aa.o]at q;have c3:=L.o.at q 3;have c4:=L.o.at q 4;have c5:=L.o.at q 5;have c6:=L.o.at q 6;have c7:=L.o.at q 7;have c8:=L.o.at q 8;have c9:=L.o.at q 9))
   all_goals
    go_returns
    first
     |exact xY.no (L.o.in q)
     |exact xY.no (L.o.in I)
     |exact xY.may (fun h=>.inl ⟨by first|exact .inl rfl|exact .inr rfl,za,V za,k3 h,Z za⟩) (L.o.in (I.trans (ag.mono I.size)))
 ·have al:(k==1)=false:=beq_eq_false_iff_ne.2 fun h=>U (.inl h)
  have ag:(k==2)=false:=beq_eq_false_iff_ne.2 fun h=>U (.inr h)
  by_cases I:k=3
  ·subst I;have I:((3:Int)==3)=true:=rfl;go_enter func238,ntmps238
   go_wp2_with (first
    |(go_at_call 263;refine(ad.o w1 (L.o.in q)).mono ?_;rintro e w2⟨b2,rfl,V,R⟩)
    |(go_at_call 263;refine(X.o _ (xo _ _)).mono ?_;rintro e w1⟨b1,rfl,Z,q⟩;rw[aa.o]at q;have af:=L.o.at q 10;have ai:=L.o.at q 11;have ah:=L.o.at q 12;have ak:=L.o.at q 13;have ae:=L.o.at q 14;have aj:=L.o.at q 15))
   all_goals
    go_returns
    first
     |exact xY.no (xo w _)
     |exact xY.no (L.o.in q)
     |exact xY.may (fun h=>.inr ⟨rfl,zbN za,zpI (by rw[HN.o];omega),za,za,Z za,V h⟩) (L.o.in (q.trans (R.mono q.size)))
  ·have q:(k==3)=false:=beq_eq_false_iff_ne.2 I;go_enter func238,ntmps238;go_wp2;go_returns;exact xY.no (xo w _)
structure Ru.ok (r:Ru):Prop where
 name:Nm r.p
 X9:r.head.length<=24
 Xz:r.body.length<=16
 head:∀a∈r.head,a.ok
 body:∀x∈r.body,x.ok
 vars:r.vars.length<=24
theorem znO(w:World)(r:Ru)(hl:r.zO w)(hf:r.fits)(hb:r.zN.length<=1048576):Calls prog 193 #[.agg r.cells.toArray] w (xY r.ok w):=by
 have HV:=zz (fun W (O:Bl w W)=>zba W r (hl.below O) hb);have Hn:=zz (fun W=>DU W r.p hf.1);have Ha:=zz (fun(a:Ar) (h:a∈r.head) W=>zmy W a (Ru.zi9 hf h));have Hx:=zz (fun(x:Li) (h:x∈r.body) W (O:Bl w W)=>zmV W x ((hl.body x h).below O) (Ru.ziS hf h));have O:∀(h1:Nm r.p)(h2:r.head.length<=24)(h3:r.body.length<=16)(h4:∀a∈r.head,a.ok)(h5:∀x∈r.body,x.ok)(h6:r.vars.length<=24),r.ok:=fun h1 h2 h3 h4 h5 h6=>⟨h1,h2,h3,h4,h5,h6⟩
 have ag:=zz O;have Hh:=zz hl.head;have an:=zz hl.rd;have am:=hl.X9;have ao:=hl.Xz;clear hl hf hb O;generalize r.vars=rv at HV ag;obtain⟨ok,O⟩:∃ok:Prop,r.ok=ok:=⟨_,rfl⟩;rw[O]at ag ⊢;clear O;obtain⟨p,B,zM,I,C,aj,L⟩:=r;simp only[Ru.cells]at *;obtain⟨N,O⟩:∃N,I.length=N:=⟨_,rfl⟩;rw[O]at am HV ⊢;have HN:=zz O;clear O;obtain⟨N2,O⟩:∃N,L.length=N:=⟨_,rfl⟩;rw[O]at ao HV ⊢;have ac:=zz O;clear O;obtain⟨W0,O,R⟩:=Vm w #[.string p,.slice B N zM,.slice C N2 aj] 25;have X:=zz R;have aq:=zz O;clear R O;go_enter func193,ntmps193
 go_wp2_with (go_at_call 136;refine(Hn.o _).mono ?_;rintro e w1⟨b1,rfl,O,V⟩;rw[aq.o]at V;have c1:=X.o.at V 1;have c2:=X.o.at V 2)
 ·go_returns;exact xY.no (X.o.in V)
 ·go_returns;exact xY.no (X.o.in V)
 ·go_returns;exact xY.no (X.o.in V)
 obtain rfl:=‹b1=true›;have ak:N<=24:=zd;have ai:N2<=16:=zd;have K1:=zz (O rfl);clear O c1 c2
 go_loopg[3] N (fun gk O wx=>∃i:Nat,i<=N/\gk=N-i/\O=.int .i64 (i:Int)/\Bl W0 wx/\∀j (h:j<I.length),j<i->I[j].ok)
 case atStart=>exact⟨0,zo5 _,rfl,rfl,V,fun j _ h=>zd⟩
 case round=>
  obtain⟨i,hi,rfl,rfl,R,U⟩:=hrel;have O:=zz U;have c1:=X.o.at R 1;clear U V
  by_cases ap:i<N
  ·have aa:i<I.length:=by rw[HN.o];exact ap
   obtain⟨b,o,rfl,hb,Z⟩:=(Hh.o.below (X.o.in R)).at Ar.xF i aa;have hk:=Ha.o _ (zo3 aa);generalize ab:I[i]=t at Z hk;have ad:=zz ab;clear ab;obtain⟨g,⟨v,k,m,s⟩⟩:=t;simp only[Ar.cells,Tm.cells]at Z hk
   replace Z:wr.rangeAt b (o+i*5) _:=Z
   obtain⟨d0,d1,d2,d3,d4⟩:=ZP Z;have Hk:=zz hk;clear Z hk
   go_wp2_with (go_at_call 237;refine(Hk.o _).mono ?_;rintro e w2⟨q2,rfl,k2,Y⟩)
   ·go_returns;exact xY.no (X.o.in (R.trans (Y.mono R.size)))
   ·have af:q2=true:=by simpa using ‹(!q2)=false›
    go_roundg (N-(i+1))
    case measure=>omega
    case rel=>exact⟨i+1,zd,rfl,ze,R.trans (Y.mono R.size),fun j hj ae=>by
     by_cases e:j=i
     ·subst e;rw[ad.o];exact k2 af
     ·exact O.o j hj zd⟩
  ·obtain rfl:i=N:=zd;have c2:=X.o.at R 2;have ae:=zz (show ∀a∈I,a.ok from fun a ha=>by
    obtain⟨j,hj,rfl⟩:=zpl.1 ha;exact O.o j hj (by rw[<-HN.o];exact hj))
   clear O;have ah:=zz R;clear R;go_wp2
   go_loopg[4] N2 (fun gk s4 wx=>∃j:Nat,j<=N2/\gk=N2-j/\s4=.int .i64 (j:Int)/\Bl W0 wx/\∀q (h:q<L.length),q<j->L[q].ok)
   case atStart=>exact⟨0,zo5 _,rfl,rfl,ah.o,fun j _ h=>zd⟩
   case round=>
    clear c1 c2 ah;obtain⟨j,hj,rfl,rfl,R,U⟩:=hrel;have O:=zz U;have c2:=X.o.at R 2;clear U
    by_cases al:j<N2
    ·have aa:j<L.length:=by rw[ac.o];exact al
     obtain⟨b,o,rfl,hb,Z⟩:=(an.o.below (X.o.in R)).at Li.Yn j aa;have hk:=Hx.o _ (zo3 aa) _ (X.o.in R);generalize ab:L[j]=x at Z hk;have ad:=zz ab
     replace Z:wr.rangeAt b (o+j*16) x.cells:=Z
     have Hr:=zz Z;have Hk:=zz hk;clear ab Z hk
     go_wp2_with (first
      |(refine xV 50 _ rfl ?_;refine wpList_load_mid rfl 50 _ rfl b (o+j*16) rfl x.cells _ Hr.o underlying50 rfl (qV x) ?_)
      |(go_at_call 238;refine Hk.o.mono ?_;rintro e w2⟨q2,rfl,k2,Y⟩))
     ·go_returns;exact xY.no (X.o.in (R.trans (Y.mono R.size)))
     ·have af:q2=true:=by simpa using ‹(!q2)=false›
      go_roundg (N2-(j+1))
      case measure=>omega
      case rel=>exact⟨j+1,zd,rfl,ze,R.trans (Y.mono R.size),fun q Z U=>by
       by_cases e:q=j
       ·subst e;rw[ad.o];exact k2 af
       ·exact O.o q Z zd⟩
    ·obtain rfl:j=N2:=zd;have U:=zz (show ∀a∈L,a.ok from fun a ha=>by
      obtain⟨j,hj,rfl⟩:=zpl.1 ha;exact O.o j hj (by rw[<-ac.o];exact hj))
     have c0:=X.o.at R 0;have c1:=X.o.at R 1;have Z:=zz (X.o.in R);clear O R
     go_wp2_with (go_at_call 29;refine(HV.o _ Z.o).mono ?_;rintro e w2⟨A2,ab,M2,rfl,aa,ad,Y,af⟩)
     go_returns;exact xY.may (fun h=>ag.o K1.o (by rw[HN.o];exact ak) (by rw[ac.o];exact ai) ae.o U.o (by rw[aa];simp at h;omega)) (zu Z.o Y)
theorem zhL(w:World)(r:Ru)(U:r.zO w)(R:r.fits)(O:r.zN.length<=1048576):Calls prog 133 #[.agg r.cells.toArray] w (XY r.ok w):=by
 have H:=zz (fun W (h:Bl w W)=>znO W r (U.below h) R O);have X:=zz (fun W b=>zkC W b);clear U R O;obtain⟨L,h⟩:∃L:Prop,r.ok=L:=⟨_,rfl⟩;rw[h]at H ⊢;clear h;obtain⟨p,B,zM,q,C,V,h⟩:=r;simp only[Ru.cells]at *;generalize q.length=N at *;generalize h.length=Z at *;go_enter func133,ntmps133
 go_wp2_with (first
  |(go_at_call 193;refine(H.o _ (xo _ _)).mono ?_;rintro e w2⟨q2,rfl,Y,I⟩)
  |(go_at_call 192;refine(X.o _ _).mono ?_;rintro e w3⟨rfl,rfl⟩))
 all_goals
  go_returns
  first
   |exact XY.no zr (q6 I)
   |exact XY.may (fun _=>Y za) (q6 I)
def zjE(P:Prop)(w:World)(e:Ending)(w':World):Prop:=∃(q:ByteArray) (C:Option Addr) (n h:Nat) (b:Bool),e=.returned (.tuple #[.agg #[.string q,.slice C n h],.bool b])/\(b=true->P)/\Bl w w'
theorem zgr(w:World)(r:Ru)(hl:r.zO w)(hb:r.head.length<=1048576):Calls prog 39 #[.agg r.cells.toArray] w (zjE (∀a∈r.head,a.g=0) w):=by
 have Hh:=zz hl.head;have ar:=hl.X9;clear hl;obtain⟨p,B,zM,I,C,Z,am⟩:=r;simp only[Ru.cells]at *;obtain⟨N,q⟩:∃N,I.length=N:=⟨_,rfl⟩;rw[q]at ar hb ⊢;have HN:=zz q;clear q;obtain⟨N2,q⟩:∃N,am.length=N:=⟨_,rfl⟩;rw[q];clear q;obtain⟨W2,q,L⟩:=Va w 25 38 38 #[.string p,.slice B N zM,.slice C N2 Z] #[.string ⟨#[]⟩,.slice none 0 0] #[.string p,.slice none 0 0];have U:=zz L;have aq:=zz q;clear L q;go_enter func39,ntmps39;go_wp2;rw[aq.o]
 go_loopg[3,5] N (fun gk R V O=>∃(i:Nat) (L:Option Addr) (q:Nat) (xs:List Tm),i<=N/\gk=N-i/\R=.bool false/\V=.int .i64 (i:Int)/\zD O w.heap.size 25 #[.string p,.slice B N zM,.slice C N2 Z]/\
  zD O (w.heap.size+1) 38 #[.string ⟨#[]⟩,.slice none 0 0]/\zD O (w.heap.size+1+1) 38 #[.string p,.slice L i q]/\xs.length=i/\Own Tm.cells 45 4 O L q xs/\(∀g∈zw L,W2.heap.size<=g)/\Bl w O/\W2.heap.size<=O.heap.size/\∀j (h:j<I.length),j<i->I[j].g=0)
 case atStart=>exact⟨0,none,0,[],zo5 _,rfl,rfl,rfl,U.o.b0,U.o.b1,U.o.b2,rfl,Own.qC _,fun g hg=>by simp[zw]at hg,U.o.below,zoZ _,fun j _ h=>zd⟩
 case round=>
  obtain⟨i,L,q,xs,hi,rfl,rfl,rfl,k0,k1,k2,X,ho,hg,hB,V,R⟩:=hrel;have c1:wr.cell? ⟨w.heap.size,1,none⟩=some (.slice B N zM):=k0.cell 1;have K0:=zz k0;have O:=zz k1;have K2:=zz k2;have ak:=zz X;have Ho:=zz ho;have Hg:=zz hg;have HB:=zz hB;have ag:=zz V;have Y:=zz R;clear k0 k1 k2 X ho hg hB V R
  by_cases au:i<N
  ·have az:i<I.length:=by rw[HN.o];exact au
   obtain⟨b,o,rfl,V,R⟩:=Hh.o.at Ar.xF i az;have R:=yo R HB.o V;have ax:=zz V;generalize X:I[i]=t at R;have aw:=zz X;clear X V;obtain⟨g5,⟨v,k,m,s⟩⟩:=t;simp only[Ar.cells,Tm.cells]at R
   replace R:wr.rangeAt b (o+i*5) _:=R
   have Hr:=zz R;obtain⟨d0,d1,d2,d3,d4⟩:=ZP R;clear R
   by_cases ad:g5=0
   ·subst ad;go_wp2;refine XH [0,1,0,1,0,0,0,1,2,2,0,3] 11 (fun W=>zh (fun g=>g∈zw L\/g=w.heap.size+1+1) wr W) (fun W=>W.heap[w.heap.size+1+1]? = wr.heap[w.heap.size+1+1]?) ?s0 ?s1 ?_
    case s0=>exact yj
    case s1=>rfl
    have av:b<w.heap.size:=ax.o;have ai:¬(b∈zw L\/b=w.heap.size+1+1):=fun h=>by
     rcases h with h|h
     ·have:=Hg.o b h;have:=U.o.size;omega
     ·omega
    have aa:¬(w.heap.size∈zw L\/w.heap.size=w.heap.size+1+1):=fun h=>by
     rcases h with h|h
     ·have:=Hg.o _ h;have:=U.o.size;omega
     ·omega
    have af:¬(w.heap.size+1∈zw L\/w.heap.size+1=w.heap.size+1+1):=fun h=>by
     rcases h with h|h
     ·have:=Hg.o _ h;have:=U.o.size;omega
     ·omega
    have ah:w.heap.size+1+1∉zw L:=fun h=>by have:=Hg.o _ h;have:=U.o.size;omega
    have an:b<wr.heap.size:=by have:=HB.o.size;omega
    have H0:=zz (show ∀W,zh (fun g=>g∈zw L\/g=w.heap.size+1+1) wr W->_ from fun W R=>
     zpf ((K0.o.zC R aa).cell 1) (ZP (Uq Hr.o an R ai)))
    have H1:Kz (∀W:World,W.heap[w.heap.size+1+1]? = wr.heap[w.heap.size+1+1]?->_):=fun W R=>(K2.o.same R).cell 1
    clear c1 d0 d1 d2 d3 d4;try refine zQ ?_
    repeat refine xK H0.o H1.o ?_
    refine xc fun K R=>?_
    go_simp;refine R.out _ _ (((zh.refl _ _).drew).alloc _) (fun _=>by exact Below.heap_alloc _ _ _ K2.o.lt) ?_;clear R K;refine xc fun K R=>?_
    refine Zv _ _ rfl Ji (f:=Tm.cells) (xs:=xs) ?own ak.o ⟨v,k,m,s⟩ _ 0 1 rfl rfl rfl ?news ?one ?le zr ?_
    case own=>exact Ho.o.alloc _
    case news=>exact yp _ _ _ rfl
    case one=>simp[Value.oneCell']
    case le=>omega
    intro g ae w3 ao ab aj;have X:zh (fun g=>g∈zw L\/g=w.heap.size+1+1) wr w3:=(((zh.refl _ wr).drew).alloc _).trans ab (fun x hx _=>.inl hx);have ac:w3.heap[w.heap.size+1+1]? = wr.heap[w.heap.size+1+1]?:=(ab.block _ (by have:=K2.o.lt;simp;omega) ah).trans (Below.heap_alloc _ _ _ K2.o.lt);refine R.out _ _ X (fun _=>ac) ?_;clear R K;try refine zQ ?_
    repeat refine xK H0.o H1.o ?_
    refine y7 zj (fun K R=>?_);have V:=K2.o.same ac;have al:w3.cell? ⟨w.heap.size+1+1,1,none⟩=some (.slice L i q):=V.cell 1;have ap:=V.frozen 1;go_simp;refine R.out _ _ (X.setCell (fun _=>.inr rfl) _) ?_;clear R K al ap;refine xu ?_;have ay:=zz ao;have R:=zz X;have aC:=zz V;have aA:Kz (g∈zw L\/wr.heap.size<=g):=aj.imp id (fun h=>by simp at h;omega);have ap:=zz aa;have aB:=zz af;clear ao X ac V ab aj av ai aa af ah an H0 H1;go_wp2
    go_roundg (N-(i+1))
    case measure=>omega
    case rel=>
     have V:∀x∈zw (some ⟨g,0,none⟩),W2.heap.size<=x:=xW (by
      rcases aA.o with h|h
      ·exact Hg.o g h
      ·have:=ag.o;omega)
     refine⟨i+1,_,ae,xs++[⟨v,k,m,s⟩],zd,rfl,rfl,ze,(K0.o.zC R.o ap.o).XQ zb _,(O.o.zC R.o aB.o).XQ zp _,?_,by simp[ak.o],ay.o.same (fun x hx=>Below.heap_setCell _ _ _ _ (by have:=V x hx;have:=U.o.size;simp;omega)),V,
      ?_,?_,fun j hj X=>?_⟩
     ·exact aC.o.qE 1 _
     ·exact(R.o.qq HB.o (zoZ _) (fun x hx=>by rcases hx with h|h;(have:=Hg.o x h;have:=U.o.size;omega);omega)).setCell zb _
     ·have:=R.o.size;have:=ag.o;simp[World.setCell];omega
     ·by_cases e:j=i
      ·subst e;rw[aw.o]
      ·exact Y.o j hj zd
   ·have ac:(g5 != 0)=true:=by simp[ad]
    clear ad;have aa:=O.o.frozen 0;have X:=O.o.frozen 1;have V:wr.cell? ⟨w.heap.size+1,0,none⟩=some (.string ⟨#[]⟩):=O.o.cell 0;have ab:wr.cell? ⟨w.heap.size+1,1,none⟩=some (.slice none 0 0):=O.o.cell 1;go_wp2;have kk:zD ((wr.setCell ⟨w.heap.size+1,0,none⟩ (.string ⟨#[]⟩)).setCell ⟨w.heap.size+1,1,none⟩ (.slice none 0 0)) (w.heap.size+1) 38 #[(.string ⟨#[]⟩),(.slice none 0 0)]:=(O.o.qE 0 _).qE 1 _;have R:Bl w ((wr.setCell ⟨w.heap.size+1,0,none⟩ (.string ⟨#[]⟩)).setCell ⟨w.heap.size+1,1,none⟩ (.slice none 0 0)):=(HB.o.setCell zp _).setCell zp _;clear V ab aa X;generalize(wr.setCell ⟨w.heap.size+1,0,none⟩ (.string ⟨#[]⟩)).setCell ⟨w.heap.size+1,1,none⟩ (.slice none 0 0)=W5 at kk R ⊢;have z0:W5.cell? ⟨w.heap.size+1,0,none⟩=some (.string ⟨#[]⟩):=kk.cell 0;have z1:W5.cell? ⟨w.heap.size+1,1,none⟩=some (.slice none 0 0):=kk.cell 1;refine bodyPost_ret (v:=.tuple #[.agg #[.string ⟨#[]⟩,.slice none 0 0],.bool false]) (by simp[results,results39,go_sem,z0,z1]) rfl ?_;exact⟨⟨#[]⟩,none,0,0,false,rfl,fun h=>(by cases h),R⟩
  ·obtain rfl:i=N:=zd;have ac:wr.cell? ⟨w.heap.size+1+1,0,none⟩=some (.string p):=K2.o.cell 0;have al:wr.cell? ⟨w.heap.size+1+1,1,none⟩=some (.slice L i q):=K2.o.cell 1;have aa:=O.o.frozen 0;have X:=O.o.frozen 1;have V:wr.cell? ⟨w.heap.size+1,0,none⟩=some (.string ⟨#[]⟩):=O.o.cell 0;have ab:wr.cell? ⟨w.heap.size+1,1,none⟩=some (.slice none 0 0):=O.o.cell 1;go_wp2;have kk:zD ((wr.setCell ⟨w.heap.size+1,0,none⟩ (.string p)).setCell ⟨w.heap.size+1,1,none⟩ (.slice L i q)) (w.heap.size+1) 38 #[(.string p),(.slice L i q)]:=(O.o.qE 0 _).qE 1 _;have R:Bl w ((wr.setCell ⟨w.heap.size+1,0,none⟩ (.string p)).setCell ⟨w.heap.size+1,1,none⟩ (.slice L i q)):=(HB.o.setCell zp _).setCell zp _;clear V ab aa X;generalize(wr.setCell ⟨w.heap.size+1,0,none⟩ (.string p)).setCell ⟨w.heap.size+1,1,none⟩ (.slice L i q)=W5 at kk R ⊢;have z0:W5.cell? ⟨w.heap.size+1,0,none⟩=some (.string p):=kk.cell 0;have z1:W5.cell? ⟨w.heap.size+1,1,none⟩=some (.slice L i q):=kk.cell 1;refine bodyPost_ret (v:=.tuple #[.agg #[.string p,.slice L i q],.bool true]) (by simp[results,results39,go_sem,z0,z1]) rfl ?_;exact⟨p,L,i,q,true,rfl,fun _ a V=>(by
    obtain⟨j,hj,rfl⟩:=zpl.1 V;exact Y.o j hj (by rw[<-HN.o];exact hj)),R⟩
abbrev Jq(h q:Nat):Value:=.func (.func 179) #[] #[.pointer (some ⟨h,0,none⟩),.pointer (some ⟨q,0,none⟩)]
@[go_sem] theorem zom(p:Option Addr)(w:World):(Instr.typeAssert (.iface 243 (.pointer p)) 20 243 true).run prog w=.ok (.tuple #[.pointer p,.bool true]) w:=zo
@[go_sem] theorem zoL(p:Option Addr)(w:World):(Instr.typeAssert (.iface 197 (.pointer p)) 20 243 true).run prog w=.ok (.tuple #[.pointer none,.bool false]) w:=zo
@[go_sem] theorem zoG(p:Option Addr)(w:World):(Instr.typeAssert (.iface 197 (.pointer p)) 20 197 true).run prog w=.ok (.tuple #[.pointer p,.bool true]) w:=zo
@[go_sem] theorem zod(p:Option Addr)(w:World):(Instr.typeAssert (.iface 320 (.pointer p)) 20 243 true).run prog w=.ok (.tuple #[.pointer none,.bool false]) w:=zo
@[go_sem] theorem zn1(p:Option Addr)(w:World):(Instr.typeAssert (.iface 320 (.pointer p)) 20 197 true).run prog w=.ok (.tuple #[.pointer none,.bool false]) w:=zo
@[go_sem] theorem zoW(p:Option Addr)(w:World):(Instr.typeAssert (.iface 320 (.pointer p)) 20 320 true).run prog w=.ok (.tuple #[.pointer p,.bool true]) w:=zo
@[go_sem] theorem zoM(p:Option Addr)(w:World):(Instr.typeAssert (.iface 319 (.pointer p)) 20 243 true).run prog w=.ok (.tuple #[.pointer none,.bool false]) w:=zo
@[go_sem] theorem zop(p:Option Addr)(w:World):(Instr.typeAssert (.iface 319 (.pointer p)) 20 197 true).run prog w=.ok (.tuple #[.pointer none,.bool false]) w:=zo
@[go_sem] theorem zoC(p:Option Addr)(w:World):(Instr.typeAssert (.iface 319 (.pointer p)) 20 320 true).run prog w=.ok (.tuple #[.pointer none,.bool false]) w:=zo
@[go_sem] theorem zoQ(p:Option Addr)(w:World):(Instr.typeAssert (.iface 319 (.pointer p)) 20 319 true).run prog w=.ok (.tuple #[.pointer p,.bool true]) w:=zo
theorem zjY(e:Ex)(l:List Ex):Ex.qp (e::l)=e.zN++Ex.qp l:=by rw[Ex.qp]
structure Wk (w0 w:World) (bt bl:Nat) (vs:List ByteArray) (ts:List Tm):Prop where
 below:Bl w0 w
 vars:zaN w0.heap.size w bt bl vs
 len:vs.length+ts.length<=1048576
 size:∀t∈ts,t.v.size<=maxLen
theorem Wk.hd{q w:World}{I r:Nat}{vs:List ByteArray}{t:Tm}{R:List Tm}(h:Wk q w I r vs (t::R)){b o:Nat}(N:b<q.heap.size)(Y:q.rangeAt b o t.cells):
 Calls prog 179 #[.pointer (some ⟨b,o,none⟩),.pointer (some ⟨I,0,none⟩),.pointer (some ⟨r,0,none⟩)] w fun e L=>e=.returned (.tuple #[])/\Wk q L I r (addVar vs t.v) R/\Below q.heap.size w L:=by
 have X:=h.len;rw[zpn]at X;refine(zgw _ w I r vs h.vars b o t N (by have:=h.below.size;omega) h.below.size (yo Y h.below N) zd (h.size t zpi)).mono ?_;rintro e L⟨W,U,O⟩;exact⟨W,⟨h.below.trans O,U,by have:=(zch vs t.v).2;omega,fun t V=>h.size t (zpj _ V)⟩,O⟩
def Jl(h:World)(r I:Nat)(vs:List ByteArray)(q:List Tm)(w:World)(e:Ending)(w':World):Prop:=e=.returned (.tuple #[])/\Wk h w' r I vs q/\Below h.heap.size w w'
theorem Tx(L:World)(X U:Nat)(x:Ex)(w:World)(vs:List ByteArray)(rest:List Tm)(b o:Nat)(hb:b<L.heap.size)(O:L.rangeAt b o x.cells)(hl:x.zO L)(h:Wk L w X U vs (x.zN++rest)):
 Calls prog 178 #[.iface 320 (.pointer (some ⟨b,o,none⟩)),Jq X U] w (Jl L X U (varsOf vs x.zN) rest w):=by
 match x,O,hl,h with
 |.mk q ⟨v,k,n,s⟩ B zM r,O,hl,h=>
  have IH:=zz (show ∀k∈r,∀(w:World)(vs:List ByteArray)(rest:List Tm)(b o:Nat),b<L.heap.size->L.rangeAt b o k.cells->k.zO L->Wk L w X U vs (k.zN++rest)->
   Calls prog 178 #[.iface 320 (.pointer (some ⟨b,o,none⟩)),Jq X U] w (Jl L X U (varsOf vs k.zN) rest w)from fun k hk w vs rest b o V I Y R=>Tx L X U k w vs rest b o V I Y R)
  unfold Ex.zO at hl;obtain⟨Y,aa,hk⟩:=hl;unfold Ex.zN at h ⊢;rw[VL];rw[zpc]at h;have R:=h.hd hb (o:=o+1) (VZ O 1 4);simp only[Ex.cells]at O;obtain⟨N,V⟩:∃N,r.length=N:=⟨_,rfl⟩;rw[V]at O aa;have H0:Kz (∀W,Bl L W->W.cell? ⟨b,o+5,none⟩=some (.slice B N zM)):=fun W I=>yo O I hb 5 _ rfl
  have HN:=zz V;have HK:=zz Y;have Hk:=zz hk;have af:=zz R;have I:=h.below;have HB:=zz I;clear V Y hk R O h I;go_enter func178,ntmps178
  go_wp2_with (go_at_call 179;refine af.o.mono ?_;rintro e w1⟨rfl,I,R⟩;have c5:=H0.o w1 I.below)
  have ab:=zz I;have ah:=zz R;clear I R c5
  go_loopg[9,86] N (fun gk V I R=>∃i:Nat,i<=N/\gk=N-i/\I=.int .i64 (i:Int)/\Wk L R X U (varsOf (addVar vs v) (Ex.qp (r.take i))) (Ex.qp (r.drop i)++rest)/\Below L.heap.size w R)
  case atStart=>exact⟨0,zo5 _,rfl,rfl,by simpa[Ex.qp,varsOf]using ab.o,ah.o⟩
  case round=>
   obtain⟨i,hi,rfl,rfl,I,R⟩:=hrel;have HW:=zz I;have HB:=zz R;have c5:=H0.o wr I.below;clear I R ab
   by_cases ae:i<N
   ·have R:i<r.length:=by rw[HN.o];exact ae
    obtain⟨bk,ok,rfl,ag,O⟩:=HK.o.at Ex.xF i R;have hm:=zo3 R;have Z:r.take (i+1)=r.take i++[r[i]]:=zo4 R;have ac:r.drop i=r[i]::r.drop (i+1):=zpC R;have V:=HW.o;rw[ac]at V;have I:=IH.o r[i] hm wr _ (Ex.qp (r.drop (i+1))++rest) bk (ok+i*6) ag O (Ex.qB.mem Hk.o _ hm) (by
     rw[zjY,zpo]at V;exact V)
    have ad:varsOf (varsOf (addVar vs v) (Ex.qp (r.take i))) r[i].zN=varsOf (addVar vs v) (Ex.qp (r.take (i+1))):=by
     rw[Z,Ex.Gq,Uc];simp[Ex.qp]
    rw[ad]at I;have Y:=zz I;clear I ad Z ac V O hm
    go_wp2_with (go_at_call 178;refine Y.o.mono ?_;rintro e w2⟨rfl,I,Z⟩)
    go_roundg (N-(i+1))
    case measure=>omega
    case rel=>exact⟨i+1,zd,rfl,ze,I,HB.o.trans Z⟩
   ·obtain rfl:i=N:=zd;have I:r.take i=r:=by rw[<-HN.o];exact zpz
    have hd:r.drop i=[]:=by rw[<-HN.o];exact List.drop_length
    have V:=HW.o;rw[I,hd]at V;have R:=zz V;clear V I hd HW;go_wp2;go_returns;exact⟨rfl,by simpa[Ex.qp]using R.o,HB.o⟩
termination_by x
decreasing_by
 have:=List.sizeOf_lt_of_mem hk
 simp_wf
 omega
theorem zc1(L:World)(bt bl:Nat)(x:At)(w:World)(vs:List ByteArray)(rest:List Tm)(b o:Nat)(hb:b<L.heap.size)(V:L.rangeAt b o x.cells)(hl:x.zO L)(h:Wk L w bt bl vs (x.args++rest)):
 Calls prog 178 #[.iface 319 (.pointer (some ⟨b,o,none⟩)),Jq bt bl] w (Jl L bt bl (varsOf vs x.args) rest w):=by
 obtain⟨p,A,ac,q⟩:=x;obtain⟨r,I⟩:=hl;simp only at r I h ⊢;simp only[At.cells]at V;obtain⟨N,O⟩:∃N,q.length=N:=⟨_,rfl⟩;rw[O]at V I;have H0:Kz (∀W,Bl L W->W.cell? ⟨b,o+1,none⟩=some (.slice A N ac)):=fun W R=>yo V R hb 1 _ rfl
 have HN:=zz O;have HK:=zz r;have Y:=zz h;have c1:=H0.o w h.below;clear O r V h;go_enter func178,ntmps178;go_wp2
 go_loopg[11,107] N (fun gk R r O=>∃i:Nat,i<=N/\gk=N-i/\r=.int .i64 (i:Int)/\Wk L O bt bl (varsOf vs (q.take i)) (q.drop i++rest)/\Below L.heap.size w O)
 case atStart=>exact⟨0,zo5 _,rfl,rfl,by simpa[varsOf]using Y.o,Below.refl _ _⟩
 case round=>
  obtain⟨i,hi,rfl,rfl,r,O⟩:=hrel;have HW:=zz r;have HB:=zz O;have c1:=H0.o wr r.below;clear r O Y
  by_cases ab:i<N
  ·have O:i<q.length:=by rw[HN.o];exact ab
   obtain⟨bk,ok,rfl,ad,V⟩:=HK.o.at Tm.xF i O;have X:q.take (i+1)=q.take i++[q[i]]:=zo4 O;have Z:q.drop i=q[i]::q.drop (i+1):=zpC O;have U:=HW.o;rw[Z]at U;have r:=Wk.hd U (o:=ok+i*4) ad V;have aa:addVar (varsOf vs (q.take i)) q[i].v=varsOf vs (q.take (i+1)):=by
    rw[X,Uc];rfl
   rw[aa]at r;have R:=zz r;clear r aa X Z U V
   go_wp2_with (go_at_call 179;refine R.o.mono ?_;rintro e Z⟨rfl,r,X⟩)
   go_roundg (N-(i+1))
   case measure=>omega
   case rel=>exact⟨i+1,zd,rfl,ze,r,HB.o.trans X⟩
  ·obtain rfl:i=N:=zd;have r:q.take i=q:=by rw[<-HN.o];exact zpz
   have hd:q.drop i=[]:=by rw[<-HN.o];exact List.drop_length
   have U:=HW.o;rw[r,hd]at U;have O:=zz U;clear U r hd HW;go_wp2;go_returns;exact⟨rfl,O.o,HB.o⟩
theorem zbc(I:World)(U R:Nat)(x:Li)(w:World)(vs:List ByteArray)(rest:List Tm)(b o:Nat)(Z:b<I.heap.size)(hr:I.rangeAt b o x.cells)(Y:x.zO I)(h:Wk I w U R vs (x.zN++rest)):
 Calls prog 178 #[.iface 197 (.pointer (some ⟨b,o,none⟩)),Jq U R] w (Jl I U R (varsOf vs x.zN) rest w):=by
 unfold Li.zN at h ⊢;rw[zpo,zpo]at h;rw[Uc,Uc];have h1:=zc1 I U R x.a w vs _ b (o+1) Z (VZ hr 1 2) Y.a h;have L:=Gg (xs:=[.int .i8 x.k,.string x.a.p,.slice x.a.A x.a.args.length x.a.cap,.int .i8 x.rl]) hr;have W:=zcK L;have O:=Gg L;rw[Ex.xF]at O;have X:=fun V N q=>Tx I U R x.l V N (x.r.zN++rest) b (o+4) Z W Y.l q
 have h3:=fun V N q=>Tx I U R x.r V N rest b (o+4+6) Z O Y.r q
 have H1:=zz h1;have H2:=zz X;have H3:=zz h3;clear h h1 X h3 hr L W O Y;go_enter func178,ntmps178
 go_wp2_with (first
  |(go_at_call 178;refine(H3.o w2 _ ac.o).mono ?_;rintro e w3⟨rfl,L,X⟩;have ab:=zz L;have aa:=zz (ae.o.trans X);clear L X)
  |(go_at_call 178;refine(H2.o V _ af.o).mono ?_;rintro e w2⟨rfl,N,O⟩;have ac:=zz N;have ae:=zz (ad.o.trans O);clear N O)
  |(go_at_call 178;refine H1.o.mono ?_;rintro e V⟨rfl,q,W⟩;have af:=zz q;have ad:=zz W;clear q W))
 go_returns;exact⟨rfl,ab.o,aa.o⟩
theorem zk4(Y:World)(bt bl:Nat)(x:Ru)(w:World)(vs:List ByteArray)(b o:Nat)(hb:b<Y.heap.size)(U:Y.rangeAt b o x.cells)(hl:x.zO Y)(h:Wk Y w bt bl vs x.zN):
 Calls prog 178 #[.iface 243 (.pointer (some ⟨b,o,none⟩)),Jq bt bl] w (Jl Y bt bl (varsOf vs x.zN) [] w):=by
 obtain⟨p,A,an,I,B,zM,q⟩:=x;obtain⟨L,ag,R,ai,r⟩:=hl;unfold Ru.zN at h ⊢;simp only at L ag R ai r h ⊢;simp only[Ru.cells]at U;obtain⟨N,X⟩:∃N,I.length=N:=⟨_,rfl⟩;obtain⟨N2,O⟩:∃N,q.length=N:=⟨_,rfl⟩;rw[X]at U ag;rw[O]at U ai;obtain⟨T,V⟩:∃T,I.map (·.t)=T:=⟨_,rfl⟩;have HT:Kz (∀i (h:i<I.length),∃Z:i<T.length,T[i]=I[i].t):=fun i h=>by subst V;exact⟨by simpa using h,zp⟩
 have ah:=zz (show T.length=I.length by subst V;simp);rw[V]at h ⊢;clear V;have H0:Kz (∀W,Bl Y W->W.cell? ⟨b,o+1,none⟩=some (.slice A N an)/\W.cell? ⟨b,o+2,none⟩=some (.slice B N2 zM)):=fun W V=>⟨yo U V hb 1 _ rfl,yo U V hb 2 _ rfl⟩
 have HN:=zz X;have ad:=zz O;have Hh:=zz L;have al:=zz R;have ac:=zz r;have aj:=zz h;obtain⟨c1,-⟩:=H0.o w h.below;clear X O L R r U h;go_enter func178,ntmps178;go_wp2
 go_loopg[5,21] N (fun gk O r wx=>∃i:Nat,i<=N/\gk=N-i/\r=.int .i64 (i:Int)/\Wk Y wx bt bl (varsOf vs (T.take i)) (T.drop i++q.flatMap Li.zN)/\Below Y.heap.size w wx)
 case atStart=>exact⟨0,zo5 _,rfl,rfl,by simpa[varsOf]using aj.o,Below.refl _ _⟩
 case round=>
  obtain⟨i,hi,rfl,rfl,hw,hB⟩:=hrel;have HW:=zz hw;have HB:=zz hB;obtain⟨c1,c2⟩:=H0.o wr hw.below;clear hw hB aj
  by_cases am:i<N
  ·have R:i<I.length:=by rw[HN.o];exact am
   obtain⟨bk,ok,rfl,ab,U⟩:=Hh.o.at Ar.xF i R;obtain⟨qR,aa⟩:=HT.o i R;have X:T.take (i+1)=T.take i++[I[i].t]:=by rw[zo4 qR,aa]
   have V:T.drop i=I[i].t::T.drop (i+1):=by rw[zpC qR,aa]
   have L:=HW.o;rw[V]at L;have r:=Wk.hd L (o:=ok+i*5+1) ab (VZ U 1 4);have Z:addVar (varsOf vs (T.take i)) I[i].t.v=varsOf vs (T.take (i+1)):=by
    rw[X,Uc];rfl
   rw[Z]at r;have O:=zz r;clear r Z X V L U aa qR
   go_wp2_with (go_at_call 179;refine O.o.mono ?_;rintro e w2⟨rfl,aa,ae⟩)
   go_roundg (N-(i+1))
   case measure=>omega
   case rel=>exact⟨i+1,zd,rfl,ze,aa,HB.o.trans ae⟩
  ·obtain rfl:i=N:=zd;have ht:T.take i=T:=zpm (by rw[ah.o,HN.o];exact zoZ _);have hd:T.drop i=[]:=List.drop_eq_nil_of_le (by rw[ah.o,HN.o];exact zoZ _);have L:=HW.o;rw[ht,hd,zpa]at L;have af:=zz L;clear L ht hd HW;go_wp2
   go_loopg[6,39] N2 (fun gk s6 ak wx=>∃j:Nat,j<=N2/\gk=N2-j/\ak=.int .i64 (j:Int)/\Wk Y wx bt bl (varsOf vs (T++(q.take j).flatMap Li.zN)) ((q.drop j).flatMap Li.zN)/\Below Y.heap.size w wx)
   case atStart=>exact⟨0,zo5 _,rfl,rfl,by simpa using af.o,HB.o⟩
   case round=>
    clear HB af c1 c2;obtain⟨j,hj,rfl,rfl,hw,hB⟩:=hrel;have HW:=zz hw;have HB:=zz hB;obtain⟨-,c2⟩:=H0.o wr hw.below;clear hw hB
    by_cases ak:j<N2
    ·have R:j<q.length:=by rw[ad.o];exact ak
     obtain⟨bk,ok,rfl,ab,U⟩:=al.o.at Li.Yn j R;have X:(q.take (j+1)).flatMap Li.zN=(q.take j).flatMap Li.zN++q[j].zN:=by rw[zo4 R,zpq];simp
     have V:(q.drop j).flatMap Li.zN=q[j].zN++(q.drop (j+1)).flatMap Li.zN:=by rw[zpC R,zps]
     have L:=HW.o;rw[V]at L;have r:=zbc Y bt bl q[j] wr _ _ bk (ok+j*16) ab U (ac.o _ (zo3 R)) L;have Z:varsOf (varsOf vs (T++(q.take j).flatMap Li.zN)) q[j].zN=varsOf vs (T++(q.take (j+1)).flatMap Li.zN):=by
      rw[X,<-zpo,<-Uc]
     rw[Z]at r;have O:=zz r;clear r Z X V L U
     go_wp2_with (go_at_call 178;refine O.o.mono ?_;rintro e w2⟨rfl,aa,ae⟩)
     go_roundg (N2-(j+1))
     case measure=>omega
     case rel=>exact⟨j+1,zd,rfl,ze,aa,HB.o.trans ae⟩
    ·obtain rfl:j=N2:=zd;have ht:q.take j=q:=by rw[<-ad.o];exact zpz
     have hd:q.drop j=[]:=by rw[<-ad.o];exact List.drop_length
     have L:=HW.o;rw[ht,hd]at L;have r:=zz L;clear L ht hd HW;go_wp2;go_returns;exact⟨rfl,r.o,HB.o⟩
theorem TT(w:World)(Z:Value)(I:List Tm)(q:∀W r h,Wk w W r h [] I->Calls prog 178 #[Z,Jq r h] W (Jl w r h (varsOf [] I) [] W))(X:I.length<=1048576)(Y:∀t∈I,t.v.size<=maxLen):
 Calls prog 121 #[Z] w (Xo xC 9 1 (varsOf [] I) w):=by
 have Hw:=zz q;have Hl:=zz X;have Hs:=zz Y;clear q X Y;have aa:=@run_makeMap prog;obtain⟨r,h⟩:∃r,(((w.alloc (.cells #[.slice none 0 0] 86)).alloc (.map #[] 0)).alloc (.cells #[.map (some (w.heap.size+1))] 219))=r:=⟨_,rfl⟩;have N:zD r w.heap.size 86 #[.slice none 0 0]:=h▸((zD.new w _ _).alloc _).alloc _;have O:xv prog 9 r (w.heap.size+1) fun _=>none:=by
  have:=(xv.new (P:=prog) (k:=9) (w.alloc (.cells #[.slice none 0 0] 86)) 0).below (xo _ (.cells #[.map (some (w.heap.size+1))] 219));rw[<-h];simpa using this
 have L:zD r (w.heap.size+1+1) 219 #[.map (some (w.heap.size+1))]:=by
  have:=zD.new ((w.alloc (.cells #[.slice none 0 0] 86)).alloc (.map #[] 0)) 219 #[.map (some (w.heap.size+1))];rw[<-h];simpa using this
 have V:Bl w r:=h▸q6 (q6 (xo _ _));have U:=zz h;have R:Wk w r (w.heap.size+1+1) w.heap.size [] I:=⟨V,⟨w.heap.size+1,none,0,_,0,rfl,L,N,O,Vj.qC,Own.qC _,zd,zoZ _,zd,fun g hg=>by simp[zw]at hg⟩,by simpa using Hl.o,Hs.o⟩;have Hc:=zz (Hw.o r _ _ R);clear h N O L V R;go_enter func121,ntmps121
 go_wp2_with (go_at_call 178;rw[U.o];refine Hc.o.mono ?_;rintro e w4⟨rfl,h,O⟩;have⟨mb,A,L,f,n,R⟩:=h.vars;have cl:=R.l.cell 0;have V:=zz R;have N:=zz h.below;clear R h O)
 go_returns;exact⟨A,L,n,rfl,V.o.len,V.o.own,N.o,V.o.ge.2.2.2⟩
theorem znc(w:World)(x:At)(U:x.zO w)(R:x.args.length<=1048576)(V:∀t∈x.args,t.v.size<=maxLen):Calls prog 115 #[.agg x.cells.toArray] w (Xo xC 9 1 x.vars w):=by
 have r:=xo w (.cells x.cells.toArray 38);have H:=zz (TT (w.alloc (.cells x.cells.toArray 38)) (.iface 319 (.pointer (some ⟨w.heap.size,0,none⟩))) x.args (fun W L I h=>zc1 _ L I x W [] [] w.heap.size 0 zp (ZB w x.cells _) (U.below r) (by rw[zpw];exact h)) R V);clear U R V r;unfold At.vars;obtain⟨p,A,Y,q⟩:=x;go_enter func115,ntmps115
 go_wp2_with (go_at_call 121;refine H.o.mono ?_;rintro e w2⟨A2,r,Z,rfl,L,O,N,I⟩)
 go_returns;exact⟨A2,r,Z,rfl,L,O,q6 N,fun g X=>by have:=I g X;simp at this;omega⟩
theorem Tg(w:World)(x:Ex)(R:x.zO w)(O:x.zN.length<=1048576)(U:∀t∈x.zN,t.v.size<=maxLen):Calls prog 117 #[.agg x.cells.toArray] w (Xo xC 9 1 x.vars w):=by
 have q:=xo w (.cells x.cells.toArray 48);have H:=zz (TT (w.alloc (.cells x.cells.toArray 48)) (.iface 320 (.pointer (some ⟨w.heap.size,0,none⟩))) x.zN (fun W I r h=>Tx _ I r x W [] [] w.heap.size 0 zp (ZB w x.cells _) (R.below q) (by rw[zpw];exact h)) O U);clear R O U q;unfold Ex.vars;go_enter func117,ntmps117
 go_wp2_with (go_at_call 121;refine H.o.mono ?_;rintro e Z⟨Y,q,X,rfl,I,N,L,r⟩)
 go_returns;exact⟨Y,q,X,rfl,I,N,q6 L,fun g V=>by have:=r g V;simp at this;omega⟩
theorem Us(w:World)(x:Li)(R:x.zO w)(O:x.zN.length<=1048576)(U:∀t∈x.zN,t.v.size<=maxLen):Calls prog 103 #[.agg x.cells.toArray] w (Xo xC 9 1 x.vars w):=by
 have q:=xo w (.cells x.cells.toArray 50);have H:=zz (TT (w.alloc (.cells x.cells.toArray 50)) (.iface 197 (.pointer (some ⟨w.heap.size,0,none⟩))) x.zN (fun W I r h=>zbc _ I r x W [] [] w.heap.size 0 zp (ZB w x.cells _) (R.below q) (by rw[zpw];exact h)) O U);clear R O U q;unfold Li.vars;go_enter func103,ntmps103
 go_wp2_with (go_at_call 121;refine H.o.mono ?_;rintro e Z⟨Y,q,X,rfl,I,N,L,r⟩)
 go_returns;exact⟨Y,q,X,rfl,I,N,q6 L,fun g V=>by have:=r g V;simp at this;omega⟩
theorem zc8(w:World)(x:Ru)(V:x.zO w)(R:x.zN.length<=1048576)(X:∀t∈x.zN,t.v.size<=maxLen):Calls prog 63 #[.agg x.cells.toArray] w (Xo xC 9 1 x.vars w):=by
 have q:=xo w (.cells x.cells.toArray 25);have H:=zz (TT (w.alloc (.cells x.cells.toArray 25)) (.iface 243 (.pointer (some ⟨w.heap.size,0,none⟩))) x.zN (fun W I r h=>zk4 _ I r x W [] w.heap.size 0 zp (ZB w x.cells _) (V.below q) h) R X);clear V R X q;unfold Ru.vars;obtain⟨p,A,Z,U,B,zM,O⟩:=x;go_enter func63,ntmps63
 go_wp2_with (go_at_call 121;refine H.o.mono ?_;rintro e w2⟨A2,q,M2,rfl,I,N,L,r⟩)
 go_returns;exact⟨A2,q,M2,rfl,I,N,q6 L,fun g Y=>by have:=r g Y;simp at this;omega⟩
theorem zfm(w:World)(A:Option Addr)(cap:Nat)(l:List ByteArray)(h:zY xC w A l)(n:Nat)(hn:l.length=n)(hb:n<=4194304)(A2:Option Addr)(I:Nat)(L:List ByteArray)(h2:zY xC w A2 L)(V:Nat)(O:L.length=V)(Y:V<=4194304):
 Calls prog 134 #[.slice A n cap,.slice A2 V I] w fun e q=>e=.returned (.bool (tf (∀v∈l,v∈L)))/\q=w:=by
 have aa:=zz (fun s=>GR s w A2 I L h2 V O Y);have H:=zz h;have Hn:=zz hn;clear h hn h2 O;go_enter func134,ntmps134;go_wp2
 go_loopg[5] n (fun gk r q=>∃i:Nat,i<=n/\gk=n-i/\r=.int .i64 (i:Int)/\q=w/\∀j (h:j<l.length),j<i->l[j]∈L)
 case atStart=>exact⟨0,zo5 _,rfl,rfl,rfl,fun j _ h=>zd⟩
 case round=>
  obtain⟨i,hi,rfl,rfl,rfl,q⟩:=hrel;have r:=zz q;clear q
  by_cases W:i<n
  ·have N:i<l.length:=by rw[Hn.o];exact W
   obtain⟨b,o,rfl,ab,X⟩:=H.o.at Dn i N;have R:=zo3 N;generalize q:l[i]=u at X R;have Hu:=zz q;clear q
   replace X:wr.cell? ⟨b,o+i,none⟩=some (.string u):=by have:=X 0 _ rfl;simpa using this
   have q:=aa.o u
   by_cases e:u∈L
   ·rw[qs e]at q;have Z:=zz q;have He:=zz e;clear q e R
    go_wp2_with (go_at_call 138;refine Z.o.mono ?_;rintro e w1⟨rfl,rfl⟩)
    go_roundg (n-(i+1))
    case measure=>omega
    case rel=>exact⟨i+1,zd,rfl,ze,rfl,fun j U ac=>by
     by_cases ej:j=i
     ·subst ej;rw[Hu.o];exact He.o
     ·exact r.o j U zd⟩
   ·rw[qt e]at q;have Z:=zz q;have ht:tf (∀v∈l,v∈L)=false:=qt fun h=>e (h u R)
    have Ht:=zz ht;clear q e R ht
    go_wp2_with (go_at_call 138;refine Z.o.mono ?_;rintro e w1⟨rfl,rfl⟩)
    go_returns;exact⟨by rw[Ht.o];rfl,rfl⟩
  ·obtain rfl:i=n:=zd;have q:tf (∀v∈l,v∈L)=true:=qs fun v N=>by
    obtain⟨j,U,rfl⟩:=zpl.1 N;exact r.o j U (by rw[<-Hn.o];exact U)
   have N:=zz q;clear q;go_wp2;go_returns;exact⟨by rw[N.o];rfl,rfl⟩
def zdS(P:ByteArray->Prop)(w:World)(e:Ending)(w':World):Prop:=∃(v:ByteArray) (b:Bool),e=.returned (.tuple #[.string v,.bool b])/\(b=true->P v)/\Bl w w'
theorem znY(w:World)(x:Ex):Calls prog 240 #[.agg x.cells.toArray] w (zdS x.lone w):=by
 obtain⟨q,⟨v,k,n,s⟩,A,L,r⟩:=x;simp only[Ex.cells];obtain⟨N,I⟩:∃N,r.length=N:=⟨_,rfl⟩;rw[I];have O:=zz I;clear I;go_enter func240,ntmps240;go_wp2
 all_goals
  go_returns
  first
   |exact⟨_,false,rfl,fun h=>(by cases h),xo w _⟩
   |exact⟨v,true,rfl,fun _=>⟨za,zpI (by rw[O.o];omega),rfl,ne_nil ‹v.toList.isEmpty=false›,by have:=‹(v.toList==([95]:List UInt8))=false›;simpa using this⟩,xo w _⟩
theorem zbI(w:World)(x y:Ex)(hy:y.zO w)(R:y.zN.length<=1048576)(A:Option Addr)(cap:Nat)(l:List ByteArray)(h:zY xC w A l)(n:Nat)(hn:l.length=n)(hb:n<=4194304):
 Calls prog 195 #[.agg x.cells.toArray,.agg y.cells.toArray,.slice A n cap] w (zdS (fun v=>x.lone v/\v∉l/\∀u∈y.vars,u∈l) w):=by
 have ag:=zz (fun s W (q:Bl w W)=>GR s W A cap l (h.below q) n hn hb);have Hl:=zz (fun W=>znY W x);have Hv:=zz (fun W (q:Bl w W)=>zkS W y (hy.below q) R);have r:=zz (fun W (q:Bl w W) (B:Option Addr) (zM:Nat) (N:zY xC W B y.vars) m L I=>zfm W B zM y.vars N m L I A cap l (h.below q) n hn hb);have q:y.vars.length<=1048576:=by
  have:=Uk y.zN [];unfold Ex.vars;rw[zpF]at this;omega
 have U:=zz q;clear h hn hy R q;generalize y.vars=yv at Hv r U ⊢;obtain⟨q1,v1,k1,n1,s1,A1,N1,X,q2,v2,k2,n2,s2,A2,N2,Z,I,q⟩:=Li.JQ ⟨0,⟨⟨#[]⟩,none,0,[]⟩,0,x,y⟩;simp only at I q;rw[I]at Hl ⊢;rw[q]at Hv ⊢;clear I q;obtain⟨W2,q,I⟩:=ya w 48 48 #[.int .i8 q1,.string v1,.int .i8 k1,.int .i64 n1,.string s1,.slice A1 N1 X] #[.int .i8 q2,.string v2,.int .i8 k2,.int .i64 n2,.string s2,.slice A2 N2 Z];have HX:=zz I;have aa:=zz q;clear I q;go_enter func195,ntmps195
 go_wp2_with (first
  |(go_at_call 134;refine(r.o w3 I.o A3 O ad.o M3 af.o ac.o).mono ?_;rintro e w4⟨rfl,rfl⟩)
  |(go_at_call 241;refine(Hv.o _ q.o).mono ?_;rintro e w3⟨A3,O,M3,rfl,V,Y,ab,ah⟩;have ac:=zz (show M3<=4194304 by have:=U.o;omega);have af:=zz V;have ad:=zz Y.xI;have I:=zz (zu q.o ab);clear V Y)
  |(go_at_call 138;refine(ag.o _ _ q.o).mono ?_;rintro e w2⟨rfl,rfl⟩)
  |(go_at_call 240;refine(Hl.o _).mono ?_;rintro e w1⟨v,b1,rfl,ae,L⟩;rw[aa.o]at L;have q:=zz (zu HX.o.below L);have N:=HX.o.b1.below L;have c0:=N.cell 0;have c1:=N.cell 1;have c2:=N.cell 2;have c3:=N.cell 3;have c4:=N.cell 4;have c5:=N.cell 5))
 all_goals
  go_returns
  first
   |exact⟨_,true,rfl,fun _=>⟨ae za,JY.1 za,Zf.1 za⟩,I.o⟩
   |exact⟨_,false,rfl,fun h=>(by cases h),I.o⟩
   |exact⟨_,false,rfl,fun h=>(by cases h),q.o⟩
end
