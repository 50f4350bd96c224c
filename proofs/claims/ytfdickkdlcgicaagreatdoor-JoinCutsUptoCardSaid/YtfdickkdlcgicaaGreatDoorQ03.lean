/-
  Walks: the document's literal, rule, head. Walks: the terms 
-/
import Derived.Test.YtfdickkdlcgicaaGreatDoorQ02
set_option maxRecDepth 100000
set_option maxHeartbeats 8000000
set_option linter.all false
namespace Go.Proofs.YtfdickkdlcgicaaGreatDoor.C
open Go.Proofs.Tryz Go Go.RowKit Go.Maps Go.WideMaps
section
def Li.fits(x:Li):Prop:=x.a.p.size<=maxLen/\∀t∈x.zO,t.v.size<=maxLen
def Ru.fits(r:Ru):Prop:=r.p.size<=maxLen/\(∀x∈r.body,x.a.p.size<=maxLen)/\∀t∈r.zO,t.v.size<=maxLen
theorem Ru.zjn{r:Ru}(h:r.fits){x:Li}(q:x∈r.body):x.fits:=⟨h.2.1 x q,fun t I=>h.2.2 t (zpR _ (zqP.2 ⟨x,q,I⟩))⟩
theorem Ru.zjE{r:Ru}(h:r.fits){a:Ar}(q:a∈r.head):a.t.v.size<=maxLen:=h.2.2 _ (zp0 _ (zp8.2 ⟨a,q,rfl⟩))
theorem znt(w:World)(x:Li)(hl:x.zN w)(hf:x.fits):Calls prog 238 #[.agg x.cells.toArray] w (xZ x.ok w):=by
 obtain⟨k,⟨p,A,ab,O⟩,rl,l,r⟩:=x;obtain⟨U,I,q⟩:=hl;obtain⟨V,L⟩:=hf;unfold Li.zO at L;simp only at U I q V L;have Ha:=zz (fun W (R:Bl w W)=>zlk W _ (U.below R) V (fun t h=>L t (zp0 _ h)));have Hl:=zz (fun W=>zcq W l);have Hr:=zz (fun W=>zcq W r);have X:=zz (fun W (R:Bl w W)=>zaC 8 (zpx _) l W (I.below R) (fun t h=>L t (zpR _ (zp0 _ h))));have ad:=zz (fun W (R:Bl w W)=>zaC 8 (zpx _) r W (q.below R) (fun t h=>L t (zpR _ (zpR _ h))));clear U I q V L;obtain⟨q1,v1,Z,n1,s1,A1,N1,Y,q2,v2,V,n2,s2,A2,N2,ac,I,q⟩:=Li.J5 ⟨k,⟨p,A,ab,O⟩,rl,l,r⟩;simp only at I q;simp only[Li.cells,I,q,At.cells,zpJ,zpI]at Ha Hl Hr X ad ⊢;clear I q;obtain⟨N,q⟩:∃N,O.length=N:=⟨_,rfl⟩;rw[q]at Ha ⊢;have HN:=zz q;clear q;obtain⟨W0,q,I⟩:=Vx w #[.int .i8 k,.string p,.slice A N ab,.int .i8 rl,.int .i8 q1,.string v1,.int .i8 Z,.int .i64 n1,.string s1,.slice A1 N1 Y,.int .i8 q2,.string v2,.int .i8 V,.int .i64 n2,.string s2,.slice A2 N2 ac] 50;have L:=zz I;have aa:=zz q;clear I q
 by_cases U:k=1\/k=2
 ·rcases U with rfl|rfl
  all_goals
   go_enter func238,ntmps238
   go_wp2_with (first
    |(go_at_call 262;refine(Hr.o w2).mono ?_;rintro e w3⟨b3,rfl,k3,ag⟩)
    |(go_at_call 262;refine(Hl.o w1).mono ?_;rintro e w2⟨b2,rfl,V,R⟩;have I:=q.trans (R.mono q.size);have af:=L.o.at I 10;have ai:=L.o.at I 11;have ah:=L.o.at I 12;have ak:=L.o.at I 13;have ae:=L.o.at I 14;have aj:=L.o.at I 15)
    |(go_at_call 261;refine(Ha.o _ (xq _ _)).mono ?_;rintro e w1⟨b1,rfl,Z,q⟩;rw[aa.o]at q;have c3:=L.o.at q 3;have c4:=L.o.at q 4;have c5:=L.o.at q 5;have c6:=L.o.at q 6;have c7:=L.o.at q 7;have c8:=L.o.at q 8;have c9:=L.o.at q 9))
   all_goals
    go_returns
    first
     |exact xZ.no (L.o.in q)
     |exact xZ.no (L.o.in I)
     |exact xZ.may (fun h=>.inl ⟨by first|exact .inl rfl|exact .inr rfl,za,V za,k3 h,Z za⟩) (L.o.in (I.trans (ag.mono I.size)))
 ·have al:(k==1)=false:=beq_eq_false_iff_ne.2 fun h=>U (.inl h)
  have ag:(k==2)=false:=beq_eq_false_iff_ne.2 fun h=>U (.inr h)
  by_cases I:k=3
  ·subst I;have I:((3:Int)==3)=true:=rfl;go_enter func238,ntmps238
   go_wp2_with (first
    |(go_at_call 263;refine(ad.o w1 (L.o.in q)).mono ?_;rintro e w2⟨b2,rfl,V,R⟩)
    |(go_at_call 263;refine(X.o _ (xq _ _)).mono ?_;rintro e w1⟨b1,rfl,Z,q⟩;rw[aa.o]at q;have af:=L.o.at q 10;have ai:=L.o.at q 11;have ah:=L.o.at q 12;have ak:=L.o.at q 13;have ae:=L.o.at q 14;have aj:=L.o.at q 15))
   all_goals
    go_returns
    first
     |exact xZ.no (xq w _)
     |exact xZ.no (L.o.in q)
     |exact xZ.may (fun h=>.inr ⟨rfl,zcm za,zqg (by rw[HN.o];omega),za,za,Z za,V h⟩) (L.o.in (q.trans (R.mono q.size)))
  ·have q:(k==3)=false:=beq_eq_false_iff_ne.2 I;go_enter func238,ntmps238;go_wp2;go_returns;exact xZ.no (xq w _)
structure Ru.ok (r:Ru):Prop where
 name:Nm r.p
 XY:r.head.length<=24
 y8:r.body.length<=16
 head:∀a∈r.head,a.ok
 body:∀x∈r.body,x.ok
 vars:r.vars.length<=24
theorem zom(w:World)(r:Ru)(hl:r.zN w)(hf:r.fits)(hb:r.zO.length<=1048576):Calls prog 193 #[.agg r.cells.toArray] w (xZ r.ok w):=by
 have HV:=zz (fun W (O:Bl w W)=>zbC W r (hl.below O) hb);have Hn:=zz (fun W=>zan W r.p hf.1);have Ha:=zz (fun(a:Ar) (h:a∈r.head) W=>zm6 W a (Ru.zjE hf h));have Hx:=zz (fun(x:Li) (h:x∈r.body) W (O:Bl w W)=>znt W x ((hl.body x h).below O) (Ru.zjn hf h));have O:∀(h1:Nm r.p)(h2:r.head.length<=24)(h3:r.body.length<=16)(h4:∀a∈r.head,a.ok)(h5:∀x∈r.body,x.ok)(h6:r.vars.length<=24),r.ok:=fun h1 h2 h3 h4 h5 h6=>⟨h1,h2,h3,h4,h5,h6⟩
 have ag:=zz O;have Hh:=zz hl.head;have an:=zz hl.rd;have am:=hl.XY;have ao:=hl.y8;clear hl hf hb O;generalize r.vars=rv at HV ag;obtain⟨ok,O⟩:∃ok:Prop,r.ok=ok:=⟨_,rfl⟩;rw[O]at ag ⊢;clear O;obtain⟨p,B,zM,I,C,aj,L⟩:=r;simp only[Ru.cells]at *;obtain⟨N,O⟩:∃N,I.length=N:=⟨_,rfl⟩;rw[O]at am HV ⊢;have HN:=zz O;clear O;obtain⟨N2,O⟩:∃N,L.length=N:=⟨_,rfl⟩;rw[O]at ao HV ⊢;have ac:=zz O;clear O;obtain⟨W0,O,R⟩:=Vx w #[.string p,.slice B N zM,.slice C N2 aj] 25;have X:=zz R;have aq:=zz O;clear R O;go_enter func193,ntmps193
 go_wp2_with (go_at_call 136;refine(Hn.o _).mono ?_;rintro e w1⟨b1,rfl,O,V⟩;rw[aq.o]at V;have c1:=X.o.at V 1;have c2:=X.o.at V 2)
 ·go_returns;exact xZ.no (X.o.in V)
 ·go_returns;exact xZ.no (X.o.in V)
 ·go_returns;exact xZ.no (X.o.in V)
 obtain rfl:=‹b1=true›;have ak:N<=24:=zd;have ai:N2<=16:=zd;have K1:=zz (O rfl);clear O c1 c2
 go_loopg[3] N (fun gk O wx=>∃i:Nat,i<=N/\gk=N-i/\O=.int .i64 (i:Int)/\Bl W0 wx/\∀j (h:j<I.length),j<i->I[j].ok)
 case atStart=>exact⟨0,zpD _,rfl,rfl,V,fun j _ h=>zd⟩
 case round=>
  obtain⟨i,hi,rfl,rfl,R,U⟩:=hrel;have O:=zz U;have c1:=X.o.at R 1;clear U V
  by_cases ap:i<N
  ·have aa:i<I.length:=by rw[HN.o];exact ap
   obtain⟨b,o,rfl,hb,Z⟩:=(Hh.o.below (X.o.in R)).at Ar.xG i aa;have hk:=Ha.o _ (zpB aa);generalize ab:I[i]=t at Z hk;have ad:=zz ab;clear ab;obtain⟨g,⟨v,k,m,s⟩⟩:=t;simp only[Ar.cells,Tm.cells]at Z hk
   replace Z:wr.rangeAt b (o+i*5) _:=Z
   obtain⟨d0,d1,d2,d3,d4⟩:=ZY Z;have Hk:=zz hk;clear Z hk
   go_wp2_with (go_at_call 237;refine(Hk.o _).mono ?_;rintro e w2⟨q2,rfl,k2,Y⟩)
   ·go_returns;exact xZ.no (X.o.in (R.trans (Y.mono R.size)))
   ·have af:q2=true:=by simpa using ‹(!q2)=false›
    go_roundg (N-(i+1))
    case measure=>omega
    case rel=>exact⟨i+1,zd,rfl,ze,R.trans (Y.mono R.size),fun j hj ae=>by
     by_cases e:j=i
     ·subst e;rw[ad.o];exact k2 af
     ·exact O.o j hj zd⟩
  ·obtain rfl:i=N:=zd;have c2:=X.o.at R 2;have ae:=zz (show ∀a∈I,a.ok from fun a ha=>by
    obtain⟨j,hj,rfl⟩:=zpS.1 ha;exact O.o j hj (by rw[<-HN.o];exact hj))
   clear O;have ah:=zz R;clear R;go_wp2
   go_loopg[4] N2 (fun gk s4 wx=>∃j:Nat,j<=N2/\gk=N2-j/\s4=.int .i64 (j:Int)/\Bl W0 wx/\∀q (h:q<L.length),q<j->L[q].ok)
   case atStart=>exact⟨0,zpD _,rfl,rfl,ah.o,fun j _ h=>zd⟩
   case round=>
    clear c1 c2 ah;obtain⟨j,hj,rfl,rfl,R,U⟩:=hrel;have O:=zz U;have c2:=X.o.at R 2;clear U
    by_cases al:j<N2
    ·have aa:j<L.length:=by rw[ac.o];exact al
     obtain⟨b,o,rfl,hb,Z⟩:=(an.o.below (X.o.in R)).at Li.Yn j aa;have hk:=Hx.o _ (zpB aa) _ (X.o.in R);generalize ab:L[j]=x at Z hk;have ad:=zz ab
     replace Z:wr.rangeAt b (o+j*16) x.cells:=Z
     have Hr:=zz Z;have Hk:=zz hk;clear ab Z hk
     go_wp2_with (first
      |(refine xW 50 _ rfl ?_;refine wpList_load_mid rfl 50 _ rfl b (o+j*16) rfl x.cells _ Hr.o underlying50 rfl (q9 x) ?_)
      |(go_at_call 238;refine Hk.o.mono ?_;rintro e w2⟨q2,rfl,k2,Y⟩))
     ·go_returns;exact xZ.no (X.o.in (R.trans (Y.mono R.size)))
     ·have af:q2=true:=by simpa using ‹(!q2)=false›
      go_roundg (N2-(j+1))
      case measure=>omega
      case rel=>exact⟨j+1,zd,rfl,ze,R.trans (Y.mono R.size),fun q Z U=>by
       by_cases e:q=j
       ·subst e;rw[ad.o];exact k2 af
       ·exact O.o q Z zd⟩
    ·obtain rfl:j=N2:=zd;have U:=zz (show ∀a∈L,a.ok from fun a ha=>by
      obtain⟨j,hj,rfl⟩:=zpS.1 ha;exact O.o j hj (by rw[<-ac.o];exact hj))
     have c0:=X.o.at R 0;have c1:=X.o.at R 1;have Z:=zz (X.o.in R);clear O R
     go_wp2_with (go_at_call 29;refine(HV.o _ Z.o).mono ?_;rintro e w2⟨A2,ab,M2,rfl,aa,ad,Y,af⟩)
     go_returns;exact xZ.may (fun h=>ag.o K1.o (by rw[HN.o];exact ak) (by rw[ac.o];exact ai) ae.o U.o (by rw[aa];simp at h;omega)) (zl Z.o Y)
theorem zil(w:World)(r:Ru)(U:r.zN w)(R:r.fits)(O:r.zO.length<=1048576):Calls prog 133 #[.agg r.cells.toArray] w (Yf r.ok w):=by
 have H:=zz (fun W (h:Bl w W)=>zom W r (U.below h) R O);have X:=zz (fun W b=>zlb W b);clear U R O;obtain⟨L,h⟩:∃L:Prop,r.ok=L:=⟨_,rfl⟩;rw[h]at H ⊢;clear h;obtain⟨p,B,zM,q,C,V,h⟩:=r;simp only[Ru.cells]at *;generalize q.length=N at *;generalize h.length=Z at *;go_enter func133,ntmps133
 go_wp2_with (first
  |(go_at_call 193;refine(H.o _ (xq _ _)).mono ?_;rintro e w2⟨q2,rfl,Y,I⟩)
  |(go_at_call 192;refine(X.o _ _).mono ?_;rintro e w3⟨rfl,rfl⟩))
 all_goals
  go_returns
  first
   |exact Yf.no zr (yf I)
   |exact Yf.may (fun _=>Y za) (yf I)
def zkb(P:Prop)(w:World)(e:Ending)(w':World):Prop:=∃(q:ByteArray) (C:Option Addr) (n h:Nat) (b:Bool),e=.returned (.tuple #[.agg #[.string q,.slice C n h],.bool b])/\(b=true->P)/\Bl w w'
theorem zg1(w:World)(r:Ru)(hl:r.zN w)(hb:r.head.length<=1048576):Calls prog 39 #[.agg r.cells.toArray] w (zkb (∀a∈r.head,a.g=0) w):=by
 have Hh:=zz hl.head;have ar:=hl.XY;clear hl;obtain⟨p,B,zM,I,C,Z,am⟩:=r;simp only[Ru.cells]at *;obtain⟨N,q⟩:∃N,I.length=N:=⟨_,rfl⟩;rw[q]at ar hb ⊢;have HN:=zz q;clear q;obtain⟨N2,q⟩:∃N,am.length=N:=⟨_,rfl⟩;rw[q];clear q;obtain⟨W2,q,L⟩:=Vj w 25 38 38 #[.string p,.slice B N zM,.slice C N2 Z] #[.string ⟨#[]⟩,.slice none 0 0] #[.string p,.slice none 0 0];have U:=zz L;have aq:=zz q;clear L q;go_enter func39,ntmps39;go_wp2;rw[aq.o]
 go_loopg[3,5] N (fun gk R V O=>∃(i:Nat) (L:Option Addr) (q:Nat) (xs:List Tm),i<=N/\gk=N-i/\R=.bool false/\V=.int .i64 (i:Int)/\zD O w.heap.size 25 #[.string p,.slice B N zM,.slice C N2 Z]/\
  zD O (w.heap.size+1) 38 #[.string ⟨#[]⟩,.slice none 0 0]/\zD O (w.heap.size+1+1) 38 #[.string p,.slice L i q]/\xs.length=i/\Own Tm.cells 45 4 O L q xs/\(∀g∈zw L,W2.heap.size<=g)/\Bl w O/\W2.heap.size<=O.heap.size/\∀j (h:j<I.length),j<i->I[j].g=0)
 case atStart=>exact⟨0,none,0,[],zpD _,rfl,rfl,rfl,U.o.b0,U.o.b1,U.o.b2,rfl,Own.qz _,fun g hg=>by simp[zw]at hg,U.o.below,zpx _,fun j _ h=>zd⟩
 case round=>
  obtain⟨i,L,q,xs,hi,rfl,rfl,rfl,k0,k1,k2,X,ho,hg,hB,V,R⟩:=hrel;have c1:wr.cell? ⟨w.heap.size,1,none⟩=some (.slice B N zM):=k0.cell 1;have K0:=zz k0;have O:=zz k1;have K2:=zz k2;have ak:=zz X;have Ho:=zz ho;have Hg:=zz hg;have HB:=zz hB;have ag:=zz V;have Y:=zz R;clear k0 k1 k2 X ho hg hB V R
  by_cases au:i<N
  ·have az:i<I.length:=by rw[HN.o];exact au
   obtain⟨b,o,rfl,V,R⟩:=Hh.o.at Ar.xG i az;have R:=yB R HB.o V;have ax:=zz V;generalize X:I[i]=t at R;have aw:=zz X;clear X V;obtain⟨g5,⟨v,k,m,s⟩⟩:=t;simp only[Ar.cells,Tm.cells]at R
   replace R:wr.rangeAt b (o+i*5) _:=R
   have Hr:=zz R;obtain⟨d0,d1,d2,d3,d4⟩:=ZY R;clear R
   by_cases ad:g5=0
   ·subst ad;go_wp2;refine XT [0,1,0,1,0,0,0,1,2,2,0,3] 11 (fun W=>zh (fun g=>g∈zw L\/g=w.heap.size+1+1) wr W) (fun W=>W.heap[w.heap.size+1+1]? = wr.heap[w.heap.size+1+1]?) ?s0 ?s1 ?_
    case s0=>exact yw
    case s1=>rfl
    have av:b<w.heap.size:=ax.o;have ai:¬(b∈zw L\/b=w.heap.size+1+1):=fun h=>by
     rcases h with h|h
     ·have:=Hg.o b h;have:=U.o.size;omega
     ·omega
    have aa:¬(w.heap.size∈zw L\/w.heap.size=w.heap.size+1+1):=fun h=>by
     rcases h with h|h
     ·have:=Hg.o _ h;have:=U.o.size;omega
     ·omega
    have af:¬(w.heap.size+1∈zw L\/w.heap.size+1=w.heap.size+1+1):=fun h=>by
     rcases h with h|h
     ·have:=Hg.o _ h;have:=U.o.size;omega
     ·omega
    have ah:w.heap.size+1+1∉zw L:=fun h=>by have:=Hg.o _ h;have:=U.o.size;omega
    have an:b<wr.heap.size:=by have:=HB.o.size;omega
    have H0:=zz (show ∀W,zh (fun g=>g∈zw L\/g=w.heap.size+1+1) wr W->_ from fun W R=>
     zpG ((K0.o.zC R aa).cell 1) (ZY (UE Hr.o an R ai)))
    have H1:Kz (∀W:World,W.heap[w.heap.size+1+1]? = wr.heap[w.heap.size+1+1]?->_):=fun W R=>(K2.o.same R).cell 1
    clear c1 d0 d1 d2 d3 d4;try refine zQ ?_
    repeat refine xM H0.o H1.o ?_
    refine xf fun K R=>?_
    go_simp;refine R.out _ _ (((zh.refl _ _).drew).alloc _) (fun _=>by exact Below.heap_alloc _ _ _ K2.o.lt) ?_;clear R K;refine xf fun K R=>?_
    refine ZE _ _ rfl Jz (f:=Tm.cells) (xs:=xs) ?own ak.o ⟨v,k,m,s⟩ _ 0 1 rfl rfl rfl ?news ?one ?le zr ?_
    case own=>exact Ho.o.alloc _
    case news=>exact yt _ _ _ rfl
    case one=>simp[Value.oneCell']
    case le=>omega
    intro g ae w3 ao ab aj;have X:zh (fun g=>g∈zw L\/g=w.heap.size+1+1) wr w3:=(((zh.refl _ wr).drew).alloc _).trans ab (fun x hx _=>.inl hx);have ac:w3.heap[w.heap.size+1+1]? = wr.heap[w.heap.size+1+1]?:=(ab.block _ (by have:=K2.o.lt;simp;omega) ah).trans (Below.heap_alloc _ _ _ K2.o.lt);refine R.out _ _ X (fun _=>ac) ?_;clear R K;try refine zQ ?_
    repeat refine xM H0.o H1.o ?_
    refine Xf zj (fun K R=>?_);have V:=K2.o.same ac;have al:w3.cell? ⟨w.heap.size+1+1,1,none⟩=some (.slice L i q):=V.cell 1;have ap:=V.frozen 1;go_simp;refine R.out _ _ (X.setCell (fun _=>.inr rfl) _) ?_;clear R K al ap;refine xt ?_;have ay:=zz ao;have R:=zz X;have aC:=zz V;have aA:Kz (g∈zw L\/wr.heap.size<=g):=aj.imp id (fun h=>by simp at h;omega);have ap:=zz aa;have aB:=zz af;clear ao X ac V ab aj av ai aa af ah an H0 H1;go_wp2
    go_roundg (N-(i+1))
    case measure=>omega
    case rel=>
     have V:∀x∈zw (some ⟨g,0,none⟩),W2.heap.size<=x:=xY (by
      rcases aA.o with h|h
      ·exact Hg.o g h
      ·have:=ag.o;omega)
     refine⟨i+1,_,ae,xs++[⟨v,k,m,s⟩],zd,rfl,rfl,ze,(K0.o.zC R.o ap.o).X4 zb _,(O.o.zC R.o aB.o).X4 zp _,?_,by simp[ak.o],ay.o.same (fun x hx=>Below.heap_setCell _ _ _ _ (by have:=V x hx;have:=U.o.size;simp;omega)),V,
      ?_,?_,fun j hj X=>?_⟩
     ·exact aC.o.qI 1 _
     ·exact(R.o.qt HB.o (zpx _) (fun x hx=>by rcases hx with h|h;(have:=Hg.o x h;have:=U.o.size;omega);omega)).setCell zb _
     ·have:=R.o.size;have:=ag.o;simp[World.setCell];omega
     ·by_cases e:j=i
      ·subst e;rw[aw.o]
      ·exact Y.o j hj zd
   ·have ac:(g5 != 0)=true:=by simp[ad]
    clear ad;have aa:=O.o.frozen 0;have X:=O.o.frozen 1;have V:wr.cell? ⟨w.heap.size+1,0,none⟩=some (.string ⟨#[]⟩):=O.o.cell 0;have ab:wr.cell? ⟨w.heap.size+1,1,none⟩=some (.slice none 0 0):=O.o.cell 1;go_wp2;have kk:zD ((wr.setCell ⟨w.heap.size+1,0,none⟩ (.string ⟨#[]⟩)).setCell ⟨w.heap.size+1,1,none⟩ (.slice none 0 0)) (w.heap.size+1) 38 #[(.string ⟨#[]⟩),(.slice none 0 0)]:=(O.o.qI 0 _).qI 1 _;have R:Bl w ((wr.setCell ⟨w.heap.size+1,0,none⟩ (.string ⟨#[]⟩)).setCell ⟨w.heap.size+1,1,none⟩ (.slice none 0 0)):=(HB.o.setCell zp _).setCell zp _;clear V ab aa X;generalize(wr.setCell ⟨w.heap.size+1,0,none⟩ (.string ⟨#[]⟩)).setCell ⟨w.heap.size+1,1,none⟩ (.slice none 0 0)=W5 at kk R ⊢;have z0:W5.cell? ⟨w.heap.size+1,0,none⟩=some (.string ⟨#[]⟩):=kk.cell 0;have z1:W5.cell? ⟨w.heap.size+1,1,none⟩=some (.slice none 0 0):=kk.cell 1;refine bodyPost_ret (v:=.tuple #[.agg #[.string ⟨#[]⟩,.slice none 0 0],.bool false]) (by simp[results,results39,go_sem,z0,z1]) rfl ?_;exact⟨⟨#[]⟩,none,0,0,false,rfl,fun h=>(by cases h),R⟩
  ·obtain rfl:i=N:=zd;have ac:wr.cell? ⟨w.heap.size+1+1,0,none⟩=some (.string p):=K2.o.cell 0;have al:wr.cell? ⟨w.heap.size+1+1,1,none⟩=some (.slice L i q):=K2.o.cell 1;have aa:=O.o.frozen 0;have X:=O.o.frozen 1;have V:wr.cell? ⟨w.heap.size+1,0,none⟩=some (.string ⟨#[]⟩):=O.o.cell 0;have ab:wr.cell? ⟨w.heap.size+1,1,none⟩=some (.slice none 0 0):=O.o.cell 1;go_wp2;have kk:zD ((wr.setCell ⟨w.heap.size+1,0,none⟩ (.string p)).setCell ⟨w.heap.size+1,1,none⟩ (.slice L i q)) (w.heap.size+1) 38 #[(.string p),(.slice L i q)]:=(O.o.qI 0 _).qI 1 _;have R:Bl w ((wr.setCell ⟨w.heap.size+1,0,none⟩ (.string p)).setCell ⟨w.heap.size+1,1,none⟩ (.slice L i q)):=(HB.o.setCell zp _).setCell zp _;clear V ab aa X;generalize(wr.setCell ⟨w.heap.size+1,0,none⟩ (.string p)).setCell ⟨w.heap.size+1,1,none⟩ (.slice L i q)=W5 at kk R ⊢;have z0:W5.cell? ⟨w.heap.size+1,0,none⟩=some (.string p):=kk.cell 0;have z1:W5.cell? ⟨w.heap.size+1,1,none⟩=some (.slice L i q):=kk.cell 1;refine bodyPost_ret (v:=.tuple #[.agg #[.string p,.slice L i q],.bool true]) (by simp[results,results39,go_sem,z0,z1]) rfl ?_;exact⟨p,L,i,q,true,rfl,fun _ a V=>(by
    obtain⟨j,hj,rfl⟩:=zpS.1 V;exact Y.o j hj (by rw[<-HN.o];exact hj)),R⟩
abbrev JG(h q:Nat):Value:=.func (.func 179) #[] #[.pointer (some ⟨h,0,none⟩),.pointer (some ⟨q,0,none⟩)]
@[go_sem] theorem zoU(p:Option Addr)(w:World):(Instr.typeAssert (.iface 243 (.pointer p)) 20 243 true).run prog w=.ok (.tuple #[.pointer p,.bool true]) w:=zo
@[go_sem] theorem zpj(p:Option Addr)(w:World):(Instr.typeAssert (.iface 197 (.pointer p)) 20 243 true).run prog w=.ok (.tuple #[.pointer none,.bool false]) w:=zo
@[go_sem] theorem zpe(p:Option Addr)(w:World):(Instr.typeAssert (.iface 197 (.pointer p)) 20 197 true).run prog w=.ok (.tuple #[.pointer p,.bool true]) w:=zo
@[go_sem] theorem zoL(p:Option Addr)(w:World):(Instr.typeAssert (.iface 320 (.pointer p)) 20 243 true).run prog w=.ok (.tuple #[.pointer none,.bool false]) w:=zo
@[go_sem] theorem zoz(p:Option Addr)(w:World):(Instr.typeAssert (.iface 320 (.pointer p)) 20 197 true).run prog w=.ok (.tuple #[.pointer none,.bool false]) w:=zo
@[go_sem] theorem zpu(p:Option Addr)(w:World):(Instr.typeAssert (.iface 320 (.pointer p)) 20 320 true).run prog w=.ok (.tuple #[.pointer p,.bool true]) w:=zo
@[go_sem] theorem zpk(p:Option Addr)(w:World):(Instr.typeAssert (.iface 319 (.pointer p)) 20 243 true).run prog w=.ok (.tuple #[.pointer none,.bool false]) w:=zo
@[go_sem] theorem zoZ(p:Option Addr)(w:World):(Instr.typeAssert (.iface 319 (.pointer p)) 20 197 true).run prog w=.ok (.tuple #[.pointer none,.bool false]) w:=zo
@[go_sem] theorem zpa(p:Option Addr)(w:World):(Instr.typeAssert (.iface 319 (.pointer p)) 20 320 true).run prog w=.ok (.tuple #[.pointer none,.bool false]) w:=zo
@[go_sem] theorem zpo(p:Option Addr)(w:World):(Instr.typeAssert (.iface 319 (.pointer p)) 20 319 true).run prog w=.ok (.tuple #[.pointer p,.bool true]) w:=zo
theorem zkv(e:Ex)(l:List Ex):Ex.qq (e::l)=e.zO++Ex.qq l:=by rw[Ex.qq]
structure Wk (w0 w:World) (bt bl:Nat) (vs:List ByteArray) (ts:List Tm):Prop where
 below:Bl w0 w
 vars:zbe w0.heap.size w bt bl vs
 len:vs.length+ts.length<=1048576
 size:∀t∈ts,t.v.size<=maxLen
theorem Wk.hd{q w:World}{L I:Nat}{vs:List ByteArray}{t:Tm}{U:List Tm}(h:Wk q w L I vs (t::U)){b o:Nat}(O:b<q.heap.size)(Z:q.rangeAt b o t.cells):
 Calls prog 179 #[.pointer (some ⟨b,o,none⟩),.pointer (some ⟨L,0,none⟩),.pointer (some ⟨I,0,none⟩)] w fun e N=>e=.returned (.tuple #[])/\Wk q N L I (addVar vs t.v) U/\Below q.heap.size w N:=by
 have Y:=h.len;rw[zpV]at Y;refine(zg5 _ w L I vs h.vars b o t O (by have:=h.below.size;omega) h.below.size (yB Z h.below O) zd (h.size t zpP)).mono ?_;rintro e N⟨X,V,R⟩;exact⟨X,⟨h.below.trans R,V,by have:=(zcS vs t.v).2;omega,fun t W=>h.size t (zpQ _ W)⟩,R⟩
def JC(h:World)(I L:Nat)(vs:List ByteArray)(q:List Tm)(w:World)(e:Ending)(w':World):Prop:=e=.returned (.tuple #[])/\Wk h w' I L vs q/\Below h.heap.size w w'
theorem TS(O:World)(Y V:Nat)(x:Ex)(w:World)(vs:List ByteArray)(rest:List Tm)(b o:Nat)(hb:b<O.heap.size)(R:O.rangeAt b o x.cells)(hl:x.zN O)(h:Wk O w Y V vs (x.zO++rest)):
 Calls prog 178 #[.iface 320 (.pointer (some ⟨b,o,none⟩)),JG Y V] w (JC O Y V (varsOf vs x.zO) rest w):=by
 match x,R,hl,h with
 |.mk q ⟨v,k,n,s⟩ B zM I,R,hl,h=>
  have IH:=zz (show ∀k∈I,∀(w:World)(vs:List ByteArray)(rest:List Tm)(b o:Nat),b<O.heap.size->O.rangeAt b o k.cells->k.zN O->Wk O w Y V vs (k.zO++rest)->
   Calls prog 178 #[.iface 320 (.pointer (some ⟨b,o,none⟩)),JG Y V] w (JC O Y V (varsOf vs k.zO) rest w)from fun k hk w vs rest b o X L Z U=>TS O Y V k w vs rest b o X L Z U)
  unfold Ex.zN at hl;obtain⟨Z,ab,hk⟩:=hl;unfold Ex.zO at h ⊢;rw[VX];rw[zpJ]at h;have U:=h.hd hb (o:=o+1) (Ub R 1 4);simp only[Ex.cells]at R;obtain⟨N,X⟩:∃N,I.length=N:=⟨_,rfl⟩;rw[X]at R ab;have H0:Kz (∀W,Bl O W->W.cell? ⟨b,o+5,none⟩=some (.slice B N zM)):=fun W L=>yB R L hb 5 _ rfl
  have HN:=zz X;have HK:=zz Z;have Hk:=zz hk;have ag:=zz U;have L:=h.below;have HB:=zz L;clear X Z hk U R h L;go_enter func178,ntmps178
  go_wp2_with (go_at_call 179;refine ag.o.mono ?_;rintro e w1⟨rfl,L,U⟩;have c5:=H0.o w1 L.below)
  have ac:=zz L;have ai:=zz U;clear L U c5
  go_loopg[9,86] N (fun gk X L U=>∃i:Nat,i<=N/\gk=N-i/\L=.int .i64 (i:Int)/\Wk O U Y V (varsOf (addVar vs v) (Ex.qq (I.take i))) (Ex.qq (I.drop i)++rest)/\Below O.heap.size w U)
  case atStart=>exact⟨0,zpD _,rfl,rfl,by simpa[Ex.qq,varsOf]using ac.o,ai.o⟩
  case round=>
   obtain⟨i,hi,rfl,rfl,L,U⟩:=hrel;have HW:=zz L;have HB:=zz U;have c5:=H0.o wr L.below;clear L U ac
   by_cases af:i<N
   ·have U:i<I.length:=by rw[HN.o];exact af
    obtain⟨bk,ok,rfl,ah,R⟩:=HK.o.at Ex.xG i U;have hm:=zpB U;have aa:I.take (i+1)=I.take i++[I[i]]:=zpC U;have ad:I.drop i=I[i]::I.drop (i+1):=zqa U;have X:=HW.o;rw[ad]at X;have L:=IH.o I[i] hm wr _ (Ex.qq (I.drop (i+1))++rest) bk (ok+i*6) ah R (Ex.qG.mem Hk.o _ hm) (by
     rw[zkv,zpX]at X;exact X)
    have ae:varsOf (varsOf (addVar vs v) (Ex.qq (I.take i))) I[i].zO=varsOf (addVar vs v) (Ex.qq (I.take (i+1))):=by
     rw[aa,Ex.GI,Uo];simp[Ex.qq]
    rw[ae]at L;have Z:=zz L;clear L ae aa ad X R hm
    go_wp2_with (go_at_call 178;refine Z.o.mono ?_;rintro e w2⟨rfl,L,aa⟩)
    go_roundg (N-(i+1))
    case measure=>omega
    case rel=>exact⟨i+1,zd,rfl,ze,L,HB.o.trans aa⟩
   ·obtain rfl:i=N:=zd;have L:I.take i=I:=by rw[<-HN.o];exact zp5
    have hd:I.drop i=[]:=by rw[<-HN.o];exact List.drop_length
    have X:=HW.o;rw[L,hd]at X;have U:=zz X;clear X L hd HW;go_wp2;go_returns;exact⟨rfl,by simpa[Ex.qq]using U.o,HB.o⟩
termination_by x
decreasing_by
 have:=List.sizeOf_lt_of_mem hk
 simp_wf
 omega
theorem zdA(O:World)(bt bl:Nat)(x:At)(w:World)(vs:List ByteArray)(rest:List Tm)(b o:Nat)(hb:b<O.heap.size)(X:O.rangeAt b o x.cells)(hl:x.zN O)(h:Wk O w bt bl vs (x.args++rest)):
 Calls prog 178 #[.iface 319 (.pointer (some ⟨b,o,none⟩)),JG bt bl] w (JC O bt bl (varsOf vs x.args) rest w):=by
 obtain⟨p,A,ad,q⟩:=x;obtain⟨I,L⟩:=hl;simp only at I L h ⊢;simp only[At.cells]at X;obtain⟨N,R⟩:∃N,q.length=N:=⟨_,rfl⟩;rw[R]at X L;have H0:Kz (∀W,Bl O W->W.cell? ⟨b,o+1,none⟩=some (.slice A N ad)):=fun W U=>yB X U hb 1 _ rfl
 have HN:=zz R;have HK:=zz I;have Z:=zz h;have c1:=H0.o w h.below;clear R I X h;go_enter func178,ntmps178;go_wp2
 go_loopg[11,107] N (fun gk U I R=>∃i:Nat,i<=N/\gk=N-i/\I=.int .i64 (i:Int)/\Wk O R bt bl (varsOf vs (q.take i)) (q.drop i++rest)/\Below O.heap.size w R)
 case atStart=>exact⟨0,zpD _,rfl,rfl,by simpa[varsOf]using Z.o,Below.refl _ _⟩
 case round=>
  obtain⟨i,hi,rfl,rfl,I,R⟩:=hrel;have HW:=zz I;have HB:=zz R;have c1:=H0.o wr I.below;clear I R Z
  by_cases ac:i<N
  ·have R:i<q.length:=by rw[HN.o];exact ac
   obtain⟨bk,ok,rfl,ae,X⟩:=HK.o.at Tm.xG i R;have Y:q.take (i+1)=q.take i++[q[i]]:=zpC R;have aa:q.drop i=q[i]::q.drop (i+1):=zqa R;have V:=HW.o;rw[aa]at V;have I:=Wk.hd V (o:=ok+i*4) ae X;have ab:addVar (varsOf vs (q.take i)) q[i].v=varsOf vs (q.take (i+1)):=by
    rw[Y,Uo];rfl
   rw[ab]at I;have U:=zz I;clear I ab Y aa V X
   go_wp2_with (go_at_call 179;refine U.o.mono ?_;rintro e w2⟨rfl,I,Y⟩)
   go_roundg (N-(i+1))
   case measure=>omega
   case rel=>exact⟨i+1,zd,rfl,ze,I,HB.o.trans Y⟩
  ·obtain rfl:i=N:=zd;have I:q.take i=q:=by rw[<-HN.o];exact zp5
   have hd:q.drop i=[]:=by rw[<-HN.o];exact List.drop_length
   have V:=HW.o;rw[I,hd]at V;have R:=zz V;clear V I hd HW;go_wp2;go_returns;exact⟨rfl,R.o,HB.o⟩
theorem zbE(I:World)(U R:Nat)(x:Li)(w:World)(vs:List ByteArray)(rest:List Tm)(b o:Nat)(Z:b<I.heap.size)(hr:I.rangeAt b o x.cells)(Y:x.zN I)(h:Wk I w U R vs (x.zO++rest)):
 Calls prog 178 #[.iface 197 (.pointer (some ⟨b,o,none⟩)),JG U R] w (JC I U R (varsOf vs x.zO) rest w):=by
 unfold Li.zO at h ⊢;rw[zpX,zpX]at h;rw[Uo,Uo];have h1:=zdA I U R x.a w vs _ b (o+1) Z (Ub hr 1 2) Y.a h;have L:=Gw (xs:=[.int .i8 x.k,.string x.a.p,.slice x.a.A x.a.args.length x.a.cap,.int .i8 x.rl]) hr;have W:=zdl L;have O:=Gw L;rw[Ex.xG]at O;have X:=fun V N q=>TS I U R x.l V N (x.r.zO++rest) b (o+4) Z W Y.l q
 have h3:=fun V N q=>TS I U R x.r V N rest b (o+4+6) Z O Y.r q
 have H1:=zz h1;have H2:=zz X;have H3:=zz h3;clear h h1 X h3 hr L W O Y;go_enter func178,ntmps178
 go_wp2_with (first
  |(go_at_call 178;refine(H3.o w2 _ ac.o).mono ?_;rintro e w3⟨rfl,L,X⟩;have ab:=zz L;have aa:=zz (ae.o.trans X);clear L X)
  |(go_at_call 178;refine(H2.o V _ af.o).mono ?_;rintro e w2⟨rfl,N,O⟩;have ac:=zz N;have ae:=zz (ad.o.trans O);clear N O)
  |(go_at_call 178;refine H1.o.mono ?_;rintro e V⟨rfl,q,W⟩;have af:=zz q;have ad:=zz W;clear q W))
 go_returns;exact⟨rfl,ab.o,aa.o⟩
theorem zlC(Z:World)(bt bl:Nat)(x:Ru)(w:World)(vs:List ByteArray)(b o:Nat)(hb:b<Z.heap.size)(V:Z.rangeAt b o x.cells)(hl:x.zN Z)(h:Wk Z w bt bl vs x.zO):
 Calls prog 178 #[.iface 243 (.pointer (some ⟨b,o,none⟩)),JG bt bl] w (JC Z bt bl (varsOf vs x.zO) [] w):=by
 obtain⟨p,A,ao,L,B,zM,q⟩:=x;obtain⟨O,ah,U,aj,I⟩:=hl;unfold Ru.zO at h ⊢;simp only at O ah U aj I h ⊢;simp only[Ru.cells]at V;obtain⟨N,Y⟩:∃N,L.length=N:=⟨_,rfl⟩;obtain⟨N2,R⟩:∃N,q.length=N:=⟨_,rfl⟩;rw[Y]at V ah;rw[R]at V aj;obtain⟨T,X⟩:∃T,L.map (·.t)=T:=⟨_,rfl⟩;have HT:Kz (∀i (h:i<L.length),∃h':i<T.length,T[i]=L[i].t):=fun i h=>by subst X;exact⟨by simpa using h,zp⟩
 have ai:=zz (show T.length=L.length by subst X;simp);rw[X]at h ⊢;clear X;have H0:Kz (∀W,Bl Z W->W.cell? ⟨b,o+1,none⟩=some (.slice A N ao)/\W.cell? ⟨b,o+2,none⟩=some (.slice B N2 zM)):=fun W X=>⟨yB V X hb 1 _ rfl,yB V X hb 2 _ rfl⟩
 have HN:=zz Y;have ae:=zz R;have Hh:=zz O;have am:=zz U;have ad:=zz I;have ak:=zz h;obtain⟨c1,-⟩:=H0.o w h.below;clear Y R O U I V h;go_enter func178,ntmps178;go_wp2
 go_loopg[5,21] N (fun gk R I wx=>∃i:Nat,i<=N/\gk=N-i/\I=.int .i64 (i:Int)/\Wk Z wx bt bl (varsOf vs (T.take i)) (T.drop i++q.flatMap Li.zO)/\Below Z.heap.size w wx)
 case atStart=>exact⟨0,zpD _,rfl,rfl,by simpa[varsOf]using ak.o,Below.refl _ _⟩
 case round=>
  obtain⟨i,hi,rfl,rfl,hw,hB⟩:=hrel;have HW:=zz hw;have HB:=zz hB;obtain⟨c1,c2⟩:=H0.o wr hw.below;clear hw hB ak
  by_cases an:i<N
  ·have U:i<L.length:=by rw[HN.o];exact an
   obtain⟨bk,ok,rfl,ac,V⟩:=Hh.o.at Ar.xG i U;obtain⟨qY,ab⟩:=HT.o i U;have Y:T.take (i+1)=T.take i++[L[i].t]:=by rw[zpC qY,ab]
   have X:T.drop i=L[i].t::T.drop (i+1):=by rw[zqa qY,ab]
   have O:=HW.o;rw[X]at O;have I:=Wk.hd O (o:=ok+i*5+1) ac (Ub V 1 4);have aa:addVar (varsOf vs (T.take i)) L[i].t.v=varsOf vs (T.take (i+1)):=by
    rw[Y,Uo];rfl
   rw[aa]at I;have R:=zz I;clear I aa Y X O V ab qY
   go_wp2_with (go_at_call 179;refine R.o.mono ?_;rintro e w2⟨rfl,ab,af⟩)
   go_roundg (N-(i+1))
   case measure=>omega
   case rel=>exact⟨i+1,zd,rfl,ze,ab,HB.o.trans af⟩
  ·obtain rfl:i=N:=zd;have ht:T.take i=T:=zpT (by rw[ai.o,HN.o];exact zpx _);have hd:T.drop i=[]:=List.drop_eq_nil_of_le (by rw[ai.o,HN.o];exact zpx _);have O:=HW.o;rw[ht,hd,zpI]at O;have ag:=zz O;clear O ht hd HW;go_wp2
   go_loopg[6,39] N2 (fun gk s6 al wx=>∃j:Nat,j<=N2/\gk=N2-j/\al=.int .i64 (j:Int)/\Wk Z wx bt bl (varsOf vs (T++(q.take j).flatMap Li.zO)) ((q.drop j).flatMap Li.zO)/\Below Z.heap.size w wx)
   case atStart=>exact⟨0,zpD _,rfl,rfl,by simpa using ag.o,HB.o⟩
   case round=>
    clear HB ag c1 c2;obtain⟨j,hj,rfl,rfl,hw,hB⟩:=hrel;have HW:=zz hw;have HB:=zz hB;obtain⟨-,c2⟩:=H0.o wr hw.below;clear hw hB
    by_cases al:j<N2
    ·have U:j<q.length:=by rw[ae.o];exact al
     obtain⟨bk,ok,rfl,ac,V⟩:=am.o.at Li.Yn j U;have Y:(q.take (j+1)).flatMap Li.zO=(q.take j).flatMap Li.zO++q[j].zO:=by rw[zpC U,zp2];simp
     have X:(q.drop j).flatMap Li.zO=q[j].zO++(q.drop (j+1)).flatMap Li.zO:=by rw[zqa U,zpZ]
     have O:=HW.o;rw[X]at O;have I:=zbE Z bt bl q[j] wr _ _ bk (ok+j*16) ac V (ad.o _ (zpB U)) O;have aa:varsOf (varsOf vs (T++(q.take j).flatMap Li.zO)) q[j].zO=varsOf vs (T++(q.take (j+1)).flatMap Li.zO):=by
      rw[Y,<-zpX,<-Uo]
     rw[aa]at I;have R:=zz I;clear I aa Y X O V
     go_wp2_with (go_at_call 178;refine R.o.mono ?_;rintro e w2⟨rfl,ab,af⟩)
     go_roundg (N2-(j+1))
     case measure=>omega
     case rel=>exact⟨j+1,zd,rfl,ze,ab,HB.o.trans af⟩
    ·obtain rfl:j=N2:=zd;have ht:q.take j=q:=by rw[<-ae.o];exact zp5
     have hd:q.drop j=[]:=by rw[<-ae.o];exact List.drop_length
     have O:=HW.o;rw[ht,hd]at O;have I:=zz O;clear O ht hd HW;go_wp2;go_returns;exact⟨rfl,I.o,HB.o⟩
theorem Df(w:World)(iv:Value)(L:List Tm)(q:∀W I h,Wk w W I h [] L->Calls prog 178 #[iv,JG I h] W (JC w I h (varsOf [] L) [] W))(Y:L.length<=1048576)(Z:∀t∈L,t.v.size<=maxLen):
 Calls prog 121 #[iv] w (XA xD 9 1 (varsOf [] L) w):=by
 have Hw:=zz q;have Hl:=zz Y;have Hs:=zz Z;clear q Y Z;have aa:=@run_makeMap prog;obtain⟨I,h⟩:∃I,(((w.alloc (.cells #[.slice none 0 0] 86)).alloc (.map #[] 0)).alloc (.cells #[.map (some (w.heap.size+1))] 219))=I:=⟨_,rfl⟩;have O:zD I w.heap.size 86 #[.slice none 0 0]:=h▸((zD.new w _ _).alloc _).alloc _;have R:xv prog 9 I (w.heap.size+1) fun _=>none:=by
  have:=(xv.new (P:=prog) (k:=9) (w.alloc (.cells #[.slice none 0 0] 86)) 0).below (xq _ (.cells #[.map (some (w.heap.size+1))] 219));rw[<-h];simpa using this
 have N:zD I (w.heap.size+1+1) 219 #[.map (some (w.heap.size+1))]:=by
  have:=zD.new ((w.alloc (.cells #[.slice none 0 0] 86)).alloc (.map #[] 0)) 219 #[.map (some (w.heap.size+1))];rw[<-h];simpa using this
 have X:Bl w I:=h▸yf (yf (xq _ _));have V:=zz h;have U:Wk w I (w.heap.size+1+1) w.heap.size [] L:=⟨X,⟨w.heap.size+1,none,0,_,0,rfl,N,O,R,Vv.qz,Own.qz _,zd,zpx _,zd,fun g hg=>by simp[zw]at hg⟩,by simpa using Hl.o,Hs.o⟩;have Hc:=zz (Hw.o I _ _ U);clear h O R N X U;go_enter func121,ntmps121
 go_wp2_with (go_at_call 178;rw[V.o];refine Hc.o.mono ?_;rintro e w4⟨rfl,h,R⟩;have⟨mb,A,N,f,n,U⟩:=h.vars;have cl:=U.l.cell 0;have X:=zz U;have O:=zz h.below;clear U h R)
 go_returns;exact⟨A,N,n,rfl,X.o.len,X.o.own,O.o,X.o.ge.2.2.2⟩
theorem znK(w:World)(x:At)(V:x.zN w)(U:x.args.length<=1048576)(X:∀t∈x.args,t.v.size<=maxLen):Calls prog 115 #[.agg x.cells.toArray] w (XA xD 9 1 x.vars w):=by
 have I:=xq w (.cells x.cells.toArray 38);have H:=zz (Df (w.alloc (.cells x.cells.toArray 38)) (.iface 319 (.pointer (some ⟨w.heap.size,0,none⟩))) x.args (fun W N L h=>zdA _ N L x W [] [] w.heap.size 0 zp (ZK w x.cells _) (V.below I) (by rw[zp7];exact h)) U X);clear V U X I;unfold At.vars;obtain⟨p,A,Z,q⟩:=x;go_enter func115,ntmps115
 go_wp2_with (go_at_call 121;refine H.o.mono ?_;rintro e w2⟨A2,I,M2,rfl,N,R,O,L⟩)
 go_returns;exact⟨A2,I,M2,rfl,N,R,yf O,fun g Y=>by have:=L g Y;simp at this;omega⟩
theorem TG(w:World)(x:Ex)(U:x.zN w)(R:x.zO.length<=1048576)(V:∀t∈x.zO,t.v.size<=maxLen):Calls prog 117 #[.agg x.cells.toArray] w (XA xD 9 1 x.vars w):=by
 have q:=xq w (.cells x.cells.toArray 48);have H:=zz (Df (w.alloc (.cells x.cells.toArray 48)) (.iface 320 (.pointer (some ⟨w.heap.size,0,none⟩))) x.zO (fun W L I h=>TS _ L I x W [] [] w.heap.size 0 zp (ZK w x.cells _) (U.below q) (by rw[zp7];exact h)) R V);clear U R V q;unfold Ex.vars;go_enter func117,ntmps117
 go_wp2_with (go_at_call 121;refine H.o.mono ?_;rintro e w2⟨Z,q,Y,rfl,L,O,N,I⟩)
 go_returns;exact⟨Z,q,Y,rfl,L,O,yf N,fun g X=>by have:=I g X;simp at this;omega⟩
theorem UG(w:World)(x:Li)(U:x.zN w)(R:x.zO.length<=1048576)(V:∀t∈x.zO,t.v.size<=maxLen):Calls prog 103 #[.agg x.cells.toArray] w (XA xD 9 1 x.vars w):=by
 have q:=xq w (.cells x.cells.toArray 50);have H:=zz (Df (w.alloc (.cells x.cells.toArray 50)) (.iface 197 (.pointer (some ⟨w.heap.size,0,none⟩))) x.zO (fun W L I h=>zbE _ L I x W [] [] w.heap.size 0 zp (ZK w x.cells _) (U.below q) (by rw[zp7];exact h)) R V);clear U R V q;unfold Li.vars;go_enter func103,ntmps103
 go_wp2_with (go_at_call 121;refine H.o.mono ?_;rintro e w2⟨Z,q,Y,rfl,L,O,N,I⟩)
 go_returns;exact⟨Z,q,Y,rfl,L,O,yf N,fun g X=>by have:=I g X;simp at this;omega⟩
theorem zdI(w:World)(x:Ru)(X:x.zN w)(U:x.zO.length<=1048576)(Y:∀t∈x.zO,t.v.size<=maxLen):Calls prog 63 #[.agg x.cells.toArray] w (XA xD 9 1 x.vars w):=by
 have q:=xq w (.cells x.cells.toArray 25);have H:=zz (Df (w.alloc (.cells x.cells.toArray 25)) (.iface 243 (.pointer (some ⟨w.heap.size,0,none⟩))) x.zO (fun W L I h=>zlC _ L I x W [] w.heap.size 0 zp (ZK w x.cells _) (X.below q) h) U Y);clear X U Y q;unfold Ru.vars;obtain⟨p,A,aa,V,B,zM,R⟩:=x;go_enter func63,ntmps63
 go_wp2_with (go_at_call 121;refine H.o.mono ?_;rintro e w2⟨A2,q,M2,rfl,L,O,N,I⟩)
 go_returns;exact⟨A2,q,M2,rfl,L,O,yf N,fun g Z=>by have:=I g Z;simp at this;omega⟩
theorem zfX(w:World)(A:Option Addr)(cap:Nat)(l:List ByteArray)(h:zZ xD w A l)(n:Nat)(hn:l.length=n)(hb:n<=4194304)(A2:Option Addr)(L:Nat)(N:List ByteArray)(h2:zZ xD w A2 N)(W:Nat)(R:N.length=W)(Z:W<=4194304):
 Calls prog 134 #[.slice A n cap,.slice A2 W L] w fun e q=>e=.returned (.bool (tf (∀v∈l,v∈N)))/\q=w:=by
 have aa:=zz (fun s=>Tc s w A2 L N h2 W R Z);have H:=zz h;have Hn:=zz hn;clear h hn h2 R;go_enter func134,ntmps134;go_wp2
 go_loopg[5] n (fun gk I q=>∃i:Nat,i<=n/\gk=n-i/\I=.int .i64 (i:Int)/\q=w/\∀j (h:j<l.length),j<i->l[j]∈N)
 case atStart=>exact⟨0,zpD _,rfl,rfl,rfl,fun j _ h=>zd⟩
 case round=>
  obtain⟨i,hi,rfl,rfl,rfl,q⟩:=hrel;have I:=zz q;clear q
  by_cases X:i<n
  ·have O:i<l.length:=by rw[Hn.o];exact X
   obtain⟨b,o,rfl,ab,Y⟩:=H.o.at DE i O;have U:=zpB O;generalize q:l[i]=u at Y U;have Hu:=zz q;clear q
   replace Y:wr.cell? ⟨b,o+i,none⟩=some (.string u):=by have:=Y 0 _ rfl;simpa using this
   have q:=aa.o u
   by_cases e:u∈N
   ·rw[qs e]at q;have Hi:=zz q;have He:=zz e;clear q e U
    go_wp2_with (go_at_call 138;refine Hi.o.mono ?_;rintro e w1⟨rfl,rfl⟩)
    go_roundg (n-(i+1))
    case measure=>omega
    case rel=>exact⟨i+1,zd,rfl,ze,rfl,fun j V ac=>by
     by_cases ej:j=i
     ·subst ej;rw[Hu.o];exact He.o
     ·exact I.o j V zd⟩
   ·rw[qu e]at q;have Hi:=zz q;have ht:tf (∀v∈l,v∈N)=false:=qu fun h=>e (h u U)
    have Ht:=zz ht;clear q e U ht
    go_wp2_with (go_at_call 138;refine Hi.o.mono ?_;rintro e w1⟨rfl,rfl⟩)
    go_returns;exact⟨by rw[Ht.o];rfl,rfl⟩
  ·obtain rfl:i=n:=zd;have q:tf (∀v∈l,v∈N)=true:=qs fun v O=>by
    obtain⟨j,V,rfl⟩:=zpS.1 O;exact I.o j V (by rw[<-Hn.o];exact V)
   have O:=zz q;clear q;go_wp2;go_returns;exact⟨by rw[O.o];rfl,rfl⟩
def zes(P:ByteArray->Prop)(w:World)(e:Ending)(w':World):Prop:=∃(v:ByteArray) (b:Bool),e=.returned (.tuple #[.string v,.bool b])/\(b=true->P v)/\Bl w w'
theorem zow(w:World)(x:Ex):Calls prog 240 #[.agg x.cells.toArray] w (zes x.lone w):=by
 obtain⟨q,⟨v,k,n,s⟩,A,O,I⟩:=x;simp only[Ex.cells];obtain⟨N,L⟩:∃N,I.length=N:=⟨_,rfl⟩;rw[L];have R:=zz L;clear L;go_enter func240,ntmps240;go_wp2
 all_goals
  go_returns
  first
   |exact⟨_,false,rfl,fun h=>(by cases h),xq w _⟩
   |exact⟨v,true,rfl,fun _=>⟨za,zqg (by rw[R.o];omega),rfl,ne_nil ‹v.toList.isEmpty=false›,by have:=‹(v.toList==([95]:List UInt8))=false›;simpa using this⟩,xq w _⟩
theorem zce(w:World)(x y:Ex)(hy:y.zN w)(U:y.zO.length<=1048576)(A:Option Addr)(cap:Nat)(l:List ByteArray)(h:zZ xD w A l)(n:Nat)(hn:l.length=n)(hb:n<=4194304):
 Calls prog 195 #[.agg x.cells.toArray,.agg y.cells.toArray,.slice A n cap] w (zes (fun v=>x.lone v/\v∉l/\∀u∈y.vars,u∈l) w):=by
 have ah:=zz (fun s W (q:Bl w W)=>Tc s W A cap l (h.below q) n hn hb);have Hl:=zz (fun W=>zow W x);have Hv:=zz (fun W (q:Bl w W)=>zlq W y (hy.below q) U);have I:=zz (fun W (q:Bl w W) (B:Option Addr) (zM:Nat) (O:zZ xD W B y.vars) m N L=>zfX W B zM y.vars O m N L A cap l (h.below q) n hn hb);have q:y.vars.length<=1048576:=by
  have:=Ux y.zO [];unfold Ex.vars;rw[zqd]at this;omega
 have V:=zz q;clear h hn hy U q;generalize y.vars=yv at Hv I V ⊢;obtain⟨q1,v1,k1,n1,s1,A1,N1,Y,q2,v2,k2,n2,s2,A2,N2,aa,L,q⟩:=Li.J5 ⟨0,⟨⟨#[]⟩,none,0,[]⟩,0,x,y⟩;simp only at L q;rw[L]at Hl ⊢;rw[q]at Hv ⊢;clear L q;obtain⟨W2,q,L⟩:=yb w 48 48 #[.int .i8 q1,.string v1,.int .i8 k1,.int .i64 n1,.string s1,.slice A1 N1 Y] #[.int .i8 q2,.string v2,.int .i8 k2,.int .i64 n2,.string s2,.slice A2 N2 aa];have HX:=zz L;have ab:=zz q;clear L q;go_enter func195,ntmps195
 go_wp2_with (first
  |(go_at_call 134;refine(I.o w3 L.o A3 R ae.o M3 ag.o ad.o).mono ?_;rintro e w4⟨rfl,rfl⟩)
  |(go_at_call 241;refine(Hv.o _ q.o).mono ?_;rintro e w3⟨A3,R,M3,rfl,X,Z,ac,ai⟩;have ad:=zz (show M3<=4194304 by have:=V.o;omega);have ag:=zz X;have ae:=zz Z.xI;have L:=zz (zl q.o ac);clear X Z)
  |(go_at_call 138;refine(ah.o _ _ q.o).mono ?_;rintro e w2⟨rfl,rfl⟩)
  |(go_at_call 240;refine(Hl.o _).mono ?_;rintro e w1⟨v,b1,rfl,af,N⟩;rw[ab.o]at N;have q:=zz (zl HX.o.below N);have O:=HX.o.b1.below N;have c0:=O.cell 0;have c1:=O.cell 1;have c2:=O.cell 2;have c3:=O.cell 3;have c4:=O.cell 4;have c5:=O.cell 5))
 all_goals
  go_returns
  first
   |exact⟨_,true,rfl,fun _=>⟨af za,Gc.1 za,Zn.1 za⟩,L.o⟩
   |exact⟨_,false,rfl,fun h=>(by cases h),L.o⟩
   |exact⟨_,false,rfl,fun h=>(by cases h),q.o⟩
end
