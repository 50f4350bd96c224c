/-
  Walks: what a body limits.
-/
import Derived.Test.YtfdickkdlcgicaaGreatDoorP04
set_option maxRecDepth 100000
set_option maxHeartbeats 8000000
set_option linter.all false
namespace Go.Proofs.YtfdickkdlcgicaaGreatDoor.C
open Go.Proofs.Tryz Go Go.RowKit Go.Maps Go.WideMaps
variable {A R:Option Addr}{N O cap n q:Nat}{f:Value->Option Value}{vs:List ByteArray}{w w':World}
section
theorem ZN.below{U V L:Nat}{es:List qx}(h:ZN N w U V L R q es O A cap f vs n)(I:Bl w w'):ZN N w' U V L R q es O A cap f vs n:=
 ⟨h.len,h.r.below I,h.own.below I,h.yO.below I,fun e W=>⟨(h.zO e W).a.below I,(h.zO e W).b.below I⟩,h.ok,h.apart,h.ge⟩
theorem ZN.add{W:Nat}{rb:Nat}{es:List qx}{Z:Nat}{A':Option Addr}{cap':Nat}{f':Value->Option Value}{L:List ByteArray}{X:Nat}(h:ZN W w rb O N R q es Z A cap f vs n)(hF:Xd W w' O N A' cap' f' L X)(U:zh (YH O N A) w w')(hA:∀g∈zw A',g∈zw A\/w.heap.size<=g):ZN W w' rb O N R q es Z A' cap' f' L X:=
 ⟨h.len,h.r.zC U (h.yO.GF h.r),h.own.zC U (h.yO.Ga h.own),hF,fun e I=>(h.zO e I).zC U (h.apart e I),h.ok,fun e I g Y hS=>by
  have V:=h.apart e I g Y;have h2:=(h.zO e I).lt g Y
  rcases hS with I|I|I
  ·exact V (.inl I)
  ·exact V (.inr (.inl I))
  ·rcases hA g I with I|I
   ·exact V (.inr (.inr I))
   ·omega,h.ge⟩
theorem zne{I:Nat}{r:Nat}(h:Xd I w r q A cap f vs n):∀g,YH r q A g->I<=g:=by
 rintro g (rfl|rfl|L)
 ·exact h.ge.1
 ·exact h.ge.2.1
 ·exact h.ge.2.2 g L
structure qx.of (e:qx) (x:Li):Prop where
 l:e.l=x.l.Xm
 r:e.r=x.r.Xm
 vl:e.vl=x.l.vars
 vr:e.vr=x.r.vars
theorem Ex.zaw{e:Ex}(h:e.Xm.toList≠[]):e.Xm∈e.vars:=(Ex.V9 (Ex.zkl h)).2 rfl
theorem Ex.zaP{e:Ex}(r:∀t∈e.zN,t.v.size<=maxLen):∀u∈e.vars,u.size<=maxLen:=fun u h=>by
 obtain⟨_,t,q,rfl⟩:=Ex.qJ.1 h;exact r t q
theorem Ex.zb5{e:Ex}(q:∀t∈e.zN,t.v.size<=maxLen):e.Xm.size<=maxLen:=by
 by_cases h:e.Xm.toList=[]
 ·rw[Gz h];exact zo5 _
 ·exact Ex.zaP q _ (Ex.zaw h)
theorem YL(h:List Tm):(varsOf [] h).length<=h.length:=by
 have:=Uk h [];rw[zpF]at this;omega
theorem qx.of.ok{e:qx}{x:Li}(h:e.of x)(O:∀t∈x.zN,t.v.size<=maxLen)(N:x.zN.length<=1048576):e.ok:=by
 have I:∀t∈x.l.zN,t.v.size<=maxLen:=fun t q=>O t (zpk _ (zpu _ q))
 have L:∀t∈x.r.zN,t.v.size<=maxLen:=fun t q=>O t (zpk _ (zpk _ q))
 have U:=YL x.l.zN;have R:=YL x.r.zN;unfold Li.zN at N;simp only[zo1]at N;exact⟨h.l▸Ex.zb5 I,h.r▸Ex.zb5 L,h.vl▸Ex.zaP I,h.vr▸Ex.zaP L,by rw[h.vl];unfold Ex.vars;omega,by rw[h.vr];unfold Ex.vars;omega,
  fun q=>by rw[h.l]at q ⊢;rw[h.vl];exact Ex.zaw q,fun q=>by rw[h.r]at q ⊢;rw[h.vr];exact Ex.zaw q⟩
theorem zl2{body:List Li}(Z:∀x∈body,x.k=1->∀v∈x.a.vars,v∈vs)(Y:∀x∈body,x.k=3->x.rl=1->∃e:qx,e.of x/\e.shut vs):∀v,yl body v->v∈vs:=fun v W=>by
 induction W with
 |atom L q W=>exact Z _ L q _ W
 |left L q R O _ X=>
  obtain⟨e,h,V⟩:=Y _ L q R;obtain⟨I,N⟩:=Ex.zff O;have:=V.1 (by rw[h.l,I];exact N) (fun u U=>X u (h.vr▸U));rw[h.l,I]at this;exact this
 |right L q R O _ X=>
  obtain⟨e,h,V⟩:=Y _ L q R;obtain⟨I,N⟩:=Ex.zff O;have:=V.2 (by rw[h.r,I];exact N) (fun u U=>X u (h.vl▸U));rw[h.r,I]at this;exact this
theorem qx.done.shut{e:qx}(h:e.done vs):e.shut vs:=⟨fun q _=>h.1 q,fun q _=>h.2 q⟩
structure Lm (w wx:World) (body:List Li) (i:Nat) (rb fb mb:Nat) (R:Option Addr) (capR:Nat) (es:List qx) (nr:Nat) (A:Option Addr) (cap:Nat) (f:Value->Option Value) (vs:List ByteArray) (n:Nat):Prop where
 rg:ZN w.heap.size wx rb fb mb R capR es nr A cap f vs n
 below:Bl w wx
 atoms:∀x∈body.take i,x.k=1->∀v∈x.a.vars,v∈vs
 eqs:∀x∈body.take i,x.k=3->x.rl=1->∃e∈es,e.of x
 sum:vs.length+nr<=((body.take i).flatMap Li.zN).length+i
def zk0(body:List Li)(w:World)(e:Ending)(w':World):Prop:=
 ∃q h,e=.returned (.pointer (some ⟨q,0,none⟩))/\VW w.heap.size w' q h/\(∀v,yl body v->v∈h)/\h.length<=2097152/\Bl w w'
theorem zgG(w:World)(B:Option Addr)(zM nb:Nat)(body:List Li)(hn:body.length=nb)(h:Bd w B body)(hs:∀x∈body,∀t∈x.zN,t.v.size<=maxLen)(hb:nb<=1048576):
 Calls prog 61 #[.slice B nb zM] w (zk0 body w):=by
 have a2:=@run_makeMap prog;have aG:=h.len;have H:=zz h;have Hs:=zz hs;have HN:=zz hn;rw[hn]at aG;clear h hs hn;obtain⟨W3,I⟩:∃W3,(((w.alloc (.map #[] 0)).alloc (.cells #[.slice none 0 0,.map (some w.heap.size)] 230)).alloc (.cells #[.slice none 0 0] 233))=W3:=⟨_,rfl⟩;have q:xv prog 9 W3 w.heap.size fun _=>none:=by
  rw[<-I];exact((xv.new (P:=prog) (k:=9) w 0).below (xo _ _)).below (xo _ _)
 have V:zD W3 (w.heap.size+1) 230 #[.slice none 0 0,.map (some w.heap.size)]:=by
  have:=(zD.new (w.alloc (.map #[] 0)) 230 #[.slice none 0 0,.map (some w.heap.size)]).alloc (.cells #[.slice none 0 0] 233);rw[I]at this;simpa using this
 have O:zD W3 (w.heap.size+1+1) 233 #[.slice none 0 0]:=by
  have:=zD.new ((w.alloc (.map #[] 0)).alloc (.cells #[.slice none 0 0,.map (some w.heap.size)] 230)) 233 #[.slice none 0 0];rw[I]at this;simpa using this
 have N:Bl w W3:=I▸q6 (q6 (xo _ _));have L:Lm w W3 body 0 (w.heap.size+1+1) (w.heap.size+1) w.heap.size none 0 [] 0 none 0 (fun _=>none) [] 0:=
  ⟨⟨rfl,O,Own.qC _,⟨rfl,V,q,Vj.qC,Own.qC _,zd,zoZ _,fun g U=>by simp[zw]at U⟩,fun e he=>(by cases he),fun e he=>(by cases he),fun e he=>(by cases he),zd,fun g U=>by simp[zw]at U⟩,N,fun x hx=>(by simp at hx),fun x hx=>(by simp at hx),zo5 _⟩
 have aK:=zz L;have aS:=zz I;clear I q V O N L;go_enter func61,ntmps61;go_wp2;rw[aS.o]
 go_loopg[6,12] nb (fun gk L I wx=>∃(i:Nat) (R:Option Addr) (V:Nat) (es:List qx) (nr:Nat) (A:Option Addr) (Y:Nat) (f:Value->Option Value) (vs:List ByteArray) (n:Nat),i<=nb/\gk=nb-i/\I=.int .i64 (i:Int)/\Lm w wx body i (w.heap.size+1+1) (w.heap.size+1) w.heap.size R V es nr A Y f vs n)
 case atStart=>exact⟨0,none,0,[],0,none,0,_,[],0,zo5 _,rfl,rfl,aK.o⟩
 case round=>
  obtain⟨i,R,V,es,nr,A,Y,f,vs,n,hi,rfl,rfl,hL⟩:=hrel;have X:=zz hL;clear hL aK
  by_cases aP:i<nb
  ·have aF:i<body.length:=by rw[HN.o];exact aP
   obtain⟨b,o,rfl,a1,hr⟩:=(H.o.rd.below X.o.below).at Li.Yn i aF;have q:=zo3 aF;have I:=(H.o.zO _ q).below X.o.below;have L:=H.o.le q;have O:=Hs.o _ q;have N:body.take (i+1)=body.take i++[body[i]]:=zo4 aF;generalize body[i]=x at hr q I L O N
   replace hr:wr.rangeAt b (o+i*16) x.cells:=hr
   have Hr:=zz hr;have aa:=zz N;have aC:=zz I;have ar:=zz O;have aq:=zz L;clear hr N I O L q
   go_wp2_with (first
    |(refine xV 50 _ rfl ?_;refine wpList_load_mid rfl 50 _ rfl b (o+i*16) rfl x.cells _ Hr.o underlying50 rfl (qV x) ?_)
    |(refine xy 50 _ _ rfl ?_;refine XE rfl 50 _ _ rfl _ x.cells rfl rfl ?z (qV x) ?one ?_))
   case z=>rw[Li.xF];rfl
   case one=>exact x.Yh
   intro W5 O;have c0:W5.cell? ⟨wr.heap.size,0,none⟩=some (.int .i8 x.k):=O.b0.cell 0;have c1:W5.cell? ⟨wr.heap.size,1,none⟩=some (.string x.a.p):=O.b0.cell 1;have c2:W5.cell? ⟨wr.heap.size,2,none⟩=some (.slice x.a.A x.a.args.length x.a.cap):=O.b0.cell 2;have c3:W5.cell? ⟨wr.heap.size,3,none⟩=some (.int .i8 x.rl):=O.b0.cell 3;have ay:=zz (zu X.o.below O.below);have ag:=zz (X.o.rg.below O.below)
   by_cases N:x.k=1
   ·have k1:(x.k==1)=true:=by simp[N]
    have I:∀u∈x.a.vars,u.size<=maxLen:=fun u hu=>by
     obtain⟨_,t,ht,rfl⟩:=At.qJ.1 hu;exact ar.o t (zpu _ ht)
    have L:=znc W5 x.a (aC.o.a.below O.below) (by have:=aq.o;unfold Li.zN at this;rw[zo1]at this;omega) (fun t ht=>ar.o t (zpu _ ht));have ak:=zz L;have an:=zz I;have al:Kz (x.a.vars.length<=x.a.args.length):=YL _;have hK:=zz N;have q:n+x.a.vars.length<=4194304:=by
     have h1:=X.o.sum;have h2:=X.o.rg.yO.len;have h4:x.a.vars.length<=x.a.args.length:=YL _;have h5:=H.o.zN;have h6:=aa.o;have h7:(body.take (i+1)).flatMap Li.zN <+: body.flatMap Li.zN:=by
      conv=>rhs;rw[<-zpL (i+1) body]
      rw[zpq];exact List.prefix_append _ _
     have h8:=h7.length_le;have Z:=aq.o;unfold Li.zN at Z;rw[zo1]at Z;rw[h6,zpq,zo1]at h8;omega
    have ao:=zz q;clear L I O N q
    go_wp2_with (first
     |(go_at_call 115;refine ak.o.mono ?_;rintro e w6⟨A3,Z,M3,rfl,ab,ae,q,ac⟩;have L:=zz (ag.o.below q);have ah:=zz (zu ay.o q);have ai:=zz ab;have ap:=zz ae;have au:Kz (∀g∈zw A3,¬YH (w.heap.size+1) w.heap.size A g):=(fun g U hS=>by have:=ag.o.yO.lt g hS;have:=ac g U;omega);clear ab ae q ac)
     |(go_at_call 114;refine(TK w.heap.size _ _ _ A Y f vs n ah.o.size L.o.yO A3 Z M3 x.a.vars ai.o (fun W hW=>(ap.o.zC hW au.o).xI) an.o (by have:=ai.o;have:=ao.o;omega)).mono ?_;rintro e w7⟨rfl,A7,af,f7,n7,aj,ad,am⟩))
    go_roundg (nb-(i+1))
    case measure=>omega
    case rel=>
     have az:=L.o.add aj ad am;refine⟨i+1,R,V,es,nr,A7,af,f7,_,n7,zd,rfl,ze,az,ah.o.trans (ad.below ah.o.size (zne L.o.yO)),fun y I N v hv=>?_,fun y I N hr=>?_,?_⟩
     ·rw[aa.o]at I
      rcases zo7.1 I with I|I
      ·exact mem_grow.2 (.inl (X.o.atoms y I N v hv))
      ·rw[zo2.1 I]at hv;exact mem_grow.2 (.inr hv)
     ·rw[aa.o]at I
      rcases zo7.1 I with I|I
      ·exact X.o.eqs y I N hr
      ·rw[zo2.1 I,hK.out]at N;cases N
     ·have h1:=X.o.sum;have h2:=(D7 x.a.vars vs).2;have h3:=al.o;rw[aa.o,zpq,zo1,zqx];unfold Li.zN;simp only[zo1];unfold Li.zN at h1;omega
   ·have k1:(x.k==1)=false:=by simp[N]
    by_cases ae:x.k=3/\x.rl=1
    ·obtain⟨q1,v1,aY,n1,s1,A1,N1,aj,q2,v2,aV,n2,s2,A2,N2,aL,ai,ac⟩:=Li.JQ x;have k3:(x.k==3)=true:=by simp[ae.1]
     have kr:(x.rl==1)=true:=by simp[ae.2]
     have an:x.cells.toArray=#[.int .i8 x.k,.string x.a.p,.slice x.a.A x.a.args.length x.a.cap,.int .i8 x.rl,.int .i8 q1,.string v1,.int .i8 aY,.int .i64 n1,.string s1,.slice A1 N1 aj,.int .i8 q2,.string v2,.int .i8 aV,.int .i64 n2,.string s2,.slice A2 N2 aL]:=by
      rw[Li.split,ai,ac];rfl
     have L:=O.b0;have Z:=fun W=>zeZ W x.l
     have af:=fun W=>zeZ W x.r
     have ab:=fun W (hW:Bl W5 W)=>Tg W x.l (aC.o.l.below (zu O.below hW)) (by have:=aq.o;unfold Li.zN at this;simp only[zo1]at this;omega) (fun t ht=>ar.o t (zpk _ (zpu _ ht)))
     have ad:=fun W (hW:Bl W5 W)=>Tg W x.r (aC.o.r.below (zu O.below hW)) (by have:=aq.o;unfold Li.zN at this;simp only[zo1]at this;omega) (fun t ht=>ar.o t (zpk _ (zpk _ ht)))
     rw[an]at L;rw[ai]at Z ab;rw[ac]at af ad;have ap:R≠R\/True:=.inr trivial;have ao:w.heap.size+1+1<wr.heap.size:=X.o.rg.r.lt;have ak:wr.heap.size∉zw R:=ag.o.own.yB L zr;have hS:∀W,zh (fun g=>g∈zw R\/g=w.heap.size+1+1) W5 W->zD W wr.heap.size 50 _:=fun W hW=>L.zC hW (fun h=>by rcases h with h|h;exact ak h;omega)
     have H0:Kz (∀W,zh (fun g=>g∈zw R\/g=w.heap.size+1+1) W5 W->_):=fun W hW=>zpf ((hS W hW).cell 4) (zpf ((hS W hW).cell 5) (zpf ((hS W hW).cell 6) (zpf ((hS W hW).cell 7) (zpf ((hS W hW).cell 8) (zpf ((hS W hW).cell 9) (zpf ((hS W hW).cell 10) (zpf ((hS W hW).cell 11) (zpf ((hS W hW).cell 12) (zpf ((hS W hW).cell 13) (zpf ((hS W hW).cell 14) ((hS W hW).cell 15)))))))))))
     have H1:Kz (∀W:World,W.heap[w.heap.size+1+1]? = W5.heap[w.heap.size+1+1]?->_):=fun W hW=>(show W.cell? ⟨w.heap.size+1+1,0,none⟩=some (.slice R nr V)from(ag.o.r.same (w':=W) hW).cell 0)
     have aR:=zz Z;have aQ:=zz af;have aW:=zz ab;have aU:=zz ad;have al:=zz O.size;have aE:=zz ae;have am:=zz ao;have aI:=zz (show es.length<=4194304 by
      have h1:=X.o.sum;have h2:=X.o.rg.len;have h7:(body.take i).flatMap Li.zN <+: body.flatMap Li.zN:=by
       conv=>rhs;rw[<-zpL i body]
       rw[zpq];exact List.prefix_append _ _
      have h8:=h7.length_le;have h5:=H.o.zN;omega)
     clear ai ac an L Z af ab ad O ae N ap ao ak hS;go_wp2;refine GU [(0,0),(1,1),(2,0),(3,1),(5,0),(6,1),(8,0),(9,1),(11,0),(12,1),(4,2),(7,2),(10,2),(13,2),(14,0),(15,2),(16,2),(17,0),(18,3)] 18 (fun W=>zh (fun g=>g∈zw R\/g=w.heap.size+1+1) W5 W) (fun W=>W.heap[w.heap.size+1+1]? = W5.heap[w.heap.size+1+1]?) ?s0 ?s1 ?_
     case s0=>exact yj
     case s1=>rfl
     try refine zQ ?_
     repeat refine xK H0.o H1.o ?_
     refine xc fun K hK=>?_
     go_simp;refine(aR.o _).mono ?_;rintro e w6⟨rfl,q⟩;have ah:=zz (show Bl W5 w6 from(Below.refl _ _).drew.trans q);refine hK.out _ _ (zh.xi _ ah.o) (fun _=>ah.o.block _ (by have:=al.o;have:=am.o;omega)) ?_;clear hK K q;try refine zQ ?_
     repeat refine xK H0.o H1.o ?_
     refine xc fun K hK=>?_
     go_simp;refine(aQ.o _).mono ?_;rintro e w7⟨rfl,q⟩;have av:=zz (zu ah.o q);refine hK.out _ _ (zh.xi _ av.o) (fun _=>av.o.block _ (by have:=al.o;have:=am.o;omega)) ?_;clear hK K q;try refine zQ ?_
     repeat refine xK H0.o H1.o ?_
     refine xc fun K hK=>?_
     go_simp;refine(aW.o _ av.o).mono ?_;rintro e w8⟨A8,af,M8,rfl,Z,q,L,ab⟩;have au:=zz (zu av.o L);have aT:=zz Z;have aM:=zz q;have aO:Kz (∀g∈zw A8,W5.heap.size<=g):=fun g U=>by have:=ab g U;have:=av.o.size;omega
     refine hK.out _ _ (zh.xi _ au.o) (fun _=>au.o.block _ (by have:=al.o;have:=am.o;omega)) ?_;clear hK K Z q L ab;try refine zQ ?_
     repeat refine xK H0.o H1.o ?_
     refine xc fun K hK=>?_
     go_simp;refine(aU.o _ au.o).mono ?_;rintro e w9⟨A9,ac,M9,rfl,L,ab,q,ad⟩;have Z:=zz (zu au.o q);have aZ:=zz L;have aN:=zz ab;have aJ:=zz (aM.o.below q);have aX:Kz (∀g∈zw A9,W5.heap.size<=g):=fun g U=>by have:=ad g U;have:=au.o.size;omega
     refine hK.out _ _ (zh.xi _ Z.o) (fun _=>Z.o.block _ (by have:=al.o;have:=am.o;omega)) ?_;clear hK K L ab q ad;have q:=zz (ag.o.below Z.o);have L:w.heap.size+1+1<w9.heap.size:=q.o.r.lt;have ap:=zz L;clear L;try refine zQ ?_
     repeat refine xK H0.o H1.o ?_
     refine xc fun K hK=>?_
     go_simp;refine hK.out _ _ ((zh.xi _ Z.o).alloc _) (fun _=>by exact(Below.heap_alloc _ _ _ ap.o).trans (Z.o.block _ (by have:=al.o;have:=am.o;omega))) ?_;clear hK K;try refine zQ ?_
     repeat refine xK H0.o H1.o ?_
     refine xc fun K hK=>?_
     refine Zv _ _ rfl zbj (f:=qx.cells) (xs:=es) (q.o.own.alloc _) q.o.len ⟨x.l.Xm,x.r.Xm,A8,af,x.l.vars,A9,ac,x.r.vars⟩ _ 0 1 rfl rfl rfl (by rw[<-aT.o,<-aZ.o];exact yp _ _ _ rfl) zt (by have:=aI.o;have:=q.o.len;omega) zr ?_;intro g L aw aA ax an;have ad:zh (fun x=>x∈zw R) w9 aw:=((zh.refl _ w9).alloc _).trans ax (fun x hx _=>hx);have aD:=q.o.own.yB q.o.r zr;have ak:aw.heap[w.heap.size+1+1]? = w9.heap[w.heap.size+1+1]?:=ad.block _ ap.o aD;refine hK.out _ _ ((zh.xi _ Z.o).trans ad (fun x hx _=>.inl hx)) (fun _=>ak.trans (Z.o.block _ (by have:=al.o;have:=am.o;omega))) ?_;clear hK K;try refine zQ ?_
     repeat refine xK H0.o H1.o ?_
     refine y7 zj (fun K hK=>?_);have kl:=q.o.r.same (w':=aw) ak;have cl:=kl.cell 0;have fl:=kl.frozen 0;go_simp;have aB:g∈zw R\/w9.heap.size<=g:=an.imp id (fun h=>by simp at h;omega);have aH:g≠w.heap.size+1+1:=fun e=>by
      rcases aB with h|h
      ·exact aD (e▸h)
      ·have:=ap.o;omega
     have ab:=(ad.mono (S':=fun x=>x∈zw R\/x=w.heap.size+1+1) (fun x hx _=>.inl hx)).setCell (p:=⟨w.heap.size+1+1,0,none⟩) (fun _=>.inr rfl) (.slice (some ⟨g,0,none⟩) (nr+1) L);refine hK.out _ _ ((zh.xi _ Z.o).trans ab (fun x hx _=>hx)) ?_;clear hK K;refine xu ?_;have ao:=kl.qE 0 (.slice (some ⟨g,0,none⟩) (nr+1) L);have ai:Own qx.cells 239 4 (aw.setCell ⟨w.heap.size+1+1,0,none⟩ (.slice (some ⟨g,0,none⟩) (nr+1) L)) (some ⟨g,0,none⟩) L (es++[⟨x.l.Xm,x.r.Xm,A8,af,x.l.vars,A9,ac,x.r.vars⟩]):=aA.same (xW (Below.heap_setCell _ _ _ _ aH));clear cl fl kl ak ad aA ax an;generalize aw.setCell ⟨w.heap.size+1+1,0,none⟩ (.slice (some ⟨g,0,none⟩) (nr+1) L)=aA at ab ao ai ⊢;have an:qx.of ⟨x.l.Xm,x.r.Xm,A8,af,x.l.vars,A9,ac,x.r.vars⟩ x:=⟨rfl,rfl,rfl,rfl⟩;have ax:∀{B:Option Addr}{cB:Nat}{us:List ByteArray},Own xC 9 1 w9 B cB us->Own xC 9 1 aA B cB us:=fun hB=>hB.zC ab (fun g U h=>by
      rcases h with h|h
      ·exact hB.ZL q.o.own zr g U h
      ·exact hB.yB q.o.r zr (h▸U))
     have az:ZN w.heap.size aA (w.heap.size+1+1) (w.heap.size+1) w.heap.size (some ⟨g,0,none⟩) L (es++[⟨x.l.Xm,x.r.Xm,A8,af,x.l.vars,A9,ac,x.r.vars⟩]) (nr+1) A Y f vs n:={
      len:=by rw[zo1,q.o.len];rfl
      r:=ao
      own:=ai
      yO:=q.o.yO.same (fun g U=>ab.block g (q.o.yO.lt g U) (fun h=>by
       rcases h with h|h
       ·exact q.o.yO.Ga q.o.own g h U
       ·exact q.o.yO.GF q.o.r (h▸U)))
      zO:=fun e he=>by
       rcases zo7.1 he with h|h
       ·exact⟨ax (q.o.zO e h).a,ax (q.o.zO e h).b⟩
       ·rw[zo2.1 h];exact⟨ax aJ.o,ax aN.o⟩
      ok:=fun e he=>by
       rcases zo7.1 he with h|h
       ·exact q.o.ok e h
       ·rw[zo2.1 h];exact an.ok ar.o aq.o
      apart:=fun e he g U hS=>by
       rcases zo7.1 he with h|h
       ·exact q.o.apart e h g U hS
       ·rw[zo2.1 h]at U;have:=ag.o.yO.lt g hS
        rcases U with U|U
        ·have:=aO.o g U;omega
        ·have:=aX.o g U;omega
      ge:=⟨q.o.ge.1,xW (aB.elim (fun h=>q.o.ge.2 g h) (fun h=>by have:=ay.o.size;have:=Z.o.size;omega))⟩}
     have ad:Lm w aA body (i+1) (w.heap.size+1+1) (w.heap.size+1) w.heap.size (some ⟨g,0,none⟩) L (es++[⟨x.l.Xm,x.r.Xm,A8,af,x.l.vars,A9,ac,x.r.vars⟩]) (nr+1) A Y f vs n:=⟨az,(zu ay.o Z.o).trans (ab.below (by have:=ay.o.size;have:=Z.o.size;omega) (fun x hx=>by
      rcases hx with h|h
      ·exact q.o.ge.2 x h
      ·omega)),fun y I N v hv=>by
      rw[aa.o]at I
      rcases zo7.1 I with I|I
      ·exact X.o.atoms y I N v hv
      ·rw[zo2.1 I,aE.o.1]at N;exact absurd N zr,fun y I N hr=>by
      rw[aa.o]at I
      rcases zo7.1 I with I|I
      ·obtain⟨e,he,ho⟩:=X.o.eqs y I N hr;exact⟨e,zpu _ he,ho⟩
      ·rw[zo2.1 I];exact⟨_,zpk _ zpi,an⟩,by
      have h1:=X.o.sum;rw[aa.o,zpq,zo1];omega⟩
     have ak:=zz ad;clear ad az ax an ab ao ai aH aB aD;go_wp2
     go_roundg (nb-(i+1))
     case measure=>omega
     case rel=>exact⟨i+1,_,L,_,nr+1,A,Y,f,vs,n,zd,rfl,ze,ak.o⟩
    ·have q:=zz N;have aE:=zz ae;have ad:Lm w W5 body (i+1) (w.heap.size+1+1) (w.heap.size+1) w.heap.size R V es nr A Y f vs n:=⟨ag.o,ay.o,fun y I N v hv=>by
      rw[aa.o]at I
      rcases zo7.1 I with I|I
      ·exact X.o.atoms y I N v hv
      ·rw[zo2.1 I]at N;exact(q.o N).elim,fun y I N hr=>by
      rw[aa.o]at I
      rcases zo7.1 I with I|I
      ·exact X.o.eqs y I N hr
      ·rw[zo2.1 I]at N hr;exact(aE.o ⟨N,hr⟩).elim,by
      have h1:=X.o.sum;rw[aa.o,zpq,zo1];omega⟩
     have ak:=zz ad;clear ad O
     by_cases h3:x.k=3
     ·have k3:(x.k==3)=true:=by simp[h3]
      have kr:(x.rl==1)=false:=by
       have:x.rl≠1:=fun e=>ae ⟨h3,e⟩
       simp[this]
      clear N ae h3;go_wp2
      go_roundg (nb-(i+1))
      case measure=>omega
      case rel=>exact⟨i+1,R,V,es,nr,A,Y,f,vs,n,zd,rfl,ze,ak.o⟩
     ·have k3:(x.k==3)=false:=by simp[h3]
      clear N ae h3;go_wp2
      go_roundg (nb-(i+1))
      case measure=>omega
      case rel=>exact⟨i+1,R,V,es,nr,A,Y,f,vs,n,zd,rfl,ze,ak.o⟩
  ·obtain rfl:i=nb:=zd;have ht:body.take i=body:=by rw[<-HN.o,zpz]
   have hL:=X.o;have ac:=zz (show vs.length+es.length<=2097152 by
    have h1:=X.o.sum;rw[<-X.o.rg.len]at h1;rw[ht]at h1;have:=H.o.zN;omega)
   clear hL;have Ht:=zz ht;clear ht;go_wp2
   go_loopg[55] es.length (fun gk aa wx=>∃(mb:Nat) (R':Option Addr) (q:Nat) (L:List qx) (Z:Nat) (A':Option Addr) (O:Nat) (f':Value->Option Value) (I:List ByteArray) (n':Nat),gk=L.length/\ZN w.heap.size wx (w.heap.size+1+1) (w.heap.size+1) mb R' q L Z A' O f' I n'/\Bl w wx/\(∀u∈vs,u∈I)/\(∀e∈es,e∈L\/e.done I)/\I.length+L.length<=2097152)
   case atStart=>exact⟨w.heap.size,R,V,es,nr,A,Y,f,vs,n,rfl,X.o.rg,X.o.below,fun u hu=>hu,fun e he=>.inl he,ac.o⟩
   case round=>
    obtain⟨mb,R',q,L,Z,A',O,f',I,n',rfl,aa,hB,U,hd,ab⟩:=hrel;have Hr:=zz (zjO w.heap.size _ _ _ mb R' q L Z A' O f' I n' hB.size aa (by have:=aa.len;omega));have HB:=zz hB;have Hg:=zz U;have Hd:=zz hd;have ag:=zz ab;clear aa hB U hd ab
    go_wp2_with (go_at_call 118;refine Hr.o.mono ?_;rintro e w1⟨b1,ae,R1,aa,ad,ah,A1,aj,f1,ab,n1,rfl,h1⟩;have af:=zz h1;clear h1)
    ·obtain⟨h1,h2,h3,h4,-,h6,h7⟩:=af.o;have h8:=h4 ‹b1=true›
     go_roundg ad.length
     case measure=>exact h8
     case rel=>exact⟨ae,R1,aa,ad,ah,A1,aj,f1,ab,n1,rfl,h1,HB.o.trans h7,fun u hu=>h2 u (Hg.o u hu),fun e he=>(Hd.o e he).elim (h3 e) (fun h=>.inr (h.mono h2)),by have:=ag.o;omega⟩
    ·obtain⟨h1,h2,h3,-,h5,h6,h7⟩:=af.o;have h8:=h5 ‹b1=false›;go_returns;refine⟨_,ab,rfl,⟨ae,A1,aj,f1,n1,h1.yO⟩,zl2 (fun x hx N v hv=>h2 v (Hg.o v (X.o.atoms x (by rw[Ht.o];exact hx) N v hv))) (fun x hx N hr=>?_),by have:=ag.o;omega,HB.o.trans h7⟩;obtain⟨e,he,ho⟩:=X.o.eqs x (by rw[Ht.o];exact hx) N hr;exact⟨e,ho,((Hd.o e he).elim (h3 e) (fun h=>.inr (h.mono h2))).elim (h8 e) (fun h=>h.shut)⟩
end
