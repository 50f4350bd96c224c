/-
  Walks: what a body limits.
-/
import Derived.Test.YtfdickkdlcgicaaGreatDoorQ04
set_option maxRecDepth 100000
set_option maxHeartbeats 8000000
set_option linter.all false
namespace Go.Proofs.YtfdickkdlcgicaaGreatDoor.C
open Go.Proofs.Tryz Go Go.RowKit Go.Maps Go.WideMaps
variable {A R:Option Addr}{L N O cap n q:Nat}{f:Value->Option Value}{vs:List ByteArray}{w w':World}
section
theorem ZW.below{U V:Nat}{es:List qC}(h:ZW N w U V L R q es O A cap f vs n)(I:Bl w w'):ZW N w' U V L R q es O A cap f vs n:=
 ⟨h.len,h.r.below I,h.own.below I,h.yU.below I,fun e W=>⟨(h.zN e W).a.below I,(h.zN e W).b.below I⟩,h.ok,h.apart,h.ge⟩
theorem ZW.add{W:Nat}{rb:Nat}{es:List qC}{Z:Nat}{A':Option Addr}{cap':Nat}{f':Value->Option Value}{L:List ByteArray}{X:Nat}(h:ZW W w rb O N R q es Z A cap f vs n)(hF:Xp W w' O N A' cap' f' L X)(U:zh (YT O N A) w w')(hA:∀g∈zw A',g∈zw A\/w.heap.size<=g):ZW W w' rb O N R q es Z A' cap' f' L X:=
 ⟨h.len,h.r.zC U (h.yU.GX h.r),h.own.zC U (h.yU.Gq h.own),hF,fun e I=>(h.zN e I).zC U (h.apart e I),h.ok,fun e I g Y hS=>by
  have V:=h.apart e I g Y;have h2:=(h.zN e I).lt g Y
  rcases hS with I|I|I
  ·exact V (.inl I)
  ·exact V (.inr (.inl I))
  ·rcases hA g I with I|I
   ·exact V (.inr (.inr I))
   ·omega,h.ge⟩
theorem znM{I:Nat}(h:Xp L w I q A cap f vs n):∀g,YT I q A g->L<=g:=by
 rintro g (rfl|rfl|N)
 ·exact h.ge.1
 ·exact h.ge.2.1
 ·exact h.ge.2.2 g N
structure qC.of (e:qC) (x:Li):Prop where
 l:e.l=x.l.Xy
 r:e.r=x.r.Xy
 vl:e.vl=x.l.vars
 vr:e.vr=x.r.vars
theorem Ex.zaU{e:Ex}(h:e.Xy.toList≠[]):e.Xy∈e.vars:=(Ex.Ul (Ex.zkU h)).2 rfl
theorem Ex.zbg{e:Ex}(I:∀t∈e.zO,t.v.size<=maxLen):∀u∈e.vars,u.size<=maxLen:=fun u h=>by
 obtain⟨_,t,q,rfl⟩:=Ex.qJ.1 h;exact I t q
theorem Ex.zcC{e:Ex}(q:∀t∈e.zO,t.v.size<=maxLen):e.Xy.size<=maxLen:=by
 by_cases h:e.Xy.toList=[]
 ·rw[GQ h];exact zpD _
 ·exact Ex.zbg q _ (Ex.zaU h)
theorem YY(h:List Tm):(varsOf [] h).length<=h.length:=by
 have:=Ux h [];rw[zqd]at this;omega
theorem qC.of.ok{e:qC}{x:Li}(h:e.of x)(O:∀t∈x.zO,t.v.size<=maxLen)(N:x.zO.length<=1048576):e.ok:=by
 have I:∀t∈x.l.zO,t.v.size<=maxLen:=fun t q=>O t (zpR _ (zp0 _ q))
 have L:∀t∈x.r.zO,t.v.size<=maxLen:=fun t q=>O t (zpR _ (zpR _ q))
 have U:=YY x.l.zO;have R:=YY x.r.zO;unfold Li.zO at N;simp only[zpA]at N;exact⟨h.l▸Ex.zcC I,h.r▸Ex.zcC L,h.vl▸Ex.zbg I,h.vr▸Ex.zbg L,by rw[h.vl];unfold Ex.vars;omega,by rw[h.vr];unfold Ex.vars;omega,
  fun q=>by rw[h.l]at q ⊢;rw[h.vl];exact Ex.zaU q,fun q=>by rw[h.r]at q ⊢;rw[h.vr];exact Ex.zaU q⟩
theorem zmA{body:List Li}(Z:∀x∈body,x.k=1->∀v∈x.a.vars,v∈vs)(Y:∀x∈body,x.k=3->x.rl=1->∃e:qC,e.of x/\e.shut vs):∀v,yo body v->v∈vs:=fun v W=>by
 induction W with
 |atom L q W=>exact Z _ L q _ W
 |left L q R O _ X=>
  obtain⟨e,h,V⟩:=Y _ L q R;obtain⟨I,N⟩:=Ex.zfR O;have:=V.1 (by rw[h.l,I];exact N) (fun u U=>X u (h.vr▸U));rw[h.l,I]at this;exact this
 |right L q R O _ X=>
  obtain⟨e,h,V⟩:=Y _ L q R;obtain⟨I,N⟩:=Ex.zfR O;have:=V.2 (by rw[h.r,I];exact N) (fun u U=>X u (h.vl▸U));rw[h.r,I]at this;exact this
theorem qC.done.shut{e:qC}(h:e.done vs):e.shut vs:=⟨fun q _=>h.1 q,fun q _=>h.2 q⟩
structure Lm (w wx:World) (body:List Li) (i:Nat) (rb fb mb:Nat) (R:Option Addr) (capR:Nat) (es:List qC) (nr:Nat) (A:Option Addr) (cap:Nat) (f:Value->Option Value) (vs:List ByteArray) (n:Nat):Prop where
 rg:ZW w.heap.size wx rb fb mb R capR es nr A cap f vs n
 below:Bl w wx
 atoms:∀x∈body.take i,x.k=1->∀v∈x.a.vars,v∈vs
 eqs:∀x∈body.take i,x.k=3->x.rl=1->∃e∈es,e.of x
 sum:vs.length+nr<=((body.take i).flatMap Li.zO).length+i
def zly(body:List Li)(w:World)(e:Ending)(w':World):Prop:=
 ∃q h,e=.returned (.pointer (some ⟨q,0,none⟩))/\V8 w.heap.size w' q h/\(∀v,yo body v->v∈h)/\h.length<=2097152/\Bl w w'
theorem zhf(w:World)(B:Option Addr)(zM nb:Nat)(body:List Li)(hn:body.length=nb)(h:Bd w B body)(hs:∀x∈body,∀t∈x.zO,t.v.size<=maxLen)(hb:nb<=1048576):
 Calls prog 61 #[.slice B nb zM] w (zly body w):=by
 have a2:=@run_makeMap prog;have aG:=h.len;have H:=zz h;have Hs:=zz hs;have HN:=zz hn;rw[hn]at aG;clear h hs hn;obtain⟨W3,I⟩:∃W3,(((w.alloc (.map #[] 0)).alloc (.cells #[.slice none 0 0,.map (some w.heap.size)] 230)).alloc (.cells #[.slice none 0 0] 233))=W3:=⟨_,rfl⟩;have q:xv prog 9 W3 w.heap.size fun _=>none:=by
  rw[<-I];exact((xv.new (P:=prog) (k:=9) w 0).below (xq _ _)).below (xq _ _)
 have V:zD W3 (w.heap.size+1) 230 #[.slice none 0 0,.map (some w.heap.size)]:=by
  have:=(zD.new (w.alloc (.map #[] 0)) 230 #[.slice none 0 0,.map (some w.heap.size)]).alloc (.cells #[.slice none 0 0] 233);rw[I]at this;simpa using this
 have O:zD W3 (w.heap.size+1+1) 233 #[.slice none 0 0]:=by
  have:=zD.new ((w.alloc (.map #[] 0)).alloc (.cells #[.slice none 0 0,.map (some w.heap.size)] 230)) 233 #[.slice none 0 0];rw[I]at this;simpa using this
 have N:Bl w W3:=I▸yf (yf (xq _ _));have L:Lm w W3 body 0 (w.heap.size+1+1) (w.heap.size+1) w.heap.size none 0 [] 0 none 0 (fun _=>none) [] 0:=
  ⟨⟨rfl,O,Own.qz _,⟨rfl,V,q,Vv.qz,Own.qz _,zd,zpx _,fun g U=>by simp[zw]at U⟩,fun e he=>(by cases he),fun e he=>(by cases he),fun e he=>(by cases he),zd,fun g U=>by simp[zw]at U⟩,N,fun x hx=>(by simp at hx),fun x hx=>(by simp at hx),zpD _⟩
 have aK:=zz L;have aS:=zz I;clear I q V O N L;go_enter func61,ntmps61;go_wp2;rw[aS.o]
 go_loopg[6,12] nb (fun gk L I wx=>∃(i:Nat) (R:Option Addr) (V:Nat) (es:List qC) (nr:Nat) (A:Option Addr) (Y:Nat) (f:Value->Option Value) (vs:List ByteArray) (n:Nat),i<=nb/\gk=nb-i/\I=.int .i64 (i:Int)/\Lm w wx body i (w.heap.size+1+1) (w.heap.size+1) w.heap.size R V es nr A Y f vs n)
 case atStart=>exact⟨0,none,0,[],0,none,0,_,[],0,zpD _,rfl,rfl,aK.o⟩
 case round=>
  obtain⟨i,R,V,es,nr,A,Y,f,vs,n,hi,rfl,rfl,hL⟩:=hrel;have X:=zz hL;clear hL aK
  by_cases aP:i<nb
  ·have aF:i<body.length:=by rw[HN.o];exact aP
   obtain⟨b,o,rfl,a1,hr⟩:=(H.o.rd.below X.o.below).at Li.Yn i aF;have q:=zpB aF;have I:=(H.o.zN _ q).below X.o.below;have L:=H.o.le q;have O:=Hs.o _ q;have N:body.take (i+1)=body.take i++[body[i]]:=zpC aF;generalize body[i]=x at hr q I L O N
   replace hr:wr.rangeAt b (o+i*16) x.cells:=hr
   have Hr:=zz hr;have aa:=zz N;have aC:=zz I;have ar:=zz O;have aq:=zz L;clear hr N I O L q
   go_wp2_with (first
    |(refine xW 50 _ rfl ?_;refine wpList_load_mid rfl 50 _ rfl b (o+i*16) rfl x.cells _ Hr.o underlying50 rfl (q9 x) ?_)
    |(refine xy 50 _ _ rfl ?_;refine XP rfl 50 _ _ rfl _ x.cells rfl rfl ?z (q9 x) ?one ?_))
   case z=>rw[Li.xG];rfl
   case one=>exact x.Ys
   intro W5 O;have c0:W5.cell? ⟨wr.heap.size,0,none⟩=some (.int .i8 x.k):=O.b0.cell 0;have c1:W5.cell? ⟨wr.heap.size,1,none⟩=some (.string x.a.p):=O.b0.cell 1;have c2:W5.cell? ⟨wr.heap.size,2,none⟩=some (.slice x.a.A x.a.args.length x.a.cap):=O.b0.cell 2;have c3:W5.cell? ⟨wr.heap.size,3,none⟩=some (.int .i8 x.rl):=O.b0.cell 3;have ay:=zz (zl X.o.below O.below);have ag:=zz (X.o.rg.below O.below)
   by_cases N:x.k=1
   ·have k1:(x.k==1)=true:=by simp[N]
    have I:∀u∈x.a.vars,u.size<=maxLen:=fun u hu=>by
     obtain⟨_,t,ht,rfl⟩:=At.qJ.1 hu;exact ar.o t (zp0 _ ht)
    have L:=znK W5 x.a (aC.o.a.below O.below) (by have:=aq.o;unfold Li.zO at this;rw[zpA]at this;omega) (fun t ht=>ar.o t (zp0 _ ht));have ak:=zz L;have an:=zz I;have al:Kz (x.a.vars.length<=x.a.args.length):=YY _;have hK:=zz N;have q:n+x.a.vars.length<=4194304:=by
     have h1:=X.o.sum;have h2:=X.o.rg.yU.len;have h4:x.a.vars.length<=x.a.args.length:=YY _;have h5:=H.o.zO;have h6:=aa.o;have h7:(body.take (i+1)).flatMap Li.zO <+: body.flatMap Li.zO:=by
      conv=>rhs;rw[<-zqi (i+1) body]
      rw[zp2];exact List.prefix_append _ _
     have h8:=h7.length_le;have Z:=aq.o;unfold Li.zO at Z;rw[zpA]at Z;rw[h6,zp2,zpA]at h8;omega
    have ao:=zz q;clear L I O N q
    go_wp2_with (first
     |(go_at_call 115;refine ak.o.mono ?_;rintro e w6⟨A3,Z,M3,rfl,ab,ae,q,ac⟩;have L:=zz (ag.o.below q);have ah:=zz (zl ay.o q);have ai:=zz ab;have ap:=zz ae;have au:Kz (∀g∈zw A3,¬YT (w.heap.size+1) w.heap.size A g):=(fun g U hS=>by have:=ag.o.yU.lt g hS;have:=ac g U;omega);clear ab ae q ac)
     |(go_at_call 114;refine(T6 w.heap.size _ _ _ A Y f vs n ah.o.size L.o.yU A3 Z M3 x.a.vars ai.o (fun W hW=>(ap.o.zC hW au.o).xI) an.o (by have:=ai.o;have:=ao.o;omega)).mono ?_;rintro e w7⟨rfl,A7,af,f7,n7,aj,ad,am⟩))
    go_roundg (nb-(i+1))
    case measure=>omega
    case rel=>
     have az:=L.o.add aj ad am;refine⟨i+1,R,V,es,nr,A7,af,f7,_,n7,zd,rfl,ze,az,ah.o.trans (ad.below ah.o.size (znM L.o.yU)),fun y I N v hv=>?_,fun y I N hr=>?_,?_⟩
     ·rw[aa.o]at I
      rcases zpE.1 I with I|I
      ·exact mem_grow.2 (.inl (X.o.atoms y I N v hv))
      ·rw[zpy.1 I]at hv;exact mem_grow.2 (.inr hv)
     ·rw[aa.o]at I
      rcases zpE.1 I with I|I
      ·exact X.o.eqs y I N hr
      ·rw[zpy.1 I,hK.out]at N;cases N
     ·have h1:=X.o.sum;have h2:=(zau x.a.vars vs).2;have h3:=al.o;rw[aa.o,zp2,zpA,List.flatMap_singleton];unfold Li.zO;simp only[zpA];unfold Li.zO at h1;omega
   ·have k1:(x.k==1)=false:=by simp[N]
    by_cases ae:x.k=3/\x.rl=1
    ·obtain⟨q1,v1,aY,n1,s1,A1,N1,aj,q2,v2,aV,n2,s2,A2,N2,aL,ai,ac⟩:=Li.J5 x;have k3:(x.k==3)=true:=by simp[ae.1]
     have kr:(x.rl==1)=true:=by simp[ae.2]
     have an:x.cells.toArray=#[.int .i8 x.k,.string x.a.p,.slice x.a.A x.a.args.length x.a.cap,.int .i8 x.rl,.int .i8 q1,.string v1,.int .i8 aY,.int .i64 n1,.string s1,.slice A1 N1 aj,.int .i8 q2,.string v2,.int .i8 aV,.int .i64 n2,.string s2,.slice A2 N2 aL]:=by
      rw[Li.split,ai,ac];rfl
     have L:=O.b0;have Z:=fun W=>zfC W x.l
     have af:=fun W=>zfC W x.r
     have ab:=fun W (hW:Bl W5 W)=>TG W x.l (aC.o.l.below (zl O.below hW)) (by have:=aq.o;unfold Li.zO at this;simp only[zpA]at this;omega) (fun t ht=>ar.o t (zpR _ (zp0 _ ht)))
     have ad:=fun W (hW:Bl W5 W)=>TG W x.r (aC.o.r.below (zl O.below hW)) (by have:=aq.o;unfold Li.zO at this;simp only[zpA]at this;omega) (fun t ht=>ar.o t (zpR _ (zpR _ ht)))
     rw[an]at L;rw[ai]at Z ab;rw[ac]at af ad;have ap:R≠R\/True:=.inr trivial;have ao:w.heap.size+1+1<wr.heap.size:=X.o.rg.r.lt;have ak:wr.heap.size∉zw R:=ag.o.own.yD L zr;have hS:∀W,zh (fun g=>g∈zw R\/g=w.heap.size+1+1) W5 W->zD W wr.heap.size 50 _:=fun W hW=>L.zC hW (fun h=>by rcases h with h|h;exact ak h;omega)
     have H0:Kz (∀W,zh (fun g=>g∈zw R\/g=w.heap.size+1+1) W5 W->_):=fun W hW=>zpG ((hS W hW).cell 4) (zpG ((hS W hW).cell 5) (zpG ((hS W hW).cell 6) (zpG ((hS W hW).cell 7) (zpG ((hS W hW).cell 8) (zpG ((hS W hW).cell 9) (zpG ((hS W hW).cell 10) (zpG ((hS W hW).cell 11) (zpG ((hS W hW).cell 12) (zpG ((hS W hW).cell 13) (zpG ((hS W hW).cell 14) ((hS W hW).cell 15)))))))))))
     have H1:Kz (∀W:World,W.heap[w.heap.size+1+1]? = W5.heap[w.heap.size+1+1]?->_):=fun W hW=>(show W.cell? ⟨w.heap.size+1+1,0,none⟩=some (.slice R nr V)from(ag.o.r.same (w':=W) hW).cell 0)
     have aR:=zz Z;have aQ:=zz af;have aW:=zz ab;have aU:=zz ad;have al:=zz O.size;have aE:=zz ae;have am:=zz ao;have aI:=zz (show es.length<=4194304 by
      have h1:=X.o.sum;have h2:=X.o.rg.len;have h7:(body.take i).flatMap Li.zO <+: body.flatMap Li.zO:=by
       conv=>rhs;rw[<-zqi i body]
       rw[zp2];exact List.prefix_append _ _
      have h8:=h7.length_le;have h5:=H.o.zO;omega)
     clear ai ac an L Z af ab ad O ae N ap ao ak hS;go_wp2;refine Te [(0,0),(1,1),(2,0),(3,1),(5,0),(6,1),(8,0),(9,1),(11,0),(12,1),(4,2),(7,2),(10,2),(13,2),(14,0),(15,2),(16,2),(17,0),(18,3)] 18 (fun W=>zh (fun g=>g∈zw R\/g=w.heap.size+1+1) W5 W) (fun W=>W.heap[w.heap.size+1+1]? = W5.heap[w.heap.size+1+1]?) ?s0 ?s1 ?_
     case s0=>exact yw
     case s1=>rfl
     try refine zQ ?_
     repeat refine xM H0.o H1.o ?_
     refine xf fun K hK=>?_
     go_simp;refine(aR.o _).mono ?_;rintro e w6⟨rfl,q⟩;have ah:=zz (show Bl W5 w6 from(Below.refl _ _).drew.trans q);refine hK.out _ _ (zh.xj _ ah.o) (fun _=>ah.o.block _ (by have:=al.o;have:=am.o;omega)) ?_;clear hK K q;try refine zQ ?_
     repeat refine xM H0.o H1.o ?_
     refine xf fun K hK=>?_
     go_simp;refine(aQ.o _).mono ?_;rintro e w7⟨rfl,q⟩;have av:=zz (zl ah.o q);refine hK.out _ _ (zh.xj _ av.o) (fun _=>av.o.block _ (by have:=al.o;have:=am.o;omega)) ?_;clear hK K q;try refine zQ ?_
     repeat refine xM H0.o H1.o ?_
     refine xf fun K hK=>?_
     go_simp;refine(aW.o _ av.o).mono ?_;rintro e w8⟨A8,af,M8,rfl,Z,q,L,ab⟩;have au:=zz (zl av.o L);have aT:=zz Z;have aM:=zz q;have aO:Kz (∀g∈zw A8,W5.heap.size<=g):=fun g U=>by have:=ab g U;have:=av.o.size;omega
     refine hK.out _ _ (zh.xj _ au.o) (fun _=>au.o.block _ (by have:=al.o;have:=am.o;omega)) ?_;clear hK K Z q L ab;try refine zQ ?_
     repeat refine xM H0.o H1.o ?_
     refine xf fun K hK=>?_
     go_simp;refine(aU.o _ au.o).mono ?_;rintro e w9⟨A9,ac,M9,rfl,L,ab,q,ad⟩;have Z:=zz (zl au.o q);have aZ:=zz L;have aN:=zz ab;have aJ:=zz (aM.o.below q);have aX:Kz (∀g∈zw A9,W5.heap.size<=g):=fun g U=>by have:=ad g U;have:=au.o.size;omega
     refine hK.out _ _ (zh.xj _ Z.o) (fun _=>Z.o.block _ (by have:=al.o;have:=am.o;omega)) ?_;clear hK K L ab q ad;have q:=zz (ag.o.below Z.o);have L:w.heap.size+1+1<w9.heap.size:=q.o.r.lt;have ap:=zz L;clear L;try refine zQ ?_
     repeat refine xM H0.o H1.o ?_
     refine xf fun K hK=>?_
     go_simp;refine hK.out _ _ ((zh.xj _ Z.o).alloc _) (fun _=>by exact(Below.heap_alloc _ _ _ ap.o).trans (Z.o.block _ (by have:=al.o;have:=am.o;omega))) ?_;clear hK K;try refine zQ ?_
     repeat refine xM H0.o H1.o ?_
     refine xf fun K hK=>?_
     refine ZE _ _ rfl zbM (f:=qC.cells) (xs:=es) (q.o.own.alloc _) q.o.len ⟨x.l.Xy,x.r.Xy,A8,af,x.l.vars,A9,ac,x.r.vars⟩ _ 0 1 rfl rfl rfl (by rw[<-aT.o,<-aZ.o];exact yt _ _ _ rfl) zt (by have:=aI.o;have:=q.o.len;omega) zr ?_;intro g L aw aA ax an;have ad:zh (fun x=>x∈zw R) w9 aw:=((zh.refl _ w9).alloc _).trans ax (fun x hx _=>hx);have aD:=q.o.own.yD q.o.r zr;have ak:aw.heap[w.heap.size+1+1]? = w9.heap[w.heap.size+1+1]?:=ad.block _ ap.o aD;refine hK.out _ _ ((zh.xj _ Z.o).trans ad (fun x hx _=>.inl hx)) (fun _=>ak.trans (Z.o.block _ (by have:=al.o;have:=am.o;omega))) ?_;clear hK K;try refine zQ ?_
     repeat refine xM H0.o H1.o ?_
     refine Xf zj (fun K hK=>?_);have kl:=q.o.r.same (w':=aw) ak;have cl:=kl.cell 0;have fl:=kl.frozen 0;go_simp;have aB:g∈zw R\/w9.heap.size<=g:=an.imp id (fun h=>by simp at h;omega);have aH:g≠w.heap.size+1+1:=fun e=>by
      rcases aB with h|h
      ·exact aD (e▸h)
      ·have:=ap.o;omega
     have ab:=(ad.mono (S':=fun x=>x∈zw R\/x=w.heap.size+1+1) (fun x hx _=>.inl hx)).setCell (p:=⟨w.heap.size+1+1,0,none⟩) (fun _=>.inr rfl) (.slice (some ⟨g,0,none⟩) (nr+1) L);refine hK.out _ _ ((zh.xj _ Z.o).trans ab (fun x hx _=>hx)) ?_;clear hK K;refine xt ?_;have ao:=kl.qI 0 (.slice (some ⟨g,0,none⟩) (nr+1) L);have ai:Own qC.cells 239 4 (aw.setCell ⟨w.heap.size+1+1,0,none⟩ (.slice (some ⟨g,0,none⟩) (nr+1) L)) (some ⟨g,0,none⟩) L (es++[⟨x.l.Xy,x.r.Xy,A8,af,x.l.vars,A9,ac,x.r.vars⟩]):=aA.same (xY (Below.heap_setCell _ _ _ _ aH));clear cl fl kl ak ad aA ax an;generalize aw.setCell ⟨w.heap.size+1+1,0,none⟩ (.slice (some ⟨g,0,none⟩) (nr+1) L)=aA at ab ao ai ⊢;have an:qC.of ⟨x.l.Xy,x.r.Xy,A8,af,x.l.vars,A9,ac,x.r.vars⟩ x:=⟨rfl,rfl,rfl,rfl⟩;have ax:∀{B:Option Addr}{cB:Nat}{us:List ByteArray},Own xD 9 1 w9 B cB us->Own xD 9 1 aA B cB us:=fun hB=>hB.zC ab (fun g U h=>by
      rcases h with h|h
      ·exact hB.ZU q.o.own zr g U h
      ·exact hB.yD q.o.r zr (h▸U))
     have az:ZW w.heap.size aA (w.heap.size+1+1) (w.heap.size+1) w.heap.size (some ⟨g,0,none⟩) L (es++[⟨x.l.Xy,x.r.Xy,A8,af,x.l.vars,A9,ac,x.r.vars⟩]) (nr+1) A Y f vs n:={
      len:=by rw[zpA,q.o.len];rfl
      r:=ao
      own:=ai
      yU:=q.o.yU.same (fun g U=>ab.block g (q.o.yU.lt g U) (fun h=>by
       rcases h with h|h
       ·exact q.o.yU.Gq q.o.own g h U
       ·exact q.o.yU.GX q.o.r (h▸U)))
      zN:=fun e he=>by
       rcases zpE.1 he with h|h
       ·exact⟨ax (q.o.zN e h).a,ax (q.o.zN e h).b⟩
       ·rw[zpy.1 h];exact⟨ax aJ.o,ax aN.o⟩
      ok:=fun e he=>by
       rcases zpE.1 he with h|h
       ·exact q.o.ok e h
       ·rw[zpy.1 h];exact an.ok ar.o aq.o
      apart:=fun e he g U hS=>by
       rcases zpE.1 he with h|h
       ·exact q.o.apart e h g U hS
       ·rw[zpy.1 h]at U;have:=ag.o.yU.lt g hS
        rcases U with U|U
        ·have:=aO.o g U;omega
        ·have:=aX.o g U;omega
      ge:=⟨q.o.ge.1,xY (aB.elim (fun h=>q.o.ge.2 g h) (fun h=>by have:=ay.o.size;have:=Z.o.size;omega))⟩}
     have ad:Lm w aA body (i+1) (w.heap.size+1+1) (w.heap.size+1) w.heap.size (some ⟨g,0,none⟩) L (es++[⟨x.l.Xy,x.r.Xy,A8,af,x.l.vars,A9,ac,x.r.vars⟩]) (nr+1) A Y f vs n:=⟨az,(zl ay.o Z.o).trans (ab.below (by have:=ay.o.size;have:=Z.o.size;omega) (fun x hx=>by
      rcases hx with h|h
      ·exact q.o.ge.2 x h
      ·omega)),fun y I N v hv=>by
      rw[aa.o]at I
      rcases zpE.1 I with I|I
      ·exact X.o.atoms y I N v hv
      ·rw[zpy.1 I,aE.o.1]at N;exact absurd N zr,fun y I N hr=>by
      rw[aa.o]at I
      rcases zpE.1 I with I|I
      ·obtain⟨e,he,ho⟩:=X.o.eqs y I N hr;exact⟨e,zp0 _ he,ho⟩
      ·rw[zpy.1 I];exact⟨_,zpR _ zpP,an⟩,by
      have h1:=X.o.sum;rw[aa.o,zp2,zpA];omega⟩
     have ak:=zz ad;clear ad az ax an ab ao ai aH aB aD;go_wp2
     go_roundg (nb-(i+1))
     case measure=>omega
     case rel=>exact⟨i+1,_,L,_,nr+1,A,Y,f,vs,n,zd,rfl,ze,ak.o⟩
    ·have q:=zz N;have aE:=zz ae;have ad:Lm w W5 body (i+1) (w.heap.size+1+1) (w.heap.size+1) w.heap.size R V es nr A Y f vs n:=⟨ag.o,ay.o,fun y I N v hv=>by
      rw[aa.o]at I
      rcases zpE.1 I with I|I
      ·exact X.o.atoms y I N v hv
      ·rw[zpy.1 I]at N;exact(q.o N).elim,fun y I N hr=>by
      rw[aa.o]at I
      rcases zpE.1 I with I|I
      ·exact X.o.eqs y I N hr
      ·rw[zpy.1 I]at N hr;exact(aE.o ⟨N,hr⟩).elim,by
      have h1:=X.o.sum;rw[aa.o,zp2,zpA];omega⟩
     have ak:=zz ad;clear ad O
     by_cases h3:x.k=3
     ·have k3:(x.k==3)=true:=by simp[h3]
      have kr:(x.rl==1)=false:=by
       have:x.rl≠1:=fun e=>ae ⟨h3,e⟩
       simp[this]
      clear N ae h3;go_wp2
      go_roundg (nb-(i+1))
      case measure=>omega
      case rel=>exact⟨i+1,R,V,es,nr,A,Y,f,vs,n,zd,rfl,ze,ak.o⟩
     ·have k3:(x.k==3)=false:=by simp[h3]
      clear N ae h3;go_wp2
      go_roundg (nb-(i+1))
      case measure=>omega
      case rel=>exact⟨i+1,R,V,es,nr,A,Y,f,vs,n,zd,rfl,ze,ak.o⟩
  ·obtain rfl:i=nb:=zd;have ht:body.take i=body:=by rw[<-HN.o,zp5]
   have hL:=X.o;have ac:=zz (show vs.length+es.length<=2097152 by
    have h1:=X.o.sum;rw[<-X.o.rg.len]at h1;rw[ht]at h1;have:=H.o.zO;omega)
   clear hL;have Ht:=zz ht;clear ht;go_wp2
   go_loopg[55] es.length (fun gk aa wx=>∃(mb:Nat) (R':Option Addr) (q:Nat) (L:List qC) (Z:Nat) (A':Option Addr) (O:Nat) (f':Value->Option Value) (I:List ByteArray) (n':Nat),gk=L.length/\ZW w.heap.size wx (w.heap.size+1+1) (w.heap.size+1) mb R' q L Z A' O f' I n'/\Bl w wx/\(∀u∈vs,u∈I)/\(∀e∈es,e∈L\/e.done I)/\I.length+L.length<=2097152)
   case atStart=>exact⟨w.heap.size,R,V,es,nr,A,Y,f,vs,n,rfl,X.o.rg,X.o.below,fun u hu=>hu,fun e he=>.inl he,ac.o⟩
   case round=>
    obtain⟨mb,R',q,L,Z,A',O,f',I,n',rfl,aa,hB,U,hd,ab⟩:=hrel;have Hr:=zz (zkk w.heap.size _ _ _ mb R' q L Z A' O f' I n' hB.size aa (by have:=aa.len;omega));have HB:=zz hB;have Hg:=zz U;have Hd:=zz hd;have ag:=zz ab;clear aa hB U hd ab
    go_wp2_with (go_at_call 118;refine Hr.o.mono ?_;rintro e w1⟨b1,ae,R1,aa,ad,ah,A1,aj,f1,ab,n1,rfl,h1⟩;have af:=zz h1;clear h1)
    ·obtain⟨h1,h2,h3,h4,-,h6,h7⟩:=af.o;have h8:=h4 ‹b1=true›
     go_roundg ad.length
     case measure=>exact h8
     case rel=>exact⟨ae,R1,aa,ad,ah,A1,aj,f1,ab,n1,rfl,h1,HB.o.trans h7,fun u hu=>h2 u (Hg.o u hu),fun e he=>(Hd.o e he).elim (h3 e) (fun h=>.inr (h.mono h2)),by have:=ag.o;omega⟩
    ·obtain⟨h1,h2,h3,-,h5,h6,h7⟩:=af.o;have h8:=h5 ‹b1=false›;go_returns;refine⟨_,ab,rfl,⟨ae,A1,aj,f1,n1,h1.yU⟩,zmA (fun x hx N v hv=>h2 v (Hg.o v (X.o.atoms x (by rw[Ht.o];exact hx) N v hv))) (fun x hx N hr=>?_),by have:=ag.o;omega,HB.o.trans h7⟩;obtain⟨e,he,ho⟩:=X.o.eqs x (by rw[Ht.o];exact hx) N hr;exact⟨e,ho,((Hd.o e he).elim (h3 e) (fun h=>.inr (h.mono h2))).elim (h8 e) (fun h=>h.shut)⟩
end
