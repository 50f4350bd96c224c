/-
  Books: ask; Look; Count. Plain words: which variables have a
-/
import Derived.Test.YtfdickkdlcgicaaGreatDoorQ21
set_option maxRecDepth 100000
set_option maxHeartbeats 8000000
set_option linter.all false
namespace Go.Proofs.YtfdickkdlcgicaaGreatDoor.C
open Go.Proofs.Tryz Go Go.RowKit Go.Maps Go.WideMaps
variable {A:Option Addr}{I us vs:List z6}{K:List ByteArray}{L N O X ar bb pb q rb tb:Nat}{Q S S1:Nat->Prop}{R:List (List Nat)}{T ns r:List Nat}{f:Value->Option Value}{own:ByteArray->Bool->Nat->Prop}{p u:ByteArray}{w w':World}{xs:List Vl}{α:Type}{ρ:Env}
section
theorem zbK{V:Nat->Prop}(h:Rel w X L R S1)(N:yY w bb X R V)(m:Nat)(O:L<=24)(hm:m<2 ^ L)(Y:R.length<=4194304)(hS:∀g,S1 g->¬V g):
 Calls prog 323 #[.pointer (some ⟨bb,0,none⟩),.int .u32 (m:Int)] w (Dk m bb X R V w):=by
 obtain⟨mb,f,ix,N,I⟩:=N;have W:∀g,S1 g->¬YC bb mb ix g:=fun g q U=>hS g q (I g U)
 have U:=zmS h N m O hm Y W;refine U.mono ?_;rintro e w'⟨d,rfl,h1,Z,h3,h4,h5⟩;exact⟨d,rfl,h1,Z,fun g q=>(h3 g q).imp (I g) id,h4.mono fun g q=>q.imp (I g) id,h5.mono fun g q _=>I g q⟩
abbrev yX(n:Nat):List Value:=[.int .i64 (n:Int)]
theorem zie(l:List Nat):(l.map fun n:Nat=>[Value.int .i64 (n:Int)]).flatten=l.flatMap yX:=by rw[zrs]
theorem zeE(w:World)(A:Option Addr)(cap n:Nat)(xs:List Nat)(I:xs.length=n)(h:zZ yX w A xs)(q:n<=4194304):Calls prog 333 #[.slice A n cap] w (XA yX 3 1 xs w):=
 UL Tryz.zi0 zaI rfl (fun w=>sizeOf3 w) (fun _=>rfl) (fun _=>zt) w A cap n xs I h q zr
theorem XI.V4{m:Nat}{d:yI}(h:XI w R m d)(N:d.seen=R.length)(x:List Nat):∃A q,(d.f (.agg (zX (ql m x)).toArray)).getD (.slice none 0 0)=.slice A (qL R m x).length q/\zZ yX w A (qL R m x):=by
 obtain⟨A,q,L,I⟩:=h.Yq.V4 (.agg (zX (ql m x)).toArray);rw[N,zgI]at L I;rw[zpO]at L I;refine⟨A,q,L,?_⟩;rw[zie]at I;have O:Own yX 3 1 w A q (qL R m x):=I;exact O.xI
theorem za2(R:List (List Nat))(m:Nat)(x:List Nat):(qL R m x).length<=R.length:=by
 unfold qL;exact zpK (zqS _ _) zp
def zc3(m bb I:Nat)(R:List (List Nat))(S:Nat->Prop)(x:List Nat)(w:World)(e:Ending)(w':World):Prop:=
 ∃q A h n,e=.returned (.tuple #[.slice A n h,.int .i64 0])/\(qL R m x).length=n/\Own yX 3 1 w' A h (qL R m x)/\(∀g∈zw A,q.heap.size<=g)/\yY q bb I R (fun g=>S g\/w.heap.size<=g)/\zh S w q/\Bl q w'
def DK(m bb h:Nat)(R:List (List Nat))(S:Nat->Prop)(x:List Nat)(w:World)(e:Ending)(w':World):Prop:=
 e=.returned (.tuple #[.int .i64 ((qL R m x).length:Int),.int .i64 0])/\yY w' bb h R (fun g=>S g\/w.heap.size<=g)/\zh S w w'
theorem zln{S2:Nat->Prop}(h:Rel w rb ar R S1)(hb:yY w bb rb R S2)(m:Nat)(aa:ar<=24)(hm:m<2 ^ ar)(Y:R.length<=4194304)(hS:∀g,S1 g->¬S2 g)(ac:∀g,S2 g->g<w.heap.size)(x:List Nat)(hx:Rw x):
 Calls prog 331 #[.pointer (some ⟨bb,0,none⟩),.int .u32 (m:Int),.agg (zX x).toArray] w (zc3 m bb rb R S2 x w):=by
 obtain⟨W0,I,L⟩:=xi w 155 (zX x).toArray;have q:m<2 ^ 24:=zpz hm (zqo zr aa);have HX:=zz L;have aq:=zz I;have ab:=zz (zbK (h.below L.below) (hb.below L.below) m aa hm Y hS);have au:=zz ac;have Hx:=zz hx;have an:=zz Y;have ad:=zz q;clear h hb hS ac hx L I q Y;go_enter func331,ntmps331;go_upto_region 1 with fail
 rw[aq.o];go_upto_region 4 with(go_at_call 323;refine ab.o.mono ?_;rintro e N⟨d,rfl,hd,U,ak,al,ah⟩;have Hd:=zz hd;have L:=zz U;have am:=zz al;have Z:=zz ah;clear hd U ak al ah)
 obtain⟨A,aj,q,O⟩:=L.o.V4 Hd.o x;obtain⟨n,hn⟩:∃n,(qL R m x).length=n:=⟨_,rfl⟩;rw[hn]at q;have ae:∀W:World,Bl N W->W.rangeAt w.heap.size 0 (zX x):=fun W I j v X=>by
  have af:w.heap.size<W0.heap.size:=HX.o.b0.lt;have h1:zD W w.heap.size 155 (zX x).toArray:=((HX.o.b0.zC Z.o fun V=>by have:=au.o _ V;omega).below I);rw[h1.cell (0+j)];simpa using X
 have X:w.heap.size<N.heap.size:=zpz HX.o.b0.lt Z.o.size;have H4:=zz (show ∀W,Bl N W->W.cell? ⟨d.xb,0,none⟩=some (.map (some d.kb))/\(Instr.lookup 454 (.map (some d.kb)) (.agg (zX (ql m x)).toArray) false).run prog W=.ok (.slice A n aj) W from fun W I=>⟨(L.o.zH.below I).cell 0,by
  have:=(L.o.Yq.map.below I).look Ut underlying454 (z:=.slice none 0 0) zo (Jq (Hx.o.mask m)) false;simp only[zqw,if_false]at this;rw[this,q]⟩)
 have ag:=zz (fun W (I:Bl N W)=>TL W w.heap.size x Hx.o (ae W I) (zpz X I.size) m ad.o);have ap:=zz (fun W (I:Bl N W)=>zeE W A aj n (qL R m x) hn (O.below I) (by rw[<-hn];exact zpK (za2 R m x) an.o));have Hn:=zz hn;have ao:=zz X;clear q O hn ae X;refine xX [0,0,0,0,0,2,0,2,0,0] (fun W=>Bl N W) ?_
 repeat refine zS H4.o ?_
 refine xf fun K hK=>?_
 go_simp;refine(ag.o _ (Below.refl _ _).drew).mono ?_;rintro e w2⟨rfl,I⟩;have q:Bl N w2:=zl (Below.refl N.heap.size N).drew I;refine hK.out _ _ q (fun _=>trivial) ?_;clear hK K I;try refine zQ ?_
 repeat refine zS H4.o ?_
 refine xf fun K hK=>?_
 go_simp;refine(ap.o _ q).mono ?_;rintro e w3⟨A3,O,n3,rfl,ae,ai,af,X⟩;have I:Bl N w3:=zl q af;refine hK.out _ _ I (fun _=>trivial) ?_;clear hK K;try refine zQ ?_
 repeat refine zS H4.o ?_
 refine xt ?_;have HE:=zz (show zc3 m bb rb R S2 x w (.returned (.tuple #[.slice A3 n3 O,.int .i64 0])) w3 from⟨N,A3,O,n3,rfl,ae,ai,fun g V=>by have:=X g V;have:=q.size;have:=ao.o;omega,
  am.o.mono fun g V=>V.imp id fun h=>zpK (zrb HX.o.b0.lt) h,
  (zh.xj S2 HX.o.below).trans Z.o fun g V _=>V,I⟩)
 clear af I q X ai ae;go_wp2;go_returns;exact HE.o
theorem zkA{Z:Nat->Prop}(h:Rel w rb ar R S1)(hb:yY w bb rb R Z)(m:Nat)(ad:ar<=24)(hm:m<2 ^ ar)(Y:R.length<=4194304)(hS:∀g,S1 g->¬Z g)(ab:∀g,Z g->g<w.heap.size)(x:List Nat)(hx:Rw x):
 Calls prog 321 #[.pointer (some ⟨bb,0,none⟩),.int .u32 (m:Int),.agg (zX x).toArray] w (DK m bb rb R Z x w):=by
 obtain⟨W0,I,L⟩:=xi w 155 (zX x).toArray;have q:m<2 ^ 24:=zpz hm (zqo zr ad);have HX:=zz L;have al:=zz I;have af:=zz (zbK (h.below L.below) (hb.below L.below) m ad hm Y hS);have an:=zz ab;have Hx:=zz hx;have ak:=zz Y;have aa:=zz q;clear h hb hS ab hx L I q Y;go_enter func321,ntmps321;go_upto_region 1 with fail
 rw[al.o];go_upto_region 4 with(go_at_call 323;refine af.o.mono ?_;rintro e L⟨d,rfl,hd,O,ah,ai,aj⟩;have Hd:=zz hd;have I:=zz O;have am:=zz ai;have X:=zz aj;clear hd O ah ai aj)
 obtain⟨A,ae,q,U⟩:=I.o.V4 Hd.o x;obtain⟨n,hn⟩:∃n,(qL R m x).length=n:=⟨_,rfl⟩;rw[hn]at q;have ac:∀W:World,Bl L W->W.rangeAt w.heap.size 0 (zX x):=fun W N j v hv=>by
  have ag:w.heap.size<W0.heap.size:=HX.o.b0.lt;have V:zD W w.heap.size 155 (zX x).toArray:=((HX.o.b0.zC X.o fun hg=>by have:=an.o _ hg;omega).below N);rw[V.cell (0+j)];simpa using hv
 have V:w.heap.size<L.heap.size:=zpz HX.o.b0.lt X.o.size;have H4:=zz (show ∀W,Bl L W->W.cell? ⟨d.xb,0,none⟩=some (.map (some d.kb))/\(Instr.lookup 454 (.map (some d.kb)) (.agg (zX (ql m x)).toArray) false).run prog W=.ok (.slice A n ae) W from fun W N=>⟨(I.o.zH.below N).cell 0,by
  have:=(I.o.Yq.map.below N).look Ut underlying454 (z:=.slice none 0 0) zo (Jq (Hx.o.mask m)) false;simp only[zqw,if_false]at this;rw[this,q]⟩)
 have ag:=zz (fun W (N:Bl L W)=>TL W w.heap.size x Hx.o (ac W N) (zpz V N.size) m aa.o);have ap:=zz (fun W (N:Bl L W)=>zeE W A ae n (qL R m x) hn (U.below N) (by rw[<-hn];exact zpK (za2 R m x) ak.o));have Hn:=zz hn;have ao:=zz V;clear q U hn ac V;refine xX [0,0,0,0,0,2,0,0,0,0] (fun W=>Bl L W) ?_
 repeat refine zS H4.o ?_
 refine xf fun K U=>?_
 go_simp;refine(ag.o _ (Below.refl _ _).drew).mono ?_;rintro e V⟨rfl,N⟩;have q:Bl L V:=zl (Below.refl L.heap.size L).drew N;refine U.out _ _ q (fun _=>trivial) ?_;clear U K N;try refine zQ ?_
 repeat refine zS H4.o ?_
 refine xt ?_;have N:=zz (show DK m bb rb R Z x w (.returned (.tuple #[.int .i64 (n:Int),.int .i64 0])) V from⟨by rw[Hn.o],
  (am.o.below q).mono fun g hg=>hg.imp id fun h=>zpK (zrb HX.o.b0.lt) h,
  ((zh.xj Z HX.o.below).trans X.o fun g hg _=>hg).trans (zh.xj (fun _=>False) q) fun _ h _=>h.elim⟩)
 clear q;go_wp2;go_returns;exact N.o
theorem zf5(K:List ByteArray):∀(h:List Tm)(i:Nat),qm K (i+1) h=2*qm K i h
 |[],i=>by simp[qm]
 |t::h,i=>by
  rw[qm,qm,zf5 K h (i+1),Nat.mul_add]
  congr 1
  split
  ·rw[Nat.pow_succ,Nat.mul_comm]
  ·rfl
theorem zaN(K:List ByteArray):∀(q:List Tm)(j:Nat),(qm K 0 q).testBit j=true↔∃t,q[j]? = some t/\(t.v.toList=[]\/t.v∈K)
 |[],j=>by simp[qm]
 |t::q,j=>by
  rw[qm,zf5,Nat.pow_zero]
  cases j with
  |zero=>
   rw[Nat.testBit_zero,zpH];split
   ·rename_i h;constructor
    ·intro _;exact⟨t,rfl,h⟩
    ·intro _;simp
   ·rename_i h;constructor
    ·intro I;simp at I
    ·rintro⟨N,I,L⟩;cases I;exact absurd L h
  |succ j=>
   rw[Nat.testBit_succ,zpM,<-zaN K q j];have e:∀b M:Nat,b<=1->(b+2*M) / 2=M:=by intro b M h;omega
   rw[e _ _ (by split<;>omega)]
theorem zaS{q:List Tm}{j:Nat}{t:Tm}(h:q[j]? = some t):(qm K 0 q).testBit j=false↔t.v.toList≠[]/\t.v∉K:=by
 rw[<-Bool.not_eq_true,zaN];constructor
 ·intro I;exact⟨fun e=>I ⟨t,h,.inl e⟩,fun e=>I ⟨t,h,.inr e⟩⟩
 ·rintro⟨O,L⟩ ⟨R,I,N⟩;rw[h]at I;cases I;exact N.elim O L
theorem zlO(K:List ByteArray)(h:List Tm):qm K 0 h<2 ^ h.length:=by
 have:=zah K h 0;rw[zp6]at this;omega
theorem Ex.zen{e:Ex}(h:e.empty):e.vars=[]:=by
 obtain⟨q,t,A,O,I⟩:=e;obtain⟨-,U,rfl⟩:=h;refine List.eq_nil_iff_forall_not_mem.2 fun u R=>?_
 obtain⟨N,W,L,V⟩:=Ex.qJ.1 R;unfold Ex.zO Ex.qq at L;obtain rfl:=zpy.1 L;rw[<-V,U.1]at N;exact N.1 zp
theorem Li.zkO{x:Li}(q:x.ok)(I:x.k≠3):u∈x.vars↔isVar u/\∃t∈x.a.args,t.v=u:=by
 rcases q with⟨_,_,L,N,_⟩ |⟨h,_⟩
 ·rw[Li.qJ,Ex.zen L,Ex.zen N,At.qJ];simp
 ·exact absurd h I
theorem Tu{x:Li}(h:x.ok)(q:x.k≠3):u∈qF K x↔(isVar u/\∃t∈x.a.args,t.v=u)/\u∉K:=by
 rw[Uq,Li.zkO h q]
theorem zjG(R:Ya ρ K){x:Li}(q:x.ok)(L:x.k≠3)(xs:List Vl):Z2 (fit (qm K 0 x.a.args) 0 x.a.args xs ρ).2 (qF K x)=ρ:=by
 funext u
 rw[zea];split
 ·rename_i h;exact(R.none_ ((Tu q L).1 h).2).symm
 ·rename_i h
  rcases Ju (qm K 0 x.a.args) x.a.args xs 0 ρ u with I |⟨U,j,t,I,N,O,rfl⟩
  ·exact I
  ·rw[zp6]at N;have:=(zaS I).1 N;exact absurd ((Tu q L).2 ⟨⟨⟨this.1,O⟩,t,zqE I,rfl⟩,this.2⟩) h
theorem ziy(N:Ya ρ K){x:Li}(q:x.ok)(O:x.k≠3)(V:x.a.args.length=xs.length)(h:(fit (qm K 0 x.a.args) 0 x.a.args xs ρ).1=true):
 Ya (fit (qm K 0 x.a.args) 0 x.a.args xs ρ).2 (K++qF K x):=fun v=>by
 rw[zpE];constructor
 ·intro R
  rcases Ju (qm K 0 x.a.args) x.a.args xs 0 ρ v with I |⟨W,j,t,I,L,U,rfl⟩
  ·rw[I]at R;exact .inl ((N v).1 R)
  ·rw[zp6]at L;have:=(zaS I).1 L;exact .inr ((Tu q O).2 ⟨⟨⟨this.1,U⟩,t,zqE I,rfl⟩,this.2⟩)
 ·rintro(I|I)
  ·obtain⟨y,L⟩:=zqq.1 ((N v).2 I);rw[zae _ _ _ _ _ _ _ L];rfl
  ·obtain⟨⟨L,t,U,rfl⟩,W⟩:=(Tu q O).1 I;obtain⟨j,R⟩:=List.getElem?_of_mem U;exact zeK _ _ _ 0 _ V h j t R (by rw[zp6];exact(zaS R).2 ⟨L.1,W⟩) L.2
theorem TF(m:Nat):∀(I:List Tm)(q:List Vl)(i:Nat)(ρ:Env)(v:ByteArray)(y:Vl),(fit m i I q ρ).2 v=some y->ρ v=some y\/y∈q
 |[],q,i,ρ,v,y,h=>by unfold fit at h;exact .inl h
 |t::I,[],i,ρ,v,y,h=>by unfold fit at h;exact .inl h
 |t::I,x::q,i,ρ,v,y,h=>by
  rw[VO]at h;split at h
  ·exact(TF m I q _ ρ v y h).imp id (zpQ _)
  ·split at h
   ·split at h
    ·exact(TF m I q _ ρ v y h).imp id (zpQ _)
    ·exact .inl h
   ·rcases TF m I q _ _ v y h with L|L
    ·rw[YG]at L;split at L
     ·cases L;exact .inr zpP
     ·exact .inl L
    ·exact .inr (zpQ _ L)
theorem zm5(I:Ya ρ K)(v:ByteArray)(x:Vl):Ya (qR ρ v x) (K++[v]):=fun u=>by
 rw[YG,zpE,zpy];split
 ·rename_i h;simp[h]
 ·rename_i h;rw[I u];constructor
  ·exact .inl
  ·rintro(q|q)
   ·exact q
   ·exact absurd q h
theorem zkT(I:Ya ρ K){v:ByteArray}(q:v∉K)(x:Vl):ZS (qR ρ v x) v=ρ:=by
 funext u
 unfold ZS;split
 ·rename_i h;rw[h];exact(I.none_ q).symm
 ·rename_i h;rw[YG,if_neg h]
def Y2(ρ:Env)(f:Value->Option Value):Prop:=∀v:ByteArray,f (.string v)=(ρ v).map fun x=>.agg x.cells.toArray
theorem Y2.known(h:Y2 ρ f):DH ρ f:=fun v _=>by
 rw[h v]
 cases ρ v<;>rfl
theorem Y2.bind(h:Y2 ρ f)(v:ByteArray)(x:Vl):Y2 (qR ρ v x) (yp f (.string v) (.agg x.cells.toArray)):=fun u=>by
 rw[YG]
 by_cases q:u=v
 ·subst q;rw[Yt,if_pos rfl];rfl
 ·rw[XR (fun e=>q (by injection e)),if_neg q];exact h u
theorem Y2.drop(h:Y2 ρ f)(v:ByteArray):Y2 (ZS ρ v) (del f (.string v)):=fun u=>by
 unfold ZS del
 by_cases q:u=v
 ·subst q;rw[if_pos rfl,if_pos rfl];rfl
 ·rw[if_neg (fun e=>q (by injection e)),if_neg q];exact h u
theorem zk5:Y2 (fun _=>none) (fun _=>none):=fun _=>rfl
structure Pd where
 rb:Nat
 bb:Nat
 ar:Nat
 R:List (List Nat)
def Pd.kept(d:Pd):Value:=.agg #[.pointer (some ⟨d.rb,0,none⟩),.pointer (some ⟨d.bb,0,none⟩)]
structure yL (w:World) (wb tb pb:Nat) (vs:List z6) (f:Value->Option Value) (D:ByteArray->Option Pd) (T:List Nat) (own:ByteArray->Bool->Nat->Prop):Prop where
 zH:zD w wb 117 #[.pointer (some ⟨tb,0,none⟩),.map (some pb)]
 tab:qv w tb 2147483647 vs T
 map:xv prog 9 w pb f
 XM:∀p:ByteArray,f (.string p)=(D p).map Pd.kept
 only:∀x v,f x=some v->∃p:ByteArray,x=.string p
 small:∀p d,D p=some d->p.size<=maxLen
 rel:∀p d,D p=some d->Rel w d.rb d.ar d.R (own p false)
 book:∀p d,D p=some d->yY w d.bb d.rb d.R (own p true)
 ar:∀p d,D p=some d->d.ar<=24
 rows:∀p d,D p=some d->∀r∈d.R,yT vs d.ar r
 lt:∀p d a g,D p=some d->own p a g->g<w.heap.size
 apart:∀p q d e a b g,D p=some d->D q=some e->own p a g->own q b g->p=q/\a=b
 off:∀p d a g,D p=some d->own p a g->g≠wb/\g≠pb/\g∉T
 X6:wb∉T/\pb∉T
def Zp(h q:Nat)(T:List Nat)(D:ByteArray->Option Pd)(own:ByteArray->Bool->Nat->Prop)(g:Nat):Prop:=g=h\/g=q\/g∈T\/∃p d a,D p=some d/\own p a g
abbrev yW:=ByteArray->Option (Nat×List (List Vl))
def yd(w:World)(q:Nat)(G:yW)(S:Nat->Prop)(N:Nat):Prop:=
 ∃L I h f D T own,yL w q L I h f D T own/\(∀p,G p=(D p).map fun d=>(d.ar,rowsOf h d.ar d.R))/\h.length<=N/\∀g,Zp q I T D own g->S g
theorem yL.lt_{I:Nat}{D:ByteArray->Option Pd}(h:yL w L O I vs f D T own):∀g,Zp L I T D own g->g<w.heap.size:=by
 rintro g (rfl|rfl|q |⟨p,d,a,N,q⟩)
 ·exact h.zH.lt
 ·exact h.map.lt
 ·exact h.tab.lt g q
 ·exact h.lt p d a g N q
theorem yL.zC{U R:Nat}{D:ByteArray->Option Pd}(h:yL w O U R vs f D T own)(L:zh Q w w')(N:∀g,Zp O R T D own g->¬Q g):yL w' O U R vs f D T own:=
 ⟨h.zH.zC L (N _ (.inl rfl)),h.tab.same fun g q=>L.block g (h.tab.lt g q) (N g (.inr (.inr (.inl q)))),h.map.zC L (N _ (.inr (.inl rfl))),h.XM,h.only,h.small,
  fun p d I=>(h.rel p d I).zC L fun g q=>N g (.inr (.inr (.inr ⟨p,d,_,I,q⟩))),fun p d I=>(h.book p d I).zC L fun g q=>N g (.inr (.inr (.inr ⟨p,d,_,I,q⟩))),h.ar,h.rows,
  fun p d a g I q=>zpz (h.lt p d a g I q) L.size,h.apart,h.off,h.X6⟩
theorem yd.zC{G:yW}(h:yd w q G S N)(Y:zh Q w w')(W:∀g,S g->¬Q g):yd w' q G S N:=by
 obtain⟨U,R,O,f,D,T,own,h,V,X,I⟩:=h;exact⟨U,R,O,f,D,T,own,h.zC Y fun g L=>W g (I g L),V,X,I⟩
theorem yd.below{G:yW}(h:yd w q G S N)(L:Bl w w'):yd w' q G S N:=h.zC (zh.xj (fun _=>False) L) fun _ _ I=>I
theorem yd.cut{G:yW}(h:yd w q G S N):yd w q G (fun g=>S g/\g<w.heap.size) N:=by
 obtain⟨L,V,O,f,D,T,own,h,W,U,R⟩:=h;exact⟨L,V,O,f,D,T,own,h,W,U,fun g I=>⟨R g I,h.lt_ g I⟩⟩
theorem yd.mono{G:yW}{S':Nat->Prop}(h:yd w q G S N)(V:∀g,S g->S' g):yd w q G S' N:=by
 obtain⟨U,R,L,f,D,T,own,h,W,X,O⟩:=h;exact⟨U,R,L,f,D,T,own,h,W,X,fun g I=>V g (O g I)⟩
open Classical in
noncomputable def zkH(own:ByteArray->Bool->Nat->Prop)(p:ByteArray)(lo hi:Nat):ByteArray->Bool->Nat->Prop:=fun q a g=>own q a g\/(q=p/\a=true/\lo<=g/\g<hi)
theorem yL.asked{Y:Nat}{D:ByteArray->Option Pd}(h:yL w Y tb pb vs f D T own){d:Pd}(W:D p=some d)(U:zh (own p true) w w')(hb:yY w' d.bb d.rb d.R (fun g=>own p true g\/w.heap.size<=g)):yL w' Y tb pb vs f D T (zkH own p w.heap.size w'.heap.size):=by
 have O:=fun g (I:own p true g)=>h.off p d true g W I
 refine⟨h.zH.zC U fun I=>(O _ I).1 rfl,h.tab.same fun g I=>U.block g (h.tab.lt g I) fun L=>(O g L).2.2 I,h.map.zC U fun I=>(O _ I).2.1 rfl,h.XM,h.only,h.small,fun q e N=>?_,fun q e N=>?_,h.ar,h.rows,
  fun q e a g N I=>?_,fun q q' e Z a b g N V I L=>?_,fun q e a g N I=>?_,h.X6⟩
 ·exact((h.rel q e N).zC U fun g I L=>by have:=(h.apart q p e d _ _ g N W I L).2;cases this).mono fun g I=>.inl I
 ·by_cases e1:q=p
  ·subst e1;rw[W]at N;injection N with N;subst N
   refine hb.cut.mono fun g I=>?_
   rcases I.1 with X|X
   ·exact .inl X
   ·exact .inr ⟨rfl,rfl,X,I.2⟩
  ·exact((h.book q e N).zC U fun g I L=>e1 (h.apart q p e d _ _ g N W I L).1).mono fun g I=>.inl I
 ·rcases I with I |⟨_,_,_,I⟩
  ·exact zpz (h.lt q e a g N I) U.size
  ·exact I
 ·rcases I with I |⟨rfl,rfl,I,_⟩<;>rcases L with L |⟨rfl,rfl,L,_⟩
  ·exact h.apart q q' e Z a b g N V I L
  ·have:=h.lt q e a g N I;omega
  ·have:=h.lt q' Z b g V L;omega
  ·exact⟨rfl,rfl⟩
 ·rcases I with I |⟨rfl,rfl,I,_⟩
  ·exact h.off q e a g N I
  ·have:=h.zH.lt;have:=h.map.lt;exact⟨zd,zd,fun X=>by have:=h.tab.lt g X;omega⟩
theorem zkd{x:Vl}(h:x.ok):x.val.ok=true:=by
 unfold z6.ok Vl.val
 rcases h with⟨I,q⟩ |⟨I,q,L⟩
 ·simp[I,q];rfl
 ·simp[I,q,L]
structure Vz (us vs vs':List z6) (ns:List Nat):Prop where
 pre:vs <+: vs'
 len:ns.length=us.length
 at_:∀(i:Nat)(u:z6),us[i]? = some u->∃n:Nat,ns[i]? = some n/\vs'[n]? = some u
 le:vs'.length<=vs.length+us.length
theorem prefix_at{a b:List α}(h:a <+: b){n:Nat}{x:α}(q:a[n]? = some x):b[n]? = some x:=by
 obtain⟨t,rfl⟩:=h;rw[zq1 (zp9.1 q).1];exact q
theorem zdJ(zR:Nat):∀(N vs:List z6)(I:List Nat),(∀u∈N,u.ok=true)->vs.length+N.length<=zR->∃L W,XQ zR N vs I=(L,I++W,0)/\Vz N vs L W
 |[],vs,I,_,_=>⟨vs,[],by simp[XQ],⟨zrw _,rfl,fun i u h=>by simp at h,zp⟩⟩
 |u::N,vs,I,U,V=>by
  have Z:=U u zpP;obtain⟨q,n,hs,Y,hn,hl⟩:∃q n,XK zR vs u=(q,n,0)/\vs <+: q/\q[n]? = some u/\q.length<=vs.length+1:=by
   unfold XK;rw[if_neg (by rw[Z];exact Bool.noConfusion)]
   by_cases h:u∈vs
   ·rw[if_pos h];exact⟨vs,vs.idxOf u,rfl,zrw _,by rw[zpF (UU h),zdw h],zd⟩
   ·rw[if_neg h,if_pos (by simp at V;omega)];exact⟨vs++[u],vs.length,rfl,List.prefix_append _ _,zp,zp⟩
  obtain⟨L,W,X,O⟩:=zdJ zR N q (I++[n]) (fun x R=>U x (zpQ _ R)) (by simp at V;omega);refine⟨L,n::W,?_,Y.trans O.pre,by simp[O.len],fun i x R=>?_,by have:=O.le;simp;omega⟩
  ·rw[Tv,hs,if_pos rfl,X];simp
  ·cases i with
   |zero=>simp at R;subst R;exact⟨n,rfl,prefix_at O.pre hn⟩
   |succ i=>exact O.at_ i x R
theorem Dh(ns:List Nat)(i:Nat):(pad ns).getD i 0=ns.getD i 0:=by
 unfold pad;rw[zpW,zpW]
 by_cases h:i<ns.length
 ·rw[zq1 h]
 ·rw[zqL zd,zq5 (by omega:ns.length<=i)]
  cases hq:(List.replicate (24-ns.length) 0)[i-ns.length]? with
  |none=>rfl
  |some y=>rw[(List.mem_replicate.1 (zqE hq)).2];rfl
theorem Vz.lt{vs:List z6}(h:Vz us vs I ns):∀n∈ns,n<I.length:=fun n q=>by
 obtain⟨i,N⟩:=List.getElem?_of_mem q;have q:=(zp9.1 N).1;rw[h.len]at q;obtain⟨R,L,O⟩:=h.at_ i _ (zpF q);rw[N]at L;injection L with L;subst L
 exact(zp9.1 O).1
theorem Vz.JK{vs q:List z6}(h:Vz us vs q ns)(L:us.length<=24):yT q us.length (pad ns):=by
 refine⟨by unfold pad;simp;have:=h.len;omega,fun i I=>?_,fun i I=>?_⟩
 ·rw[Dh,getD_at _ (by rw[h.len];exact I)];exact h.lt _ (zpB _)
 ·rw[Dh,zpW,zq5 (by rw[h.len];exact I)];rfl
theorem Vz.zgz{vs:List z6}(h:Vz us vs I ns)(q:us.length<=24):Xe I us.length (pad ns)=us.map z6.vl:=by
 have N:=h.JK q;refine List.ext_getElem? fun i=>?_
 by_cases L:i<us.length
 ·rw[UM N q i L,zqt,zpF L,Dh];obtain⟨n,R,O⟩:=h.at_ i _ (zpF L);rw[zpW,R];unfold Y0;rw[zpW,zqr,O];rfl
 ·rw[zq5 (by rw[Dl N q];omega),zq5 zb]
theorem zja{vs:List z6}(X:vs.Nodup){I:Nat}{q:List Nat}(h:yT vs I r)(L:yT vs I q)(Y:I<=24)(e:Xe vs I r=Xe vs I q):r=q:=by
 refine zrj (by rw[h.len,L.len]) fun i h1 Z=>?_
 have e1:r[i]=r.getD i 0:=(getD_at _ _).symm;have e2:q[i]=q.getD i 0:=(getD_at _ _).symm;rw[e1,e2]
 by_cases N:i<I
 ·have:=congrArg (fun l:List Vl=>l[i]?) e;simp only[UM h Y i N,UM L Y i N]at this;injection this with this
  unfold Y0 at this;have:=zg4 this;have V:=h.lt i N;have W:=L.lt i N;rw[getD_at _ V,getD_at _ W]at this
  rcases Nat.lt_trichotomy (r.getD i 0) (q.getD i 0)with O|R|U
  ·exact absurd this (zqf.1 X _ _ V W O)
  ·exact R
  ·exact absurd this.symm (zqf.1 X _ _ W V U)
 ·rw[h.zero i zd,L.zero i zd]
open Classical in
noncomputable def Vf(R:List (List Vl))(x:List Vl):List (List Vl):=if x∈R then R else R++[x]
theorem ziS{vs:List z6}(X:vs.Nodup)(U:q<=24)(V:∀r∈R,yT vs q r)(W:yT vs q r):rowsOf vs q (Ye R r)=Vf (rowsOf vs q R) (Xe vs q r)/\(r∈R↔Xe vs q r∈rowsOf vs q R):=by
 have I:r∈R↔Xe vs q r∈rowsOf vs q R:=by
  unfold rowsOf;rw[zp8];constructor
  ·intro h;exact⟨r,h,rfl⟩
  ·rintro⟨N,L,O⟩;rw[<-zja X (V N L) W U O];exact L
 refine⟨?_,I⟩;unfold Ye Vf
 by_cases h:r∈R
 ·rw[if_pos h,if_pos (I.1 h)]
 ·rw[if_neg h,if_neg (fun L=>h (I.2 L))];unfold rowsOf;rw[zp1];rfl
section
variable {w w':World}{wb tb pb:Nat}{vs:List z6}{f:Value->Option Value}{D:ByteArray->Option Pd}{T:List Nat}{own:ByteArray->Bool->Nat->Prop}
theorem yL.TM(h:yL w wb tb pb vs f D T own){O:List z6}{q:List Nat}(R:zh (·∈T) w w')(N:qv w' tb 2147483647 O q)(V:vs <+: O)(U:∀k∈q,k∈T\/w.heap.size<=k):yL w' wb tb pb O f D q own:=
 ⟨h.zH.zC R h.X6.1,N,h.map.zC R h.X6.2,h.XM,h.only,h.small,fun p d q=>(h.rel p d q).zC R fun g I=>(h.off p d _ g q I).2.2,fun p d q=>(h.book p d q).zC R fun g I=>(h.off p d _ g q I).2.2,h.ar,
  fun p d q r L=>(h.rows p d q r L).mono V,fun p d a g q I=>zpz (h.lt p d a g q I) R.size,h.apart,
  fun p d a g q I=>⟨(h.off p d a g q I).1,(h.off p d a g q I).2.1,fun N=>by
   rcases U g N with L|L
   ·exact(h.off p d a g q I).2.2 L
   ·have:=h.lt p d a g q I;omega⟩,
  ⟨fun N=>by rcases U wb N with L|L;exact h.X6.1 L;have:=h.zH.lt;omega,fun N=>by rcases U pb N with L|L;exact h.X6.2 L;have:=h.map.lt;omega⟩⟩
open Classical in
noncomputable def Yl(D:ByteArray->Option Pd)(p:ByteArray)(d:Pd):ByteArray->Option Pd:=fun q=>if q=p then some d else D q
open Classical in
noncomputable def zkJ(own:ByteArray->Bool->Nat->Prop)(p:ByteArray)(b:Bool)(lo hi:Nat):ByteArray->Bool->Nat->Prop:=fun q a g=>own q a g\/(q=p/\a=b/\lo<=g/\g<hi)
theorem Vn{q:ByteArray}{d e:Pd}(h:Yl D p d q=some e):(q=p/\e=d)\/(q≠p/\D q=some e):=by
 unfold Yl at h;split at h
 ·rename_i e1;injection h with h;exact .inl ⟨e1,h.symm⟩
 ·rename_i e1;exact .inr ⟨e1,h⟩
theorem yL.Tj(h:yL w wb tb pb vs f D T own){d:Pd}(Y:D p=some d)(hr:yT vs d.ar r)(hc:zh (own p false) w w')(hrel:Rel w' d.rb d.ar (Ye d.R r) (fun x=>own p false x\/w.heap.size<=x)):
 yL w' wb tb pb vs f (Yl D p { d with R:=Ye d.R r }) T (zkJ own p false w.heap.size w'.heap.size):=by
 have W:=fun g (I:own p false g)=>h.off p d false g Y I
 have XL:∀q e,Yl D p { d with R:=Ye d.R r } q=some e->∃L,D q=some L/\e.rb=L.rb/\e.bb=L.bb/\e.ar=L.ar/\(q≠p->e=L)/\(q=p->L.R=d.R/\e.R=Ye d.R r/\L=d):=fun q e U=>by
  rcases Vn U with⟨rfl,rfl⟩ |⟨N,Z⟩
  ·exact⟨d,Y,rfl,rfl,rfl,fun O=>(O rfl).elim,fun _=>⟨rfl,rfl,rfl⟩⟩
  ·exact⟨e,Z,rfl,rfl,rfl,fun _=>rfl,fun O=>(N O).elim⟩
 refine⟨h.zH.zC hc fun I=>(W _ I).1 rfl,h.tab.same fun g I=>hc.block g (h.tab.lt g I) fun O=>(W g O).2.2 I,h.map.zC hc fun I=>(W _ I).2.1 rfl,fun q=>?_,h.only,fun q e U=>?_,fun q e U=>?_,fun q e U=>?_,fun q e U=>?_,fun q e U=>?_,
  fun q e a g U I=>?_,fun q q' e L a b g U aa I O=>?_,fun q e a g U I=>?_,h.X6⟩
 ·rw[h.XM q];unfold Yl;split
  ·rename_i e1;rw[e1,Y];rfl
  ·rfl
 ·obtain⟨L,N,_⟩:=XL q e U;exact h.small q L N
 ·obtain⟨L,N,Z,h3,h4,h5,h6⟩:=XL q e U
  by_cases X:q=p
  ·obtain⟨h7,h8,h9⟩:=h6 X;subst X;rw[Z,h4,h8,h9];refine hrel.cut.mono fun g I=>?_
   rcases I.1 with N|N
   ·exact .inl N
   ·exact .inr ⟨rfl,rfl,N,I.2⟩
  ·rw[h5 X];exact((h.rel q L N).zC hc fun g I O=>X (h.apart q p L d _ _ g N Y I O).1).mono fun g I=>.inl I
 ·obtain⟨L,N,Z,h3,h4,h5,h6⟩:=XL q e U;have V:=(h.book q L N).zC hc fun g I O=>by have:=(h.apart q p L d _ _ g N Y I O).2;cases this
  by_cases X:q=p
  ·obtain⟨h7,h8,h9⟩:=h6 X;rw[Z,h3,h8];rw[h7]at V;exact(V.grow r).mono fun g I=>.inl I
  ·rw[h5 X];exact V.mono fun g I=>.inl I
 ·obtain⟨L,N,_,_,h4,_⟩:=XL q e U;rw[h4];exact h.ar q L N
 ·obtain⟨L,N,Z,h3,h4,h5,h6⟩:=XL q e U;intro x V
  by_cases X:q=p
  ·obtain⟨h7,h8,h9⟩:=h6 X;rw[h8]at V;rw[h4,h9];unfold Ye at V;split at V
   ·exact h.rows p d Y x V
   ·rcases zpE.1 V with V|V
    ·exact h.rows p d Y x V
    ·rw[zpy.1 V];exact hr
  ·rw[h5 X]at V ⊢;exact h.rows q L N x V
 ·obtain⟨L,N,_⟩:=XL q e U
  rcases I with I |⟨_,_,_,I⟩
  ·exact zpz (h.lt q L a g N I) hc.size
  ·exact I
 ·obtain⟨k,N,_⟩:=XL q e U;obtain⟨X,V,_⟩:=XL q' L aa
  rcases I with I |⟨e1,e2,I,_⟩<;>rcases O with O |⟨e3,e4,O,_⟩
  ·exact h.apart q q' k X a b g N V I O
  ·have:=h.lt q k a g N I;omega
  ·have:=h.lt q' X b g V O;omega
  ·exact⟨e1.trans e3.symm,e2.trans e4.symm⟩
 ·obtain⟨L,N,_⟩:=XL q e U
  rcases I with I |⟨_,_,I,_⟩
  ·exact h.off q L a g N I
  ·have:=h.zH.lt;have:=h.map.lt;exact⟨zd,zd,fun V=>by have:=h.tab.lt g V;omega⟩
theorem yL.born(h:yL w wb tb pb vs f D T own)(hp:p.size<=maxLen)(hd:D p=none){d:Pd}(hR:d.R=[])(ha:d.ar<=24){SR SB:Nat->Prop}{f':Value->Option Value}(hc:zh (·=pb) w w')(hrel:Rel w' d.rb d.ar [] SR)(Z:yY w' d.bb d.rb [] SB)(X:∀g,SR g->w.heap.size<=g)(V:∀g,SB g->w.heap.size<=g)(Y:∀g,SR g->¬SB g)(hm:xv prog 9 w' pb f')(hf:f'=yp f (.string p) d.kept):
 ∃I,yL w' wb tb pb vs f' (Yl D p d) T I/\(∀q a g,I q a g->own q a g\/w.heap.size<=g)/\∀a g,I p a g->w.heap.size<=g:=by
 refine⟨fun q a g=>if q=p then(if a then SB g/\g<w'.heap.size else SR g/\g<w'.heap.size)else own q a g,⟨h.zH.zC hc (h.zH.qU h.map),h.tab.same fun g I=>hc.block g (h.tab.lt g I) fun e=>h.X6.2 (e▸I),hm,fun q=>?_,fun x v hx=>?_,fun q e N=>?_,fun q e N=>?_,fun q e N=>?_,fun q e N=>?_,fun q e N=>?_,
  fun q e a g N I=>?_,fun q q' e e' a b g N aa I U=>?_,fun q e a g N I=>?_,h.X6⟩,fun q a g I=>?_,fun a g I=>?_⟩
 ·rw[hf];unfold Yl
  by_cases e:q=p
  ·rw[if_pos e,e,Yt];rfl
  ·rw[if_neg e,XR (fun e'=>e (by injection e'))];exact h.XM q
 ·rw[hf]at hx
  by_cases e:x=.string p
  ·exact⟨p,e⟩
  ·rw[XR e]at hx;exact h.only x v hx
 ·rcases Vn N with⟨rfl,rfl⟩ |⟨O,L⟩
  ·exact hp
  ·exact h.small q e L
 ·rcases Vn N with⟨rfl,rfl⟩ |⟨O,L⟩
  ·rw[hR];simpa using hrel.cut
  ·simp only[if_neg O];exact(h.rel q e L).zC hc fun g I=>(h.off q e _ g L I).2.1
 ·rcases Vn N with⟨rfl,rfl⟩ |⟨O,L⟩
  ·rw[hR];simpa using Z.cut
  ·simp only[if_neg O];exact(h.book q e L).zC hc fun g I=>(h.off q e _ g L I).2.1
 ·rcases Vn N with⟨rfl,rfl⟩ |⟨O,L⟩
  ·exact ha
  ·exact h.ar q e L
 ·rcases Vn N with⟨rfl,rfl⟩ |⟨O,L⟩
  ·rw[hR];intro r W;cases W
  ·exact h.rows q e L
 ·split at I
  ·split at I
   ·exact I.2
   ·exact I.2
  ·rename_i O
   rcases Vn N with⟨L,_⟩ |⟨_,L⟩
   ·exact(O L).elim
   ·exact zpz (h.lt q e a g L I) hc.size
 ·have W:∀{q:ByteArray}{a:Bool},q=p->(if q=p then(if a then SB g/\g<w'.heap.size else SR g/\g<w'.heap.size)else own q a g)->w.heap.size<=g/\(a=true->SB g)/\(a=false->SR g):=fun {q a} hq I=>by
   rw[if_pos hq]at I
   cases a with
   |true=>exact⟨V g I.1,fun _=>I.1,fun e=>by cases e⟩
   |false=>exact⟨X g I.1,fun e=>(by cases e),fun _=>I.1⟩
  have O:∀{q:ByteArray}{a:Bool}{e:Pd},q≠p->Yl D p d q=some e->(if q=p then(if a then SB g/\g<w'.heap.size else SR g/\g<w'.heap.size)else own q a g)->D q=some e/\own q a g:=fun {q a e} hq N I=>by
   rw[if_neg hq]at I
   rcases Vn N with⟨L,_⟩ |⟨_,L⟩
   ·exact(hq L).elim
   ·exact⟨L,I⟩
  by_cases e1:q=p<;>by_cases e2:q'=p
  ·refine⟨e1.trans e2.symm,?_⟩;obtain⟨_,n1,n2⟩:=W e1 I;obtain⟨_,n3,n4⟩:=W e2 U
   cases a<;>cases b
   ·rfl
   ·exact(Y g (n2 rfl) (n3 rfl)).elim
   ·exact(Y g (n4 rfl) (n1 rfl)).elim
   ·rfl
  ·obtain⟨L,h3⟩:=O e2 aa U;have:=h.lt q' e' b g L h3;have:=(W e1 I).1;omega
  ·obtain⟨L,h3⟩:=O e1 N I;have:=h.lt q e a g L h3;have:=(W e2 U).1;omega
  ·obtain⟨L,h3⟩:=O e1 N I;obtain⟨ab,ac⟩:=O e2 aa U;exact h.apart q q' e e' a b g L ab h3 ac
 ·by_cases e1:q=p
  ·rw[if_pos e1]at I;have:w.heap.size<=g:=by
    cases a with
    |true=>exact V g I.1
    |false=>exact X g I.1
   have:=h.zH.lt;have:=h.map.lt;exact⟨zd,zd,fun O=>by have:=h.tab.lt g O;omega⟩
  ·rw[if_neg e1]at I
   rcases Vn N with⟨L,_⟩ |⟨_,L⟩
   ·exact(e1 L).elim
   ·exact h.off q e a g L I
 ·dsimp only at I
  by_cases e1:q=p
  ·rw[if_pos e1]at I;right
   cases a with
   |true=>exact V g I.1
   |false=>exact X g I.1
  ·rw[if_neg e1]at I;exact .inl I
 ·dsimp only at I
  rw[if_pos rfl]at I
  cases a with
  |true=>exact V g I.1
  |false=>exact X g I.1
end
end
section
theorem zZ.YO{f:α->List Value}{xs:List α}(h:zZ f w A xs)(I:zh S w w')(L:xs≠[]->qV (fun g=>¬S g) A):zZ f w' A xs:=fun q=>
 h.kept I (L fun e=>q (by rw[e];rfl)) q
mutual
def Ex.yh(Q:Nat->Prop):Ex->Prop
 |.mk _ _ A _ h=>(h≠[]->qV Q A)/\Ex.YA Q h
def Ex.YA (Q:Nat->Prop):List Ex->Prop
 |[]=>True
 |e::h=>Ex.yh Q e/\Ex.YA Q h
end
theorem Ex.za1{Q:Nat->Prop}:∀{l:List Ex},Ex.YA Q l↔∀e∈l,Ex.yh Q e
 |[]=>by unfold Ex.YA;simp
 |e::h=>by
  unfold Ex.YA;rw[Ex.za1];simp
mutual
theorem Ex.yh.mono{Q Q':Nat->Prop}(h:∀g,Q g->Q' g):∀{e:Ex},e.yh Q->e.yh Q'
 |.mk _ _ A _ L,q=>by
  unfold Ex.yh at q ⊢;exact⟨fun I g N=>h g (q.1 I g N),Ex.YA.mono h q.2⟩
theorem Ex.YA.mono {Q Q':Nat->Prop} (h:∀g,Q g->Q' g):∀{l:List Ex},Ex.YA Q l->Ex.YA Q' l
 |[],_=>by unfold Ex.YA;trivial
 |e::I,q=>by
  unfold Ex.YA at q ⊢;exact⟨Ex.yh.mono h q.1,Ex.YA.mono h q.2⟩
end
def Li.yh(Q:Nat->Prop)(x:Li):Prop:=(x.a.args≠[]->qV Q x.a.A)/\x.l.yh Q/\x.r.yh Q
theorem Li.yh.mono{Q':Nat->Prop}{x:Li}(h:x.yh Q)(q:∀g,Q g->Q' g):x.yh Q':=⟨fun I g L=>q g (h.1 I g L),h.2.1.mono q,h.2.2.mono q⟩
mutual
theorem Ex.zN.YO{S:Nat->Prop}{w W:World}(I:zh S w W):∀{e:Ex},e.zN w->e.yh (fun g=>¬S g)->e.zN W
 |.mk _ _ A _ L,h,q=>by
  unfold Ex.zN at h ⊢;unfold Ex.yh at q;exact⟨h.1.YO I q.1,h.2.1,Ex.qG.YO I h.2.2 q.2⟩
theorem Ex.qG.YO {S:Nat->Prop} {w W:World} (I:zh S w W):∀{l:List Ex},Ex.qG w l->Ex.YA (fun g=>¬S g) l->Ex.qG W l
 |[],_,_=>by unfold Ex.qG;trivial
 |e::L,h,q=>by
  unfold Ex.qG at h ⊢;unfold Ex.YA at q;exact⟨Ex.zN.YO I h.1 q.1,Ex.qG.YO I h.2 q.2⟩
end
theorem Li.zN.YO{W:World}{x:Li}(I:zh S w W)(h:x.zN w)(q:x.yh (fun g=>¬S g)):x.zN W:=
 ⟨⟨h.a.rd.YO I q.1,h.a.len⟩,h.l.YO I q.2.1,h.r.YO I q.2.2⟩
theorem zZ.yh{f:α->List Value}{xs:List α}(L:∀x,f x≠[])(h:zZ f w A xs)(q:xs≠[]):qV (·<w.heap.size) A:=by
 obtain⟨b,o,rfl,N,_⟩:=h (by
  cases xs with
  |nil=>exact absurd rfl q
  |cons x l=>
   rw[zpZ];intro e;exact L x (List.append_eq_nil_iff.1 e).1)
 intro g I;simp only[zw,zqh,zqU,zpy]at I;subst I;exact N
mutual
theorem Ex.zN.yh{w:World}:∀{e:Ex},e.zN w->e.yh (·<w.heap.size)
 |.mk _ _ A _ q,h=>by
  unfold Ex.zN at h;unfold Ex.yh;exact⟨h.1.yh fun x e=>(by have:=congrArg List.length e;rw[Ex.xG]at this;cases this),Ex.qG.yh h.2.2⟩
theorem Ex.qG.yh {w:World}:∀{l:List Ex},Ex.qG w l->Ex.YA (·<w.heap.size) l
 |[],_=>by unfold Ex.YA;trivial
 |e::q,h=>by
  unfold Ex.qG at h;unfold Ex.YA;exact⟨Ex.zN.yh h.1,Ex.qG.yh h.2⟩
end
theorem Li.zN.yh{x:Li}(h:x.zN w):x.yh (·<w.heap.size):=⟨zZ.yh (f:=Tm.cells) (fun t e=>(nomatch e)) h.a.rd,h.l.yh,h.r.yh⟩
end
end Go.Proofs.YtfdickkdlcgicaaGreatDoor.C
namespace Go.Proofs.YtfdickkdlcgicaaGreatDoor
open Go.Proofs.Tryz Go Go.RowKit Go.Maps Go.WideMaps
variable {a:Act}{i j k:Nat}{w:World}
section
def QE(Q:Exit->Act->World->Prop)(E:Act->World->Prop):Exit->Act->World->Prop
 |.normal,a,w=>E a w
 |e,a,w=>Q e a w
section
variable {P:Program}{ops:Array Oper}{md:Region.Mode}{Q:Exit->Act->World->Prop}{S0 S1:World->Prop}
theorem zez{E:Act->World->Prop}{K:Act->World->Prop}{o:Oper}(h:o.wp P a w K (QE Q E)):o.wp P a w K Q:=by
 unfold Oper.wp at *;generalize(execOp a.eval o).run P w=r at *
 cases r with
 |ok n I=>
  cases n<;>simp only[Oper.upon]at h ⊢<;>
   first
    |exact h
    |exact Calls.mono h (fun e L q=>by cases e<;>exact q)
 |halt x I=>cases x<;>simp only[Oper.upon]at h ⊢<;>exact h
def Z5(md:Region.Mode)(ops:Array Oper)(k:Nat):List (Nat×Nat)->Array Bool->Bool
 |[],_=>true
 |(i,0)::q,h=>(Region.ready md ops h).contains i&&Region.free md ops h i&&i != k&&Z5 md ops k q (h.setIfInBounds i true)
 |(i,1)::q,h=>(Region.ready md ops h).contains i&&Region.free md ops h i&&i != k&&Ji md ops 40 k i&&Z5 md ops k q (h.setIfInBounds i true)
 |(i,2)::q,h=>Region.ready md ops h==[i]&&i != k&&Z5 md ops k q (h.setIfInBounds i true)
 |(i,_+3)::q,h=>Region.ready md ops h==[i]&&i==k&&Z5 md ops k q (h.setIfInBounds i true)
def UO:List (Nat×Nat)->Array Bool->Array Bool
 |[],l=>l
 |(i,_)::h,l=>UO h (l.setIfInBounds i true)
def Z1(k:Nat):List (Nat×Nat)->Bool->Bool
 |[],d=>d
 |(_,0)::h,d=>Z1 k h d
 |(_,1)::h,d=>Z1 k h d
 |(_,2)::h,d=>Z1 k h d
 |(_,_+3)::h,_=>Z1 k h true
theorem UP{E:Act->World->Prop}{k fuel:Nat}(hs:Region.noSelect ops=true)(hP:∀c a d v w,Q (.panic c) (a.put d v) w->Q (.panic c) a w):∀(I:List (Nat×Nat))(q:Array Bool)(d:Bool)(a:Act)(w:World),
 (∀a w,YX md ops (UO I q)->(UO I q).getD k false=Z1 k I d->S0 w->(Z1 k I d=false->S1 w)->E a w->Vi P md ops Q (fun l w=>S0 w/\(l.getD k false=false->S1 w)) fuel (UO I q) a w)->
 Z5 md ops k I q=true->YX md ops q->q.getD k false=d->S0 w->(d=false->S1 w)->xS P ops (QE Q E) S0 S1 d (xO ops I) a w->Vi P md ops Q (fun l w=>S0 w/\(l.getD k false=false->S1 w)) (I.length+fuel) q a w
 |[],q,d,a,w,Z,X,R,V,U,Y,h=>by
  rw[zqd,zp6];exact Z a w R V U Y h
 |(i,0)::I,q,d,a,w,Z,X,R,V,U,Y,h=>by
  simp only[Z5,zqu,bne_iff_ne,ne_eq]at X;obtain⟨⟨⟨c1,c2⟩,c3⟩,c4⟩:=X;have N:i∈Region.ready md ops q:=by simpa using c1
  obtain⟨_,o,W,_⟩:=mem_ready.1 N;have hp:xO ops ((i,0)::I)=(0,o)::xO ops I:=by simp[xO,W]
  rw[hp]at h;obtain⟨v,hy,O⟩:=h;have L:∀l:Array Bool,(l.setIfInBounds i true).getD k false=l.getD k false:=fun l=>getD_set_ne false c3
  rw[zpV,zrl];exact TZ W (Region.noSelect_spec hs) (fun c a w h=>hP _ _ _ _ _ h) (fun l w=>by rw[L]) _ _ _ _ R (Region.free_spec W c2) N
   (hy.imp (fun⟨x,y⟩=>⟨x,fun w ⟨l',_,_,hS⟩=>y w hS.1⟩) id) ⟨U,fun e=>Y (V▸e)⟩ (UP hs hP I _ d _ _ Z c4 (R.step N) ((L _).trans V) U Y O)
 |(i,1)::I,q,d,a,w,Z,X,R,V,U,Y,h=>by
  simp only[Z5,zqu,bne_iff_ne,ne_eq]at X;obtain⟨⟨⟨⟨c1,c2⟩,c3⟩,c5⟩,c4⟩:=X;have N:i∈Region.ready md ops q:=by simpa using c1
  obtain⟨_,o,W,_⟩:=mem_ready.1 N;have hp:xO ops ((i,1)::I)=(1,o)::xO ops I:=by simp[xO,W]
  rw[hp]at h;obtain⟨v,hy,O⟩:=h;have L:∀l:Array Bool,(l.setIfInBounds i true).getD k false=l.getD k false:=fun l=>getD_set_ne false c3
  rw[zpV,zrl];exact TZ W (Region.noSelect_spec hs) (fun c a w h=>hP _ _ _ _ _ h) (fun l w=>by rw[L]) _ _ _ _ R (Region.free_spec W c2) N
   (hy.imp (fun⟨x,y⟩=>⟨x,fun w ⟨l',ab,aa,hS⟩=>y w ⟨hS.1,hS.2 (by
    rcases hkl:l'.getD k false with _|_
    ·rfl
    ·rw[zax ab 40 k i c5 hkl]at aa;cases aa)⟩⟩) id) ⟨U,fun e=>Y (V▸e)⟩ (UP hs hP I _ d _ _ Z c4 (R.step N) ((L _).trans V) U Y O)
 |(i,2)::I,q,d,a,w,Z,X,R,V,U,Y,h=>by
  simp only[Z5,zqu,bne_iff_ne,ne_eq]at X;obtain⟨⟨c1,c3⟩,c4⟩:=X;have c1:Region.ready md ops q=[i]:=by simpa using c1
  have N:i∈Region.ready md ops q:=by rw[c1];simp
  obtain⟨_,o,W,_⟩:=mem_ready.1 N;have hp:xO ops ((i,2)::I)=(2,o)::xO ops I:=by simp[xO,W]
  rw[hp]at h;have L:∀l:Array Bool,(l.setIfInBounds i true).getD k false=l.getD k false:=fun l=>getD_set_ne false c3
  rw[zpV,zrl];refine⟨fun e=>(by rw[c1]at e;cases e),fun j hj=>?_⟩;rw[c1]at hj;obtain rfl:=zpy.1 hj;unfold wpOp;simp only[W];unfold xS at h;split
  ·rename_i hw;rw[if_pos hw]at h;exact .inl (Oper.wp_mono (fun a' w' O=>⟨⟨O.1.1,fun e=>O.1.2 (by rw[L,V]at e;exact e)⟩,UP hs hP I _ d _ _ Z c4 (R.step N) ((L _).trans V) O.1.1 O.1.2 O.2⟩) (zez h))
  ·rename_i hw;rw[if_neg hw]at h;exact⟨⟨U,fun e=>Y (by rw[L,V]at e;exact e)⟩,UP hs hP I _ d _ _ Z c4 (R.step N) ((L _).trans V) U Y h⟩
 |(i,t+3)::I,q,d,a,w,Z,X,R,V,U,Y,h=>by
  simp only[Z5,zqu,beq_iff_eq]at X;obtain⟨⟨c1,c3⟩,c4⟩:=X;subst c3;have c1:Region.ready md ops q=[i]:=by simpa using c1
  have N:i∈Region.ready md ops q:=by rw[c1];simp
  have aa:=zbU (mem_ready.1 N).1;obtain⟨_,o,W,_⟩:=mem_ready.1 N;have hp:xO ops ((i,t+3)::I)=(t+3,o)::xO ops I:=by simp[xO,W]
  rw[hp]at h;have L:(q.setIfInBounds i true).getD i false=true:=zew aa false;rw[zpV,zrl];refine⟨fun e=>(by rw[c1]at e;cases e),fun j hj=>?_⟩;rw[c1]at hj;obtain rfl:=zpy.1 hj;unfold wpOp;simp only[W];unfold xS at h;split
  ·rename_i hw;rw[if_pos hw]at h;exact .inl (Oper.wp_mono (fun a' w' O=>⟨⟨O.1,fun e=>by rw[L]at e;cases e⟩,UP hs hP I _ true _ _ Z c4 (R.step N) L O.1 (fun e=>by cases e) O.2⟩) (zez h))
  ·rename_i hw;rw[if_neg hw]at h;exact⟨⟨U,fun e=>by rw[L]at e;cases e⟩,UP hs hP I _ true _ _ Z c4 (R.step N) L U (fun e=>by cases e) h⟩
def Jv(P:Program)(ops:Array Oper)(Q:Exit->Act->World->Prop)(S0 S1:World->Prop)(d:Bool)(q h:List (Nat×Oper)):Act->World->Prop:=fun a w=>xS P ops Q S0 S1 d q a w/\xS P ops Q S0 S1 d h a w
theorem znw(hs:Region.noSelect ops=true)(hP:∀c a d v w,Q (.panic c) (a.put d v) w->Q (.panic c) a w)(N U:List (Nat×Nat))(listed:Array Bool)(d:Bool)(a:Act)(w:World)(W:Region.ready md ops listed=[i,j])(I:i≠k)(X:j≠k)(hl:N.length=U.length)(c1:XH md ops k N (listed.setIfInBounds i true)=true)(c2:XH md ops k U (listed.setIfInBounds j true)=true)(hd:YX md ops listed)(V:listed.getD k false=d)(h0:S0 w)(h1:d=false->S1 w)(h:Jv P ops Q S0 S1 d (xO ops ((i,2)::N)) (xO ops ((j,2)::U)) a w):Vi P md ops Q (fun l w=>S0 w/\(l.getD k false=false->S1 w)) (N.length+1) listed a w:=by
 have one:∀(i:Nat)(R:List (Nat×Nat)),i∈Region.ready md ops listed->i≠k->XH md ops k R (listed.setIfInBounds i true)=true->xS P ops Q S0 S1 d (xO ops ((i,2)::R)) a w->
  wpOp P ops Q i (fun a' O=>(S0 O/\((listed.setIfInBounds i true).getD k false=false->S1 O))/\Vi P md ops Q (fun l w=>S0 w/\(l.getD k false=false->S1 w)) R.length (listed.setIfInBounds i true) a' O) a w:=fun i R Z I c h=>by
  obtain⟨_,o,ho,_⟩:=mem_ready.1 Z;have hp:xO ops ((i,2)::R)=(2,o)::xO ops R:=by simp[xO,ho]
  rw[hp]at h;have q:∀l:Array Bool,(l.setIfInBounds i true).getD k false=l.getD k false:=fun l=>getD_set_ne false I
  unfold wpOp;simp only[ho];unfold xS at h;split
  ·rename_i Y;rw[if_pos Y]at h;exact .inl (Oper.wp_mono (fun a' O L=>⟨⟨L.1.1,fun e=>L.1.2 (by rw[q,V]at e;exact e)⟩,Vd hs hP R _ d _ _ c (hd.step Z) ((q _).trans V) L.1.1 L.1.2 L.2⟩) h)
  ·rename_i Y;rw[if_neg Y]at h;exact⟨⟨h0,fun e=>h1 (by rw[q,V]at e;exact e)⟩,Vd hs hP R _ d _ _ c (hd.step Z) ((q _).trans V) h0 h1 h⟩
 refine⟨fun e=>(by rw[W]at e;cases e),fun x L=>?_⟩;rw[W]at L
 rcases zpU.1 L with rfl|L
 ·exact one x N (by rw[W];simp) I c1 h.1
 ·obtain rfl:=zpy.1 L;have:=one x U (by rw[W];simp) X c2 h.2;rw[<-hl]at this;exact this
def G3(md:Region.Mode)(ops:Array Oper)(k i j:Nat)(h q I:List (Nat×Nat)):Bool:=
 Z5 md ops k h (Array.replicate ops.size false)&&(Region.ready md ops (UO h (Array.replicate ops.size false))==[i,j])&&i != k&&j != k&&(q.length==I.length) &&
  XH md ops k q ((UO h (Array.replicate ops.size false)).setIfInBounds i true)&&XH md ops k I ((UO h (Array.replicate ops.size false)).setIfInBounds j true)&&(h.length+(q.length+1)==ops.size)
theorem zfk{S:World->Prop}(R:Region.noSelect ops=true)(U:∀c a d v w,Q (.panic c) (a.put d v) w->Q (.panic c) a w)(q L N:List (Nat×Nat))(a:Act)(w:World)(V:G3 md ops k i j q L N=true)(h0:S0 w)(O:S1 w)(h:xS P ops (QE Q (Jv P ops Q S0 S1 (Z1 k q false) (xO ops ((i,2)::L)) (xO ops ((j,2)::N)))) S0 S1 false (xO ops q) a w):Vi P md ops Q (fun l w=>S0 w/\(l.getD k false=false->S1 w)) ops.size (Array.replicate ops.size false) a w:=by
 simp only[G3,zqu,bne_iff_ne,ne_eq,beq_iff_eq]at V;obtain⟨⟨⟨⟨⟨⟨⟨c1,c2⟩,c3⟩,c4⟩,c5⟩,Z⟩,Y⟩,X⟩:=V;have I:(Array.replicate ops.size false).getD k false=false:=by
  by_cases I:k<ops.size
  ·simp[I]
  ·simp[I]
 have:=UP (md:=md) (S0:=S0) (S1:=S1) (E:=Jv P ops Q S0 S1 (Z1 k q false) (xO ops ((i,2)::L)) (xO ops ((j,2)::N))) (k:=k) (fuel:=L.length+1) R U q (Array.replicate ops.size false) false a w
  (fun a w W I h0 O h=>znw R U L N _ _ a w c2 c3 c4 c5 Z Y W I h0 O h) c1 (YX.start _) I h0 (fun _=>O) h
 rw[X]at this;exact this
theorem Gd{id:Nat}(q L I:List (Nat×Nat))(k i j:Nat)(S0 S1:World->Prop)(N:P.follows .mixedOrders=true)(O:Region.noSelect ops=true)(U:G3 .any ops k i j q L I=true)(h0:S0 w.drew)(R:S1 w.drew)(h:xS P ops (QE (NoPanic Q) (Jv P ops (NoPanic Q) S0 S1 (Z1 k q false) (xO ops ((i,2)::L)) (xO ops ((j,2)::I)))) S0 S1 false (xO ops q) a w.drew):(Code.region id ops true).wp P Q a w:=
 wp_region_noPanic (wp_region_any N (Gl _ _ _ _ (zfk (S:=S0) O (fun _ _ _ _ _ h=>(h:False).elim) q L I a _ U h0 R h)))
theorem J9{d h:Bool}{I q:List (Nat×Oper)}(N:xS P ops Q S0 S1 h I a w)(L:xS P ops Q S0 S1 h q a w):xS P ops (QE Q (Jv P ops Q S0 S1 h I q)) S0 S1 d [] a w:=⟨N,L⟩
end
end
end Go.Proofs.YtfdickkdlcgicaaGreatDoor
namespace Go.Proofs.YtfdickkdlcgicaaGreatDoor.C
open Go.Proofs.Tryz Go Go.RowKit Go.Maps Go.WideMaps
variable {A:Option Addr}{I us vs:List z6}{K:List ByteArray}{L N O X ar bb pb q rb tb:Nat}{Q S S1:Nat->Prop}{R:List (List Nat)}{T ns r:List Nat}{f:Value->Option Value}{own:ByteArray->Bool->Nat->Prop}{p u:ByteArray}{w w':World}{xs:List Vl}{α:Type}{ρ:Env}
section
theorem zcj(h:zZ Vl.cells w A xs):Y7 w A (xs.map Vl.val):=by
 intro q;have X:0<xs.length:=by
  rcases xs with _ |⟨x,l⟩
  ·exact(q rfl).elim
  ·simp
 obtain⟨b,o,rfl,R,-⟩:=h.at (c:=2) (fun _=>rfl) 0 X;refine⟨b,o,rfl,R,fun i W=>?_⟩;have I:i<xs.length:=by simpa using W
 obtain⟨Y,Z,L,_,N⟩:=h.at (c:=2) (fun _=>rfl) i I;injection L with L
 injection L with e1 e2
 subst e1 e2
 replace N:w.rangeAt b (o+i*3) (Vl.cells xs[i]):=N
 obtain⟨V,U,O⟩:=three N;rw[zqz];exact⟨V,U,O⟩
def znG(L:Nat)(us vs:List z6)(T:List Nat)(w:World)(e:Ending)(w':World):Prop:=
 ∃h I q,e=.returned (.tuple #[.agg (zX (pad I)).toArray,.int .i64 0])/\Vz us vs h I/\qv w' L 2147483647 h q/\zh (·∈T) w w'/\(∀k∈q,k∈T\/w.heap.size<=k)
theorem zbL(h:qv w X 2147483647 vs T)(xs:List Vl)(A:Option Addr)(cap n:Nat)(hn:xs.length=n)(hl:zZ Vl.cells w A xs)(V:xs≠[]->∀a,A=some a->a.block∉T)(R:∀x∈xs,x.ok/\x.val.wf)(ab:n<=24)(aa:vs.length+n<=2147483647):
 Calls prog 92 #[.pointer (some ⟨X,0,none⟩),.slice A n cap] w (znG X (xs.map Vl.val) vs T w):=by
 have q:(xs.map Vl.val).length=n:=by simp[hn]
 obtain⟨O,ns,N,L⟩:=zdJ 2147483647 (xs.map Vl.val) vs [] (fun u Y=>by
  obtain⟨x,Z,rfl⟩:=zp8.1 Y;exact zkd (R x Z).1) (by rw[q];exact aa)
 rw[zpI]at N;have W:VJ 2147483647 (xs.map Vl.val) vs=(O,ns,0):=by
  unfold VJ;rw[if_neg zd,N,if_pos rfl]
 have:=zko h (xs.map Vl.val) A cap (zcj hl) (fun I a U=>⟨V (fun e=>I (by rw[e];rfl)) a U,by
  obtain⟨b,o,hA,hb,_⟩:=zcj hl I;rw[hA]at U;injection U with U;rw[<-U];exact hb⟩) (fun u Y=>by
  obtain⟨x,Z,rfl⟩:=zp8.1 Y;exact(R x Z).2)
 rw[W,q]at this;refine this.mono ?_;rintro e w'⟨Z,rfl,U,I,Y⟩;exact⟨O,ns,Z,by rw[zjx],L,U,⟨I.os,I.tape,I.output,I.size,I.block⟩,Y.sub⟩
open Classical in
noncomputable def Z8(G:yW)(p:ByteArray)(args:List Vl):yW:=fun q=>if q=p then some (args.length,Vf (((G p).map (·.2)).getD []) args)else G q
def zmV(h:Nat)(G:yW)(S:Nat->Prop)(N:Nat)(x:Fa)(w:World)(e:Ending)(w':World):Prop:=
 ∃b:Bool,e=.returned (.tuple #[.bool b,.int .i64 0])/\yd w' h (Z8 G x.p x.args) (fun g=>S g\/w.heap.size<=g) (N+x.args.length)/\zh S w w'
def DX(N V O:Nat)(vs:List z6)(D:ByteArray->Option Pd)(T:List Nat)(own:ByteArray->Bool->Nat->Prop)(p:ByteArray)(n:Nat)(us:List z6)(w:World)(e:Ending)(w':World):Prop:=
 ∃(b:Bool) (I:List z6) (L:List Nat) (W:Value->Option Value) (U:List Nat) (h:ByteArray->Bool->Nat->Prop) (d:Pd),e=.returned (.tuple #[.bool b,.int .i64 0])/\Vz us vs I L/\d.ar=n/\d.R=Ye (((D p).map (·.R)).getD []) (pad L)/\yL w' N V O I W (Yl D p d) U h/\(∀q a g,h q a g->own q a g\/w.heap.size<=g)/\(D p=none->∀a g,h p a g->w.heap.size<=g)/\(∀k∈U,k∈T\/w.heap.size<=k)/\zh (Zp N O T D own) w w'
theorem ziq{wb:Nat}{D:ByteArray->Option Pd}(h:yL w wb tb pb vs f D T own)(p:ByteArray)(A:Option Addr)(cap n:Nat)(args:List Vl)(hn:args.length=n)(hl:zZ Vl.cells w A args)(aL:args≠[]->qV (fun g=>¬Zp wb pb T D own g) A)(aW:∀v∈args,v.ok/\v.val.wf)(a1:n<=24)(hN:vs.length+n<=2147483647)(hp:p.size<=maxLen)(d:Pd)(hd:D p=some d)(aV:d.ar=n)(hR:d.R.length<=4194304):
 Calls prog 43 #[.pointer (some ⟨wb,0,none⟩),.agg #[.string p,.slice A n cap]] w (DX wb tb pb vs D T own p n (args.map Vl.val) w):=by
 obtain⟨W0,N,I⟩:=xi w 71 #[.string p,.slice A n cap];have HX:=zz I;have bc:=zz N;have a4:=zz h;have Hd:=zz hd;have Hn:=zz hn;have Hl:=zz hl;have a7:Kz (args≠[]->∀a,A=some a->a.block∉T):=fun L a U O=>aL L a.block (by simp[zw,U]) (.inr (.inr (.inl O)))
 have ba:=zz aW;have HN:=zz hN;have au:=zz aV;have HR:=zz hR;have aj:=zz a1;have H0:=zz (show ∀W,Bl W0 W->W.cell? ⟨wb,1,none⟩=some (.map (some pb))/\W.cell? ⟨w.heap.size,0,none⟩=some (.string p)/\(Instr.lookup 115 (.map (some pb)) (.string p) true).run prog W=.ok (.tuple #[d.kept,.bool true]) W from
  fun W L=>⟨(h.zH.below (zl I.below L)).cell 1,(I.b0.below L).cell 0,by
   have:=(h.map.below (zl I.below L)).look q8 underlying115 (z:=.agg #[.pointer none,.pointer none]) zo (ye hp) true;rw[h.XM p,hd]at this;exact this⟩)
 clear h hd hn hl aL aW hN aV hR a1 I N;go_enter func43,ntmps43;go_upto_region 1 with fail
 rw[bc.o];refine xX [0,0,0,0,0,0,0,0,0,0,2,2,0] (fun W=>Bl W0 W) ?_
 repeat refine zS H0.o ?_
 refine xf fun K V=>?_
 go_simp;obtain⟨W2,I,X⟩:=xi W0 131 #[.pointer none,.pointer none];rw[I];have Z:Bl W0 W2.drew:=X.below.drew;refine V.out _ _ Z (fun _=>trivial) ?_;clear V K I;try refine zQ ?_
 repeat refine zS H0.o ?_
 refine xf fun K V=>?_
 refine Xu 131 _ _ rfl W0.heap.size 0 _ _ X.b0.drew [.pointer (some ⟨d.rb,0,none⟩),.pointer (some ⟨d.bb,0,none⟩)] rfl rfl zp (zo) zt ?_;intro w5 Y;have O:Bl W0 w5:=Y.below Z (zpx _) (zpx _);refine V.out _ _ O (fun _=>trivial) ?_;clear V K;try refine zQ ?_
 repeat refine zS H0.o ?_
 refine xt ?_;have N:Bl w w5:=zl HX.o.below O;have h6:zD w5 W0.heap.size 131 #[.pointer (some ⟨d.rb,0,none⟩),.pointer (some ⟨d.bb,0,none⟩)]:=Y.zH;have aa:w.heap.size<W0.heap.size:=HX.o.b0.lt;have I:yL w5 wb tb pb vs f D T own:=a4.o.zC (zh.xj (fun _=>False) N) fun _ _ h=>h
 have HF:=zz (HX.o.b0.below O);generalize W0.heap.size=b6 at h6 aa ⊢;have aX:=zz (fun W (L:Bl w5 W)=>show Calls prog 70 #[.pointer (some ⟨d.rb,0,none⟩)] W fun e U=>e=.returned (.int .i64 (n:Int))/\U=W from by
  have:=Dv ((I.rel p d Hd.o).below L);rw[au.o]at this;exact this)
 obtain⟨f5,D5,I,U,a6⟩:∃f5 D5,yL w5 wb tb pb vs f5 D5 T own/\D5 p=some d/\Kz (∀d2,Yl D5 p d2=Yl D p d2):=⟨f,D,I,Hd.o,zz fun _=>rfl⟩;have ag:=zz I;have aJ:=zz U;clear U;have H6:=zz h6;have a5:=zz aa;have aP:=zz (Hl.o.below N);have aY:=zz (fun k hk=>a4.o.tab.lt k hk);have ap:=zz (zh.xj (Zp wb pb T D own) N);have aD:Kz (∀q a g,own q a g->own q a g\/w.heap.size<=g):=fun _ _ _ h=>.inl h
 have az:Kz (∀g,own p false g->Zp wb pb T D own g\/w.heap.size<=g):=fun g U=>.inl (.inr (.inr (.inr ⟨p,d,false,Hd.o,U⟩)))
 have aG:Kz (D p=none->∀a g,own p a g->w.heap.size<=g):=fun ao=>by rw[Hd.o]at ao;cases ao
 have a8:=zz (show d.R=((D p).map (·.R)).getD []from by rw[Hd.o];rfl);have H2:Kz (∀W,Bl w5 W->W.cell? ⟨b6,0,none⟩=some (.pointer (some ⟨d.rb,0,none⟩))/\W.cell? ⟨w.heap.size,1,none⟩=some (.slice A n cap)):=fun W L=>⟨(h6.below L).cell 0,(HF.o.below L).cell 1⟩
 clear Y O Z X N h6 aa I;go_upto_region 2 with fail
 refine Vm [(0,0),(1,0),(2,0),(3,0),(5,0),(6,0),(7,0),(4,2),(8,0),(9,0)] (fun W=>Bl w5 W) ?_
 repeat refine zS H2.o ?_
 refine xf fun K V=>?_
 go_simp;refine(aX.o _ (Below.refl _ _).drew).mono ?_;rintro e w7⟨rfl,I⟩;obtain rfl:=I.symm;refine V.out _ _ (Below.refl _ _).drew (fun _=>trivial) ?_;clear V K I;try refine zQ ?_
 repeat refine zS H2.o ?_
 refine xt ?_;have I:Bl w5 w5.drew:=(Below.refl _ _).drew;generalize w5.drew=wq at I ⊢;have ag:=zz (ag.o.zC (zh.xj (fun _=>False) I) fun _ _ h=>h);have H6:=zz (H6.o.below I);have HF:=zz (HF.o.below I);have aP:=zz (aP.o.below I);have ap:=zz (ap.o.trans (zh.xj (fun _=>False) I) fun _ h _=>h.elim);clear I;have aK:=zz (fun W (L:Bl wq W)=>zbL (ag.o.tab.below L) args A cap n Hn.o (aP.o.below L) a7.o ba.o aj.o HN.o);have a2:Kz (b6∉T):=fun h=>by have:=aY.o b6 h;have:=a5.o;omega
 have an:=zz (show ∀W,zh (·∈T) wq W->W.cell? ⟨wb,0,none⟩=some (.pointer (some ⟨tb,0,none⟩))/\W.cell? ⟨w.heap.size,1,none⟩=some (.slice A n cap)from
  fun W L=>⟨(ag.o.zH.zC L ag.o.X6.1).cell 0,(HF.o.zC L fun h=>by have:=aY.o _ h;omega).cell 1⟩)
 go_upto_region 13 with fail
 refine Gd [(0,0),(1,0),(2,0),(3,0),(4,0),(5,0)] [(7,0),(8,0),(9,0),(10,2),(11,2),(12,0)] [(6,2),(7,0),(8,0),(9,0),(11,2),(12,0)] 9999 6 10 (fun W=>zh (·∈T) wq W) (fun _=>True) zo (zo) zo ?s0 ?s1 ?_
 case s1=>trivial
 case s0=>exact yw
 simp only[xO,qa,qb,qc,qd,qe,qf];try refine zQ ?_
 repeat refine zS an.o ?_
 refine J9 ?_ ?_
 ·refine xf fun K V=>?_
  go_simp;refine(aK.o _ (Below.refl _ _).drew).mono ?_;rintro e w6⟨ak,Y,T',rfl,I,aa,ac,X⟩;have L:zh (·∈T) wq w6:=(zh.refl (·∈T) wq).drew.trans ac fun x hx _=>hx
  refine V.out _ _ L (fun _=>trivial) ?_;clear V K;try refine zQ ?_
  repeat refine zS an.o ?_
  refine xf fun K V=>?_
  go_simp;obtain⟨W7,aB,ae⟩:=xi w6 155 #[.int .i32 0,.int .i32 0,.int .i32 0,.int .i32 0,.int .i32 0,.int .i32 0,.int .i32 0,.int .i32 0,.int .i32 0,.int .i32 0,.int .i32 0,.int .i32 0,.int .i32 0,.int .i32 0,.int .i32 0,.int .i32 0,.int .i32 0,.int .i32 0,.int .i32 0,.int .i32 0,.int .i32 0,.int .i32 0,.int .i32 0,.int .i32 0];rw[aB];have ai:zh (·∈T) wq W7:=L.trans (zh.xj (fun _=>False) ae.below) fun _ h _=>h.elim
  refine V.out _ _ ai (fun _=>trivial) ?_;clear V K aB;try refine zQ ?_
  repeat refine zS an.o ?_
  have O:(zX (pad Y)).length=24:=by
   have:=I.len;rw[zpO,Hn.o]at this;unfold pad;simp;have:=aj.o;omega
  refine xf fun K V=>?_
  refine Xu 155 _ _ rfl w6.heap.size 0 _ _ ae.b0 (zX (pad Y)) rfl rfl (by rw[O];decide) (by rw[O];exact yJ) (X7 _) ?_;intro W8 af;have ab:zh (·∈T) wq W8:=ai.trans af.zC fun x hx aA=>by have:=L.size;omega
  refine V.out _ _ ab (fun _=>trivial) ?_;clear V K;try refine zQ ?_
  repeat refine zS an.o ?_
  refine xt ?_;have N:zD W8 w6.heap.size 155 (zX (pad Y)).toArray:=by
   have:=af.zH;rw[O]at this;simpa using this
  have aH:qv W8 tb 2147483647 ak T':=aa.same fun k hk=>by
   have Z:=aa.lt k hk;exact(af.zC.block k (zpz Z ae.below.size) zd).trans (ae.below.block k Z)
  have Z:∀k∈T',k∈T\/wq.heap.size<=k:=X;generalize w6.heap.size=ah at N ⊢;clear af ae ai L ac aa X O;have aa:=ag.o.TM ab aH I.pre Z;have L:(args.map Vl.val).length=n:=by rw[zpO];exact Hn.o
  have X:yT ak d.ar (pad Y):=by
   have:=I.JK (by rw[L];exact aj.o);rw[L]at this;rw[au.o];exact this
  have al:Rw (pad Y):=Rw.pad (by rw[I.len,L];exact aj.o) fun k hk=>by
   have h1:=I.lt k hk;have h2:=I.le;rw[L]at h2;have:=HN.o;omega
  have ay:=H6.o.zC ab a2.o;have ad:=aa.rel p d aJ.o;have aw:=zz (GP ad (pad Y) al X.zero HR.o);have k0:=ay.cell 0;have aN:W8.rangeAt ah 0 (zX (pad Y)):=by
   intro j v hv;rw[zp6,N.cell];simpa using hv
  have aM:(prog.info? 155).map (·.size)=some (zX (pad Y)).length:=by rw[zpO,al.len];exact yJ
  have ax:=zz aa;have av:=zz X;have aT:=zz I;have aF:=zz ab;have aO:=zz Z;clear aa L X al ay ad N I ab aH Z
  go_wp2_with (first
   |(refine xW 155 _ rfl ?_;refine y7 zj 155 _ rfl ah 0 rfl (zX (pad Y)) _ aN underlying155 rfl aM ?_)
   |(go_at_call 93;refine aw.o.mono ?_;rintro e w9⟨rfl,ac,aC⟩;have am:=zz ac;have aq:=zz aC;clear ac aC))
  go_returns;have a3:wq.heap.size<=W8.heap.size:=aF.o.size;have a9:w.heap.size<=wq.heap.size:=ap.o.size;have aE:=ax.o.Tj aJ.o av.o aq.o am.o;rw[a6.o]at aE;refine⟨_,ak,Y,f5,T',_,{ d with R:=Ye d.R (pad Y)},rfl,aT.o,au.o,by rw[<-a8.o],aE,fun q a g U=>?_,fun ao a g U=>?_,fun k hk=>?_,(ap.o.trans aF.o fun g U aA=>.inr (.inr (.inl U))).trans aq.o fun g U aA=>?_⟩
  ·rcases U with U |⟨_,_,U,_⟩
   ·exact aD.o q a g U
   ·right;omega
  ·rcases U with U |⟨_,_,U,_⟩
   ·exact aG.o ao a g U
   ·omega
  ·rcases aO.o k hk with h|h
   ·exact .inl h
   ·right;omega
  ·rcases az.o g U with h|h
   ·exact h
   ·omega
 ·refine xf fun K V=>?_
  go_simp;obtain⟨W7,aB,ae⟩:=xi wq 155 #[.int .i32 0,.int .i32 0,.int .i32 0,.int .i32 0,.int .i32 0,.int .i32 0,.int .i32 0,.int .i32 0,.int .i32 0,.int .i32 0,.int .i32 0,.int .i32 0,.int .i32 0,.int .i32 0,.int .i32 0,.int .i32 0,.int .i32 0,.int .i32 0,.int .i32 0,.int .i32 0,.int .i32 0,.int .i32 0,.int .i32 0,.int .i32 0];rw[aB];have aI:Bl wq W7.drew:=ae.below.drew;refine V.out _ _ (zh.xj _ aI) (fun _=>trivial) ?_;clear V K aB;try refine zQ ?_
  repeat refine zS an.o ?_
  refine xf fun K V=>?_
  go_simp;refine(aK.o _ aI).mono ?_;rintro e w7⟨ak,Y,T',rfl,I,aQ,aR,aB⟩;have ai:zh (·∈T) wq w7:=(zh.xj (·∈T) aI).trans aR fun x hx _=>hx
  refine V.out _ _ ai (fun _=>trivial) ?_;clear V K;try refine zQ ?_
  repeat refine zS an.o ?_
  have O:(zX (pad Y)).length=24:=by
   have:=I.len;rw[zpO,Hn.o]at this;unfold pad;simp;have:=aj.o;omega
  have aS:∀k∈T,k<wq.heap.size:=fun k hk=>ag.o.tab.lt k hk
  have aU:zD w7 wq.heap.size 155 #[.int .i32 0,.int .i32 0,.int .i32 0,.int .i32 0,.int .i32 0,.int .i32 0,.int .i32 0,.int .i32 0,.int .i32 0,.int .i32 0,.int .i32 0,.int .i32 0,.int .i32 0,.int .i32 0,.int .i32 0,.int .i32 0,.int .i32 0,.int .i32 0,.int .i32 0,.int .i32 0,.int .i32 0,.int .i32 0,.int .i32 0,.int .i32 0]:=ae.b0.drew.zC aR fun h=>zq2 _ (aS _ h)
  have aZ:wq.heap.size∉T':=fun h=>by
   rcases aB _ h with h1|h1
   ·exact zq2 _ (aS _ h1)
   ·have:=ae.size;have h2:W7.drew.heap.size=W7.heap.size:=rfl;omega
  refine xf fun K V=>?_
  refine Xu 155 _ _ rfl wq.heap.size 0 _ _ aU (zX (pad Y)) rfl rfl (by rw[O];decide) (by rw[O];exact yJ) (X7 _) ?_;intro W8 af;have ab:zh (·∈T) wq W8:=ai.trans af.zC fun x hx aA=>zd
  refine V.out _ _ ab (fun _=>trivial) ?_;clear V K;try refine zQ ?_
  repeat refine zS an.o ?_
  refine xt ?_;have N:zD W8 wq.heap.size 155 (zX (pad Y)).toArray:=by
   have:=af.zH;rw[O]at this;simpa using this
  have aH:qv W8 tb 2147483647 ak T':=aQ.same fun k hk=>af.zC.block k (aQ.lt k hk) fun e=>aZ (e▸hk)
  have Z:∀k∈T',k∈T\/wq.heap.size<=k:=fun k hk=>(aB k hk).imp id fun h=>zpK aI.size h
  obtain⟨ah,V⟩:∃ah,wq.heap.size=ah:=⟨_,rfl⟩;rw[V]at N ⊢;have bd:=zz V;clear V;clear af ae ai aI aR aQ aB O aS aU aZ;have aa:=ag.o.TM ab aH I.pre Z;have L:(args.map Vl.val).length=n:=by rw[zpO];exact Hn.o
  have X:yT ak d.ar (pad Y):=by
   have:=I.JK (by rw[L];exact aj.o);rw[L]at this;rw[au.o];exact this
  have al:Rw (pad Y):=Rw.pad (by rw[I.len,L];exact aj.o) fun k hk=>by
   have h1:=I.lt k hk;have h2:=I.le;rw[L]at h2;have:=HN.o;omega
  have ay:=H6.o.zC ab a2.o;have ad:=aa.rel p d aJ.o;have aw:=zz (GP ad (pad Y) al X.zero HR.o);have k0:=ay.cell 0;have aN:W8.rangeAt ah 0 (zX (pad Y)):=by
   intro j v hv;rw[zp6,N.cell];simpa using hv
  have aM:(prog.info? 155).map (·.size)=some (zX (pad Y)).length:=by rw[zpO,al.len];exact yJ
  have ax:=zz aa;have av:=zz X;have aT:=zz I;have aF:=zz ab;have aO:=zz Z;clear aa L X al ay ad N I ab aH Z
  go_wp2_with (first
   |(refine xW 155 _ rfl ?_;refine y7 zj 155 _ rfl ah 0 rfl (zX (pad Y)) _ aN underlying155 rfl aM ?_)
   |(go_at_call 93;refine aw.o.mono ?_;rintro e w9⟨rfl,ac,aC⟩;have am:=zz ac;have aq:=zz aC;clear ac aC))
  go_returns;have a3:wq.heap.size<=W8.heap.size:=aF.o.size;have a9:w.heap.size<=wq.heap.size:=ap.o.size;have aE:=ax.o.Tj aJ.o av.o aq.o am.o;rw[a6.o]at aE;refine⟨_,ak,Y,f5,T',_,{ d with R:=Ye d.R (pad Y)},rfl,aT.o,au.o,by rw[<-a8.o],aE,fun q a g U=>?_,fun ao a g U=>?_,fun k hk=>?_,(ap.o.trans aF.o fun g U aA=>.inr (.inr (.inl U))).trans aq.o fun g U aA=>?_⟩
  ·rcases U with U |⟨_,_,U,_⟩
   ·exact aD.o q a g U
   ·right;omega
  ·rcases U with U |⟨_,_,U,_⟩
   ·exact aG.o ao a g U
   ·omega
  ·rcases aO.o k hk with h|h
   ·exact .inl h
   ·right;omega
  ·rcases az.o g U with h|h
   ·exact h
   ·omega
end
