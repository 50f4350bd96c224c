/-
  Relations: as they lie; New, there, Arity, Len. A load of a 
-/
import Derived.Test.YtfdickkdlcgicaaGreatDoorP18
import Derived.Great.BuildSlice
set_option maxRecDepth 100000
set_option maxHeartbeats 8000000
set_option linter.all false
namespace Go.Proofs.YtfdickkdlcgicaaGreatDoor.C
open Go.Proofs.Tryz Go Go.RowKit Go.Maps Go.WideMaps
variable {A:Option Addr}{I L N V Z ar cap i m n q rb:Nat}{R:List (List Nat)}{S:Nat->Prop}{a:Act}{args:List Tm}{f:Value->Option Value}{o:Oper}{r x:List Nat}{rest:List (Nat×Oper)}{us vs:List z6}{v:ByteArray}{w w':World}{α:Type}{ρ:Env}
section
open Classical in
def ze8(R:List (List Nat))(f:Value->Option Value):Prop:=∀r,Rw r->f (.agg (zX r).toArray)=if r∈R then some (.int .i64 ((R.idxOf r:Nat):Int))else none
structure ZA (w:World) (rb ar:Nat) (R:List (List Nat)) (pb mb:Nat) (A:Option Addr) (cap:Nat) (f:Value->Option Value):Prop where
 rel:zD w rb 217 #[.int .i64 (ar:Int),.int .i64 0,.pointer (some ⟨pb,0,none⟩)]
 pl:zD w pb 214 #[.slice A R.length cap,.map (some mb)]
 own:Own zX 155 24 w A cap R
 map:xv prog 155 w mb f
 nums:ze8 R f
 nodup:R.Nodup
 ok:∀r∈R,Rw r
 ar:ar<=24
def Rel(w:World)(r L:Nat)(R:List (List Nat))(S:Nat->Prop):Prop:=∃I q A h f,ZA w r L R I q A h f/\∀x,(x=r\/x=I\/x=q\/x∈zw A)->S x
theorem ZA.same{r:Nat}(h:ZA w N I R r L A cap f)(q:∀x,(x=N\/x=r\/x=L\/x∈zw A)->x<w.heap.size->w'.heap[x]? = w.heap[x]?):ZA w' N I R r L A cap f:=
 ⟨h.rel.same (q _ (.inl rfl) h.rel.lt),h.pl.same (q _ (.inr (.inl rfl)) h.pl.lt),h.own.same fun g O=>q g (.inr (.inr (.inr O))) (h.own.lt g O),h.map.same (q _ (.inr (.inr (.inl rfl))) h.map.lt),h.nums,h.nodup,h.ok,h.ar⟩
theorem Rel.zC{r:Nat}{Q:Nat->Prop}(h:Rel w I r R S)(X:zh Q w w')(W:∀x,S x->¬Q x):Rel w' I r R S:=by
 obtain⟨O,N,A,q,f,h,L⟩:=h;exact⟨O,N,A,q,f,h.same fun x V U=>X.block x U (W x (L x V)),L⟩
theorem Rel.below{r:Nat}(h:Rel w r I R S)(O:Bl w w'):Rel w' r I R S:=by
 obtain⟨V,L,A,q,f,h,U⟩:=h;exact⟨V,L,A,q,f,h.same fun x _ N=>O.block x N,U⟩
theorem znZ(w:World)(n:Nat)(hn:n<=24):Calls prog 90 #[.int .i64 (n:Int)] w fun e q=>∃h,e=.returned (.tuple #[.pointer (some ⟨h,0,none⟩),.int .i64 0])/\Rel q h n [] (w.heap.size<=·)/\w.heap.size<=h/\Bl w q:=by
 have Y:=@run_makeMap prog;have hd:decide ((n:Int)<0)=false:=zp;have X:decide ((n:Int) > 24)=false:=zb;have q:xv prog 155 (w.alloc (.map #[] 0)) w.heap.size (fun _=>none):=xv.new w 0;obtain⟨R,h⟩:∃R,w.alloc (.map #[] 0)=R:=⟨_,rfl⟩;have N:R.heap.size=w.heap.size+1:=by rw[<-h];simp
 have O:Bl w R:=by rw[<-h];exact xo w _
 obtain⟨W4,I,L⟩:=ya R 214 217 #[.slice none 0 0,.map (some w.heap.size)] #[.int .i64 (n:Int),.int .i64 0,.pointer (some ⟨w.heap.size+1,0,none⟩)];rw[h]at q;have U:=zz L;have Hm:=zz q;have Hb:=zz O;have Z:=zz N;have V:=zz h;have W:=zz I;clear L q O N h I;go_enter func90,ntmps90;go_wp2;rw[V.o,W.o];go_returns;have q:=U.o.b0;have I:=U.o.b1;rw[Z.o]at q I;refine⟨w.heap.size+1+1,rfl,⟨w.heap.size+1,w.heap.size,none,0,_,⟨I,q,Own.qC _,Hm.o.below U.o.below,fun r _=>zp,List.nodup_nil,zp,hn⟩,fun x h=>?_⟩,zd,zu Hb.o U.o.below⟩
 rcases h with rfl|rfl|rfl|h
 ·omega
 ·omega
 ·exact zoZ _
 ·simp[zw]at h
theorem Jo(w:World)(q:Nat)(I c1:Value)(r:Nat)(h:zD w q 217 #[I,c1,.pointer (some ⟨r,0,none⟩)]):Calls prog 106 #[.pointer (some ⟨q,0,none⟩)] w fun e L=>e=.returned (.bool true)/\L=w:=by
 have L:=h.cell 2;clear h;go_enter func106,ntmps106;go_wp2;go_returns;exact⟨rfl,rfl⟩
theorem T6{r:Nat}(h:Rel w q r R S):Calls prog 70 #[.pointer (some ⟨q,0,none⟩)] w fun e I=>e=.returned (.int .i64 (r:Int))/\I=w:=by
 obtain⟨N,U,A,I,f,h,-⟩:=h;have L:=zz (Jo w q _ _ N h.rel);have V:=h.rel.cell 0;clear h;go_enter func70,ntmps70
 go_wp2_with (go_at_call 106;refine L.o.mono ?_;rintro e O⟨rfl,rfl⟩)
 go_returns;exact⟨rfl,rfl⟩
theorem UD(h:Rel w q I R S):Calls prog 52 #[.pointer (some ⟨q,0,none⟩)] w fun e r=>e=.returned (.int .i64 (R.length:Int))/\r=w:=by
 obtain⟨N,W,A,r,f,h,-⟩:=h;have L:=zz (Jo w q _ _ N h.rel);have U:=h.rel.cell 2;have V:=h.pl.cell 0;clear h;go_enter func52,ntmps52
 go_wp2_with (go_at_call 106;refine L.o.mono ?_;rintro e O⟨rfl,rfl⟩)
 go_returns;exact⟨rfl,rfl⟩
section
variable {P:Program}{ops:Array Oper}{Q:Exit->Act->World->Prop}{S0 S1:World->Prop}{d:Bool}
theorem zcS(q:TypeId)(x:Operand)(L:o.op=.load q x)(b r:Nat)(R:a.eval x=.pointer (some ⟨b,r,none⟩))(h:List Value)(e:TypeDesc)(O:w.rangeAt b r h)(N:P.underlying q=some e)(I:e.isRow=true)(hi:(P.info? q).map (·.size)=some h.length):(execOp a.eval o).run P w=.ok (.value (.agg h.toArray)) w:=by
 unfold execOp;simp only[L,R,Instr.loadAt,Instr.sureAddr,Sem.run_bind,Sem.run_pure,Result.andThen_ok,run_loadVar_mid w b r q h e O N I hi]
theorem V1(r:TypeId)(x:Operand)(N:o.op=.load r x)(b I:Nat)(R:a.eval x=.pointer (some ⟨b,I,none⟩))(q:List Value)(e:TypeDesc)(hw:Region.wanted o (yielded ops a.tmps)=true)(V:∀W,S0 W->W.rangeAt b I q)(O:P.underlying r=some e)(L:e.isRow=true)(hi:(P.info? r).map (·.size)=some q.length)(h:xQ P ops Q S0 S1 d rest (a.put o.dst (.agg q.toArray)) w):xQ P ops Q S0 S1 d ((0,o)::rest) a w:=
 TG hw (fun W U=>zcS r x N b I R q e (V W U) O L hi) h
theorem zmD(r:TypeId)(x:Operand)(N:o.op=.load r x)(b I:Nat)(R:a.eval x=.pointer (some ⟨b,I,none⟩))(q:List Value)(e:TypeDesc)(hw:Region.wanted o (yielded ops a.tmps)=true)(V:∀W,S0 W->W.rangeAt b I q)(O:P.underlying r=some e)(L:e.isRow=true)(hi:(P.info? r).map (·.size)=some q.length)(h:xQ P ops Q S0 S1 d rest (a.put o.dst (.agg q.toArray)) w):xQ P ops Q S0 S1 d ((1,o)::rest) a w:=
 zaW hw (fun W U=>zcS r x N b I R q e (V W U.1) O L hi) h
end
end
section
theorem yC:(prog.info? 155).map (·.size)=some 24:=zo
theorem zmc{Y mb:Nat}(h:ZA w rb ar R Y mb A cap f)(r:List Nat)(V:Rw r)(hm:r∈R):
 Calls prog 162 #[.pointer (some ⟨Y,0,none⟩),.agg (zX r).toArray] w fun e q=>e=.returned (.bool false)/\Bl w q:=by
 obtain⟨X,O,N⟩:=xj w 155 (zX r).toArray;have HX:=zz N;have q:=fun W (I:Bl w W)=>(h.map.below I).look Uf underlying212 (z:=.int .i64 0) zo (Ja V) true
 rw[h.nums r V,if_pos hm]at q;simp only[if_true,zpT,Option.isSome_some]at q;have L:=h.pl;have H0:Kz (∀W,Bl X W->W.cell? ⟨Y,1,none⟩=some (.map (some mb))/\_):=fun W I=>⟨(L.below (zu N.below I)).cell 1,q W (zu N.below I)⟩
 have U:=zz (show ∀W,Bl X W->W.rangeAt w.heap.size 0 (zX r)from fun W I=>by
  intro j v Z;have:=(N.b0.below I).cell (0+j);rw[this];simpa using Z)
 have I:(zX r).length=24:=by simp[V.len]
 have Z:=zz (show(prog.info? 155).map (·.size)=some (zX r).length by rw[I];exact yC);clear h q L N V hm I;generalize zX r=C at *;go_enter func162,ntmps162;go_upto_region 1 with fail
 try rw[O]
 clear O;refine xX [0,0,0,0,0,0,0,0,0,0,0] (fun W=>Bl X W) ?_
 repeat refine zT H0.o ?_
 refine V1 155 _ rfl w.heap.size 0 rfl C _ rfl U.o underlying155 rfl Z.o ?_;try refine zQ ?_
 repeat refine zT H0.o ?_
 refine xu ?_;go_wp2;go_returns;exact⟨rfl,zu HX.o.below (Below.refl _ _).drew⟩
theorem zcm:∀(r:List Value)(k:Nat)(q:Array Value),k+r.length=q.size->(r.zipIdx k).foldl (fun a x=>a.setIfInBounds x.2 x.1) q=(q.toList.take k++r).toArray
 |[],k,q,h=>by
  have:q.toList.take k=q.toList:=zpm (by simp at h ⊢;omega);simp[this]
 |c::r,k,q,h=>by
  simp only[zpn]at h;rw[List.zipIdx_cons,List.foldl_cons,zcm r (k+1) _ zb];have e:(q.setIfInBounds k c).toList.take (k+1)=q.toList.take k++[c]:=by
   have r:k<q.toList.length:=zb;rw[List.take_add_one,Array.toList_setIfInBounds,List.take_set_of_le (zoZ _)];rw[List.getElem?_set_self r];rfl
  rw[e];simp
theorem zk1(r:List Nat)(I:Rw r)(q:Array Value)(L:q.size=24):Instr.fill (fun i=>some (i*24,24)) q [(0,.agg (zX r).toArray)]=some (zX r).toArray:=by
 have h:=zcm (zX r) 0 q (by simp[I.len,L]);simp only[zpr,zpa]at h;simp[Instr.fill,Value.cells,I.len,L];exact h
theorem zhm{K:Act->World->Prop}{Q:Exit->Act->World->Prop}(x:Operand)(L:o.op=.buildSlice 211 1 #[(0,x)])(r:List Nat)(N:Rw r)(R:a.eval x=.agg (zX r).toArray)(h:K (a.put o.dst (.slice (some ⟨w.heap.size,0,none⟩) 1 1)) (w.alloc (.cells (zX r).toArray 155))):o.wp prog a w K Q:=by
 obtain⟨I,z,O,U,q,V,W⟩:=TI.ex;refine wp_buildSlice 211 155 1 _ L (zX r).toArray I z TI.ht O U (by rw[q];decide) (by rw[q];decide) ?_ h;rw[q];simp only[zqh,zpM,zqG,R];exact zk1 r N _ zp
theorem zke(h:ZA w rb ar R q L A cap f)(r:List Nat)(hr:Rw r)(hm:r∉R)(ax:R.length<=4194304):
 Calls prog 162 #[.pointer (some ⟨q,0,none⟩),.agg (zX r).toArray] w fun e w'=>∃N I O,e=.returned (.bool true)/\ZA w' rb ar (R++[r]) q L N I O/\zh (fun x=>x=q\/x=L\/x∈zw A) w w'/\(∀g∈zw N,g∈zw A\/w.heap.size<=g):=by
 obtain⟨Y,ai,V⟩:=xj w 155 (zX r).toArray;have HX:=zz V;have H:=zz h;have Hr:=zz hr;have Hm:=zz hm;have U:=Ja hr;have aa:=fun W (N:Bl w W)=>(h.map.below N).look Uf underlying212 (z:=.int .i64 0) zo U true
 rw[h.nums r hr,if_neg hm]at aa;simp only[if_true,Option.getD_none,Option.isSome_none]at aa;have O:=h.pl;have H0:Kz (∀W,Bl Y W->W.cell? ⟨q,1,none⟩=some (.map (some L))/\_):=fun W N=>⟨(O.below (zu V.below N)).cell 1,aa W (zu V.below N)⟩
 have I:∀(W:World),W.heap[w.heap.size]? = Y.heap[w.heap.size]?->W.rangeAt w.heap.size 0 (zX r):=fun W N=>by
  intro j v X;have:=(V.b0.same N).cell (0+j);rw[this];simpa using X
 have aw:=zz I;have ab:(zX r).length=24:=by simp[hr.len]
 have ah:=zz (show(prog.info? 155).map (·.size)=some (zX r).length by rw[ab];exact yC);have ag:Y.heap.size=w.heap.size+1:=V.size;have Z:=zz ag;have az:=zz U;have ac:L≠w.heap.size:=Nat.ne_of_lt h.map.lt;have ad:q≠w.heap.size:=Nat.ne_of_lt O.lt;have X:q≠L:=O.qM h.map;have H4:=zz (show ∀W,zh (·=L) Y W->W.cell? ⟨q,0,none⟩=some (.slice A R.length cap)/\W.cell? ⟨q,1,none⟩=some (.map (some L))from fun W N=>
  ⟨((O.below V.below).zC N X).cell 0,((O.below V.below).zC N X).cell 1⟩)
 obtain⟨n,hn⟩:∃n,R.length=n:=⟨_,rfl⟩;have Hn:=zz hn;rw[hn]at H4 ax;have af:∀W,Bl Y W->W.rangeAt w.heap.size 0 (zX r):=fun W N=>I W (N.block _ zd)
 have ae:∀W,zh (·=L) Y W->W.rangeAt w.heap.size 0 (zX r):=fun W N=>I W (N.block _ zd (fun e=>ac e.symm))
 have aH:=zz af;have aE:=zz ae;have aG:=zz (h.map.below (zu V.below (Below.refl Y.heap.size Y).drew.drew));have aF:=zz ac;have aJ:=zz ad;have aj:=zz X;clear h aa O V hr hm ab I U ag ac ad X hn af ae;go_enter func162,ntmps162;go_upto_region 1 with fail
 try rw[ai]
 clear ai;refine xX [0,0,0,0,0,0,0,0,0,0,0] (fun W=>Bl Y W) ?_
 repeat refine zT H0.o ?_
 refine V1 155 _ rfl w.heap.size 0 rfl (zX r) _ rfl aH.o underlying155 rfl ah.o ?_;try refine zQ ?_
 repeat refine zT H0.o ?_
 refine xu ?_;go_upto_region 4 with fail
 refine xX [0,0,0,0,0,0,0,0,0,0,2] (fun W=>zh (·=L) Y W) (h0:=?s0) ?_
 case s0=>exact(zh.refl _ _).drew.drew
 try refine zQ ?_
 repeat refine zT H4.o ?_
 refine V1 155 _ rfl w.heap.size 0 rfl (zX r) _ rfl aE.o underlying155 rfl ah.o ?_;try refine zQ ?_
 repeat refine zT H4.o ?_
 refine xc fun K hK=>?_
 refine Zp _ _ _ rfl aG.o Uf underlying212 rfl (.agg (zX r).toArray) (.int .i64 (n:Int)) _ rfl rfl az.o ?_;intro V U X;have O:zh (·=L) Y V:=(zh.refl (·=L) Y).drew.drew.zna X (fun _=>rfl);have aK:=zz U;have I:=zz O;refine hK.out _ _ O (fun _=>trivial) ?_;clear hK K U X O;try refine zQ ?_
 repeat refine zT H4.o ?_
 refine xu ?_;have U:=(H.o.pl.below HX.o.below).zC I.o aj.o;have ai:Kz (∀W:World,zh (fun x=>x=q\/x∈zw A) V W->True):=fun _ _=>trivial
 have ag:Kz (∀W:World,W.heap[q]? = V.heap[q]?->W.cell? ⟨q,0,none⟩=some (.slice A n cap)):=fun W N=>((U.same N).cell 0).trans (by rw[<-Hn.o];rfl)
 have aa:V.heap[w.heap.size]? = Y.heap[w.heap.size]?:=I.o.block _ (by rw[Z.o];omega) (fun e=>aF.o e.symm);have O:Own zX 155 24 w A cap R:=H.o.own;have X:¬w.heap.size∈zw A:=fun h=>zqq _ (O.lt _ h)
 have aB:Kz (∀W:World,zh (fun x=>x=q\/x∈zw A) V W->W.rangeAt w.heap.size 0 (zX r)):=fun W N=>aw.o W ((N.block _ (by have:=I.o.size;rw[Z.o]at this;omega) (fun e=>by rcases e with e|e;exact aJ.o e.symm;exact X e)).trans aa)
 clear U aa O X;go_upto_region 5 with fail
 refine XH [0,0,0,0,1,1,2,2,0,0,3] 10 (fun W=>zh (fun x=>x=q\/x∈zw A) V W) (fun W=>W.heap[q]? = V.heap[q]?) ?s0 ?s1 ?_
 case s0=>exact yj
 case s1=>rfl
 try refine zQ ?_
 repeat refine xK ai.o ag.o ?_
 first |(refine zmD 155 _ rfl w.heap.size 0 rfl (zX r) _ rfl aB.o underlying155 rfl ah.o ?_) |(refine V1 155 _ rfl w.heap.size 0 rfl (zX r) _ rfl aB.o underlying155 rfl ah.o ?_)
 try refine zQ ?_
 repeat refine xK ai.o ag.o ?_
 refine xc fun K hK=>?_
 refine zhm _ rfl r Hr.o rfl ?_;refine hK.out _ _ (((zh.refl _ _).drew).alloc _) (fun _=>by exact(Below.heap_alloc _ _ _ (by have:=I.o.size;have:=H.o.pl.lt;rw[Z.o]at *;simp;omega))) ?_;clear hK K;try refine zQ ?_
 repeat refine xK ai.o ag.o ?_
 refine xc fun K hK=>?_
 have aa:Own zX 155 24 V A cap R:=(H.o.own.below HX.o.below).zC I.o (fun g N e=>H.o.own.qM H.o.map (e▸N));have ao:¬q∈zw A:=H.o.own.yB H.o.pl zr;have ak:q<V.heap.size:=by
  have U:=I.o.size;have O:=H.o.pl.lt;have N:=Z.o;omega
 have ad:Own zX 155 24 V.drew A cap R:=aa.same (w':=V.drew) fun _ _=>rfl
 refine Zv _ _ rfl TI (f:=zX) (xs:=R) (ad.alloc _) Hn.o r _ 0 1 rfl rfl (by simp[Hr.o.len]) (yp _ _ _ rfl) (XT r) ax zr ?_;intro g U w5 av aA aD;have aq:zh (fun x=>x∈zw A) V w5:=((zh.refl _ V).drew.alloc _).trans aA (fun x N _=>N);have an:w5.heap[q]? = V.heap[q]?:=aq.block _ ak ao;have O:zh (fun x=>x=q\/x∈zw A) V w5:=aq.mono fun x N _=>.inr N
 refine hK.out _ _ O (fun _=>an) ?_;clear hK K;try refine zQ ?_
 repeat refine xK ai.o ag.o ?_
 refine y7 zj (fun K hK=>?_);have kl:=((H.o.pl.below HX.o.below).zC I.o aj.o).same (w':=w5) an;refine Xq 211 _ _ rfl q 0 _ _ kl (.slice (some ⟨g,0,none⟩) (n+1) U) rfl rfl zp (zo) rfl ?_;intro W6 X;have aM:=zz X;refine hK.out _ _ (O.trans X.zC (fun x N _=>.inl N)) ?_;clear hK K;refine xu ?_;have am:g∈zw A\/V.heap.size<=g:=aD.imp id (fun h=>by simp at h;omega);have ay:g≠q:=fun e=>by
  rcases am with h|h
  ·exact ao (e▸h)
  ·omega
 have ap:zh (fun x=>x=q\/x=L\/x∈zw A) Y W6:=
  ((I.o.mono (S':=fun x=>x=q\/x=L\/x∈zw A) (fun x N _=>.inr (.inl N))).trans (O.mono (S':=fun x=>x=q\/x=L\/x∈zw A) (fun x N _=>by rcases N with h|h;exact .inl h;exact .inr (.inr h))) (fun x N _=>N)).trans X.zC (fun x N _=>.inl N)
 have au:g∈zw A\/w.heap.size<=g:=am.imp id (fun h=>by have:=I.o.size;have:=Z.o;omega);have hrel:zD W6 rb 217 #[.int .i64 (ar:Int),.int .i64 0,.pointer (some ⟨q,0,none⟩)]:=(H.o.rel.below HX.o.below).zC ap (fun e=>by
  rcases e with e|e|e
  ·exact H.o.rel.yD H.o.pl zr e
  ·exact H.o.rel.qM H.o.map e
  ·exact H.o.own.yB H.o.rel zr e)
 have al:zD W6 q 214 #[.slice (some ⟨g,0,none⟩) (R++[r]).length U,.map (some L)]:=by
  have:=X.zG;rw[zo1,Hn.o];simpa using this
 have ac:Own zX 155 24 W6 (some ⟨g,0,none⟩) U (R++[r]):=X.own av (xW ay);have ab:xv prog 155 W6 L (yg f (.agg (zX r).toArray) (.int .i64 (n:Int))):=(aK.o.zC O (fun e=>by
  rcases e with e|e
  ·exact aj.o e.symm
  ·exact H.o.own.qM H.o.map e)).zC X.zC (fun e=>aj.o e.symm)
 have af:ze8 (R++[r]) (yg f (.agg (zX r).toArray) (.int .i64 (n:Int))):=fun r' ae=>by
  by_cases e:r'=r
  ·subst e;rw[Yi,if_pos zp,List.idxOf_append,if_neg Hm.o,Hn.o];simp
  ·have aC:(Value.agg (zX r').toArray)≠.agg (zX r).toArray:=fun h=>e (zed (by injection h with h;exact congrArg Array.toList h))
   rw[XG aC,H.o.nums r' ae]
   by_cases ae:r'∈R
   ·rw[if_pos ae,if_pos (by simp[ae]),List.idxOf_append,if_pos ae]
   ·rw[if_neg ae,if_neg (by simp[ae,e])]
 have aC:(R++[r]).Nodup:=zqH.2 ⟨H.o.nodup,zp,fun a ha b hb e=>by rw[zo2.1 hb]at e;exact Hm.o (e▸ha)⟩;have ae:∀x∈R++[r],Rw x:=fun x N=>by
  rcases zo7.1 N with h|h
  ·exact H.o.ok x h
  ·rw[zo2.1 h];exact Hr.o
 have HF:=zz (show ZA W6 rb ar (R++[r]) q L (some ⟨g,0,none⟩) U _ from⟨hrel,al,ac,ab,af,aC,ae,H.o.ar⟩);have aL:=zz ((zh.xi (fun x=>x=q\/x=L\/x∈zw A) HX.o.below).trans ap (fun x N _=>N));have aI:=zz au;clear X am ay ap au hrel al ac ab af aC ae av aA aD aq O an kl aa ad ak ao;go_wp2;go_returns;exact⟨some ⟨g,0,none⟩,U,_,rfl,HF.o,aL.o,xW aI.o⟩
theorem zju(w:World)(b:Nat)(r:List Nat)(q:∀i,i<24->w.cell? ⟨b,i,none⟩=some (.int .i32 ((r.getD i 0:Nat):Int))):
 Calls prog 219 #[.slice (some ⟨b,0,none⟩) 24 24] w fun e h=>(∃m:Nat,e=.returned (.int .i32 (m:Int)))/\h=w:=by
 have O:=q 0 zr;have L:=zz q;clear q;go_enter func219,ntmps219;go_wp2
 go_loopg[3,4] 23 (fun gk N h I=>∃(i m:Nat),1<=i/\i<=24/\gk=24-i/\h=.int .i64 (i:Int)/\N=.int .i32 (m:Int)/\I=w)
 case atStart=>exact⟨1,r.getD 0 0,zr,zr,rfl,rfl,rfl,rfl⟩
 case round=>
  obtain⟨i,m,R,U,rfl,rfl,rfl,rfl⟩:=hrel
  by_cases h:i<24
  ·have N:=L.o i h;obtain⟨x,I⟩:∃x,r.getD i 0=x:=⟨_,rfl⟩;rw[I]at N;clear I;go_wp2
   go_roundg (24-(i+1))
   case measure=>omega
   case rel=>exact⟨i+1,min m x,zd,zd,rfl,ze,by first|rfl|go_num |(simp[Int.zoa];done) |(simp;split<;>simp_all<;>omega),rfl⟩
  ·obtain rfl:i=24:=zd;go_wp2;go_returns;exact⟨⟨m,rfl⟩,rfl⟩
theorem zjw(R:Rw r){h:Nat}(U:h<=24)(V:∀i,h<=i->r.getD i 0=0):List.replicate h (Value.int .i32 0)++(zX r).drop h=zX (List.replicate 24 0):=by
 have N:=R.len;refine zqM (by simp[N];omega) fun i W O=>?_
 by_cases L:i<h
 ·rw[zqD (by simpa using L),List.getElem_replicate,zp4,List.getElem_replicate];rfl
 ·rw[List.getElem_append_right (by simpa using L)];have q:i<r.length:=by simp at O;omega
  have I:=V i zd;rw[zo8,zo6 q,zpT]at I;simp only[zqm,List.getElem_drop,zp4,List.getElem_replicate,show h+(i-h)=i from zd,I]
theorem zmz(w:World)(rb L:Nat)(ai:L<=24)(cs:Array Value)(hb:zD w rb 217 cs)(af:cs[0]? = some (.int .i64 (L:Int)))(r:List Nat)(V:Rw r)(hz:∀i,L<=i->r.getD i 0=0):
 Calls prog 161 #[.pointer (some ⟨rb,0,none⟩),.agg (zX r).toArray] w fun e h=>e=.returned (.bool true)/\Bl w h:=by
 obtain⟨W0,R,O⟩:=xj w 155 (zX r).toArray;have HX:=zz O;have h:=zju W0 w.heap.size r (fun i q=>by
  rw[O.b0.cell i];simp[V.len,q])
 have Y:=zz h;have k0:=(hb.below O.below).cell 0;rw[af]at k0;have N:∀W:World,W.heap[w.heap.size]? = W0.heap[w.heap.size]?->W.rangeAt w.heap.size 0 (zX r):=fun W q=>by
  intro j v hv;have:=(O.b0.same q).cell (0+j);rw[this];simpa using hv
 have ae:=zz N;have q:(zX r).length=24:=by simp[V.len]
 have ah:=zz (show(prog.info? 155).map (·.size)=some (zX r).length by rw[q];exact yC);have I:=zz V;have Hz:=zz hz;have Z:=zz (hb.below O.below);have al:=zz O.size;clear O h hb N q V hz;go_enter func161,ntmps161;go_upto_region 1 with fail
 try rw[R]
 clear R;go_upto_region 3 with(go_at_call 219;refine Y.o.mono ?_;rintro e h⟨⟨m,rfl⟩,rfl⟩;have q:decide ((m:Int)<0)=false:=zp)
 have R:=ae.o h rfl;clear q;go_upto_region 4 with(first
  |(refine xV 155 _ rfl ?_;refine yZ zj 155 _ rfl w.heap.size 0 rfl (zX r) _ R underlying155 rfl ah.o ?_)
  |(refine xy 155 _ _ rfl ?_;refine Xu zj 155 _ _ rfl h.heap.size 0 _ _ (zD.new _ _ _) (zX r) rfl rfl (by simp[I.o.len]) ah.o (XT r) ?_;intro O X;have U:=zz X;clear X))
 have q:zD O h.heap.size 155 (zX r).toArray:=by
  have:=U.o.zG;rw[show(zX r).length=24 by simp[I.o.len]]at this;simpa using this
 have N:zD O rb 217 cs:=(Z.o.alloc _).zC U.o.zC (Nat.ne_of_lt Z.o.lt);have k3:=N.cell 0;rw[af]at k3;have ab:Bl h O:=U.o.zC.qq (xo h _) (zoZ _) (fun x hx=>zd);have aa:=zz ab;clear R k0 N ab;have R:∀(N:World),zD N h.heap.size 155 #[.int .i32 0,.int .i32 0,.int .i32 0,.int .i32 0,.int .i32 0,.int .i32 0,.int .i32 0,.int .i32 0,.int .i32 0,.int .i32 0,.int .i32 0,.int .i32 0,.int .i32 0,.int .i32 0,.int .i32 0,.int .i32 0,.int .i32 0,.int .i32 0,.int .i32 0,.int .i32 0,.int .i32 0,.int .i32 0,.int .i32 0,.int .i32 0]->N.rangeAt h.heap.size 0 [.int .i32 0,.int .i32 0,.int .i32 0,.int .i32 0,.int .i32 0,.int .i32 0,.int .i32 0,.int .i32 0,.int .i32 0,.int .i32 0,.int .i32 0,.int .i32 0,.int .i32 0,.int .i32 0,.int .i32 0,.int .i32 0,.int .i32 0,.int .i32 0,.int .i32 0,.int .i32 0,.int .i32 0,.int .i32 0,.int .i32 0,.int .i32 0]:=fun N ab j v hv=>by
  rw[zpx,ab.cell j];simpa using hv
 have ad:=zz R;have ag:Kz ((prog.info? 155).map (·.size)=some ([.int .i32 0,.int .i32 0,.int .i32 0,.int .i32 0,.int .i32 0,.int .i32 0,.int .i32 0,.int .i32 0,.int .i32 0,.int .i32 0,.int .i32 0,.int .i32 0,.int .i32 0,.int .i32 0,.int .i32 0,.int .i32 0,.int .i32 0,.int .i32 0,.int .i32 0,.int .i32 0,.int .i32 0,.int .i32 0,.int .i32 0,.int .i32 0]:List Value).length):=yC;clear R;obtain⟨N,an,ac,ab⟩:∃N,(Builtin.clear_ #[252] 0 #[.slice (some ⟨h.heap.size,0,none⟩) L 24]).run prog O=.ok (.tuple #[]) N/\zD N h.heap.size 155 #[.int .i32 0,.int .i32 0,.int .i32 0,.int .i32 0,.int .i32 0,.int .i32 0,.int .i32 0,.int .i32 0,.int .i32 0,.int .i32 0,.int .i32 0,.int .i32 0,.int .i32 0,.int .i32 0,.int .i32 0,.int .i32 0,.int .i32 0,.int .i32 0,.int .i32 0,.int .i32 0,.int .i32 0,.int .i32 0,.int .i32 0,.int .i32 0]/\Bl h N:=by
  have e:=zjw I.o ai Hz.o
  by_cases h0:L=0
  ·subst h0;refine⟨O,by simp[Builtin.clear_,run_underlying underlying252],?_,aa.o⟩;simp only[List.replicate_zero,zpa,zqP]at e;rw[e]at q;exact q
  ·have V:=Lib.run_clear_slice (P:=prog) O 252 153 0 (.int .i32 0) underlying252 zdQ rfl rfl h.heap.size 0 L 24 zd (fun j R=>by rw[q.cell];simp[I.o.len];omega) (fun j _=>q.frozen _);have R:=Gh (a0:=0) q (List.replicate L (.int .i32 0)) (by simp[I.o.len];omega);simp only[zpr,zpa,zqm,zpx]at R;refine⟨_,V,?_,R.zC.qq aa.o (zoZ _) (fun x hx=>zd)⟩;have:=R.zG;rw[e]at this;exact this
 have am:(Instr.sliceAt 155 (.pointer (some ⟨h.heap.size,0,none⟩)) none (some (.int .i64 (L:Int))) none).run prog O=.ok (.slice (some ⟨h.heap.size,0,none⟩) L 24) O:=by
  obtain⟨i0,aj⟩:∃i,prog.info? 153=some i:=zpW.1 zo;have R:(L:Int)<=24:=zd;simp[Instr.sliceAt,run_underlying underlying155,Instr.sureAddr,Instr.sliceBounds,Result.andThen,sizeOf,typeInfo,go_sem,aj,R]
 have ak:∀W,(Op.equalIn 10000 155 (.agg #[.int .i32 0,.int .i32 0,.int .i32 0,.int .i32 0,.int .i32 0,.int .i32 0,.int .i32 0,.int .i32 0,.int .i32 0,.int .i32 0,.int .i32 0,.int .i32 0,.int .i32 0,.int .i32 0,.int .i32 0,.int .i32 0,.int .i32 0,.int .i32 0,.int .i32 0,.int .i32 0,.int .i32 0,.int .i32 0,.int .i32 0,.int .i32 0]) (.agg #[.int .i32 0,.int .i32 0,.int .i32 0,.int .i32 0,.int .i32 0,.int .i32 0,.int .i32 0,.int .i32 0,.int .i32 0,.int .i32 0,.int .i32 0,.int .i32 0,.int .i32 0,.int .i32 0,.int .i32 0,.int .i32 0,.int .i32 0,.int .i32 0,.int .i32 0,.int .i32 0,.int .i32 0,.int .i32 0,.int .i32 0,.int .i32 0])).run prog W=.ok true W:=fun W=>zo
 have R:=ad.o N ac;have aj:=zz ab;clear ac q ab
 go_wp2_with (refine xV 155 _ rfl ?_;refine yZ zj 155 _ rfl h.heap.size 0 rfl [.int .i32 0,.int .i32 0,.int .i32 0,.int .i32 0,.int .i32 0,.int .i32 0,.int .i32 0,.int .i32 0,.int .i32 0,.int .i32 0,.int .i32 0,.int .i32 0,.int .i32 0,.int .i32 0,.int .i32 0,.int .i32 0,.int .i32 0,.int .i32 0,.int .i32 0,.int .i32 0,.int .i32 0,.int .i32 0,.int .i32 0,.int .i32 0] _ R underlying155 rfl ag.o ?_)
 go_returns;exact⟨rfl,zu HX.o.below aj.o⟩
open Classical in
noncomputable def XX(R:List (List Nat))(r:List Nat):List (List Nat):=if r∈R then R else R++[r]
def zhB(w:World)(O N:Nat)(R:List (List Nat))(r:List Nat)(q I:Nat)(A:Option Addr)(v:Value)(w':World):Prop:=
 ∃L h U,v=.bool (tf (r∉R))/\ZA w' O N (XX R r) q I L h U/\zh (fun x=>x=q\/x=I\/x∈zw A) w w'/\(∀g∈zw L,g∈zw A\/w.heap.size<=g)
theorem zkt{W U:Nat}(h:ZA w W U R N V A cap f)(r:List Nat)(X:Rw r)(O:R.length<=4194304):
 Calls prog 162 #[.pointer (some ⟨N,0,none⟩),.agg (zX r).toArray] w fun e L=>∃v,e=.returned v/\zhB w W U R r N V A v L:=by
 by_cases q:r∈R
 ·refine(zmc h r X q).mono ?_;rintro e L⟨rfl,I⟩;refine⟨_,rfl,A,cap,f,by rw[qt (fun hn=>hn q)],?_,zh.xi _ I,fun g Y=>.inl Y⟩;unfold XX;rw[if_pos q];exact h.same fun x _ Z=>I.block x Z
 ·refine(zke h r X q O).mono ?_;rintro e L⟨A',I,f',rfl,Z,Y,h3⟩;refine⟨_,rfl,A',I,f',by rw[qs q],?_,Y,h3⟩;unfold XX;rw[if_neg q];exact Z
theorem Gy{X:Nat}(h:Rel w X Z R S)(r:List Nat)(hr:Rw r)(hz:∀i,Z<=i->r.getD i 0=0)(ae:R.length<=4194304):
 Calls prog 93 #[.pointer (some ⟨X,0,none⟩),.agg (zX r).toArray] w fun e q=>e=.returned (.tuple #[.bool (tf (r∉R)),.int .i64 0])/\Rel q X Z (XX R r) (fun x=>S x\/w.heap.size<=x)/\zh S w q:=by
 obtain⟨L,V,A,ah,f,h,hS⟩:=h;obtain⟨Y,aa,U⟩:=xj w 155 (zX r).toArray;have HX:=zz U;have Ht:=zz (Jo Y X _ _ L (h.rel.below U.below));have ag:=zz (zmz Y X Z h.ar _ (h.rel.below U.below) rfl r hr hz);have Hp:=zz (fun W (hW:Bl w W)=>zkt (h.same (w':=W) fun x _ I=>hW.block x I) r hr ae);have hq:∀x,(x=L\/x=V\/x∈zw A)->x<w.heap.size:=fun x q=>by
  rcases q with rfl|rfl|q
  ·exact h.pl.lt
  ·exact h.map.lt
  ·exact h.own.lt x q
 have Hq:=zz hq;have O:∀W:World,zh (fun x=>x=L\/x=V\/x∈zw A) Y W->W.rangeAt w.heap.size 0 (zX r):=fun W hW=>by
  intro j v I;have:=(U.b0.zC hW (fun e=>zqq _ (hq _ e))).cell (0+j);rw[this];simpa using I
 have N:=zz O;have I:(zX r).length=24:=by simp[hr.len]
 have ab:=zz (show(prog.info? 155).map (·.size)=some (zX r).length by rw[I];exact yC);have H0:=zz (show ∀W,zh (fun x=>x=L\/x=V\/x∈zw A) Y W->W.cell? ⟨X,2,none⟩=some (.pointer (some ⟨L,0,none⟩))from fun W hW=>((h.rel.below U.below).zC hW (fun e=>by
  rcases e with e|e|e
  ·exact h.rel.yD h.pl zr e
  ·exact h.rel.qM h.map e
  ·exact h.own.yB h.rel zr e)).cell 2)
 have HS:=zz hS;have ad:=N.o Y (zh.refl _ _);clear h hS U O I hr hz ae hq;go_enter func93,ntmps93;go_upto_region 1 with fail
 try rw[aa]
 clear aa;go_upto_region 5 with(first
  |(go_at_call 106;refine Ht.o.mono ?_;rintro e w1⟨rfl,rfl⟩)
  |(refine xV 155 _ rfl ?_;refine yZ zj 155 _ rfl w.heap.size 0 rfl (zX r) _ ad underlying155 rfl ab.o ?_)
  |(go_at_call 161;refine ag.o.mono ?_;rintro e w2⟨rfl,ac⟩;have I:=zz ac;clear ac ad))
 refine xX [0,0,0,0,0,2,0,0] (fun W=>zh (fun x=>x=L\/x=V\/x∈zw A) w1 W) (h0:=?s0) ?_
 case s0=>exact(zh.xi _ I.o).drew
 try refine zQ ?_
 repeat refine zT H0.o ?_
 refine V1 155 _ rfl w.heap.size 0 rfl (zX r) _ rfl N.o underlying155 rfl ab.o ?_;try refine zQ ?_
 repeat refine zT H0.o ?_
 refine xc fun K hK=>?_
 go_simp;have aa:Kz (Bl w w2.drew):=zu HX.o.below (I.o.trans ((Below.refl w1.heap.size w2).drew));refine(Hp.o _ aa.o).mono ?_;rintro e w3⟨v,rfl,A',U,f',rfl,h1,h2,h3⟩;have O:zh (fun x=>x=L\/x=V\/x∈zw A) w1 w3:=((zh.xi _ I.o).drew).trans h2 (fun x q _=>q);have HF:=zz h1;have af:=zz O;have HG:=zz h3;refine hK.out _ _ O (fun _=>trivial) ?_;clear hK K h1 h2 h3 O;try refine zQ ?_
 repeat refine zT H0.o ?_
 refine xu ?_;go_wp2;go_returns;refine⟨rfl,⟨L,V,A',U,f',HF.o,fun x q=>?_⟩,((zh.xi _ HX.o.below).trans af.o (fun x q _=>q)).mono fun x q _=>HS.o x (.inr q)⟩
 rcases q with q|q|q|q
 ·exact .inl (HS.o x (.inl q))
 ·exact .inl (HS.o x (.inr (.inl q)))
 ·exact .inl (HS.o x (.inr (.inr (.inl q))))
 ·rcases HG.o x q with h|h
  ·exact .inl (HS.o x (.inr (.inr (.inr h))))
  ·exact .inr (zpd aa.o.size h)
theorem zdu(h:Array Value)(w:World)(r:Nat)(I:Array Value)(q:Int)(R:h.getD 4 undef=.pointer (some ⟨r,0,none⟩))(U:h.getD 5 undef=.int .i64 q)(V:w.heap[r]? = some (.cells I 155 (0,0)))(hi:(prog.info? 155).map (·.size)=some I.size):
 (results Tryz.f156 h).run prog w=.ok (.tuple #[.agg I,.int .i64 q]) w:=by
 have N:h[4]?.getD undef=.pointer (some ⟨r,0,none⟩):=by simpa using R
 have L:h[5]?.getD undef=.int .i64 q:=by simpa using U
 have O:=run_loadVar_row (P:=prog) w r 155 155 I (0,0) _ V underlying155 rfl hi;simp[results,results156,N,L,asAddr,O]
theorem zY.at_mem{f:α->List Value}{c:Nat}{xs:List α}(O:∀x∈xs,(f x).length=c+1)(h:zY f w A xs)(i:Nat)(hi:i<xs.length):
 ∃b o,A=some ⟨b,o,none⟩/\b<w.heap.size/\w.rangeAt b (o+i*(c+1)) (f xs[i]):=by
 have L:∀r∈xs.map f,r.length=c+1:=fun r I=>by
  obtain⟨x,q,rfl⟩:=zpA.1 I;exact O x q
 unfold zY at h;rw[zqV]at h;have q:(xs.map f).flatten≠[]:=by
  intro e;have N:=DX L;rw[e,zph,zpF]at N;have:0<xs.length*(c+1):=Nat.mul_pos zd (zd);omega
 obtain⟨b,o,rfl,N,I⟩:=h q;refine⟨b,o,rfl,N,?_⟩;have:=VZ I (i*(c+1)) (c+1);rw[DJ L i (by rw[zph];exact hi),zp4]at this;exact this
theorem ziJ(h:Rel w Z ar R S)(i:Nat)(hi:i<R.length):
 Calls prog 156 #[.pointer (some ⟨Z,0,none⟩),.int .i64 (i:Int)] w fun e q=>e=.returned (.tuple #[.agg (zX R[i]).toArray,.int .i64 0])/\Bl w q:=by
 obtain⟨pb,mb,A,aa,f,h,hS⟩:=h;have hr:=h.ok _ (zo3 hi);obtain⟨n,hn⟩:∃n,R.length=n:=⟨_,rfl⟩;have N:=h.pl;rw[hn]at N;have ac:i<n:=by rw[<-hn];exact hi
 have Ht:=zz (fun W (L:Bl w W)=>Jo W Z _ _ pb (h.rel.below L));have Hk:Kz (∀W,Bl w W->W.cell? ⟨Z,2,none⟩=some (.pointer (some ⟨pb,0,none⟩))/\W.cell? ⟨pb,0,none⟩=some (.slice A n aa)):=fun W L=>⟨(h.rel.below L).cell 2,(N.below L).cell 0⟩
 obtain⟨b,o,rfl,V,q⟩:=zY.at_mem (c:=23) (fun x I=>by simp[(h.ok x I).len]) h.own.xI i hi;have I:(zX R[i]).length=24:=by simp[hr.len]
 generalize R[i]=r at q I hr ⊢
 replace q:w.rangeAt b (o+i*24) (zX r):=q
 have X:=zz (fun W (L:Bl w W)=>yo q L V);have O:=zz (show(prog.info? 155).map (·.size)=some (zX r).length by rw[I];exact yC);have L:=zz I;obtain⟨W0,U,Y⟩:=xj w 155 (zX (List.replicate 24 0)).toArray;have HX:=zz Y;obtain⟨k0,k1⟩:=Hk.o W0 Y.below;have ab:=X.o W0 Y.below;clear h hS hr N hn q V I Y hi;go_enter func156,ntmps156;go_upto_region 1 with fail
 try rw[show(w.alloc (.cells #[.int .i32 0,.int .i32 0,.int .i32 0,.int .i32 0,.int .i32 0,.int .i32 0,.int .i32 0,.int .i32 0,.int .i32 0,.int .i32 0,.int .i32 0,.int .i32 0,.int .i32 0,.int .i32 0,.int .i32 0,.int .i32 0,.int .i32 0,.int .i32 0,.int .i32 0,.int .i32 0,.int .i32 0,.int .i32 0,.int .i32 0,.int .i32 0] 155))=W0 from U]
 clear U
 go_wp2_with (first
  |(go_at_call 106;refine(Ht.o _ HX.o.below).mono ?_;rintro e Y⟨rfl,N⟩;obtain rfl:=N.symm)
  |(refine xV 155 _ rfl ?_;refine yZ zj 155 _ rfl b (o+i*24) rfl (zX r) _ ab underlying155 rfl O.o ?_)
  |(refine xy 155 _ _ rfl ?_;refine Xu zj 155 _ _ rfl w.heap.size 0 _ _ HX.o.b0 (zX r) rfl rfl (by simp[L.o]) O.o (XT r) ?_;intro V q;have I:=zz q;clear q))
 have U:zD V w.heap.size 155 (zX r).toArray:=by
  have:=I.o.zG;rw[L.o]at this;simpa using this
 refine bodyPost_ret (v:=.tuple #[.agg (zX r).toArray,.int .i64 0]) (zdu _ V w.heap.size (zX r).toArray 0 rfl rfl U (by simpa using O.o)) rfl ?_;exact⟨rfl,I.o.below HX.o.below (zoZ _) (zoZ _)⟩
theorem zad(h:Rel w q I R S):Calls prog 326 #[.pointer (some ⟨q,0,none⟩)] w fun e r=>e=.returned (.int .i64 0)/\r=w:=by
 obtain⟨N,V,A,r,f,h,-⟩:=h;have L:=zz (Jo w q _ _ N h.rel);have O:=h.rel.cell 1;clear h;go_enter func326,ntmps326
 go_wp2_with (go_at_call 106;refine L.o.mono ?_;rintro e U⟨rfl,rfl⟩)
 go_returns;exact⟨rfl,rfl⟩
theorem zfj(w:World)(h:Nat)(lo hi:Int):Calls prog 68 #[.pointer (some ⟨h,0,none⟩),.int .i64 lo,.int .i64 hi] w fun e q=>
 e=.returned (.func (.func 126) #[] #[.pointer (some ⟨w.heap.size,0,none⟩),.pointer (some ⟨w.heap.size+1,0,none⟩),.pointer (some ⟨w.heap.size+1+1,0,none⟩)])/\
  q=((w.alloc (.cells #[.pointer (some ⟨h,0,none⟩)] 128)).alloc (.cells #[.int .i64 lo] 3)).alloc (.cells #[.int .i64 hi] 3):=by
 go_enter func68,ntmps68;go_wp2;go_returns;exact⟨rfl,rfl⟩
theorem zi5(h:Rel w I V R S):
 Calls prog 156 #[.pointer (some ⟨I,0,none⟩),.int .i64 (-1)] w fun e q=>e=.returned (.tuple #[.agg #[.int .i32 0,.int .i32 0,.int .i32 0,.int .i32 0,.int .i32 0,.int .i32 0,.int .i32 0,.int .i32 0,.int .i32 0,.int .i32 0,.int .i32 0,.int .i32 0,.int .i32 0,.int .i32 0,.int .i32 0,.int .i32 0,.int .i32 0,.int .i32 0,.int .i32 0,.int .i32 0,.int .i32 0,.int .i32 0,.int .i32 0,.int .i32 0],.int .i64 1])/\Bl w q:=by
 obtain⟨Z,mb,A,Y,f,h,L⟩:=h;have X:=zz (fun W (q:Bl w W)=>Jo W I _ _ Z (h.rel.below q));obtain⟨W0,q,r⟩:=xj w 155 #[.int .i32 0,.int .i32 0,.int .i32 0,.int .i32 0,.int .i32 0,.int .i32 0,.int .i32 0,.int .i32 0,.int .i32 0,.int .i32 0,.int .i32 0,.int .i32 0,.int .i32 0,.int .i32 0,.int .i32 0,.int .i32 0,.int .i32 0,.int .i32 0,.int .i32 0,.int .i32 0,.int .i32 0,.int .i32 0,.int .i32 0,.int .i32 0];have O:=zz r;clear h L r;go_enter func156,ntmps156;go_upto_region 1 with fail
 try rw[q]
 clear q
 go_wp2_with (first
  |(go_at_call 106;refine(X.o _ O.o.below).mono ?_;rintro e w1⟨rfl,L⟩;obtain rfl:=L.symm)
  |(refine xy 155 _ _ rfl ?_;refine Xu zj 155 _ _ rfl w.heap.size 0 _ _ O.o.b0 [.int .i32 0,.int .i32 0,.int .i32 0,.int .i32 0,.int .i32 0,.int .i32 0,.int .i32 0,.int .i32 0,.int .i32 0,.int .i32 0,.int .i32 0,.int .i32 0,.int .i32 0,.int .i32 0,.int .i32 0,.int .i32 0,.int .i32 0,.int .i32 0,.int .i32 0,.int .i32 0,.int .i32 0,.int .i32 0,.int .i32 0,.int .i32 0] rfl rfl zp yC zt ?_;intro U q;have r:=zz q;clear q))
 have N:zD U w.heap.size 155 #[.int .i32 0,.int .i32 0,.int .i32 0,.int .i32 0,.int .i32 0,.int .i32 0,.int .i32 0,.int .i32 0,.int .i32 0,.int .i32 0,.int .i32 0,.int .i32 0,.int .i32 0,.int .i32 0,.int .i32 0,.int .i32 0,.int .i32 0,.int .i32 0,.int .i32 0,.int .i32 0,.int .i32 0,.int .i32 0,.int .i32 0,.int .i32 0]:=r.o.zG;refine bodyPost_ret (v:=.tuple #[.agg #[.int .i32 0,.int .i32 0,.int .i32 0,.int .i32 0,.int .i32 0,.int .i32 0,.int .i32 0,.int .i32 0,.int .i32 0,.int .i32 0,.int .i32 0,.int .i32 0,.int .i32 0,.int .i32 0,.int .i32 0,.int .i32 0,.int .i32 0,.int .i32 0,.int .i32 0,.int .i32 0,.int .i32 0,.int .i32 0,.int .i32 0,.int .i32 0],.int .i64 1]) (zdu _ U w.heap.size #[.int .i32 0,.int .i32 0,.int .i32 0,.int .i32 0,.int .i32 0,.int .i32 0,.int .i32 0,.int .i32 0,.int .i32 0,.int .i32 0,.int .i32 0,.int .i32 0,.int .i32 0,.int .i32 0,.int .i32 0,.int .i32 0,.int .i32 0,.int .i32 0,.int .i32 0,.int .i32 0,.int .i32 0,.int .i32 0,.int .i32 0,.int .i32 0] 1 rfl rfl N yC) rfl ?_;exact⟨rfl,r.o.below O.o.below (zoZ _) (zoZ _)⟩
def zgW(w:World)(r:Nat)(e:Ending)(w':World):Prop:=∃q h,e=.returned (.tuple #[.pointer (some ⟨q,0,none⟩),.int .i64 0])/\zD w' q 294 #[.pointer (some ⟨r,0,none⟩),.map (some h)]/\w'.heap[h]? = some (.map #[] 0)/\w.heap.size<=h/\w.heap.size<=q/\Bl w w'
theorem znF{O:Nat}(h:Rel w O ar R S):Calls prog 91 #[.pointer (some ⟨O,0,none⟩)] w (zgW w O):=by
 have ag:=@run_makeMap prog;obtain⟨C,r,I,q⟩:∃C:List Value,C.length=24/\(∀v∈C,v.oneCell'=true)/\(Calls prog 156 #[.pointer (some ⟨O,0,none⟩),.int .i64 (-1)] w fun e L=>e=.returned (.tuple #[.agg C.toArray,.int .i64 1])/\Bl w L):=
  ⟨[.int .i32 0,.int .i32 0,.int .i32 0,.int .i32 0,.int .i32 0,.int .i32 0,.int .i32 0,.int .i32 0,.int .i32 0,.int .i32 0,.int .i32 0,.int .i32 0,.int .i32 0,.int .i32 0,.int .i32 0,.int .i32 0,.int .i32 0,.int .i32 0,.int .i32 0,.int .i32 0,.int .i32 0,.int .i32 0,.int .i32 0,.int .i32 0],rfl,zt,zi5 h⟩
 have ab:=zz q;have H1:=zz I;have ae:=zz (show(prog.info? 155).map (·.size)=some C.length by rw[r];exact yC);have HC:=zz r;clear h I r q;go_enter func91,ntmps91;go_upto_region 4 with(first
  |(go_at_call 156;refine ab.o.mono ?_;rintro e w1⟨rfl,Z⟩;have ad:=zz Z;clear Z)
  |(refine xy 155 _ _ rfl ?_;refine Xu zj 155 _ _ rfl w1.heap.size 0 _ _ (zD.new _ _ _) C rfl rfl (by simp[HC.o]) ae.o H1.o ?_;intro q V;have N:Kz (Bl w q):=zu ad.o (V.zC.qq (xo w1 _) (zoZ _) (fun x hx=>zd));clear V))
 obtain⟨U,r⟩:∃U,q.alloc (.map #[] 0)=U:=⟨_,rfl⟩;have X:U.heap.size=q.heap.size+1:=by rw[<-r];simp
 have Y:Bl q U:=by rw[<-r];exact xo q _
 have L:U.heap[q.heap.size]? = some (.map #[] 0):=by rw[<-r];exact World.alloc_heap_new q _
 obtain⟨W5,W,I⟩:=xj U 294 #[.pointer (some ⟨O,0,none⟩),.map (some q.heap.size)];have hk:zD W5 (q.heap.size+1) 294 #[.pointer (some ⟨O,0,none⟩),.map (some q.heap.size)]:=X▸I.b0;have HF:=zz (show W5.heap[q.heap.size]? = some (.map #[] 0)from(I.below.block _ zd).trans L);have HB:Kz (Bl w W5):=zu N.o (zu Y I.below);have aa:=zz hk;have af:=zz r;have ac:=zz W;clear r X Y L W I hk;go_wp2;rw[af.o,ac.o];go_returns;exact⟨q.heap.size+1,q.heap.size,rfl,aa.o,HF.o,N.o.size,Nat.le_succ_of_le N.o.size,HB.o⟩
theorem zbA(w:World)(q:Nat):Calls prog 318 #[.agg #[.pointer (some ⟨q,0,none⟩)]] w fun e h=>e=.returned (.bool true)/\Bl w h:=by
 go_enter func318,ntmps318;go_wp2;go_returns;exact⟨rfl,xo w _⟩
theorem zbp{r:Nat}(h:Rel w r q R S)(m:Nat)(O:q<=24)(I:m<2 ^ q):Calls prog 325 #[.agg #[.pointer (some ⟨r,0,none⟩)],.int .u32 (m:Int)] w fun e L=>e=.returned (.bool true)/\Bl w L:=by
 have N:=zz (fun W (L:Bl w W)=>T6 (h.below L));clear h;go_enter func325,ntmps325
 go_wp2_with (go_at_call 70;refine(N.o _ (xo w _)).mono ?_;rintro e V⟨rfl,rfl⟩)
 go_returns;have U:((m:Int) / 2 ^ q==0)=true:=by
  have L:(m:Int) / 2 ^ q=0:=Int.ediv_eq_zero_of_lt zd (by exact_mod_cast I);rw[L];rfl
 refine⟨?_,xo w _⟩;show Ending.returned (.bool ((m:Int) / 2 ^ q==0))=_;rw[U]
def Vl.val(x:Vl):z6:=⟨x.k,x.n,x.s⟩
def _root_.Go.Proofs.YtfdickkdlcgicaaGreatDoor.z6.vl(v:z6):Vl:=⟨v.k,v.n,v.s⟩
theorem GP(x:Vl):x.val.vl=x:=rfl
theorem TQ(v:z6):v.vl.val=v:=rfl
theorem zgu{x y:z6}(h:x.vl=y.vl):x=y:=by rw[<-TQ x,h,TQ]
theorem getD_at{l:List α}(d:α)(h:i<l.length):l.getD i d=l[i]:=by rw[zo8,zo6 h];rfl
theorem zb3{l r:List α}(d:α)(h:i<l.length):(l++r).getD i d=l.getD i d:=by rw[zo8,zo8,zpY h]
def YN(vs:List z6)(n:Nat):Vl:=(vs.getD n z6.zero).vl
def yY(vs:List z6)(h:Nat)(r:List Nat):List Vl:=(r.take h).map (YN vs)
structure yN (vs:List z6) (ar:Nat) (r:List Nat):Prop where
 len:r.length=24
 lt:∀i,i<ar->r.getD i 0<vs.length
 zero:∀i,ar<=i->r.getD i 0=0
theorem yN.mono(h:yN vs q r)(I:vs <+: us):yN us q r:=⟨h.len,fun i L=>zo0 (h.lt i L) I.length_le,h.zero⟩
theorem zks(q:vs <+: us)(h:n<vs.length):YN us n=YN vs n:=by
 unfold YN;obtain⟨t,rfl⟩:=q;rw[zb3 _ h]
theorem zm2(h:yN vs q r)(I:vs <+: us):yY us q r=yY vs q r:=by
 unfold yY;refine zqU fun n N=>zks I ?_
 obtain⟨i,L,rfl⟩:=zpl.1 N;rw[zpv]at L;have:=h.lt i zd;rw[List.getElem_take];rw[getD_at _ zd]at this;exact this
theorem TV(h:yN vs q r)(I:q<=24):(yY vs q r).length=q:=by
 unfold yY;rw[zph,zpv,h.len];omega
theorem Uy(h:yN vs q r)(I:q<=24)(i:Nat)(hi:i<q):(yY vs q r)[i]? = some (YN vs (r.getD i 0)):=by
 unfold yY;rw[zpX,List.getElem?_take_of_lt hi,zo8,zo6 (by rw[h.len];omega)];rfl
def qk(m:Nat)(r:List Nat):List Nat:=r.mapIdx fun i n=>if m.testBit i then n else 0
theorem Vw(m:Nat)(r:List Nat):(qk m r).length=r.length:=by unfold qk;simp
theorem Tu(m:Nat)(r:List Nat)(i:Nat):(qk m r).getD i 0=if m.testBit i then r.getD i 0 else 0:=by
 unfold qk;rw[zo8,List.getElem?_mapIdx,zo8]
 cases r[i]?<;>simp
theorem zkj(L:r.length=24)(N:x.length=24):qk m r=qk m x↔∀i,i<24->m.testBit i=true->r.getD i 0=x.getD i 0:=by
 constructor
 ·intro h i _ q;have:=congrArg (fun l=>l.getD i 0) h;simp only[Tu,q,if_true]at this;exact this
 ·intro h;refine zqM (by rw[Vw,Vw,L,N]) fun i I O=>?_
  rw[Vw]at I;have e:∀(l:List Nat)(h:i<l.length),l[i]=l.getD i 0:=fun l h=>(getD_at _ h).symm
  rw[e,e,Tu,Tu];split
  ·rename_i q;exact h i zd q
  ·rfl
theorem Rw.mask(h:Rw r)(m:Nat):Rw (qk m r):=
 ⟨by rw[Vw];exact h.len,fun n I=>by
  obtain⟨i,q,rfl⟩:=zpl.1 I;rw[Vw]at q;have e:(qk m r)[i]'(by rw[Vw];exact q)=(qk m r).getD i 0:=(getD_at _ _).symm;rw[e,Tu];split
  ·rw[getD_at _ q];exact h.lt _ (zo3 q)
  ·omega⟩
def qG(R:List (List Nat))(m:Nat)(x:List Nat):List Nat:=(List.range R.length).filter fun n=>decide (qk m (R.getD n [])=qk m x)
theorem zb4(q:vs.Nodup)(h:n<vs.length){x:Vl}(r:x.val∈vs):YN vs n=x↔n=vs.idxOf x.val:=by
 unfold YN;rw[getD_at _ h];constructor
 ·intro e;have:vs[n]=x.val:=by rw[<-e,TQ]
  rw[<-this,q.idxOf_getElem]
 ·intro e;subst e;rw[List.getElem_idxOf,GP]
structure Jd (vs:List z6) (m:Nat) (ρ:Env) (args:List Tm) (x:List Nat):Prop where
 len:x.length=24
 has:∀i (h:i<args.length),m.testBit i=true->(args[i].at ρ).val∈vs/\x.getD i 0=vs.idxOf (args[i].at ρ).val
theorem zga(V:vs.Nodup)(U:Jd vs m ρ args x)(L:yN vs args.length r)(W:args.length<=24)(X:m<2 ^ args.length):
 Zl m ρ args (yY vs args.length r)↔qk m r=qk m x:=by
 rw[zkj L.len U.len];unfold Zl;constructor
 ·intro h i Y I;have q:i<args.length:=zpP fun N=>by
   have:m<2 ^ i:=zo0 X (zpJ zr (zd));rw[Nat.testBit_lt_two_pow this]at I
   cases I
  have N:=h i q I;rw[Uy L W i q]at N;injection N with N
  obtain⟨O,R⟩:=U.has i q I;rw[R];exact(zb4 V (L.lt i q) O).1 N
 ·intro h i q I;obtain⟨O,R⟩:=U.has i q I;rw[Uy L W i q,(zb4 V (L.lt i q) O).2 ((h i zd I).trans R)]
theorem ziz(L:yN vs args.length r)(N:args.length<=24)(i:Nat)(hi:i<args.length)(O:m.testBit i=true)(I:(args[i].at ρ).val∉vs):¬Zl m ρ args (yY vs args.length r):=by
 intro h;have q:=h i hi O;rw[Uy L N i hi]at q;injection q with q
 apply I;rw[<-q];unfold YN;rw[getD_at _ (L.lt i hi),TQ];exact zo3 _
def rowsOf(vs:List z6)(h:Nat)(R:List (List Nat)):List (List Vl):=R.map (yY vs h)
theorem zek(O:vs.Nodup)(N:Jd vs m ρ args x)(W:∀r∈R,yN vs args.length r)(V:args.length<=24)(U:m<2 ^ args.length)(lo hi:Nat):
 XC (rowsOf vs args.length R) m ρ args lo hi=(qG R m x).filter fun n=>decide (lo<=n/\n<hi):=by
 unfold XC qG rowsOf;rw[zph]
 congr 1
 refine List.filter_congr fun n I=>?_
 have q:n<R.length:=zqc.1 I;have e1:(R.map (yY vs args.length)).getD n []=yY vs args.length R[n]:=by
  rw[getD_at _ (by simpa using q),zp4]
 have e2:R.getD n []=R[n]:=getD_at _ q;rw[e1,e2];have:=zga O N (W _ (zo3 q)) V U
 by_cases h:qk m R[n]=qk m x
 ·rw[qs (this.2 h),decide_eq_true h]
 ·rw[qt fun L=>h (this.1 L),decide_eq_false h]
theorem ze6(N:∀r∈R,yN vs args.length r)(O:args.length<=24)(i:Nat)(hi:i<args.length)(U:m.testBit i=true)(h:(args[i].at ρ).val∉vs)(lo I:Nat):
 XC (rowsOf vs args.length R) m ρ args lo I=[]:=by
 unfold XC rowsOf;rw[zph];have:((List.range R.length).filter fun n=>tf (Zl m ρ args ((R.map (yY vs args.length)).getD n [])))=[]:=List.filter_eq_nil_iff.2 fun n q=>by
  have L:n<R.length:=zqc.1 q;have e1:(R.map (yY vs args.length)).getD n []=yY vs args.length R[n]:=by
   rw[getD_at _ (by simpa using L),zp4]
  rw[e1,qt (ziz (N _ (zo3 L)) O i hi U h)];exact zqp
 rw[this];rfl
open Classical in
theorem Yw{u:ByteArray}{x:Vl}:qK ρ v x u=if u=v then some x else ρ u:=by unfold qK;rfl
open Classical in
theorem VC(m i:Nat)(t:Tm)(h:List Tm)(x:Vl)(xs:List Vl)(ρ:Env):fit m i (t::h) (x::xs) ρ =
 if m.testBit i=true\/t.v.toList=[95]then fit m (i+1) h xs ρ
 else match ρ t.v with
  |some y=>if y=x then fit m (i+1) h xs ρ else(false,ρ)
  |none=>fit m (i+1) h xs (qK ρ t.v x):=by
 rw[fit];rfl
theorem Je(m:Nat):∀(q:List Tm)(I:List Vl)(i:Nat)(ρ:Env)(u:ByteArray),(fit m i q I ρ).2 u=ρ u\/(ρ u=none/\∃j t,q[j]? = some t/\m.testBit (i+j)=false/\t.v.toList≠[95]/\t.v=u)
 |[],I,i,ρ,u=>by unfold fit;exact .inl rfl
 |t::q,[],i,ρ,u=>by unfold fit;exact .inl rfl
 |t::q,x::I,i,ρ,u=>by
  have U:(ρ u=none/\∃j r,q[j]? = some r/\m.testBit (i+1+j)=false/\r.v.toList≠[95]/\r.v=u)->(ρ u=none/\∃j r,(t::q)[j]? = some r/\m.testBit (i+j)=false/\r.v.toList≠[95]/\r.v=u):=fun⟨O,j,r,X,W,Y⟩=>
   ⟨O,j+1,r,by simpa using X,by rw[<-zqd,zqO];exact W,Y⟩
  rw[VC];split
  ·exact(Je m q I (i+1) ρ u).imp id U
  ·rename_i r;have L:m.testBit i=false:=by
    cases h:m.testBit i with
    |true=>exact absurd (.inl h) r
    |false=>rfl
   have N:t.v.toList≠[95]:=fun h=>r (.inr h)
   split
   ·split
    ·exact(Je m q I (i+1) ρ u).imp id U
    ·exact .inl rfl
   ·rename_i V
    by_cases R:u=t.v
    ·subst R
     rcases hq:(fit m (i+1) q I (qK ρ t.v x)).2 t.v with _|y
     ·rw[V];exact .inl rfl
     ·exact .inr ⟨V,0,t,zp,by simpa using L,N,rfl⟩
    ·rcases Je m q I (i+1) (qK ρ t.v x) u with h |⟨O,h⟩
     ·rw[h,Yw,if_neg R];exact .inl rfl
     ·rw[Yw,if_neg R]at O;exact .inr (U ⟨O,h⟩)
theorem DN(m:Nat):∀(r:List Tm)(I:List Vl)(i:Nat)(ρ:Env)(u:ByteArray)(y:Vl),ρ u=some y->(fit m i r I ρ).2 u=some y:=fun r I i ρ u y h=>by
 rcases Je m r I i ρ u with q |⟨q,_⟩
 ·rw[q,h]
 ·rw[h]at q;cases q
theorem zd8(m:Nat):∀(q:List Tm)(r:List Vl)(i:Nat)(ρ:Env),q.length=r.length->(fit m i q r ρ).1=true->∀j t,q[j]? = some t->m.testBit (i+j)=false->t.v.toList≠[95]->((fit m i q r ρ).2 t.v).isSome=true
 |[],r,i,ρ,_,_,j,t,h,_,_=>by simp at h
 |t::q,[],i,ρ,h,_,_,_,_,_,_=>by simp at h
 |t::q,x::r,i,ρ,W,h,j,U,L,R,V=>by
  rw[VC]at h ⊢;have next:∀N,(fit m (i+1) q r N).1=true->∀k,j=k+1->((fit m (i+1) q r N).2 U.v).isSome=true:=fun N O k I=>by
   subst I;exact zd8 m q r (i+1) N (by simpa using W) O k U (by simpa using L) (by rw[zqO,zqd];exact R) V
  split at h
  ·rename_i I;rw[if_pos I]
   cases j with
   |zero=>
    simp only[zo9,zpV]at L;subst L
    rcases I with I|I
    ·rw[zpO]at R;rw[R]at I;cases I
    ·exact absurd I V
   |succ k=>exact next ρ h k rfl
  ·rename_i O;rw[if_neg O]
   rcases hq:ρ t.v with _|y
   ·rw[hq]at h;simp only at h ⊢
    cases j with
    |zero=>
     simp only[zo9,zpV]at L;subst L;rw[DN m q r (i+1) (qK ρ t.v x) t.v x (by rw[Yw,if_pos rfl])];rfl
    |succ k=>exact next _ h k rfl
   ·rw[hq]at h;simp only at h ⊢
    by_cases I:y=x
    ·rw[if_pos I]at h ⊢
     cases j with
     |zero=>
      simp only[zo9,zpV]at L;subst L;rw[DN m q r (i+1) ρ t.v y hq];rfl
     |succ k=>exact next ρ h k rfl
    ·rw[if_neg I]at h;cases h
def XV(ρ:Env)(K:List ByteArray):Prop:=∀v,(ρ v).isSome=true↔v∈K
theorem XV.none_{K:List ByteArray}(h:XV ρ K)(q:v∉K):ρ v=none:=by
 rcases hq:ρ v with _|y
 ·rfl
 ·exact absurd ((h v).1 (by rw[hq];rfl)) q
end
