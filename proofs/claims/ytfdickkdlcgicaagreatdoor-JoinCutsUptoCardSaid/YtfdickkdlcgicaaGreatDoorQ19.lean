/-
  Relations: as they lie; New, there, Arity, Len. A load of a 
-/
import Derived.Test.YtfdickkdlcgicaaGreatDoorQ18
import Derived.Great.BuildSlice
set_option maxRecDepth 100000
set_option maxHeartbeats 8000000
set_option linter.all false
namespace Go.Proofs.YtfdickkdlcgicaaGreatDoor.C
open Go.Proofs.Tryz Go Go.RowKit Go.Maps Go.WideMaps
variable {A:Option Addr}{I L N U X Z ar cap i m n q rb:Nat}{R:List (List Nat)}{S:Nat->Prop}{a:Act}{args:List Tm}{f:Value->Option Value}{o:Oper}{r x:List Nat}{rest:List (Nat×Oper)}{us vs:List z6}{v:ByteArray}{w w':World}{α:Type}{ρ:Env}
section
open Classical in
def zfK(R:List (List Nat))(f:Value->Option Value):Prop:=∀r,Rw r->f (.agg (zX r).toArray)=if r∈R then some (.int .i64 ((R.idxOf r:Nat):Int))else none
structure ZJ (w:World) (rb ar:Nat) (R:List (List Nat)) (pb mb:Nat) (A:Option Addr) (cap:Nat) (f:Value->Option Value):Prop where
 rel:zD w rb 217 #[.int .i64 (ar:Int),.int .i64 0,.pointer (some ⟨pb,0,none⟩)]
 pl:zD w pb 214 #[.slice A R.length cap,.map (some mb)]
 own:Own zX 155 24 w A cap R
 map:xv prog 155 w mb f
 nums:zfK R f
 nodup:R.Nodup
 ok:∀r∈R,Rw r
 ar:ar<=24
def Rel(w:World)(I N:Nat)(R:List (List Nat))(S:Nat->Prop):Prop:=∃L q A h f,ZJ w I N R L q A h f/\∀x,(x=I\/x=L\/x=q\/x∈zw A)->S x
theorem ZJ.same{O:Nat}(h:ZJ w O L R I N A cap f)(q:∀x,(x=O\/x=I\/x=N\/x∈zw A)->x<w.heap.size->w'.heap[x]? = w.heap[x]?):ZJ w' O L R I N A cap f:=
 ⟨h.rel.same (q _ (.inl rfl) h.rel.lt),h.pl.same (q _ (.inr (.inl rfl)) h.pl.lt),h.own.same fun g U=>q g (.inr (.inr (.inr U))) (h.own.lt g U),h.map.same (q _ (.inr (.inr (.inl rfl))) h.map.lt),h.nums,h.nodup,h.ok,h.ar⟩
theorem Rel.zC{Q:Nat->Prop}(h:Rel w L I R S)(Y:zh Q w w')(X:∀x,S x->¬Q x):Rel w' L I R S:=by
 obtain⟨U,O,A,q,f,h,N⟩:=h;exact⟨U,O,A,q,f,h.same fun x W V=>Y.block x V (X x (N x W)),N⟩
theorem Rel.below(h:Rel w I L R S)(U:Bl w w'):Rel w' I L R S:=by
 obtain⟨W,N,A,q,f,h,V⟩:=h;exact⟨W,N,A,q,f,h.same fun x _ O=>U.block x O,V⟩
theorem zox(w:World)(n:Nat)(hn:n<=24):Calls prog 90 #[.int .i64 (n:Int)] w fun e q=>∃h,e=.returned (.tuple #[.pointer (some ⟨h,0,none⟩),.int .i64 0])/\Rel q h n [] (w.heap.size<=·)/\w.heap.size<=h/\Bl w q:=by
 have Y:=@run_makeMap prog;have hd:decide ((n:Int)<0)=false:=zp;have X:decide ((n:Int) > 24)=false:=zb;have q:xv prog 155 (w.alloc (.map #[] 0)) w.heap.size (fun _=>none):=xv.new w 0;obtain⟨R,h⟩:∃R,w.alloc (.map #[] 0)=R:=⟨_,rfl⟩;have N:R.heap.size=w.heap.size+1:=by rw[<-h];simp
 have O:Bl w R:=by rw[<-h];exact xq w _
 obtain⟨W4,I,L⟩:=yb R 214 217 #[.slice none 0 0,.map (some w.heap.size)] #[.int .i64 (n:Int),.int .i64 0,.pointer (some ⟨w.heap.size+1,0,none⟩)];rw[h]at q;have U:=zz L;have Hm:=zz q;have Hb:=zz O;have Z:=zz N;have V:=zz h;have W:=zz I;clear L q O N h I;go_enter func90,ntmps90;go_wp2;rw[V.o,W.o];go_returns;have q:=U.o.b0;have I:=U.o.b1;rw[Z.o]at q I;refine⟨w.heap.size+1+1,rfl,⟨w.heap.size+1,w.heap.size,none,0,_,⟨I,q,Own.qz _,Hm.o.below U.o.below,fun r _=>zp,List.nodup_nil,zp,hn⟩,fun x h=>?_⟩,zd,zl Hb.o U.o.below⟩
 rcases h with rfl|rfl|rfl|h
 ·omega
 ·omega
 ·exact zpx _
 ·simp[zw]at h
theorem JE(w:World)(q:Nat)(L c1:Value)(I:Nat)(h:zD w q 217 #[L,c1,.pointer (some ⟨I,0,none⟩)]):Calls prog 106 #[.pointer (some ⟨q,0,none⟩)] w fun e N=>e=.returned (.bool true)/\N=w:=by
 have N:=h.cell 2;clear h;go_enter func106,ntmps106;go_wp2;go_returns;exact⟨rfl,rfl⟩
theorem Dv(h:Rel w q I R S):Calls prog 70 #[.pointer (some ⟨q,0,none⟩)] w fun e L=>e=.returned (.int .i64 (I:Int))/\L=w:=by
 obtain⟨O,V,A,L,f,h,-⟩:=h;have N:=zz (JE w q _ _ O h.rel);have W:=h.rel.cell 0;clear h;go_enter func70,ntmps70
 go_wp2_with (go_at_call 106;refine N.o.mono ?_;rintro e U⟨rfl,rfl⟩)
 go_returns;exact⟨rfl,rfl⟩
theorem UR(h:Rel w q L R S):Calls prog 52 #[.pointer (some ⟨q,0,none⟩)] w fun e I=>e=.returned (.int .i64 (R.length:Int))/\I=w:=by
 obtain⟨O,X,A,I,f,h,-⟩:=h;have N:=zz (JE w q _ _ O h.rel);have V:=h.rel.cell 2;have W:=h.pl.cell 0;clear h;go_enter func52,ntmps52
 go_wp2_with (go_at_call 106;refine N.o.mono ?_;rintro e U⟨rfl,rfl⟩)
 go_returns;exact⟨rfl,rfl⟩
section
variable {P:Program}{ops:Array Oper}{Q:Exit->Act->World->Prop}{S0 S1:World->Prop}{d:Bool}
theorem zdr(q:TypeId)(x:Operand)(N:o.op=.load q x)(b I:Nat)(U:a.eval x=.pointer (some ⟨b,I,none⟩))(h:List Value)(e:TypeDesc)(R:w.rangeAt b I h)(O:P.underlying q=some e)(L:e.isRow=true)(hi:(P.info? q).map (·.size)=some h.length):(execOp a.eval o).run P w=.ok (.value (.agg h.toArray)) w:=by
 unfold execOp;simp only[N,U,Instr.loadAt,Instr.sureAddr,Sem.run_bind,Sem.run_pure,Result.andThen_ok,run_loadVar_mid w b I q h e R O L hi]
theorem Ud(I:TypeId)(x:Operand)(O:o.op=.load I x)(b L:Nat)(U:a.eval x=.pointer (some ⟨b,L,none⟩))(q:List Value)(e:TypeDesc)(hw:Region.wanted o (yielded ops a.tmps)=true)(X:∀W,S0 W->W.rangeAt b L q)(R:P.underlying I=some e)(N:e.isRow=true)(hi:(P.info? I).map (·.size)=some q.length)(h:xS P ops Q S0 S1 d rest (a.put o.dst (.agg q.toArray)) w):xS P ops Q S0 S1 d ((0,o)::rest) a w:=
 T0 hw (fun W V=>zdr I x O b L U q e (X W V) R N hi) h
theorem znc(I:TypeId)(x:Operand)(O:o.op=.load I x)(b L:Nat)(U:a.eval x=.pointer (some ⟨b,L,none⟩))(q:List Value)(e:TypeDesc)(hw:Region.wanted o (yielded ops a.tmps)=true)(X:∀W,S0 W->W.rangeAt b L q)(R:P.underlying I=some e)(N:e.isRow=true)(hi:(P.info? I).map (·.size)=some q.length)(h:xS P ops Q S0 S1 d rest (a.put o.dst (.agg q.toArray)) w):xS P ops Q S0 S1 d ((1,o)::rest) a w:=
 zbo hw (fun W V=>zdr I x O b L U q e (X W V.1) R N hi) h
end
end
section
theorem yJ:(prog.info? 155).map (·.size)=some 24:=zo
theorem zmK{Y mb:Nat}(h:ZJ w rb ar R Y mb A cap f)(r:List Nat)(V:Rw r)(hm:r∈R):
 Calls prog 162 #[.pointer (some ⟨Y,0,none⟩),.agg (zX r).toArray] w fun e q=>e=.returned (.bool false)/\Bl w q:=by
 obtain⟨X,O,N⟩:=xi w 155 (zX r).toArray;have HX:=zz N;have q:=fun W (I:Bl w W)=>(h.map.below I).look Ut underlying212 (z:=.int .i64 0) zo (Jq V) true
 rw[h.nums r V,if_pos hm]at q;simp only[if_true,zqr,Option.isSome_some]at q;have L:=h.pl;have H0:Kz (∀W,Bl X W->W.cell? ⟨Y,1,none⟩=some (.map (some mb))/\_):=fun W I=>⟨(L.below (zl N.below I)).cell 1,q W (zl N.below I)⟩
 have U:=zz (show ∀W,Bl X W->W.rangeAt w.heap.size 0 (zX r)from fun W I=>by
  intro j v Z;have:=(N.b0.below I).cell (0+j);rw[this];simpa using Z)
 have I:(zX r).length=24:=by simp[V.len]
 have Z:=zz (show(prog.info? 155).map (·.size)=some (zX r).length by rw[I];exact yJ);clear h q L N V hm I;generalize zX r=C at *;go_enter func162,ntmps162;go_upto_region 1 with fail
 try rw[O]
 clear O;refine xX [0,0,0,0,0,0,0,0,0,0,0] (fun W=>Bl X W) ?_
 repeat refine zS H0.o ?_
 refine Ud 155 _ rfl w.heap.size 0 rfl C _ rfl U.o underlying155 rfl Z.o ?_;try refine zQ ?_
 repeat refine zS H0.o ?_
 refine xt ?_;go_wp2;go_returns;exact⟨rfl,zl HX.o.below (Below.refl _ _).drew⟩
theorem zcX:∀(I:List Value)(k:Nat)(q:Array Value),k+I.length=q.size->(I.zipIdx k).foldl (fun a x=>a.setIfInBounds x.2 x.1) q=(q.toList.take k++I).toArray
 |[],k,q,h=>by
  have:q.toList.take k=q.toList:=zpT (by simp at h ⊢;omega);simp[this]
 |c::I,k,q,h=>by
  simp only[zpV]at h;rw[List.zipIdx_cons,List.foldl_cons,zcX I (k+1) _ zb];have e:(q.setIfInBounds k c).toList.take (k+1)=q.toList.take k++[c]:=by
   have I:k<q.toList.length:=zb;rw[List.take_add_one,Array.toList_setIfInBounds,List.take_set_of_le (zpx _)];rw[List.getElem?_set_self I];rfl
  rw[e];simp
theorem zlz(r:List Nat)(I:Rw r)(q:Array Value)(L:q.size=24):Instr.fill (fun i=>some (i*24,24)) q [(0,.agg (zX r).toArray)]=some (zX r).toArray:=by
 have h:=zcX (zX r) 0 q (by simp[I.len,L]);simp only[zpY,zpI]at h;simp[Instr.fill,Value.cells,I.len,L];exact h
theorem zhX{K:Act->World->Prop}{Q:Exit->Act->World->Prop}(x:Operand)(L:o.op=.buildSlice 211 1 #[(0,x)])(r:List Nat)(N:Rw r)(R:a.eval x=.agg (zX r).toArray)(h:K (a.put o.dst (.slice (some ⟨w.heap.size,0,none⟩) 1 1)) (w.alloc (.cells (zX r).toArray 155))):o.wp prog a w K Q:=by
 obtain⟨I,z,O,U,q,V,W⟩:=T4.ex;refine wp_buildSlice 211 155 1 _ L (zX r).toArray I z T4.ht O U (by rw[q];decide) (by rw[q];decide) ?_ h;rw[q];simp only[zqJ,zqb,zq3,R];exact zlz r N _ zp
theorem zkM(h:ZJ w rb ar R q L A cap f)(r:List Nat)(hr:Rw r)(hm:r∉R)(ax:R.length<=4194304):
 Calls prog 162 #[.pointer (some ⟨q,0,none⟩),.agg (zX r).toArray] w fun e w'=>∃N I O,e=.returned (.bool true)/\ZJ w' rb ar (R++[r]) q L N I O/\zh (fun x=>x=q\/x=L\/x∈zw A) w w'/\(∀g∈zw N,g∈zw A\/w.heap.size<=g):=by
 obtain⟨Y,ai,V⟩:=xi w 155 (zX r).toArray;have HX:=zz V;have H:=zz h;have Hr:=zz hr;have Hm:=zz hm;have U:=Jq hr;have aa:=fun W (N:Bl w W)=>(h.map.below N).look Ut underlying212 (z:=.int .i64 0) zo U true
 rw[h.nums r hr,if_neg hm]at aa;simp only[if_true,Option.getD_none,Option.isSome_none]at aa;have O:=h.pl;have H0:Kz (∀W,Bl Y W->W.cell? ⟨q,1,none⟩=some (.map (some L))/\_):=fun W N=>⟨(O.below (zl V.below N)).cell 1,aa W (zl V.below N)⟩
 have I:∀(W:World),W.heap[w.heap.size]? = Y.heap[w.heap.size]?->W.rangeAt w.heap.size 0 (zX r):=fun W N=>by
  intro j v X;have:=(V.b0.same N).cell (0+j);rw[this];simpa using X
 have aw:=zz I;have ab:(zX r).length=24:=by simp[hr.len]
 have ah:=zz (show(prog.info? 155).map (·.size)=some (zX r).length by rw[ab];exact yJ);have ag:Y.heap.size=w.heap.size+1:=V.size;have Z:=zz ag;have az:=zz U;have ac:L≠w.heap.size:=Nat.ne_of_lt h.map.lt;have ad:q≠w.heap.size:=Nat.ne_of_lt O.lt;have X:q≠L:=O.qU h.map;have H4:=zz (show ∀W,zh (·=L) Y W->W.cell? ⟨q,0,none⟩=some (.slice A R.length cap)/\W.cell? ⟨q,1,none⟩=some (.map (some L))from fun W N=>
  ⟨((O.below V.below).zC N X).cell 0,((O.below V.below).zC N X).cell 1⟩)
 obtain⟨n,hn⟩:∃n,R.length=n:=⟨_,rfl⟩;have Hn:=zz hn;rw[hn]at H4 ax;have af:∀W,Bl Y W->W.rangeAt w.heap.size 0 (zX r):=fun W N=>I W (N.block _ zd)
 have ae:∀W,zh (·=L) Y W->W.rangeAt w.heap.size 0 (zX r):=fun W N=>I W (N.block _ zd (fun e=>ac e.symm))
 have aH:=zz af;have aE:=zz ae;have aG:=zz (h.map.below (zl V.below (Below.refl Y.heap.size Y).drew.drew));have aF:=zz ac;have aJ:=zz ad;have aj:=zz X;clear h aa O V hr hm ab I U ag ac ad X hn af ae;go_enter func162,ntmps162;go_upto_region 1 with fail
 try rw[ai]
 clear ai;refine xX [0,0,0,0,0,0,0,0,0,0,0] (fun W=>Bl Y W) ?_
 repeat refine zS H0.o ?_
 refine Ud 155 _ rfl w.heap.size 0 rfl (zX r) _ rfl aH.o underlying155 rfl ah.o ?_;try refine zQ ?_
 repeat refine zS H0.o ?_
 refine xt ?_;go_upto_region 4 with fail
 refine xX [0,0,0,0,0,0,0,0,0,0,2] (fun W=>zh (·=L) Y W) (h0:=?s0) ?_
 case s0=>exact(zh.refl _ _).drew.drew
 try refine zQ ?_
 repeat refine zS H4.o ?_
 refine Ud 155 _ rfl w.heap.size 0 rfl (zX r) _ rfl aE.o underlying155 rfl ah.o ?_;try refine zQ ?_
 repeat refine zS H4.o ?_
 refine xf fun K hK=>?_
 refine Zy _ _ _ rfl aG.o Ut underlying212 rfl (.agg (zX r).toArray) (.int .i64 (n:Int)) _ rfl rfl az.o ?_;intro V U X;have O:zh (·=L) Y V:=(zh.refl (·=L) Y).drew.drew.znI X (fun _=>rfl);have aK:=zz U;have I:=zz O;refine hK.out _ _ O (fun _=>trivial) ?_;clear hK K U X O;try refine zQ ?_
 repeat refine zS H4.o ?_
 refine xt ?_;have U:=(H.o.pl.below HX.o.below).zC I.o aj.o;have ai:Kz (∀W:World,zh (fun x=>x=q\/x∈zw A) V W->True):=fun _ _=>trivial
 have ag:Kz (∀W:World,W.heap[q]? = V.heap[q]?->W.cell? ⟨q,0,none⟩=some (.slice A n cap)):=fun W N=>((U.same N).cell 0).trans (by rw[<-Hn.o];rfl)
 have aa:V.heap[w.heap.size]? = Y.heap[w.heap.size]?:=I.o.block _ (by rw[Z.o];omega) (fun e=>aF.o e.symm);have O:Own zX 155 24 w A cap R:=H.o.own;have X:¬w.heap.size∈zw A:=fun h=>zq2 _ (O.lt _ h)
 have aB:Kz (∀W:World,zh (fun x=>x=q\/x∈zw A) V W->W.rangeAt w.heap.size 0 (zX r)):=fun W N=>aw.o W ((N.block _ (by have:=I.o.size;rw[Z.o]at this;omega) (fun e=>by rcases e with e|e;exact aJ.o e.symm;exact X e)).trans aa)
 clear U aa O X;go_upto_region 5 with fail
 refine XT [0,0,0,0,1,1,2,2,0,0,3] 10 (fun W=>zh (fun x=>x=q\/x∈zw A) V W) (fun W=>W.heap[q]? = V.heap[q]?) ?s0 ?s1 ?_
 case s0=>exact yw
 case s1=>rfl
 try refine zQ ?_
 repeat refine xM ai.o ag.o ?_
 first |(refine znc 155 _ rfl w.heap.size 0 rfl (zX r) _ rfl aB.o underlying155 rfl ah.o ?_) |(refine Ud 155 _ rfl w.heap.size 0 rfl (zX r) _ rfl aB.o underlying155 rfl ah.o ?_)
 try refine zQ ?_
 repeat refine xM ai.o ag.o ?_
 refine xf fun K hK=>?_
 refine zhX _ rfl r Hr.o rfl ?_;refine hK.out _ _ (((zh.refl _ _).drew).alloc _) (fun _=>by exact(Below.heap_alloc _ _ _ (by have:=I.o.size;have:=H.o.pl.lt;rw[Z.o]at *;simp;omega))) ?_;clear hK K;try refine zQ ?_
 repeat refine xM ai.o ag.o ?_
 refine xf fun K hK=>?_
 have aa:Own zX 155 24 V A cap R:=(H.o.own.below HX.o.below).zC I.o (fun g N e=>H.o.own.qU H.o.map (e▸N));have ao:¬q∈zw A:=H.o.own.yD H.o.pl zr;have ak:q<V.heap.size:=by
  have U:=I.o.size;have O:=H.o.pl.lt;have N:=Z.o;omega
 have ad:Own zX 155 24 V.drew A cap R:=aa.same (w':=V.drew) fun _ _=>rfl
 refine ZE _ _ rfl T4 (f:=zX) (xs:=R) (ad.alloc _) Hn.o r _ 0 1 rfl rfl (by simp[Hr.o.len]) (yt _ _ _ rfl) (X7 r) ax zr ?_;intro g U w5 av aA aD;have aq:zh (fun x=>x∈zw A) V w5:=((zh.refl _ V).drew.alloc _).trans aA (fun x N _=>N);have an:w5.heap[q]? = V.heap[q]?:=aq.block _ ak ao;have O:zh (fun x=>x=q\/x∈zw A) V w5:=aq.mono fun x N _=>.inr N
 refine hK.out _ _ O (fun _=>an) ?_;clear hK K;try refine zQ ?_
 repeat refine xM ai.o ag.o ?_
 refine Xf zj (fun K hK=>?_);have kl:=((H.o.pl.below HX.o.below).zC I.o aj.o).same (w':=w5) an;refine XC 211 _ _ rfl q 0 _ _ kl (.slice (some ⟨g,0,none⟩) (n+1) U) rfl rfl zp (zo) rfl ?_;intro W6 X;have aM:=zz X;refine hK.out _ _ (O.trans X.zC (fun x N _=>.inl N)) ?_;clear hK K;refine xt ?_;have am:g∈zw A\/V.heap.size<=g:=aD.imp id (fun h=>by simp at h;omega);have ay:g≠q:=fun e=>by
  rcases am with h|h
  ·exact ao (e▸h)
  ·omega
 have ap:zh (fun x=>x=q\/x=L\/x∈zw A) Y W6:=
  ((I.o.mono (S':=fun x=>x=q\/x=L\/x∈zw A) (fun x N _=>.inr (.inl N))).trans (O.mono (S':=fun x=>x=q\/x=L\/x∈zw A) (fun x N _=>by rcases N with h|h;exact .inl h;exact .inr (.inr h))) (fun x N _=>N)).trans X.zC (fun x N _=>.inl N)
 have au:g∈zw A\/w.heap.size<=g:=am.imp id (fun h=>by have:=I.o.size;have:=Z.o;omega);have hrel:zD W6 rb 217 #[.int .i64 (ar:Int),.int .i64 0,.pointer (some ⟨q,0,none⟩)]:=(H.o.rel.below HX.o.below).zC ap (fun e=>by
  rcases e with e|e|e
  ·exact H.o.rel.yK H.o.pl zr e
  ·exact H.o.rel.qU H.o.map e
  ·exact H.o.own.yD H.o.rel zr e)
 have al:zD W6 q 214 #[.slice (some ⟨g,0,none⟩) (R++[r]).length U,.map (some L)]:=by
  have:=X.zH;rw[zpA,Hn.o];simpa using this
 have ac:Own zX 155 24 W6 (some ⟨g,0,none⟩) U (R++[r]):=X.own av (xY ay);have ab:xv prog 155 W6 L (yp f (.agg (zX r).toArray) (.int .i64 (n:Int))):=(aK.o.zC O (fun e=>by
  rcases e with e|e
  ·exact aj.o e.symm
  ·exact H.o.own.qU H.o.map e)).zC X.zC (fun e=>aj.o e.symm)
 have af:zfK (R++[r]) (yp f (.agg (zX r).toArray) (.int .i64 (n:Int))):=fun r' ae=>by
  by_cases e:r'=r
  ·subst e;rw[Yt,if_pos zp,List.idxOf_append,if_neg Hm.o,Hn.o];simp
  ·have aC:(Value.agg (zX r').toArray)≠.agg (zX r).toArray:=fun h=>e (zeP (by injection h with h;exact congrArg Array.toList h))
   rw[XR aC,H.o.nums r' ae]
   by_cases ae:r'∈R
   ·rw[if_pos ae,if_pos (by simp[ae]),List.idxOf_append,if_pos ae]
   ·rw[if_neg ae,if_neg (by simp[ae,e])]
 have aC:(R++[r]).Nodup:=zrc.2 ⟨H.o.nodup,zp,fun a ha b hb e=>by rw[zpy.1 hb]at e;exact Hm.o (e▸ha)⟩;have ae:∀x∈R++[r],Rw x:=fun x N=>by
  rcases zpE.1 N with h|h
  ·exact H.o.ok x h
  ·rw[zpy.1 h];exact Hr.o
 have HF:=zz (show ZJ W6 rb ar (R++[r]) q L (some ⟨g,0,none⟩) U _ from⟨hrel,al,ac,ab,af,aC,ae,H.o.ar⟩);have aL:=zz ((zh.xj (fun x=>x=q\/x=L\/x∈zw A) HX.o.below).trans ap (fun x N _=>N));have aI:=zz au;clear X am ay ap au hrel al ac ab af aC ae av aA aD aq O an kl aa ad ak ao;go_wp2;go_returns;exact⟨some ⟨g,0,none⟩,U,_,rfl,HF.o,aL.o,xY aI.o⟩
theorem zj0(w:World)(b:Nat)(r:List Nat)(q:∀i,i<24->w.cell? ⟨b,i,none⟩=some (.int .i32 ((r.getD i 0:Nat):Int))):
 Calls prog 219 #[.slice (some ⟨b,0,none⟩) 24 24] w fun e h=>(∃m:Nat,e=.returned (.int .i32 (m:Int)))/\h=w:=by
 have O:=q 0 zr;have L:=zz q;clear q;go_enter func219,ntmps219;go_wp2
 go_loopg[3,4] 23 (fun gk N h I=>∃(i m:Nat),1<=i/\i<=24/\gk=24-i/\h=.int .i64 (i:Int)/\N=.int .i32 (m:Int)/\I=w)
 case atStart=>exact⟨1,r.getD 0 0,zr,zr,rfl,rfl,rfl,rfl⟩
 case round=>
  obtain⟨i,m,R,U,rfl,rfl,rfl,rfl⟩:=hrel
  by_cases h:i<24
  ·have N:=L.o i h;obtain⟨x,I⟩:∃x,r.getD i 0=x:=⟨_,rfl⟩;rw[I]at N;clear I;go_wp2
   go_roundg (24-(i+1))
   case measure=>omega
   case rel=>exact⟨i+1,min m x,zd,zd,rfl,ze,by first|rfl|go_num |(simp[Int.zoI];done) |(simp;split<;>simp_all<;>omega),rfl⟩
  ·obtain rfl:i=24:=zd;go_wp2;go_returns;exact⟨⟨m,rfl⟩,rfl⟩
theorem zj2(R:Rw r){h:Nat}(U:h<=24)(V:∀i,h<=i->r.getD i 0=0):List.replicate h (Value.int .i32 0)++(zX r).drop h=zX (List.replicate 24 0):=by
 have N:=R.len;refine zrj (by simp[N];omega) fun i W O=>?_
 by_cases L:i<h
 ·rw[zq6 (by simpa using L),List.getElem_replicate,zqz,List.getElem_replicate];rfl
 ·rw[List.getElem_append_right (by simpa using L)];have q:i<r.length:=by simp at O;omega
  have I:=V i zd;rw[zpW,zpF q,zqr]at I;simp only[zqT,List.getElem_drop,zqz,List.getElem_replicate,show h+(i-h)=i from zd,I]
theorem zm8(w:World)(rb L:Nat)(ai:L<=24)(cs:Array Value)(hb:zD w rb 217 cs)(af:cs[0]? = some (.int .i64 (L:Int)))(r:List Nat)(V:Rw r)(hz:∀i,L<=i->r.getD i 0=0):
 Calls prog 161 #[.pointer (some ⟨rb,0,none⟩),.agg (zX r).toArray] w fun e h=>e=.returned (.bool true)/\Bl w h:=by
 obtain⟨W0,R,O⟩:=xi w 155 (zX r).toArray;have HX:=zz O;have h:=zj0 W0 w.heap.size r (fun i q=>by
  rw[O.b0.cell i];simp[V.len,q])
 have Y:=zz h;have k0:=(hb.below O.below).cell 0;rw[af]at k0;have N:∀W:World,W.heap[w.heap.size]? = W0.heap[w.heap.size]?->W.rangeAt w.heap.size 0 (zX r):=fun W q=>by
  intro j v hv;have:=(O.b0.same q).cell (0+j);rw[this];simpa using hv
 have ae:=zz N;have q:(zX r).length=24:=by simp[V.len]
 have ah:=zz (show(prog.info? 155).map (·.size)=some (zX r).length by rw[q];exact yJ);have I:=zz V;have Hz:=zz hz;have Z:=zz (hb.below O.below);have al:=zz O.size;clear O h hb N q V hz;go_enter func161,ntmps161;go_upto_region 1 with fail
 try rw[R]
 clear R;go_upto_region 3 with(go_at_call 219;refine Y.o.mono ?_;rintro e h⟨⟨m,rfl⟩,rfl⟩;have q:decide ((m:Int)<0)=false:=zp)
 have R:=ae.o h rfl;clear q;go_upto_region 4 with(first
  |(refine xW 155 _ rfl ?_;refine y7 zj 155 _ rfl w.heap.size 0 rfl (zX r) _ R underlying155 rfl ah.o ?_)
  |(refine xy 155 _ _ rfl ?_;refine XG zj 155 _ _ rfl h.heap.size 0 _ _ (zD.new _ _ _) (zX r) rfl rfl (by simp[I.o.len]) ah.o (X7 r) ?_;intro O X;have U:=zz X;clear X))
 have q:zD O h.heap.size 155 (zX r).toArray:=by
  have:=U.o.zH;rw[show(zX r).length=24 by simp[I.o.len]]at this;simpa using this
 have N:zD O rb 217 cs:=(Z.o.alloc _).zC U.o.zC (Nat.ne_of_lt Z.o.lt);have k3:=N.cell 0;rw[af]at k3;have ab:Bl h O:=U.o.zC.qt (xq h _) (zpx _) (fun x hx=>zd);have aa:=zz ab;clear R k0 N ab;have R:∀(N:World),zD N h.heap.size 155 #[.int .i32 0,.int .i32 0,.int .i32 0,.int .i32 0,.int .i32 0,.int .i32 0,.int .i32 0,.int .i32 0,.int .i32 0,.int .i32 0,.int .i32 0,.int .i32 0,.int .i32 0,.int .i32 0,.int .i32 0,.int .i32 0,.int .i32 0,.int .i32 0,.int .i32 0,.int .i32 0,.int .i32 0,.int .i32 0,.int .i32 0,.int .i32 0]->N.rangeAt h.heap.size 0 [.int .i32 0,.int .i32 0,.int .i32 0,.int .i32 0,.int .i32 0,.int .i32 0,.int .i32 0,.int .i32 0,.int .i32 0,.int .i32 0,.int .i32 0,.int .i32 0,.int .i32 0,.int .i32 0,.int .i32 0,.int .i32 0,.int .i32 0,.int .i32 0,.int .i32 0,.int .i32 0,.int .i32 0,.int .i32 0,.int .i32 0,.int .i32 0]:=fun N ab j v hv=>by
  rw[zp6,ab.cell j];simpa using hv
 have ad:=zz R;have ag:Kz ((prog.info? 155).map (·.size)=some ([.int .i32 0,.int .i32 0,.int .i32 0,.int .i32 0,.int .i32 0,.int .i32 0,.int .i32 0,.int .i32 0,.int .i32 0,.int .i32 0,.int .i32 0,.int .i32 0,.int .i32 0,.int .i32 0,.int .i32 0,.int .i32 0,.int .i32 0,.int .i32 0,.int .i32 0,.int .i32 0,.int .i32 0,.int .i32 0,.int .i32 0,.int .i32 0]:List Value).length):=yJ;clear R;obtain⟨N,an,ac,ab⟩:∃N,(Builtin.clear_ #[252] 0 #[.slice (some ⟨h.heap.size,0,none⟩) L 24]).run prog O=.ok (.tuple #[]) N/\zD N h.heap.size 155 #[.int .i32 0,.int .i32 0,.int .i32 0,.int .i32 0,.int .i32 0,.int .i32 0,.int .i32 0,.int .i32 0,.int .i32 0,.int .i32 0,.int .i32 0,.int .i32 0,.int .i32 0,.int .i32 0,.int .i32 0,.int .i32 0,.int .i32 0,.int .i32 0,.int .i32 0,.int .i32 0,.int .i32 0,.int .i32 0,.int .i32 0,.int .i32 0]/\Bl h N:=by
  have e:=zj2 I.o ai Hz.o
  by_cases h0:L=0
  ·subst h0;refine⟨O,by simp[Builtin.clear_,run_underlying underlying252],?_,aa.o⟩;simp only[List.replicate_zero,zpI,zrm]at e;rw[e]at q;exact q
  ·have V:=Lib.run_clear_slice (P:=prog) O 252 153 0 (.int .i32 0) underlying252 zeq rfl rfl h.heap.size 0 L 24 zd (fun j R=>by rw[q.cell];simp[I.o.len];omega) (fun j _=>q.frozen _);have R:=Gx (a0:=0) q (List.replicate L (.int .i32 0)) (by simp[I.o.len];omega);simp only[zpY,zpI,zqT,zp6]at R;refine⟨_,V,?_,R.zC.qt aa.o (zpx _) (fun x hx=>zd)⟩;have:=R.zH;rw[e]at this;exact this
 have am:(Instr.sliceAt 155 (.pointer (some ⟨h.heap.size,0,none⟩)) none (some (.int .i64 (L:Int))) none).run prog O=.ok (.slice (some ⟨h.heap.size,0,none⟩) L 24) O:=by
  obtain⟨i0,aj⟩:∃i,prog.info? 153=some i:=zqq.1 zo;have R:(L:Int)<=24:=zd;simp[Instr.sliceAt,run_underlying underlying155,Instr.sureAddr,Instr.sliceBounds,Result.andThen,sizeOf,typeInfo,go_sem,aj,R]
 have ak:∀W,(Op.equalIn 10000 155 (.agg #[.int .i32 0,.int .i32 0,.int .i32 0,.int .i32 0,.int .i32 0,.int .i32 0,.int .i32 0,.int .i32 0,.int .i32 0,.int .i32 0,.int .i32 0,.int .i32 0,.int .i32 0,.int .i32 0,.int .i32 0,.int .i32 0,.int .i32 0,.int .i32 0,.int .i32 0,.int .i32 0,.int .i32 0,.int .i32 0,.int .i32 0,.int .i32 0]) (.agg #[.int .i32 0,.int .i32 0,.int .i32 0,.int .i32 0,.int .i32 0,.int .i32 0,.int .i32 0,.int .i32 0,.int .i32 0,.int .i32 0,.int .i32 0,.int .i32 0,.int .i32 0,.int .i32 0,.int .i32 0,.int .i32 0,.int .i32 0,.int .i32 0,.int .i32 0,.int .i32 0,.int .i32 0,.int .i32 0,.int .i32 0,.int .i32 0])).run prog W=.ok true W:=fun W=>zo
 have R:=ad.o N ac;have aj:=zz ab;clear ac q ab
 go_wp2_with (refine xW 155 _ rfl ?_;refine y7 zj 155 _ rfl h.heap.size 0 rfl [.int .i32 0,.int .i32 0,.int .i32 0,.int .i32 0,.int .i32 0,.int .i32 0,.int .i32 0,.int .i32 0,.int .i32 0,.int .i32 0,.int .i32 0,.int .i32 0,.int .i32 0,.int .i32 0,.int .i32 0,.int .i32 0,.int .i32 0,.int .i32 0,.int .i32 0,.int .i32 0,.int .i32 0,.int .i32 0,.int .i32 0,.int .i32 0] _ R underlying155 rfl ag.o ?_)
 go_returns;exact⟨rfl,zl HX.o.below aj.o⟩
open Classical in
noncomputable def Ye(R:List (List Nat))(r:List Nat):List (List Nat):=if r∈R then R else R++[r]
def zib(w:World)(O N:Nat)(R:List (List Nat))(r:List Nat)(q I:Nat)(A:Option Addr)(v:Value)(w':World):Prop:=
 ∃L h U,v=.bool (tf (r∉R))/\ZJ w' O N (Ye R r) q I L h U/\zh (fun x=>x=q\/x=I\/x∈zw A) w w'/\(∀g∈zw L,g∈zw A\/w.heap.size<=g)
theorem zk2{W:Nat}{V:Nat}(h:ZJ w W U R N V A cap f)(r:List Nat)(X:Rw r)(O:R.length<=4194304):
 Calls prog 162 #[.pointer (some ⟨N,0,none⟩),.agg (zX r).toArray] w fun e L=>∃v,e=.returned v/\zib w W U R r N V A v L:=by
 by_cases q:r∈R
 ·refine(zmK h r X q).mono ?_;rintro e L⟨rfl,I⟩;refine⟨_,rfl,A,cap,f,by rw[qu (fun hn=>hn q)],?_,zh.xj _ I,fun g Y=>.inl Y⟩;unfold Ye;rw[if_pos q];exact h.same fun x _ Z=>I.block x Z
 ·refine(zkM h r X q O).mono ?_;rintro e L⟨A',I,f',rfl,Z,Y,h3⟩;refine⟨_,rfl,A',I,f',by rw[qs q],?_,Y,h3⟩;unfold Ye;rw[if_neg q];exact Z
theorem GP(h:Rel w X Z R S)(r:List Nat)(hr:Rw r)(hz:∀i,Z<=i->r.getD i 0=0)(ae:R.length<=4194304):
 Calls prog 93 #[.pointer (some ⟨X,0,none⟩),.agg (zX r).toArray] w fun e q=>e=.returned (.tuple #[.bool (tf (r∉R)),.int .i64 0])/\Rel q X Z (Ye R r) (fun x=>S x\/w.heap.size<=x)/\zh S w q:=by
 obtain⟨L,V,A,ah,f,h,hS⟩:=h;obtain⟨Y,aa,U⟩:=xi w 155 (zX r).toArray;have HX:=zz U;have Ht:=zz (JE Y X _ _ L (h.rel.below U.below));have ag:=zz (zm8 Y X Z h.ar _ (h.rel.below U.below) rfl r hr hz);have Hp:=zz (fun W (hW:Bl w W)=>zk2 (h.same (w':=W) fun x _ I=>hW.block x I) r hr ae);have hq:∀x,(x=L\/x=V\/x∈zw A)->x<w.heap.size:=fun x q=>by
  rcases q with rfl|rfl|q
  ·exact h.pl.lt
  ·exact h.map.lt
  ·exact h.own.lt x q
 have Hq:=zz hq;have O:∀W:World,zh (fun x=>x=L\/x=V\/x∈zw A) Y W->W.rangeAt w.heap.size 0 (zX r):=fun W hW=>by
  intro j v I;have:=(U.b0.zC hW (fun e=>zq2 _ (hq _ e))).cell (0+j);rw[this];simpa using I
 have N:=zz O;have I:(zX r).length=24:=by simp[hr.len]
 have ab:=zz (show(prog.info? 155).map (·.size)=some (zX r).length by rw[I];exact yJ);have H0:=zz (show ∀W,zh (fun x=>x=L\/x=V\/x∈zw A) Y W->W.cell? ⟨X,2,none⟩=some (.pointer (some ⟨L,0,none⟩))from fun W hW=>((h.rel.below U.below).zC hW (fun e=>by
  rcases e with e|e|e
  ·exact h.rel.yK h.pl zr e
  ·exact h.rel.qU h.map e
  ·exact h.own.yD h.rel zr e)).cell 2)
 have HS:=zz hS;have ad:=N.o Y (zh.refl _ _);clear h hS U O I hr hz ae hq;go_enter func93,ntmps93;go_upto_region 1 with fail
 try rw[aa]
 clear aa;go_upto_region 5 with(first
  |(go_at_call 106;refine Ht.o.mono ?_;rintro e w1⟨rfl,rfl⟩)
  |(refine xW 155 _ rfl ?_;refine y7 zj 155 _ rfl w.heap.size 0 rfl (zX r) _ ad underlying155 rfl ab.o ?_)
  |(go_at_call 161;refine ag.o.mono ?_;rintro e w2⟨rfl,ac⟩;have I:=zz ac;clear ac ad))
 refine xX [0,0,0,0,0,2,0,0] (fun W=>zh (fun x=>x=L\/x=V\/x∈zw A) w1 W) (h0:=?s0) ?_
 case s0=>exact(zh.xj _ I.o).drew
 try refine zQ ?_
 repeat refine zS H0.o ?_
 refine Ud 155 _ rfl w.heap.size 0 rfl (zX r) _ rfl N.o underlying155 rfl ab.o ?_;try refine zQ ?_
 repeat refine zS H0.o ?_
 refine xf fun K hK=>?_
 go_simp;have aa:Kz (Bl w w2.drew):=zl HX.o.below (I.o.trans ((Below.refl w1.heap.size w2).drew));refine(Hp.o _ aa.o).mono ?_;rintro e w3⟨v,rfl,A',U,f',rfl,h1,h2,h3⟩;have O:zh (fun x=>x=L\/x=V\/x∈zw A) w1 w3:=((zh.xj _ I.o).drew).trans h2 (fun x q _=>q);have HF:=zz h1;have af:=zz O;have HG:=zz h3;refine hK.out _ _ O (fun _=>trivial) ?_;clear hK K h1 h2 h3 O;try refine zQ ?_
 repeat refine zS H0.o ?_
 refine xt ?_;go_wp2;go_returns;refine⟨rfl,⟨L,V,A',U,f',HF.o,fun x q=>?_⟩,((zh.xj _ HX.o.below).trans af.o (fun x q _=>q)).mono fun x q _=>HS.o x (.inr q)⟩
 rcases q with q|q|q|q
 ·exact .inl (HS.o x (.inl q))
 ·exact .inl (HS.o x (.inr (.inl q)))
 ·exact .inl (HS.o x (.inr (.inr (.inl q))))
 ·rcases HG.o x q with h|h
  ·exact .inl (HS.o x (.inr (.inr (.inr h))))
  ·exact .inr (zpK aa.o.size h)
theorem zd1(h:Array Value)(w:World)(I:Nat)(L:Array Value)(q:Int)(U:h.getD 4 undef=.pointer (some ⟨I,0,none⟩))(V:h.getD 5 undef=.int .i64 q)(W:w.heap[I]? = some (.cells L 155 (0,0)))(hi:(prog.info? 155).map (·.size)=some L.size):
 (results Tryz.f156 h).run prog w=.ok (.tuple #[.agg L,.int .i64 q]) w:=by
 have O:h[4]?.getD undef=.pointer (some ⟨I,0,none⟩):=by simpa using U
 have N:h[5]?.getD undef=.int .i64 q:=by simpa using V
 have R:=run_loadVar_row (P:=prog) w I 155 155 L (0,0) _ W underlying155 rfl hi;simp[results,results156,O,N,asAddr,R]
theorem zZ.at_mem{f:α->List Value}{c:Nat}{xs:List α}(O:∀x∈xs,(f x).length=c+1)(h:zZ f w A xs)(i:Nat)(hi:i<xs.length):
 ∃b o,A=some ⟨b,o,none⟩/\b<w.heap.size/\w.rangeAt b (o+i*(c+1)) (f xs[i]):=by
 have L:∀r∈xs.map f,r.length=c+1:=fun r I=>by
  obtain⟨x,q,rfl⟩:=zp8.1 I;exact O x q
 unfold zZ at h;rw[zrs]at h;have q:(xs.map f).flatten≠[]:=by
  intro e;have N:=zaq L;rw[e,zpO,zqd]at N;have:0<xs.length*(c+1):=Nat.mul_pos zd (zd);omega
 obtain⟨b,o,rfl,N,I⟩:=h q;refine⟨b,o,rfl,N,?_⟩;have:=Ub I (i*(c+1)) (c+1);rw[D9 L i (by rw[zpO];exact hi),zqz]at this;exact this
theorem zje(h:Rel w Z ar R S)(i:Nat)(hi:i<R.length):
 Calls prog 156 #[.pointer (some ⟨Z,0,none⟩),.int .i64 (i:Int)] w fun e q=>e=.returned (.tuple #[.agg (zX R[i]).toArray,.int .i64 0])/\Bl w q:=by
 obtain⟨pb,mb,A,aa,f,h,hS⟩:=h;have hr:=h.ok _ (zpB hi);obtain⟨n,hn⟩:∃n,R.length=n:=⟨_,rfl⟩;have N:=h.pl;rw[hn]at N;have ac:i<n:=by rw[<-hn];exact hi
 have Ht:=zz (fun W (L:Bl w W)=>JE W Z _ _ pb (h.rel.below L));have Hk:Kz (∀W,Bl w W->W.cell? ⟨Z,2,none⟩=some (.pointer (some ⟨pb,0,none⟩))/\W.cell? ⟨pb,0,none⟩=some (.slice A n aa)):=fun W L=>⟨(h.rel.below L).cell 2,(N.below L).cell 0⟩
 obtain⟨b,o,rfl,V,q⟩:=zZ.at_mem (c:=23) (fun x I=>by simp[(h.ok x I).len]) h.own.xI i hi;have I:(zX R[i]).length=24:=by simp[hr.len]
 generalize R[i]=r at q I hr ⊢
 replace q:w.rangeAt b (o+i*24) (zX r):=q
 have X:=zz (fun W (L:Bl w W)=>yB q L V);have O:=zz (show(prog.info? 155).map (·.size)=some (zX r).length by rw[I];exact yJ);have L:=zz I;obtain⟨W0,U,Y⟩:=xi w 155 (zX (List.replicate 24 0)).toArray;have HX:=zz Y;obtain⟨k0,k1⟩:=Hk.o W0 Y.below;have ab:=X.o W0 Y.below;clear h hS hr N hn q V I Y hi;go_enter func156,ntmps156;go_upto_region 1 with fail
 try rw[show(w.alloc (.cells #[.int .i32 0,.int .i32 0,.int .i32 0,.int .i32 0,.int .i32 0,.int .i32 0,.int .i32 0,.int .i32 0,.int .i32 0,.int .i32 0,.int .i32 0,.int .i32 0,.int .i32 0,.int .i32 0,.int .i32 0,.int .i32 0,.int .i32 0,.int .i32 0,.int .i32 0,.int .i32 0,.int .i32 0,.int .i32 0,.int .i32 0,.int .i32 0] 155))=W0 from U]
 clear U
 go_wp2_with (first
  |(go_at_call 106;refine(Ht.o _ HX.o.below).mono ?_;rintro e Y⟨rfl,N⟩;obtain rfl:=N.symm)
  |(refine xW 155 _ rfl ?_;refine y7 zj 155 _ rfl b (o+i*24) rfl (zX r) _ ab underlying155 rfl O.o ?_)
  |(refine xy 155 _ _ rfl ?_;refine XG zj 155 _ _ rfl w.heap.size 0 _ _ HX.o.b0 (zX r) rfl rfl (by simp[L.o]) O.o (X7 r) ?_;intro V q;have I:=zz q;clear q))
 have U:zD V w.heap.size 155 (zX r).toArray:=by
  have:=I.o.zH;rw[L.o]at this;simpa using this
 refine bodyPost_ret (v:=.tuple #[.agg (zX r).toArray,.int .i64 0]) (zd1 _ V w.heap.size (zX r).toArray 0 rfl rfl U (by simpa using O.o)) rfl ?_;exact⟨rfl,I.o.below HX.o.below (zpx _) (zpx _)⟩
theorem zaA(h:Rel w q L R S):Calls prog 326 #[.pointer (some ⟨q,0,none⟩)] w fun e I=>e=.returned (.int .i64 0)/\I=w:=by
 obtain⟨O,W,A,I,f,h,-⟩:=h;have N:=zz (JE w q _ _ O h.rel);have U:=h.rel.cell 1;clear h;go_enter func326,ntmps326
 go_wp2_with (go_at_call 106;refine N.o.mono ?_;rintro e V⟨rfl,rfl⟩)
 go_returns;exact⟨rfl,rfl⟩
theorem zfU(w:World)(h:Nat)(lo hi:Int):Calls prog 68 #[.pointer (some ⟨h,0,none⟩),.int .i64 lo,.int .i64 hi] w fun e q=>
 e=.returned (.func (.func 126) #[] #[.pointer (some ⟨w.heap.size,0,none⟩),.pointer (some ⟨w.heap.size+1,0,none⟩),.pointer (some ⟨w.heap.size+1+1,0,none⟩)])/\
  q=((w.alloc (.cells #[.pointer (some ⟨h,0,none⟩)] 128)).alloc (.cells #[.int .i64 lo] 3)).alloc (.cells #[.int .i64 hi] 3):=by
 go_enter func68,ntmps68;go_wp2;go_returns;exact⟨rfl,rfl⟩
theorem zjA(h:Rel w L X R S):
 Calls prog 156 #[.pointer (some ⟨L,0,none⟩),.int .i64 (-1)] w fun e q=>e=.returned (.tuple #[.agg #[.int .i32 0,.int .i32 0,.int .i32 0,.int .i32 0,.int .i32 0,.int .i32 0,.int .i32 0,.int .i32 0,.int .i32 0,.int .i32 0,.int .i32 0,.int .i32 0,.int .i32 0,.int .i32 0,.int .i32 0,.int .i32 0,.int .i32 0,.int .i32 0,.int .i32 0,.int .i32 0,.int .i32 0,.int .i32 0,.int .i32 0,.int .i32 0],.int .i64 1])/\Bl w q:=by
 obtain⟨pb,mb,A,Z,f,h,N⟩:=h;have Y:=zz (fun W (q:Bl w W)=>JE W L _ _ pb (h.rel.below q));obtain⟨W0,q,I⟩:=xi w 155 #[.int .i32 0,.int .i32 0,.int .i32 0,.int .i32 0,.int .i32 0,.int .i32 0,.int .i32 0,.int .i32 0,.int .i32 0,.int .i32 0,.int .i32 0,.int .i32 0,.int .i32 0,.int .i32 0,.int .i32 0,.int .i32 0,.int .i32 0,.int .i32 0,.int .i32 0,.int .i32 0,.int .i32 0,.int .i32 0,.int .i32 0,.int .i32 0];have U:=zz I;clear h N I;go_enter func156,ntmps156;go_upto_region 1 with fail
 try rw[q]
 clear q
 go_wp2_with (first
  |(go_at_call 106;refine(Y.o _ U.o.below).mono ?_;rintro e w1⟨rfl,N⟩;obtain rfl:=N.symm)
  |(refine xy 155 _ _ rfl ?_;refine XG zj 155 _ _ rfl w.heap.size 0 _ _ U.o.b0 [.int .i32 0,.int .i32 0,.int .i32 0,.int .i32 0,.int .i32 0,.int .i32 0,.int .i32 0,.int .i32 0,.int .i32 0,.int .i32 0,.int .i32 0,.int .i32 0,.int .i32 0,.int .i32 0,.int .i32 0,.int .i32 0,.int .i32 0,.int .i32 0,.int .i32 0,.int .i32 0,.int .i32 0,.int .i32 0,.int .i32 0,.int .i32 0] rfl rfl zp yJ zt ?_;intro V q;have I:=zz q;clear q))
 have O:zD V w.heap.size 155 #[.int .i32 0,.int .i32 0,.int .i32 0,.int .i32 0,.int .i32 0,.int .i32 0,.int .i32 0,.int .i32 0,.int .i32 0,.int .i32 0,.int .i32 0,.int .i32 0,.int .i32 0,.int .i32 0,.int .i32 0,.int .i32 0,.int .i32 0,.int .i32 0,.int .i32 0,.int .i32 0,.int .i32 0,.int .i32 0,.int .i32 0,.int .i32 0]:=I.o.zH;refine bodyPost_ret (v:=.tuple #[.agg #[.int .i32 0,.int .i32 0,.int .i32 0,.int .i32 0,.int .i32 0,.int .i32 0,.int .i32 0,.int .i32 0,.int .i32 0,.int .i32 0,.int .i32 0,.int .i32 0,.int .i32 0,.int .i32 0,.int .i32 0,.int .i32 0,.int .i32 0,.int .i32 0,.int .i32 0,.int .i32 0,.int .i32 0,.int .i32 0,.int .i32 0,.int .i32 0],.int .i64 1]) (zd1 _ V w.heap.size #[.int .i32 0,.int .i32 0,.int .i32 0,.int .i32 0,.int .i32 0,.int .i32 0,.int .i32 0,.int .i32 0,.int .i32 0,.int .i32 0,.int .i32 0,.int .i32 0,.int .i32 0,.int .i32 0,.int .i32 0,.int .i32 0,.int .i32 0,.int .i32 0,.int .i32 0,.int .i32 0,.int .i32 0,.int .i32 0,.int .i32 0,.int .i32 0] 1 rfl rfl O yJ) rfl ?_;exact⟨rfl,I.o.below U.o.below (zpx _) (zpx _)⟩
def zhw(w:World)(I:Nat)(e:Ending)(w':World):Prop:=∃q h,e=.returned (.tuple #[.pointer (some ⟨q,0,none⟩),.int .i64 0])/\zD w' q 294 #[.pointer (some ⟨I,0,none⟩),.map (some h)]/\w'.heap[h]? = some (.map #[] 0)/\w.heap.size<=h/\w.heap.size<=q/\Bl w w'
theorem zod(h:Rel w U ar R S):Calls prog 91 #[.pointer (some ⟨U,0,none⟩)] w (zhw w U):=by
 have ah:=@run_makeMap prog;obtain⟨C,I,L,q⟩:∃C:List Value,C.length=24/\(∀v∈C,v.oneCell'=true)/\(Calls prog 156 #[.pointer (some ⟨U,0,none⟩),.int .i64 (-1)] w fun e N=>e=.returned (.tuple #[.agg C.toArray,.int .i64 1])/\Bl w N):=
  ⟨[.int .i32 0,.int .i32 0,.int .i32 0,.int .i32 0,.int .i32 0,.int .i32 0,.int .i32 0,.int .i32 0,.int .i32 0,.int .i32 0,.int .i32 0,.int .i32 0,.int .i32 0,.int .i32 0,.int .i32 0,.int .i32 0,.int .i32 0,.int .i32 0,.int .i32 0,.int .i32 0,.int .i32 0,.int .i32 0,.int .i32 0,.int .i32 0],rfl,zt,zjA h⟩
 have ac:=zz q;have H1:=zz L;have af:=zz (show(prog.info? 155).map (·.size)=some C.length by rw[I];exact yJ);have HC:=zz I;clear h L I q;go_enter func91,ntmps91;go_upto_region 4 with(first
  |(go_at_call 156;refine ac.o.mono ?_;rintro e w1⟨rfl,aa⟩;have ae:=zz aa;clear aa)
  |(refine xy 155 _ _ rfl ?_;refine XG zj 155 _ _ rfl w1.heap.size 0 _ _ (zD.new _ _ _) C rfl rfl (by simp[HC.o]) af.o H1.o ?_;intro q W;have O:Kz (Bl w q):=zl ae.o (W.zC.qt (xq w1 _) (zpx _) (fun x hx=>zd));clear W))
 obtain⟨V,I⟩:∃V,q.alloc (.map #[] 0)=V:=⟨_,rfl⟩;have Y:V.heap.size=q.heap.size+1:=by rw[<-I];simp
 have Z:Bl q V:=by rw[<-I];exact xq q _
 have N:V.heap[q.heap.size]? = some (.map #[] 0):=by rw[<-I];exact World.alloc_heap_new q _
 obtain⟨W5,X,L⟩:=xi V 294 #[.pointer (some ⟨U,0,none⟩),.map (some q.heap.size)];have hk:zD W5 (q.heap.size+1) 294 #[.pointer (some ⟨U,0,none⟩),.map (some q.heap.size)]:=Y▸L.b0;have HF:=zz (show W5.heap[q.heap.size]? = some (.map #[] 0)from(L.below.block _ zd).trans N);have HB:Kz (Bl w W5):=zl O.o (zl Z L.below);have ab:=zz hk;have ag:=zz I;have ad:=zz X;clear I Y Z N X L hk;go_wp2;rw[ag.o,ad.o];go_returns;exact⟨q.heap.size+1,q.heap.size,rfl,ab.o,HF.o,O.o.size,Nat.le_succ_of_le O.o.size,HB.o⟩
theorem zb4(w:World)(q:Nat):Calls prog 318 #[.agg #[.pointer (some ⟨q,0,none⟩)]] w fun e h=>e=.returned (.bool true)/\Bl w h:=by
 go_enter func318,ntmps318;go_wp2;go_returns;exact⟨rfl,xq w _⟩
theorem zbS(h:Rel w I q R S)(m:Nat)(U:q<=24)(L:m<2 ^ q):Calls prog 325 #[.agg #[.pointer (some ⟨I,0,none⟩)],.int .u32 (m:Int)] w fun e N=>e=.returned (.bool true)/\Bl w N:=by
 have O:=zz (fun W (N:Bl w W)=>Dv (h.below N));clear h;go_enter func325,ntmps325
 go_wp2_with (go_at_call 70;refine(O.o _ (xq w _)).mono ?_;rintro e X⟨rfl,rfl⟩)
 go_returns;have V:((m:Int) / 2 ^ q==0)=true:=by
  have N:(m:Int) / 2 ^ q=0:=Int.ediv_eq_zero_of_lt zd (by exact_mod_cast L);rw[N];rfl
 refine⟨?_,xq w _⟩;show Ending.returned (.bool ((m:Int) / 2 ^ q==0))=_;rw[V]
def Vl.val(x:Vl):z6:=⟨x.k,x.n,x.s⟩
def _root_.Go.Proofs.YtfdickkdlcgicaaGreatDoor.z6.vl(v:z6):Vl:=⟨v.k,v.n,v.s⟩
theorem Ta(x:Vl):x.val.vl=x:=rfl
theorem Dc(v:z6):v.vl.val=v:=rfl
theorem zg4{x y:z6}(h:x.vl=y.vl):x=y:=by rw[<-Dc x,h,Dc]
theorem getD_at{l:List α}(d:α)(h:i<l.length):l.getD i d=l[i]:=by rw[zpW,zpF h];rfl
theorem zcA{l r:List α}(d:α)(h:i<l.length):(l++r).getD i d=l.getD i d:=by rw[zpW,zpW,zq1 h]
def Y0(vs:List z6)(n:Nat):Vl:=(vs.getD n z6.zero).vl
def Xe(vs:List z6)(h:Nat)(r:List Nat):List Vl:=(r.take h).map (Y0 vs)
structure yT (vs:List z6) (ar:Nat) (r:List Nat):Prop where
 len:r.length=24
 lt:∀i,i<ar->r.getD i 0<vs.length
 zero:∀i,ar<=i->r.getD i 0=0
theorem yT.mono(h:yT vs q r)(I:vs <+: us):yT us q r:=⟨h.len,fun i L=>zpz (h.lt i L) I.length_le,h.zero⟩
theorem zk1(q:vs <+: us)(h:n<vs.length):Y0 us n=Y0 vs n:=by
 unfold Y0;obtain⟨t,rfl⟩:=q;rw[zcA _ h]
theorem znA(h:yT vs q r)(I:vs <+: us):Xe us q r=Xe vs q r:=by
 unfold Xe;refine zrh fun n N=>zk1 I ?_
 obtain⟨i,L,rfl⟩:=zpS.1 N;rw[zp3]at L;have:=h.lt i zd;rw[List.getElem_take];rw[getD_at _ zd]at this;exact this
theorem Dl(h:yT vs q r)(I:q<=24):(Xe vs q r).length=q:=by
 unfold Xe;rw[zpO,zp3,h.len];omega
theorem UM(h:yT vs q r)(I:q<=24)(i:Nat)(hi:i<q):(Xe vs q r)[i]? = some (Y0 vs (r.getD i 0)):=by
 unfold Xe;rw[zqt,List.getElem?_take_of_lt hi,zpW,zpF (by rw[h.len];omega)];rfl
def ql(m:Nat)(r:List Nat):List Nat:=r.mapIdx fun i n=>if m.testBit i then n else 0
theorem VG(m:Nat)(r:List Nat):(ql m r).length=r.length:=by unfold ql;simp
theorem TP(m:Nat)(r:List Nat)(i:Nat):(ql m r).getD i 0=if m.testBit i then r.getD i 0 else 0:=by
 unfold ql;rw[zpW,List.getElem?_mapIdx,zpW]
 cases r[i]?<;>simp
theorem zkS(L:r.length=24)(N:x.length=24):ql m r=ql m x↔∀i,i<24->m.testBit i=true->r.getD i 0=x.getD i 0:=by
 constructor
 ·intro h i _ q;have:=congrArg (fun l=>l.getD i 0) h;simp only[TP,q,if_true]at this;exact this
 ·intro h;refine zrj (by rw[VG,VG,L,N]) fun i I O=>?_
  rw[VG]at I;have e:∀(l:List Nat)(h:i<l.length),l[i]=l.getD i 0:=fun l h=>(getD_at _ h).symm
  rw[e,e,TP,TP];split
  ·rename_i q;exact h i zd q
  ·rfl
theorem Rw.mask(h:Rw r)(m:Nat):Rw (ql m r):=
 ⟨by rw[VG];exact h.len,fun n I=>by
  obtain⟨i,q,rfl⟩:=zpS.1 I;rw[VG]at q;have e:(ql m r)[i]'(by rw[VG];exact q)=(ql m r).getD i 0:=(getD_at _ _).symm;rw[e,TP];split
  ·rw[getD_at _ q];exact h.lt _ (zpB q)
  ·omega⟩
def qL(R:List (List Nat))(m:Nat)(x:List Nat):List Nat:=(List.range R.length).filter fun n=>decide (ql m (R.getD n [])=ql m x)
theorem zcB(q:vs.Nodup)(h:n<vs.length){x:Vl}(I:x.val∈vs):Y0 vs n=x↔n=vs.idxOf x.val:=by
 unfold Y0;rw[getD_at _ h];constructor
 ·intro e;have:vs[n]=x.val:=by rw[<-e,Dc]
  rw[<-this,q.idxOf_getElem]
 ·intro e;subst e;rw[List.getElem_idxOf,Ta]
structure Jt (vs:List z6) (m:Nat) (ρ:Env) (args:List Tm) (x:List Nat):Prop where
 len:x.length=24
 has:∀i (h:i<args.length),m.testBit i=true->(args[i].at ρ).val∈vs/\x.getD i 0=vs.idxOf (args[i].at ρ).val
theorem zgK(V:vs.Nodup)(U:Jt vs m ρ args x)(L:yT vs args.length r)(W:args.length<=24)(X:m<2 ^ args.length):
 Zu m ρ args (Xe vs args.length r)↔ql m r=ql m x:=by
 rw[zkS L.len U.len];unfold Zu;constructor
 ·intro h i Y I;have q:i<args.length:=zql fun N=>by
   have:m<2 ^ i:=zpz X (zqo zr (zd));rw[Nat.testBit_lt_two_pow this]at I
   cases I
  have N:=h i q I;rw[UM L W i q]at N;injection N with N
  obtain⟨O,R⟩:=U.has i q I;rw[R];exact(zcB V (L.lt i q) O).1 N
 ·intro h i q I;obtain⟨O,R⟩:=U.has i q I;rw[UM L W i q,(zcB V (L.lt i q) O).2 ((h i zd I).trans R)]
theorem zi5(L:yT vs args.length r)(N:args.length<=24)(i:Nat)(hi:i<args.length)(O:m.testBit i=true)(I:(args[i].at ρ).val∉vs):¬Zu m ρ args (Xe vs args.length r):=by
 intro h;have q:=h i hi O;rw[UM L N i hi]at q;injection q with q
 apply I;rw[<-q];unfold Y0;rw[getD_at _ (L.lt i hi),Dc];exact zpB _
def rowsOf(vs:List z6)(h:Nat)(R:List (List Nat)):List (List Vl):=R.map (Xe vs h)
theorem zeW(O:vs.Nodup)(N:Jt vs m ρ args x)(W:∀r∈R,yT vs args.length r)(V:args.length<=24)(U:m<2 ^ args.length)(lo hi:Nat):
 XN (rowsOf vs args.length R) m ρ args lo hi=(qL R m x).filter fun n=>decide (lo<=n/\n<hi):=by
 unfold XN qL rowsOf;rw[zpO]
 congr 1
 refine List.filter_congr fun n I=>?_
 have q:n<R.length:=zqA.1 I;have e1:(R.map (Xe vs args.length)).getD n []=Xe vs args.length R[n]:=by
  rw[getD_at _ (by simpa using q),zqz]
 have e2:R.getD n []=R[n]:=getD_at _ q;rw[e1,e2];have:=zgK O N (W _ (zpB q)) V U
 by_cases h:ql m R[n]=ql m x
 ·rw[qs (this.2 h),decide_eq_true h]
 ·rw[qu fun L=>h (this.1 L),decide_eq_false h]
theorem zfI(L:∀r∈R,yT vs args.length r)(N:args.length<=24)(i:Nat)(hi:i<args.length)(O:m.testBit i=true)(h:(args[i].at ρ).val∉vs)(lo hi':Nat):
 XN (rowsOf vs args.length R) m ρ args lo hi'=[]:=by
 unfold XN rowsOf;rw[zpO];have:((List.range R.length).filter fun n=>tf (Zu m ρ args ((R.map (Xe vs args.length)).getD n [])))=[]:=zri.2 fun n q=>by
  have I:n<R.length:=zqA.1 q;have e1:(R.map (Xe vs args.length)).getD n []=Xe vs args.length R[n]:=by
   rw[getD_at _ (by simpa using I),zqz]
  rw[e1,qu (zi5 (L _ (zpB I)) N i hi O h)];exact zqV
 rw[this];rfl
open Classical in
theorem YG{u:ByteArray}{x:Vl}:qR ρ v x u=if u=v then some x else ρ u:=by unfold qR;rfl
open Classical in
theorem VO(m i:Nat)(t:Tm)(h:List Tm)(x:Vl)(xs:List Vl)(ρ:Env):fit m i (t::h) (x::xs) ρ =
 if m.testBit i=true\/t.v.toList=[95]then fit m (i+1) h xs ρ
 else match ρ t.v with
  |some y=>if y=x then fit m (i+1) h xs ρ else(false,ρ)
  |none=>fit m (i+1) h xs (qR ρ t.v x):=by
 rw[fit];rfl
theorem Ju(m:Nat):∀(q:List Tm)(L:List Vl)(i:Nat)(ρ:Env)(u:ByteArray),(fit m i q L ρ).2 u=ρ u\/(ρ u=none/\∃j t,q[j]? = some t/\m.testBit (i+j)=false/\t.v.toList≠[95]/\t.v=u)
 |[],L,i,ρ,u=>by unfold fit;exact .inl rfl
 |t::q,[],i,ρ,u=>by unfold fit;exact .inl rfl
 |t::q,x::L,i,ρ,u=>by
  have V:(ρ u=none/\∃j I,q[j]? = some I/\m.testBit (i+1+j)=false/\I.v.toList≠[95]/\I.v=u)->(ρ u=none/\∃j I,(t::q)[j]? = some I/\m.testBit (i+j)=false/\I.v.toList≠[95]/\I.v=u):=fun⟨R,j,I,Y,X,Z⟩=>
   ⟨R,j+1,I,by simpa using Y,by rw[<-zqO,zrl];exact X,Z⟩
  rw[VO];split
  ·exact(Ju m q L (i+1) ρ u).imp id V
  ·rename_i I;have N:m.testBit i=false:=by
    cases h:m.testBit i with
    |true=>exact absurd (.inl h) I
    |false=>rfl
   have O:t.v.toList≠[95]:=fun h=>I (.inr h)
   split
   ·split
    ·exact(Ju m q L (i+1) ρ u).imp id V
    ·exact .inl rfl
   ·rename_i W
    by_cases U:u=t.v
    ·subst U
     rcases hq:(fit m (i+1) q L (qR ρ t.v x)).2 t.v with _|y
     ·rw[W];exact .inl rfl
     ·exact .inr ⟨W,0,t,zp,by simpa using N,O,rfl⟩
    ·rcases Ju m q L (i+1) (qR ρ t.v x) u with h |⟨R,h⟩
     ·rw[h,YG,if_neg U];exact .inl rfl
     ·rw[YG,if_neg U]at R;exact .inr (V ⟨R,h⟩)
theorem zae(m:Nat):∀(I:List Tm)(L:List Vl)(i:Nat)(ρ:Env)(u:ByteArray)(y:Vl),ρ u=some y->(fit m i I L ρ).2 u=some y:=fun I L i ρ u y h=>by
 rcases Ju m I L i ρ u with q |⟨q,_⟩
 ·rw[q,h]
 ·rw[h]at q;cases q
theorem zeK(m:Nat):∀(q:List Tm)(I:List Vl)(i:Nat)(ρ:Env),q.length=I.length->(fit m i q I ρ).1=true->∀j t,q[j]? = some t->m.testBit (i+j)=false->t.v.toList≠[95]->((fit m i q I ρ).2 t.v).isSome=true
 |[],I,i,ρ,_,_,j,t,h,_,_=>by simp at h
 |t::q,[],i,ρ,h,_,_,_,_,_,_=>by simp at h
 |t::q,x::I,i,ρ,X,h,j,V,N,U,W=>by
  rw[VO]at h ⊢;have next:∀O,(fit m (i+1) q I O).1=true->∀k,j=k+1->((fit m (i+1) q I O).2 V.v).isSome=true:=fun O R k L=>by
   subst L;exact zeK m q I (i+1) O (by simpa using X) R k V (by simpa using N) (by rw[zrl,zqO];exact U) W
  split at h
  ·rename_i L;rw[if_pos L]
   cases j with
   |zero=>
    simp only[zpH,zqn]at N;subst N
    rcases L with L|L
    ·rw[zqk]at U;rw[U]at L;cases L
    ·exact absurd L W
   |succ k=>exact next ρ h k rfl
  ·rename_i R;rw[if_neg R]
   rcases hq:ρ t.v with _|y
   ·rw[hq]at h;simp only at h ⊢
    cases j with
    |zero=>
     simp only[zpH,zqn]at N;subst N;rw[zae m q I (i+1) (qR ρ t.v x) t.v x (by rw[YG,if_pos rfl])];rfl
    |succ k=>exact next _ h k rfl
   ·rw[hq]at h;simp only at h ⊢
    by_cases L:y=x
    ·rw[if_pos L]at h ⊢
     cases j with
     |zero=>
      simp only[zpH,zqn]at N;subst N;rw[zae m q I (i+1) ρ t.v y hq];rfl
     |succ k=>exact next ρ h k rfl
    ·rw[if_neg L]at h;cases h
def Ya(ρ:Env)(K:List ByteArray):Prop:=∀v,(ρ v).isSome=true↔v∈K
theorem Ya.none_{K:List ByteArray}(h:Ya ρ K)(q:v∉K):ρ v=none:=by
 rcases hq:ρ v with _|y
 ·rfl
 ·exact absurd ((h v).1 (by rw[hq];rfl)) q
end
