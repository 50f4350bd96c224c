/-
  Worlds of facts: a fact put to a predicate that is new. Worl
-/
import Derived.Test.YtfdickkdlcgicaaGreatDoorQ22
set_option maxRecDepth 100000
set_option maxHeartbeats 8000000
set_option linter.all false
namespace Go.Proofs.YtfdickkdlcgicaaGreatDoor.C
open Go.Proofs.Tryz Go Go.RowKit Go.Maps Go.WideMaps
variable {G:yW}{N q wb:Nat}{S:Nat->Prop}{T:List Nat}{vs:List z6}{w:World}
section
theorem ziW{tb pb:Nat}{f:Value->Option Value}{D:ByteArray->Option Pd}{own:ByteArray->Bool->Nat->Prop}(h:yL w wb tb pb vs f D T own)(p:ByteArray)(A:Option Addr)(cap n:Nat)(args:List Vl)(hn:args.length=n)(hl:zZ Vl.cells w A args)(aD:args≠[]->qV (fun g=>¬Zp wb pb T D own g) A)(be:∀v∈args,v.ok/\v.val.wf)(bj:n<=24)(hN:vs.length+n<=2147483647)(hp:p.size<=maxLen)(hd:D p=none):
 Calls prog 43 #[.pointer (some ⟨wb,0,none⟩),.agg #[.string p,.slice A n cap]] w (DX wb tb pb vs D T own p n (args.map Vl.val) w):=by
 obtain⟨W0,U,O⟩:=xi w 71 #[.string p,.slice A n cap];have HX:=zz O;have bH:=zz U;have av:=zz h;have Hd:=zz hd;have Hn:=zz hn;have Hl:=zz hl;have bt:Kz (args≠[]->∀a,A=some a->a.block∉T):=fun N a L I=>aD N a.block (by simp[zw,L]) (.inr (.inr (.inl I)))
 have bz:=zz (fun W (I:zh (·=pb) w W)=>hl.YO I fun N g L e=>aD N g L (.inr (.inl e)));have bw:=zz be;have HN:=zz hN;have ah:=zz bj;have H0:=zz (show ∀W,Bl W0 W->W.cell? ⟨wb,1,none⟩=some (.map (some pb))/\W.cell? ⟨w.heap.size,0,none⟩=some (.string p)/\W.cell? ⟨w.heap.size,1,none⟩=some (.slice A n cap)/\(Instr.lookup 115 (.map (some pb)) (.string p) true).run prog W=.ok (.tuple #[.agg #[.pointer none,.pointer none],.bool false]) W from
  fun W I=>⟨(h.zH.below (zl O.below I)).cell 1,(O.b0.below I).cell 0,(O.b0.below I).cell 1,by
   have:=(h.map.below (zl O.below I)).look q8 underlying115 (z:=.agg #[.pointer none,.pointer none]) zo (ye hp) true;rw[h.XM p,hd]at this;exact this⟩)
 clear h hd hn hl aD be hN bj O U;go_enter func43,ntmps43;go_upto_region 1 with fail
 rw[bH.o];refine xX [0,0,0,0,0,0,0,0,0,0,2,2,0] (fun W=>Bl W0 W) ?_
 repeat refine zS H0.o ?_
 refine xf fun K hK=>?_
 go_simp;obtain⟨W2,N,U⟩:=xi W0 131 #[.pointer none,.pointer none];rw[N];have V:Bl W0 W2.drew:=U.below.drew;refine hK.out _ _ V (fun _=>trivial) ?_;clear hK K N;try refine zQ ?_
 repeat refine zS H0.o ?_
 refine xf fun K hK=>?_
 refine Xu 131 _ _ rfl W0.heap.size 0 _ _ U.b0.drew [.pointer none,.pointer none] rfl rfl zp (zo) zt ?_;intro w3 O;have N:Bl W0 w3:=O.below V (zpx _) (zpx _);refine hK.out _ _ N (fun _=>trivial) ?_;clear hK K;try refine zQ ?_
 repeat refine zS H0.o ?_
 refine xt ?_;have X:Bl w w3:=zl HX.o.below N;have Y:zD w3 W0.heap.size 131 #[.pointer none,.pointer none]:=O.zH;have aj:Kz (w.heap.size<W0.heap.size):=HX.o.b0.lt;have H6:=zz Y;have bm:=zz N;have bK:=zz X;clear O N V U X Y;go_upto_region 2 with fail
 refine Vm [(0,0),(1,0),(2,0),(3,0),(5,0),(6,0),(7,0),(4,2),(8,0),(9,0)] (fun W=>Bl W0 W) (h0:=?s0) ?_
 case s0=>exact bm.o.drew
 try refine zQ ?_
 repeat refine zS H0.o ?_
 refine xt ?_;have N:Bl W0 w3.drew:=bm.o.drew;have a1:Kz (zD w3.drew W0.heap.size 131 #[.pointer none,.pointer none]):=H6.o;generalize w3.drew=w4 at N a1 ⊢;have bp:=zz N;have c1:=(H0.o w4 N).2.2.1;clear N;go_upto_region 12 with(first
  |(go_at_call 90;refine(zox _ n ah.o).mono ?_;rintro e w5⟨rb,rfl,aL,br,bs⟩;have aO:=zz aL;have aM:=zz bs;have bL:=zz br;clear aL bs br c1)
  |(go_at_call 91;refine(zod aO.o).mono ?_;rintro e w7⟨bb,mb,rfl,ax,bd,aU,aT,ai⟩;have bF:=zz ax;have bC:=zz bd;have a4:=zz ai;have bn:=zz aU;have bc:=zz aT;have bB:=zz ((a1.o.below aM.o).below ai);clear ax bd aU aT ai)
  |(refine xy 131 _ _ rfl ?_;refine yH 131 W0.heap.size 0 bB.out [.pointer (some ⟨rb,0,none⟩),.pointer (some ⟨bb,0,none⟩)] ?_;intro w8 N;have bE:=zz N;clear N))
 have N:XX w7 W0.heap.size 131 #[.pointer (some ⟨rb,0,none⟩),.pointer (some ⟨bb,0,none⟩)] w8:=bE.o;have ag:W0.heap.size<w4.heap.size:=a1.o.lt;have O:=(aO.o.cut.below a4.o).zC N.zC fun g L e=>by have:=L.1;omega
 have Y:=(yY.new bF.o bC.o (fun g=>w5.heap.size<=g) bc.o bn.o).zC N.zC fun g L e=>by have:=aM.o.size;omega
 have Z:Bl w w7:=zl HX.o.below (zl bp.o (zl aM.o a4.o));have X:zh (fun g=>g=W0.heap.size) w w8:=(zh.xj (fun g=>g=W0.heap.size) Z).trans N.zC fun g L _=>L
 have V:Bl w w8:=X.below (zpx _) fun g L=>by have:=aj.o;omega
 have U:yL w8 wb tb pb vs f D T own:=av.o.zC (zh.xj (fun _=>False) V) fun _ _ h=>h
 have af:zD w8 W0.heap.size 131 #[.pointer (some ⟨rb,0,none⟩),.pointer (some ⟨bb,0,none⟩)]:=N.zH;have aa:zD w8 w.heap.size 71 #[.string p,.slice A n cap]:=(HX.o.b0.below (zl bp.o (zl aM.o a4.o))).zC N.zC fun e=>by have:=aj.o;omega
 have ab:pb<w.heap.size:=av.o.map.lt;have ae:wb≠pb:=av.o.zH.qU av.o.map;obtain⟨d,bI,bx,ac,ad⟩:∃d:Pd,d.rb=rb/\d.bb=bb/\d.ar=n/\d.R=[]:=⟨⟨rb,bb,n,[]⟩,rfl,rfl,rfl,rfl⟩;subst bI bx;have bi:=zz (show ∀W,zh (·=pb) w8 W->W.cell? ⟨wb,1,none⟩=some (.map (some pb))/\W.cell? ⟨w.heap.size,0,none⟩=some (.string p)/\W.cell? ⟨W0.heap.size,0,none⟩=some (.pointer (some ⟨d.rb,0,none⟩))/\W.cell? ⟨W0.heap.size,1,none⟩=some (.pointer (some ⟨d.bb,0,none⟩))from
  fun W I=>⟨(U.zH.zC I ae).cell 1,(aa.zC I zd).cell 0,(af.zC I (by have:=aj.o;omega)).cell 0,(af.zC I (by have:=aj.o;omega)).cell 1⟩)
 have a7:=zz O;have bf:=zz Y;have ba:=zz V;have bl:=zz U;have bD:=zz af;have bG:=zz aa;have aS:=zz ab;have au:=zz ac;have a9:=zz ad;have aQ:=zz (show w.heap.size<=w4.heap.size/\w.heap.size<=w5.heap.size from⟨by have:=aj.o;omega,by have:=aj.o;have:=aM.o.size;omega⟩);clear N ag O Y Z X V U af aa ab ae ac ad;refine xX [0,0,0,0,0,0,0,2] (fun W=>zh (·=pb) w8 W) ?_
 repeat refine zS bi.o ?_
 refine xf fun K hK=>?_
 refine Zy _ _ _ rfl (bl.o.map.same (w':=w8.drew) rfl) q8 underlying115 rfl (.string p) d.kept _ rfl rfl (ye hp) ?_;intro Y ab ad;have Z:zh (·=pb) w8 Y:=(zh.refl (·=pb) w8).drew.yu ad fun _=>rfl
 refine hK.out _ _ Z (fun _=>trivial) ?_;clear hK K;try refine zQ ?_
 repeat refine zS bi.o ?_
 refine xt ?_;have aa:zh (·=pb) w Y:=(zh.xj (·=pb) ba.o).trans Z fun g L _=>L
 obtain⟨aq,V,X,O⟩:=av.o.born (d:=d) hp Hd.o a9.o (by rw[au.o];exact ah.o) aa
  (SR:=fun g=>w4.heap.size<=g/\g<w5.heap.size) (SB:=fun g=>w5.heap.size<=g)
  (by rw[au.o];exact a7.o.zC Z fun g L e=>by have:=aS.o;have:=aQ.o.1;have:=L.1;omega)
  (bf.o.zC Z fun g L e=>by have:=aS.o;have:=aQ.o.2;omega)
  (fun g L=>zpK aQ.o.1 L.1) (fun g L=>zpK aQ.o.2 L) (fun g L h=>by have:=L.2;omega) ab rfl
 obtain⟨f5,V⟩:∃f5,yL Y wb tb pb vs f5 (Yl D p d) T aq:=⟨_,V⟩;obtain⟨D5,V,ac,bq⟩:∃D5,yL Y wb tb pb vs f5 D5 T aq/\D5 p=some d/\Kz (∀d2,Yl D5 p d2=Yl D p d2):=
  ⟨_,V,if_pos rfl,zz fun d2=>by
   funext q
   unfold Yl;split
   ·rfl
   ·rfl⟩
 have aw:=zz V;have aP:=zz ac;have H6:=zz (bD.o.zC Z (by have:=aj.o;have:=aS.o;omega));have HF:=zz (bG.o.zC Z (by have:=aS.o;omega));have aW:=aj;have HR:=zz (show d.R.length<=4194304 by rw[a9.o];exact zpD _);have bA:=zz (bz.o Y aa);have bg:=zz (fun k hk=>av.o.tab.lt k hk);have aR:=zz (aa.mono (S':=Zp wb pb T D own) fun g L _=>.inr (.inl L));have aG:=zz X;have aC:Kz (∀g,aq p false g->Zp wb pb T D own g\/w.heap.size<=g):=fun g L=>.inr (O false g L)
 have aK:Kz (D p=none->∀a g,aq p a g->w.heap.size<=g):=fun _ a g L=>O a g L
 have bu:=zz (show d.R=((D p).map (·.R)).getD []from by rw[Hd.o,a9.o];rfl);generalize W0.heap.size=b6 at H6 aW ⊢;clear V ac X O aa Z ab ad;have aV:=zz (fun W (I:Bl Y W)=>zbL (aw.o.tab.below I) args A cap n Hn.o (bA.o.below I) bt.o bw.o ah.o HN.o);have bk:Kz (b6∉T):=fun h=>by have:=bg.o b6 h;have:=aW.o;omega
 have ap:=zz (show ∀W,zh (·∈T) Y W->W.cell? ⟨wb,0,none⟩=some (.pointer (some ⟨tb,0,none⟩))/\W.cell? ⟨w.heap.size,1,none⟩=some (.slice A n cap)from
  fun W I=>⟨(aw.o.zH.zC I aw.o.X6.1).cell 0,(HF.o.zC I fun h=>by have:=bg.o _ h;omega).cell 1⟩)
 go_upto_region 13 with fail
 refine Gd [(0,0),(1,0),(2,0),(3,0),(4,0),(5,0)] [(7,0),(8,0),(9,0),(10,2),(11,2),(12,0)] [(6,2),(7,0),(8,0),(9,0),(11,2),(12,0)] 9999 6 10 (fun W=>zh (·∈T) Y W) (fun _=>True) zo (zo) zo ?s0 ?s1 ?_
 case s1=>trivial
 case s0=>exact yw
 simp only[xO,qa,qb,qc,qd,qe,qf];try refine zQ ?_
 repeat refine zS ap.o ?_
 refine J9 ?_ ?_
 ·refine xf fun K hK=>?_
  go_simp;refine(aV.o _ (Below.refl _ _).drew).mono ?_;rintro e w6⟨am,ns,T',rfl,I,ad,ae,aa⟩;have O:zh (·∈T) Y w6:=(zh.refl (·∈T) Y).drew.trans ae fun x hx _=>hx
  refine hK.out _ _ O (fun _=>trivial) ?_;clear hK K;try refine zQ ?_
  repeat refine zS ap.o ?_
  refine xf fun K hK=>?_
  go_simp;obtain⟨W7,aF,ag⟩:=xi w6 155 #[.int .i32 0,.int .i32 0,.int .i32 0,.int .i32 0,.int .i32 0,.int .i32 0,.int .i32 0,.int .i32 0,.int .i32 0,.int .i32 0,.int .i32 0,.int .i32 0,.int .i32 0,.int .i32 0,.int .i32 0,.int .i32 0,.int .i32 0,.int .i32 0,.int .i32 0,.int .i32 0,.int .i32 0,.int .i32 0,.int .i32 0,.int .i32 0];rw[aF];have al:zh (·∈T) Y W7:=O.trans (zh.xj (fun _=>False) ag.below) fun _ h _=>h.elim
  refine hK.out _ _ al (fun _=>trivial) ?_;clear hK K aF;try refine zQ ?_
  repeat refine zS ap.o ?_
  have X:(zX (pad ns)).length=24:=by
   have:=I.len;rw[zpO,Hn.o]at this;unfold pad;simp;have:=ah.o;omega
  refine xf fun K hK=>?_
  refine Xu 155 _ _ rfl w6.heap.size 0 _ _ ag.b0 (zX (pad ns)) rfl rfl (by rw[X];decide) (by rw[X];exact yJ) (X7 _) ?_;intro W8 N;have ac:zh (·∈T) Y W8:=al.trans N.zC fun x hx aE=>by have:=O.size;omega
  refine hK.out _ _ ac (fun _=>trivial) ?_;clear hK K;try refine zQ ?_
  repeat refine zS ap.o ?_
  refine xt ?_;have V:zD W8 w6.heap.size 155 (zX (pad ns)).toArray:=by
   have:=N.zH;rw[X]at this;simpa using this
  have aN:qv W8 tb 2147483647 am T':=ad.same fun k hk=>by
   have ab:=ad.lt k hk;exact(N.zC.block k (zpz ab ag.below.size) zd).trans (ag.below.block k ab)
  have ab:∀k∈T',k∈T\/Y.heap.size<=k:=aa;generalize w6.heap.size=ak at V ⊢;clear N ag al O ae ad aa X;have U:=aw.o.TM ac aN I.pre ab;have O:(args.map Vl.val).length=n:=by rw[zpO];exact Hn.o
  have aa:yT am d.ar (pad ns):=by
   have:=I.JK (by rw[O];exact ah.o);rw[O]at this;rw[au.o];exact this
  have an:Rw (pad ns):=Rw.pad (by rw[I.len,O];exact ah.o) fun k hk=>by
   have h1:=I.lt k hk;have h2:=I.le;rw[O]at h2;have:=HN.o;omega
  have af:=H6.o.zC ac bk.o;have ae:=U.rel p d aP.o;have aA:=zz (GP ae (pad ns) an aa.zero HR.o);have k0:=af.cell 0;have aY:W8.rangeAt ak 0 (zX (pad ns)):=by
   intro j v hv;rw[zp6,V.cell];simpa using hv
  have aX:(prog.info? 155).map (·.size)=some (zX (pad ns)).length:=by rw[zpO,an.len];exact yJ
  have aB:=zz U;have az:=zz aa;have a8:=zz I;have aJ:=zz ac;have a2:=zz ab;clear U O aa an af ae V I ac aN ab
  go_wp2_with (first
   |(refine xW 155 _ rfl ?_;refine y7 zj 155 _ rfl ak 0 rfl (zX (pad ns)) _ aY underlying155 rfl aX ?_)
   |(go_at_call 93;refine aA.o.mono ?_;rintro e w9⟨rfl,ad,Z⟩;have ao:=zz ad;have ay:=zz Z;clear ad Z))
  go_returns;have bo:Y.heap.size<=W8.heap.size:=aJ.o.size;have bv:w.heap.size<=Y.heap.size:=aR.o.size;have aI:=aB.o.Tj aP.o az.o ay.o ao.o;rw[bq.o]at aI;refine⟨_,am,ns,f5,T',_,{ d with R:=Ye d.R (pad ns)},rfl,a8.o,au.o,by rw[<-bu.o],aI,fun q a g L=>?_,fun aZ a g L=>?_,fun k hk=>?_,(aR.o.trans aJ.o fun g L aE=>.inr (.inr (.inl L))).trans ay.o fun g L aE=>?_⟩
  ·rcases L with L |⟨_,_,L,_⟩
   ·exact aG.o q a g L
   ·right;omega
  ·rcases L with L |⟨_,_,L,_⟩
   ·exact aK.o aZ a g L
   ·omega
  ·rcases a2.o k hk with h|h
   ·exact .inl h
   ·right;omega
  ·rcases aC.o g L with h|h
   ·exact h
   ·omega
 ·refine xf fun K hK=>?_
  go_simp;obtain⟨W7,aF,ag⟩:=xi Y 155 #[.int .i32 0,.int .i32 0,.int .i32 0,.int .i32 0,.int .i32 0,.int .i32 0,.int .i32 0,.int .i32 0,.int .i32 0,.int .i32 0,.int .i32 0,.int .i32 0,.int .i32 0,.int .i32 0,.int .i32 0,.int .i32 0,.int .i32 0,.int .i32 0,.int .i32 0,.int .i32 0,.int .i32 0,.int .i32 0,.int .i32 0,.int .i32 0];rw[aF];have ai:Bl Y W7.drew:=ag.below.drew;refine hK.out _ _ (zh.xj _ ai) (fun _=>trivial) ?_;clear hK K aF;try refine zQ ?_
  repeat refine zS ap.o ?_
  refine xf fun K hK=>?_
  go_simp;refine(aV.o _ ai).mono ?_;rintro e w7⟨am,ns,T',rfl,I,a3,a5,aF⟩;have al:zh (·∈T) Y w7:=(zh.xj (·∈T) ai).trans a5 fun x hx _=>hx
  refine hK.out _ _ al (fun _=>trivial) ?_;clear hK K;try refine zQ ?_
  repeat refine zS ap.o ?_
  have X:(zX (pad ns)).length=24:=by
   have:=I.len;rw[zpO,Hn.o]at this;unfold pad;simp;have:=ah.o;omega
  have a6:∀k∈T,k<Y.heap.size:=fun k hk=>aw.o.tab.lt k hk
  have ax:zD w7 Y.heap.size 155 #[.int .i32 0,.int .i32 0,.int .i32 0,.int .i32 0,.int .i32 0,.int .i32 0,.int .i32 0,.int .i32 0,.int .i32 0,.int .i32 0,.int .i32 0,.int .i32 0,.int .i32 0,.int .i32 0,.int .i32 0,.int .i32 0,.int .i32 0,.int .i32 0,.int .i32 0,.int .i32 0,.int .i32 0,.int .i32 0,.int .i32 0,.int .i32 0]:=ag.b0.drew.zC a5 fun h=>zq2 _ (a6 _ h)
  have bh:Y.heap.size∉T':=fun h=>by
   rcases aF _ h with h1|h1
   ·exact zq2 _ (a6 _ h1)
   ·have:=ag.size;have h2:W7.drew.heap.size=W7.heap.size:=rfl;omega
  refine xf fun K hK=>?_
  refine Xu 155 _ _ rfl Y.heap.size 0 _ _ ax (zX (pad ns)) rfl rfl (by rw[X];decide) (by rw[X];exact yJ) (X7 _) ?_;intro W8 N;have ac:zh (·∈T) Y W8:=al.trans N.zC fun x hx aE=>zd
  refine hK.out _ _ ac (fun _=>trivial) ?_;clear hK K;try refine zQ ?_
  repeat refine zS ap.o ?_
  refine xt ?_;have V:zD W8 Y.heap.size 155 (zX (pad ns)).toArray:=by
   have:=N.zH;rw[X]at this;simpa using this
  have aN:qv W8 tb 2147483647 am T':=a3.same fun k hk=>N.zC.block k (a3.lt k hk) fun e=>bh (e▸hk)
  have ab:∀k∈T',k∈T\/Y.heap.size<=k:=fun k hk=>(aF k hk).imp id fun h=>zpK ai.size h
  obtain⟨ak,aH⟩:∃ak,Y.heap.size=ak:=⟨_,rfl⟩;rw[aH]at V ⊢;have bJ:=zz aH;clear aH;clear N ag al ai a5 a3 aF X a6 ax bh;have U:=aw.o.TM ac aN I.pre ab;have O:(args.map Vl.val).length=n:=by rw[zpO];exact Hn.o
  have aa:yT am d.ar (pad ns):=by
   have:=I.JK (by rw[O];exact ah.o);rw[O]at this;rw[au.o];exact this
  have an:Rw (pad ns):=Rw.pad (by rw[I.len,O];exact ah.o) fun k hk=>by
   have h1:=I.lt k hk;have h2:=I.le;rw[O]at h2;have:=HN.o;omega
  have af:=H6.o.zC ac bk.o;have ae:=U.rel p d aP.o;have aA:=zz (GP ae (pad ns) an aa.zero HR.o);have k0:=af.cell 0;have aY:W8.rangeAt ak 0 (zX (pad ns)):=by
   intro j v hv;rw[zp6,V.cell];simpa using hv
  have aX:(prog.info? 155).map (·.size)=some (zX (pad ns)).length:=by rw[zpO,an.len];exact yJ
  have aB:=zz U;have az:=zz aa;have a8:=zz I;have aJ:=zz ac;have a2:=zz ab;clear U O aa an af ae V I ac aN ab
  go_wp2_with (first
   |(refine xW 155 _ rfl ?_;refine y7 zj 155 _ rfl ak 0 rfl (zX (pad ns)) _ aY underlying155 rfl aX ?_)
   |(go_at_call 93;refine aA.o.mono ?_;rintro e w9⟨rfl,ad,Z⟩;have ao:=zz ad;have ay:=zz Z;clear ad Z))
  go_returns;have bo:Y.heap.size<=W8.heap.size:=aJ.o.size;have bv:w.heap.size<=Y.heap.size:=aR.o.size;have aI:=aB.o.Tj aP.o az.o ay.o ao.o;rw[bq.o]at aI;refine⟨_,am,ns,f5,T',_,{ d with R:=Ye d.R (pad ns)},rfl,a8.o,au.o,by rw[<-bu.o],aI,fun q a g L=>?_,fun aZ a g L=>?_,fun k hk=>?_,(aR.o.trans aJ.o fun g L aE=>.inr (.inr (.inl L))).trans ay.o fun g L aE=>?_⟩
  ·rcases L with L |⟨_,_,L,_⟩
   ·exact aG.o q a g L
   ·right;omega
  ·rcases L with L |⟨_,_,L,_⟩
   ·exact aK.o aZ a g L
   ·omega
  ·rcases a2.o k hk with h|h
   ·exact .inl h
   ·right;omega
  ·rcases aC.o g L with h|h
   ·exact h
   ·omega
theorem DP{zR:Nat}(h:qv w q zR vs T):vs.Nodup:=by
 obtain⟨L,A,I,D,h,_⟩:=h;exact h.nodup
theorem zeO{us:List z6}{R:List (List Nat)}(h:∀r∈R,yT vs q r)(I:vs <+: us):rowsOf us q R=rowsOf vs q R:=zrh fun r L=>znA (h r L) I
theorem Uk(vs:List z6)(h:Nat)(R:List (List Nat)):(rowsOf vs h R).length=R.length:=zpO _
theorem _root_.List.zd2{α:Type}{P:List α->Prop}(l:List α)(nil:P [])(snoc:∀l x,P l->P (l++[x])):P l:=by
 have:∀n (l:List α),l.length=n->P l:=fun n=>by
  induction n with
  |zero=>intro l h;rw[List.length_eq_zero_iff.1 h];exact nil
  |succ n I=>
   intro l h;have q:l≠[]:=fun e=>by rw[e]at h;cases h
   rw[<-List.dropLast_concat_getLast q];exact snoc _ _ (I _ (by rw[List.length_dropLast];omega))
 exact this _ l rfl
theorem zim(h:yd w wb G S N)(x:Fa)(hl:zZ Vl.cells w x.A x.args)(aj:x.args≠[]->qV (fun g=>¬S g) x.A)(ai:∀v∈x.args,v.ok/\v.val.wf)(hp:x.p.size<=maxLen)(O:x.args.length<=24)(hN:N+x.args.length<=2147483647)(ae:∀a R,G x.p=some (a,R)->a=x.args.length/\R.length<=4194304):Calls prog 43 #[.pointer (some ⟨wb,0,none⟩),.agg x.cells.toArray] w (zmV wb G S N x w):=by
 obtain⟨tb,pb,vs,f,D,T,own,h,hG,al,hs⟩:=h;have U:x.args≠[]->qV (fun g=>¬Zp wb pb T D own g) x.A:=fun I g V L=>aj I g V (hs g L)
 have ak:Calls prog 43 #[.pointer (some ⟨wb,0,none⟩),.agg x.cells.toArray] w (DX wb tb pb vs D T own x.p x.args.length (x.args.map Vl.val) w):=by
  rcases hd:D x.p with _|d
  ·exact ziW h x.p x.A x.cap x.args.length x.args rfl hl U ai O zd hp hd
  ·have:=ae d.ar (rowsOf vs d.ar d.R) (by rw[hG,hd];rfl);rw[Uk]at this;exact ziq h x.p x.A x.cap x.args.length x.args rfl hl U ai O zd hp d hd this.1 this.2
 refine ak.mono ?_;rintro e w'⟨b,ag,ns,f',T',af,d,rfl,I,ah,ad,Z,xV,ab,hT,hc⟩;have L:(x.args.map Vl.val).length=x.args.length:=zpO _;have ac:(x.args.map Vl.val).map z6.vl=x.args:=by
  rw[List.map_map];exact(zrh fun v _=>Ta v).trans (List.map_id _)
 have W:=I.JK (by rw[L];exact O);have hv:=I.zgz (by rw[L];exact O);rw[L]at W hv;rw[ac]at hv;refine⟨b,rfl,⟨tb,pb,ag,f',Yl D x.p d,T',af,Z,fun q=>?_,?_,fun g V=>?_⟩,hc.mono fun g V _=>hs g V⟩
 ·unfold Z8 Yl
  by_cases hq:q=x.p
  ·rw[if_pos hq,if_pos hq,zqh,ah,ad]
   congr 1
   congr 1
   have X:∀r∈((D x.p).map (·.R)).getD [],yT ag x.args.length r:=fun r hr=>by
    have:=Z.rows x.p d (by unfold Yl;rw[if_pos rfl]) r (by
     rw[ad];unfold Ye;split
     ·exact hr
     ·exact zp0 _ hr)
    rw[ah]at this;exact this
   rw[(ziS (DP Z.tab) O X W).1,hv]
   congr 1
   rw[hG x.p]
   rcases hd:D x.p with _|Y
   ·rfl
   ·rw[hd]at X;simp only[zqh,zqr]at X ⊢;have:=ae Y.ar (rowsOf vs Y.ar Y.R) (by rw[hG,hd];rfl);rw[this.1];exact(zeO (fun r hr=>this.1▸h.rows x.p Y hd r hr) I.pre).symm
  ·rw[if_neg hq,if_neg hq,hG q]
   rcases hd:D q with _|Y
   ·rfl
   ·rw[zqh,zqh,zeO (fun r hr=>h.rows q Y hd r hr) I.pre]
 ·have:=I.le;rw[L]at this;omega
 ·rcases V with rfl|rfl|V |⟨q,e,a,he,V⟩
  ·exact .inl (hs _ (.inl rfl))
  ·exact .inl (hs _ (.inr (.inl rfl)))
  ·rcases hT g V with X|X
   ·exact .inl (hs _ (.inr (.inr (.inl X))))
   ·exact .inr X
  ·by_cases aa:w.heap.size<=g
   ·exact .inr aa
   ·left
    rcases xV q a g V with X|X
    ·rcases Vn he with⟨rfl,rfl⟩ |⟨_,he⟩
     ·rcases hd:D x.p with _|Y
      ·exact(aa (ab hd a g V)).elim
      ·exact hs _ (.inr (.inr (.inr ⟨x.p,Y,a,hd,X⟩)))
     ·exact hs _ (.inr (.inr (.inr ⟨q,e,a,he,X⟩)))
    ·exact(aa X).elim
noncomputable def yz(l:List Fa):yW:=l.foldl (fun G x=>Z8 G x.p x.args) fun _=>none
theorem zao(l:List Fa)(x:Fa):yz (l++[x])=Z8 (yz l) x.p x.args:=by unfold yz;rw[zqQ];rfl
theorem zd9(R:List (List Vl))(x:List Vl):(Vf R x).length<=R.length+1:=by
 unfold Vf;split<;>simp
theorem DM:∀(l:List Fa)(p:ByteArray)(a:Nat)(R:List (List Vl)),yz l p=some (a,R)->(∃x∈l,x.p=p/\x.args.length=a)/\R.length<=l.length:=fun l=>by
 induction l using List.zd2 with
 |nil=>intro p a R h;cases h
 |snoc l x I=>
  intro p a R h;rw[zao]at h;unfold Z8 at h;split at h
  ·rename_i e;injection h with h
   injection h with q L
   refine⟨⟨x,zp,e.symm,q⟩,?_⟩;rw[<-L,zpA,zqs];refine zpK (zd9 _ _) (Nat.succ_le_succ ?_)
   rcases hq:yz l x.p with _ |⟨N,O⟩
   ·simp
   ·exact(I x.p N O hq).2
  ·obtain⟨⟨y,N,q⟩,L⟩:=I p a R h;exact⟨⟨y,by simp[N],q⟩,zb⟩
theorem zeJ(h:yd w q G S N):Calls prog 51 #[.pointer (some ⟨q,0,none⟩)] w fun e I=>e=.returned (.bool true)/\I=w:=by
 obtain⟨L,I,R,f,D,T,own,h,-⟩:=h;have O:=h.zH.cell 1;have U:∀W,(binOp .neq 115 (.map (some I)) (.map none)).run prog W=.ok (.bool true) W:=fun W=>zo
 clear h;go_enter func51,ntmps51;go_wp2;go_returns;exact⟨rfl,rfl⟩
def YF(G:yW)(p:ByteArray):Nat:=(((G p).map (·.2)).getD []).length
theorem JY{Y:Nat}(h:yd w Y G S N)(p:ByteArray)(hp:p.size<=maxLen):Calls prog 15 #[.pointer (some ⟨Y,0,none⟩),.string p] w fun e q=>e=.returned (.int .i64 (YF G p:Int))/\Bl w q:=by
 have X:=zz (zeJ h);obtain⟨tb,Z,vs,f,D,T,own,h,O,-⟩:=h;have k1:=h.zH.cell 1;have q:=h.map.look q8 underlying115 (z:=.agg #[.pointer none,.pointer none]) zo (ye hp) true;rw[h.XM p]at q
 rcases hd:D p with _|d
 ·rw[hd]at q;have U:=zz (show YF G p=0 by unfold YF;rw[O,hd];rfl)
  replace q:(Instr.lookup 115 (.map (some Z)) (.string p) true).run prog w=.ok (.tuple #[.agg #[.pointer none,.pointer none],.bool false]) w:=q
  clear h O hd;go_enter func15,ntmps15
  go_wp2_with (go_at_call 51;refine X.o.mono ?_;rintro e V⟨rfl,I⟩;obtain rfl:=I.symm)
  go_returns;exact⟨by rw[U.o];rfl,xq w _⟩
 ·rw[hd]at q;have U:=zz (show YF G p=d.R.length by unfold YF;rw[O,hd];exact Uk _ _ _)
  replace q:(Instr.lookup 115 (.map (some Z)) (.string p) true).run prog w=.ok (.tuple #[.agg #[.pointer (some ⟨d.rb,0,none⟩),.pointer (some ⟨d.bb,0,none⟩)],.bool true]) w:=q
  have L:=zz (fun W (hW:Bl w W)=>UR ((h.rel p d hd).below hW));clear h O hd;go_enter func15,ntmps15
  go_wp2_with (first
   |(go_at_call 51;refine X.o.mono ?_;rintro e V⟨rfl,I⟩;obtain rfl:=I.symm)
   |(go_at_call 52;refine(L.o _ (xq _ _)).mono ?_;rintro e V⟨rfl,rfl⟩))
  go_returns;exact⟨by rw[U.o];rfl,xq w _⟩
theorem yd.more{M:Nat}(h:yd w q G S N)(W:N<=M):yd w q G S M:=by
 obtain⟨I,R,L,f,D,T,own,h,U,V,O⟩:=h;exact⟨I,R,L,f,D,T,own,h,U,zd,O⟩
theorem yL.fresh{L I:Nat}(O:zD w L 117 #[.pointer (some ⟨I,0,none⟩),.map (some q)])(V:qv w I 2147483647 [] T)(N:xv prog 9 w q fun _=>none)(U:L∉T)(R:q∉T):
 yL w L I q [] (fun _=>none) (fun _=>none) T fun _ _ _=>False:=
 ⟨O,V,N,fun _=>rfl,fun _ _ h=>(by cases h),fun _ _ h=>(by cases h),fun _ _ h=>(by cases h),fun _ _ h=>(by cases h),fun _ _ h=>(by cases h),fun _ _ h=>(by cases h),fun _ _ _ _ h=>(by cases h),fun _ _ _ _ _ _ _ h=>(by cases h),fun _ _ _ _ h=>(by cases h),U,R⟩
def zfS(fs:List Fa)(w:World)(e:Ending)(w':World):Prop:=∃h,e=.returned (.tuple #[.pointer (some ⟨h,0,none⟩),.int .i64 0])/\yd w' h (yz fs) (fun g=>w.heap.size<=g) (24*fs.length)/\Bl w w'
theorem DU(w:World)(F:Option Addr)(aa X:Nat)(fs:List Fa)(hF:zZ Fa.cells w F fs)(hn:fs.length=X)(hl:∀x∈fs,x.zN w)(hs:∀x∈fs,x.p.size<=maxLen)(ac:∀x∈fs,x.ok)(hc:Cons (fs.map yc))(hb:X<=1048576)(ag:∀g∈zw F,g<w.heap.size)(hv:∀x∈fs,∀v∈x.args,v.ok/\v.val.wf):Calls prog 13 #[.slice F X aa] w (zfS fs w):=by
 have ax:=@run_makeMap prog;have HJ:=zz (zid w F aa X fs hF hn hl hs ac hc hb ag);have am:=zz (fun W=>zls 2147483647 W (zpx _));have HF:=zz hF;have HN:=zz hn;have HL:=zz hl;have HS:=zz hs;have HO:=zz ac;have HC:=zz hc;have Hb:=zz hb;have HV:=zz hv;have HA:=zz (fun x (hx:x∈fs) (Y:x.args≠[])=>zZ.yh (f:=Vl.cells) (fun v e=>(nomatch e)) (hl x hx).rd Y);clear hF hn hl hs ac hc ag hv hb;go_enter func13,ntmps13;go_upto_region 7 with(first
  |(go_at_call 41;refine HJ.o.mono ?_;rintro e w1⟨rfl,al⟩;have aj:=zz al;clear al)
  |(go_at_call 42;refine(am.o w1).mono ?_;rintro e N⟨tb,T,rfl,Z,hT,ad⟩;have HT:=zz Z;have ak:=zz hT;have ae:=zz (zl aj.o ad);have ai:=zz ad;clear ad Z hT))
 obtain⟨W4,q⟩:∃W4,N.alloc (.map #[] 0)=W4:=⟨_,rfl⟩;have ah:W4.heap.size=N.heap.size+1:=by rw[<-q];simp
 have V:Bl N W4:=by rw[<-q];exact xq N _
 have ab:xv prog 9 W4 N.heap.size fun _=>none:=by rw[<-q];exact xv.new N 0
 obtain⟨W5,af,L⟩:=xi W4 117 #[.pointer (some ⟨tb,0,none⟩),.map (some N.heap.size)];have hk:zD W5 (N.heap.size+1) 117 #[.pointer (some ⟨tb,0,none⟩),.map (some N.heap.size)]:=ah▸L.b0;have HB:Kz (Bl w W5):=zl ae.o (zl V L.below);have U:=zz (show yd W5 (N.heap.size+1) (yz (fs.take 0)) (fun g=>w.heap.size<=g) (24*0)from by
  have an:Bl N W5:=zl V L.below;refine⟨tb,N.heap.size,[],fun _=>none,fun _=>none,T,fun _ _ _=>False,yL.fresh hk (HT.o.same fun g O=>an.block g (HT.o.lt g O)) (ab.below L.below) (fun h=>?_) fun h=>?_,fun _=>rfl,zpx _,fun g O=>?_⟩
  ·have:=HT.o.lt _ h;omega
  ·have:=HT.o.lt _ h;omega
  ·have h1:=aj.o.size;have h3:=ae.o.size
   rcases O with rfl|rfl|O |⟨p,d,a,hd,_⟩
   ·omega
   ·omega
   ·exact zpK h1 (ak.o g O)
   ·cases hd)
 have ao:=zz q;have ar:=zz af;clear q ah V af L hk ab ae ai HT ak;generalize q:N.heap.size+1=wb at U;have aq:=zz q;clear q;go_wp2;rw[ao.o,ar.o,aq.o]
 go_loopg[9,10,11,30] X (fun gk s9 V ab q L=>∃i:Nat,i<=X/\gk=X-i/\q=.int .i64 (i:Int)/\yd L wb (yz (fs.take i)) (fun g=>w.heap.size<=g) (24*i)/\Bl w L)
 case atStart=>exact⟨0,zpD _,rfl,rfl,U.o,HB.o⟩
 case round=>
  obtain⟨i,hi,rfl,rfl,hW,q⟩:=hrel;have HB:=zz q;have U:=zz hW;clear q hW
  by_cases ah:i<X
  ·have q:i<fs.length:=by rw[HN.o];exact ah
   obtain⟨b,o,rfl,av,hr⟩:=(HF.o.below HB.o).at Fa.xG i q;have V:=zz (show yz (fs.take (i+1))=Z8 (yz (fs.take i)) fs[i].p fs[i].args by
    rw[<-zao,List.take_add_one,zpF q];rfl)
   have L:=zz (fun W (hW:Bl wr W)=>zim (U.o.below hW) fs[i] (((HL.o _ (zpB q)).rd.below HB.o).below hW) (fun Y g O ab=>zq2 _ (zpz (HA.o _ (zpB q) Y g O) ab)) (HV.o _ (zpB q)) (HS.o _ (zpB q)) (HO.o _ (zpB q)).2.1
    (by have:=(HO.o _ (zpB q)).2.1;have:=Hb.o;omega) (fun a R h=>by
     obtain⟨⟨y,Y,h1,h2⟩,h3⟩:=DM _ _ _ _ h;refine⟨?_,by rw[zp3]at h3;have:=Hb.o;omega⟩;rw[<-h2];exact HC.o _ (List.mem_map_of_mem (zqW Y)) _ (List.mem_map_of_mem (zpB q)) h1))
   have Y:=zz (HO.o _ (zpB q)).2.1;generalize fs[i]=x at hr V L Y;obtain⟨p,A2,au,I⟩:=x;simp only[Fa.cells]at hr L Y;have ab:∃n,I.length=n:=⟨_,rfl⟩;obtain⟨n,af⟩:=ab;have ab:=zz af;rw[af]at hr L Y;clear af
   replace hr:wr.rangeAt b (o+i*2) _:=hr
   obtain⟨d0,d1⟩:=two hr;clear hr;have aw:=Hb.o
   go_wp2_with (go_at_call 43;refine(L.o _ (xq _ _)).mono ?_;rintro e w2⟨bb,rfl,af,ap⟩)
   go_roundg (X-(i+1))
   case measure=>omega
   case rel=>
    refine⟨i+1,ah,rfl,ze,?_,?_⟩
    ·rw[V.o];have an:=HB.o.size;refine((af.mono fun g O=>?_).more ?_)
     ·rcases O with O|O
      ·exact O
      ·refine zpK an (zpK ?_ O);simp
     ·have:=Y.o;rw[ab.o];omega
    ·exact ap.qt (zl HB.o (xq _ _)) (zpx _) fun _ hx=>hx
  ·obtain rfl:i=X:=zd;have q:=zz (show yd wr wb (yz fs) (fun g=>w.heap.size<=g) (24*fs.length) by
    have:=U.o;rw[zpT (zq4 HN.o)]at this;rw[HN.o];exact this)
   go_wp2;go_returns;exact⟨wb,rfl,q.o,HB.o⟩
end
