/-
  A run: a step that asks that nothing is there. A run: a step
-/
import Derived.Test.YtfdickkdlcgicaaGreatDoorQ33
set_option maxRecDepth 100000
set_option maxHeartbeats 8000000
set_option linter.all false
namespace Go.Proofs.YtfdickkdlcgicaaGreatDoor.C
open Go.Proofs.Tryz Go Go.RowKit Go.Maps Go.WideMaps
variable {K:List ByteArray}{P:ByteArray->Option Pd}{R:List (List Nat)}{T ns x:List Nat}{args:List Tm}{hi lo m n zR:Nat}{p:ByteArray}{rest:List St}{vs:List z6}{w:World}{ρ:Env}
section
structure DI (c:Cx) (K:List ByteArray) (x:At) (m:Nat):Prop where
 n24:x.args.length<=24
 m2:m<2 ^ x.args.length
 sz:∀t∈x.args,t.v.size<=maxLen
 p:x.p.size<=maxLen
 val:∀ρ,Yj ρ->Ya ρ K->∀i (h:i<x.args.length),m.testBit i=true->(x.args[i].at ρ).val.wf
 ar:∀a R,c.G x.p=some (a,R)->a=x.args.length/\R.length<=4194304
theorem zcs(h:n∈qL R m x):n<R.length:=zqA.1 (zrd.1 h).1
theorem zmg(h:vs.Nodup)(N:Jt vs m ρ args x)(I:∀r∈R,yT vs args.length r)(L:args.length<=24)(q:m<2 ^ args.length):
 XN (rowsOf vs args.length R) m ρ args 0 (rowsOf vs args.length R).length=qL R m x:=by
 rw[zeW h N I L q,Uk];exact List.filter_eq_self.2 fun n h=>by simp[zcs h]
theorem Cx.zfJ{c:Cx}(q:∀p,c.G p=(P p).map fun d=>(d.ar,rowsOf vs d.ar d.R))(h:P p=none):c.R p=[]:=by unfold Cx.R;rw[q,h];rfl
theorem Cx.zbt{c:Cx}(q:∀p,c.G p=(P p).map fun d=>(d.ar,rowsOf vs d.ar d.R)){d:Pd}(h:P p=some d):c.R p=rowsOf vs d.ar d.R:=by unfold Cx.R;rw[q,h];rfl
theorem zcV:XN [] m ρ args lo hi=[]:=rfl
theorem za0.form{w':World}{e:Ending}(h:za0 vs m ρ args w e w'):∃r b,e=.returned (.tuple #[.agg (zX r).toArray,.bool b])/\Bl w w'/\Rw r/\(b=true->Jt vs m ρ args r)/\(b=false->∃i,∃h:i<args.length,m.testBit i=true/\(args[i].at ρ).val∉vs):=by
 obtain⟨L,h|h⟩:=h
 ·obtain⟨r,rfl,I,q⟩:=h;exact⟨r,true,rfl,L,q,fun _=>I,fun h=>by cases h⟩
 ·obtain⟨r,rfl,I,q⟩:=h;exact⟨r,false,rfl,L,I,(fun h=>by cases h),fun _=>q⟩
theorem zn2{c:Cx}(hc:c.qT){x:At}(ha:DI c K x m)(rest:List St):UF c K K (.Xm x m) rest:=by
 intro O D ρ w b2 b3 q I hd hl X V hM;obtain⟨S,U,f,h⟩:=q;obtain⟨tb,pb,vs,fw,P,T,own,N,hG,hN,L,ab⟩:=h.Xs;obtain⟨W0,Y,hX⟩:=xi w 307 #[.string x.p,.slice x.A x.args.length x.cap,.int .u32 (m:Int)];have aF:=zz Y;have HX:=zz hX;have aj:=zz hX.b0;have Hs:=zz h;have Hw:=zz N;have HG:=zz hG;have Z:=zz (zpG hN (zpG L ab));have ao:=zz V;have Ha:=zz ha;have ag:=zz (zpG I hd);have aM:Kz (x.zN w):=hl;have az:Kz (m<2 ^ 24):=zpz ha.m2 (zqo zr ha.n24);have aa:=fun W (q:Bl w W)=>(N.map.below q).look q8 underlying115 (z:=.agg #[.pointer none,.pointer none]) zo (ye ha.p) true
 rw[N.XM x.p]at aa;have ah:Kz (c.solve ((Sv.Xm x m).st::rest) ρ=(if XN (c.R x.p) m ρ x.args 0 (c.R x.p).length=[]then c.solve rest ρ else [])):=rfl;obtain⟨ss,ae⟩:∃ss,c.solve ((Sv.Xm x m).st::rest) ρ=ss:=⟨_,rfl⟩;rw[ae]at ah hM ⊢;have HM:=zz hM;have av:=zz (fun W (q:Bl w W)=>zfW W c.sb c.wb tb pb c.kb c.V9 vs T ρ (h.zH.below q) (N.zH.below q) (N.tab.below q) (DD (h.map.below q) h.Y1.known) x (hl.below q) ha.n24 m az.o ha.sz (ha.val ρ I hd));clear ae h N hG hN L ab V ha I hd hl Y hX X hM;show Calls _ 319 #[.agg #[.string x.p,.slice x.A x.args.length x.cap,.int .u32 (m:Int)],.pointer (some ⟨c.sb,0,none⟩),Gs b2 b3] w _
 rcases hp:P x.p with _|d
 ·rw[hp]at aa;have H1:=zz (show ∀W,Bl W0 W->W.cell? ⟨c.sb,0,none⟩=some (.pointer (some ⟨c.wb,0,none⟩))/\W.cell? ⟨c.wb,1,none⟩=some (.map (some pb))/\W.cell? ⟨w.heap.size,0,none⟩=some (.string x.p)/\(Instr.lookup 115 (.map (some pb)) (.string x.p) true).run prog W=.ok (.tuple #[.agg #[.pointer none,.pointer none],.bool false]) W from fun W q=>
   ⟨(
    Hs.o.zH.below (zl HX.o.below q)).cell 0,(Hw.o.zH.below (zl HX.o.below q)).cell 1,(aj.o.below q).cell 0,by
    have:=aa W (zl HX.o.below q);simpa using this⟩)
  have L:=zz (show ss=c.solve rest ρ by rw[ah.o,Cx.zfJ HG.o hp,zcV,if_pos rfl]);clear aa ah hp;go_enter func319,ntmps319;go_upto_region 1 with fail
  rw[aF.o];refine xX [0,0,0,0,0,0,0,0,0,0,0,0,0,0,2,2,0] (fun W=>Bl W0 W) ?_
  repeat refine zS H1.o ?_
  refine xf fun K hK=>?_
  go_simp;obtain⟨W7,ai,ac⟩:=xi W0 131 #[.pointer none,.pointer none];rw[ai];have ad:Bl W0 W7.drew:=ac.below.drew;refine hK.out _ _ ad (fun _=>trivial) ?_;clear hK K ai;try refine zQ ?_
  repeat refine zS H1.o ?_
  refine xf fun K hK=>?_
  refine Xu 131 _ _ rfl W0.heap.size 0 _ _ ac.b0.drew [.pointer none,.pointer none] rfl rfl zp (zo) zt ?_;intro W8 ab;have N:Bl W0 W8:=ab.below ad (zpx _) (zpx _);refine hK.out _ _ N (fun _=>trivial) ?_;clear hK K;try refine zQ ?_
  repeat refine zS H1.o ?_
  refine xt ?_;have af:=zz (zl HX.o.below N);have aB:Kz (zD W8 W0.heap.size 131 #[.pointer none,.pointer none]):=ab.zH;have X:=zz (aj.o.below N);clear ab N ad ac;have I:=zz (ao.o O D ρ W8 ⟨S,U,f,Hs.o.below hc af.o⟩ ag.o.1 ag.o.2 (xB.below af.o) (L.o▸HM.o))
  go_wp2_with (go_at_call 172;refine(I.o).mono ?_;intro e w6 V;have HE:=zz V;obtain⟨rfl,-⟩:=V)
  go_end0;rw[L.o];exact HE.o.qt af.o
 ·rw[hp]at aa;have H1:=zz (show ∀W,Bl W0 W->W.cell? ⟨c.sb,0,none⟩=some (.pointer (some ⟨c.wb,0,none⟩))/\W.cell? ⟨c.wb,1,none⟩=some (.map (some pb))/\W.cell? ⟨w.heap.size,0,none⟩=some (.string x.p)/\(Instr.lookup 115 (.map (some pb)) (.string x.p) true).run prog W=.ok (.tuple #[.agg #[.pointer (some ⟨d.rb,0,none⟩),.pointer (some ⟨d.bb,0,none⟩)],.bool true]) W from fun W q=>
   ⟨(Hs.o.zH.below (zl HX.o.below q)).cell 0,(Hw.o.zH.below (zl HX.o.below q)).cell 1,(aj.o.below q).cell 0,aa W (zl HX.o.below q)⟩)
  have Y:=Ha.o.ar d.ar (rowsOf vs d.ar d.R) (by rw[HG.o,hp];rfl);rw[Uk]at Y;have aP:=zz Y;have HR:=zz (show c.R x.p=rowsOf vs x.args.length d.R by rw[Cx.zbt HG.o hp,Y.1]);have ay:=zz (show ∀r∈d.R,yT vs x.args.length r from fun r hr=>Y.1▸Hw.o.rows x.p d hp r hr);have ak:=zz (fun W (q:Bl w W) r (hr:Rw r)=>zkA ((Hw.o.rel x.p d hp).below q) ((Hw.o.book x.p d hp).below q) m (Hw.o.ar x.p d hp) (Y.1▸Ha.o.m2) Y.2 (fun g h1 h2=>by have:=(Hw.o.apart x.p x.p d d false true g hp hp h1 h2).2;cases this) (fun g hg=>zpz (Hw.o.lt x.p d true g hp hg) q.size) r hr);have Hp:=zz hp;clear aa hp Y;go_enter func319,ntmps319;go_upto_region 1 with fail
  rw[aF.o];refine xX [0,0,0,0,0,0,0,0,0,0,0,0,0,0,2,2,0] (fun W=>Bl W0 W) ?_
  repeat refine zS H1.o ?_
  refine xf fun K hK=>?_
  go_simp;obtain⟨W7,ai,ac⟩:=xi W0 131 #[.pointer none,.pointer none];rw[ai];have ad:Bl W0 W7.drew:=ac.below.drew;refine hK.out _ _ ad (fun _=>trivial) ?_;clear hK K ai;try refine zQ ?_
  repeat refine zS H1.o ?_
  refine xf fun K hK=>?_
  refine Xu 131 _ _ rfl W0.heap.size 0 _ _ ac.b0.drew [.pointer (some ⟨d.rb,0,none⟩),.pointer (some ⟨d.bb,0,none⟩)] rfl rfl zp (zo) zt ?_;intro W8 ab;have N:Bl W0 W8:=ab.below ad (zpx _) (zpx _);refine hK.out _ _ N (fun _=>trivial) ?_;clear hK K;try refine zQ ?_
  repeat refine zS H1.o ?_
  refine xt ?_;have af:=zz (zl HX.o.below N);have aB:Kz (zD W8 W0.heap.size 131 #[.pointer (some ⟨d.rb,0,none⟩),.pointer (some ⟨d.bb,0,none⟩)]):=ab.zH;have X:=zz (aj.o.below N);clear ab N ad ac;have c0:=X.o.cell 0;have c1:=X.o.cell 1;have c2:=X.o.cell 2;go_upto_region 4 with(first
   |(go_at_call 320;refine(av.o _ af.o).mono ?_;intro e w9 h9;obtain⟨r,b,rfl,aA,ab,aq,Y⟩:=h9.form;clear h9;have an:=zz aA;have aO:=zz ab;have aK:=zz aq;have aN:=zz Y;have am:=zz (show(zX r).length=24 by simp[ab.len]);have aw:=zz (show(prog.info? 155).map (·.size)=some (zX r).length by rw[show(zX r).length=24 by simp[ab.len]];exact yJ);clear aA ab aq Y c0 c1 c2)
   |(refine xy 155 _ _ rfl ?_;refine XG zj 155 _ _ rfl w9.heap.size 0 _ _ (zD.new _ _ _) (zX r) rfl rfl (by simp[am.o]) aw.o (X7 _) ?_;intro ac ai;have ad:=zz ai;clear ai))
  have N:Bl w9 ac:=ad.o.below (xq w9 _) (zpx _) (zpx _);have q:=zz (zl af.o (zl an.o N));have al:zD ac w9.heap.size 155 (zX r).toArray:=by
   have:=ad.o.zH;rw[am.o]at this;simpa using this
  have au:=zz al;have aD:=zz (aB.o.below (zl an.o N));have ap:=zz (X.o.below (zl an.o N));clear N al
  cases b with
  |false=>
   have L:=zz (show ss=c.solve rest ρ by
    obtain⟨i,hi,N,Y⟩:=aN.o rfl;rw[ah.o,HR.o,zfI ay.o Ha.o.n24 i hi N Y,if_pos rfl])
   have I:=zz (ao.o O D ρ ac ⟨S,U,f,Hs.o.below hc q.o⟩ ag.o.1 ag.o.2 (xB.below q.o) (L.o▸HM.o))
   go_wp2_with (go_at_call 172;refine(I.o).mono ?_;intro e w6 V;have HE:=zz V;obtain⟨rfl,-⟩:=V)
   go_end0;rw[L.o];exact HE.o.qt q.o
  |true=>
   have ax:=zmg (ρ:=ρ) (DP Hw.o.tab) (aK.o rfl) ay.o Ha.o.n24 Ha.o.m2;have ae:=ah.o;rw[HR.o,ax]at ae;have Hc:=zz (ak.o ac q.o r aO.o);unfold DK at Hc;obtain⟨k,hk⟩:∃k,(qL d.R m r).length=k:=⟨_,rfl⟩;rw[hk]at Hc;have Hk:=zz hk;have N:=zz ae;have k1:=aD.o.cell 1;have c2:=ap.o.cell 2;have al:=au.o.range;clear ax ae hk;go_upto_region 6 with(first
    |(refine xW 155 _ rfl ?_;refine y7 zj 155 _ rfl w9.heap.size 0 rfl (zX r) _ al underlying155 rfl aw.o ?_)
    |(go_at_call 321;refine Hc.o.mono ?_;rintro e aC⟨rfl,aH,aE⟩;have aJ:=zz aH;have aL:=zz aE;clear aH aE al k1 c2))
   obtain⟨D',aG,aI⟩:=(Hs.o.below hc q.o).zfP hc (Hw.o.zC (zh.xj (fun _=>False) q.o) fun _ _ h=>h) HG.o Z.o.1 Z.o.2.1 Z.o.2.2 Hp.o aL.o aJ.o;have ax:=zz aG;have ae:=zz (show xB D w aC D' from(xB.below q.o).trans aI);clear aG aI
   rcases Nat.eq_zero_or_pos k with h0|h0
   ·subst h0;have L:=zz (show ss=c.solve rest ρ by rw[N.o,if_pos (List.length_eq_zero_iff.1 Hk.o)]);have I:=zz (ao.o O D' ρ aC ax.o ag.o.1 ag.o.2 ae.o (L.o▸HM.o))
    go_wp2_with (go_at_call 172;refine(I.o).mono ?_;intro e w6 V;have HE:=zz V;obtain⟨rfl,-⟩:=V)
    go_end0;rw[L.o];obtain⟨he,D2,aI,aG⟩:=HE.o;exact⟨he,D2,aI,ae.o.trans aG⟩
   ·have L:=zz (show ss=[] by rw[N.o,if_neg (fun e=>by have:=Hk.o;rw[e,zqd]at this;omega)]);have I:(0:Int)<(k:Int):=zd;have V:decide ((0:Int)<(k:Int))=true:=decide_eq_true I;go_wp2;go_end0;rw[L.o];exact⟨rfl,D',by rw[zp7];exact ax.o,ae.o⟩
structure zf6 (c:Cx) (K:List ByteArray) (x:At) (m:Nat) (gives:List ByteArray):Prop where
 atom:DI c K x m
 dom:∀ρ xs,Ya ρ K->x.args.length=xs.length->(fit m 0 x.args xs ρ).1=true->Ya (fit m 0 x.args xs ρ).2 (K++gives)
 back:∀ρ xs,Ya ρ K->Z2 (fit m 0 x.args xs ρ).2 gives=ρ
 sz:∀v∈gives,v.size<=maxLen
 Ze:gives.length<=1048576
theorem zh6{v:z6}(h:v.ok=true):v.vl.ok:=by
 obtain⟨k,n,s⟩:=v;unfold z6.ok at h;simp only[Bool.or_eq_true,zqu,beq_iff_eq,decide_eq_true_eq]at h
 rcases h with⟨I,q⟩ |⟨⟨I,q⟩,L⟩
 ·refine .inl ⟨I,?_⟩;show s=⟨#[]⟩
  cases s with
  |mk d=>congr 1;exact Array.eq_empty_of_size_eq_zero q
 ·exact .inr ⟨I,q,L⟩
theorem zlf{I:Nat}(h:qv w I zR vs T):∀v∈vs,v.vl.ok/\v.wf:=by
 obtain⟨N,A,L,D,h,-⟩:=h;exact fun v q=>⟨zh6 (h.ok v q),h.wf v q⟩
theorem zl9{L:Nat}(h:qv w L zR vs T){q:Nat}{r:List Nat}(N:yT vs q r):∀y∈Xe vs q r,y.ok/\y.val.wf:=fun y I=>by
 unfold Xe at I;obtain⟨n,R,rfl⟩:=zp8.1 I;obtain⟨i,O,rfl⟩:=zpS.1 R;rw[zp3]at O;rw[List.getElem_take];have:=N.lt i zd;rw[getD_at _ zd]at this;unfold Y0;rw[getD_at _ this];obtain⟨I,q⟩:=zlf h _ (zpB this);exact⟨I,q⟩
theorem Yj.fit(h:Yj ρ)(m:Nat)(I:List Tm)(xs:List Vl)(N:∀y∈xs,y.ok/\y.val.wf):Yj (fit m 0 I xs ρ).2:=fun v y L=>by
 rcases TF m I xs 0 ρ v y L with q|q
 ·exact h v y q
 ·exact N y q
theorem zdB(ρ:Env)(q:List ByteArray)(i:Nat)(h:i<q.length):Z2 ρ (q.take (i+1))=ZS (Z2 ρ (q.take i)) q[i]:=by
 rw[zpC h];unfold Z2;rw[zqQ];rfl
noncomputable def Cx.yZ(c:Cx)(p:ByteArray)(args:List Tm)(m lo hi:Nat)(ρ:Env)(rest:List St)(ns:List Nat):List Env:=
 (ns.filter fun n=>decide (lo<=n/\n<hi)).flatMap fun n=>if(fit m 0 args ((c.R p).getD n []) ρ).1=true then c.solve rest (fit m 0 args ((c.R p).getD n []) ρ).2 else []
theorem Cx.zgo{c:Cx}:
 c.yZ p args m lo hi ρ rest (ns++[n])=c.yZ p args m lo hi ρ rest ns++(if lo<=n/\n<hi then(if(fit m 0 args ((c.R p).getD n []) ρ).1=true then c.solve rest (fit m 0 args ((c.R p).getD n []) ρ).2 else [])else []):=by
 unfold Cx.yZ;rw[zrk,zp2]
 congr 1
 by_cases h:lo<=n/\n<hi
 ·rw[if_pos h,zqK (by simpa using h)];simp
 ·rw[if_neg h,zqp (by simpa using h)];rfl
theorem Cx.zku{c:Cx}(i:Nat):(c.yZ p args m lo hi ρ rest (ns.take i)).length<=(c.yZ p args m lo hi ρ rest ns).length:=by
 have h:c.yZ p args m lo hi ρ rest ns=c.yZ p args m lo hi ρ rest (ns.take i)++c.yZ p args m lo hi ρ rest (ns.drop i):=by
  unfold Cx.yZ;rw[<-zp2,<-zrk,zqi]
 rw[h,zpA];omega
theorem zlL{c:Cx}(hc:c.qT){x:At}{I:List ByteArray}(bL:zf6 c K x m I)(B:Option Addr)(al lo hi:Nat)(rest:List St):UF c K (K++I) (.rows x m B al I lo hi) rest:=by
 intro O D ρ w b2 b3 N L hd hl V Z hM;obtain⟨S,U,f,h⟩:=N;obtain⟨tb,pb,vs,fw,P,T,own,Y,hG,hN,X,ak⟩:=h.Xs;have N:=bL.atom;obtain⟨W0,aa,hX⟩:=xi w 313 #[.string x.p,.slice x.A x.args.length x.cap,.int .u32 (m:Int),.slice B I.length al,.int .i64 (lo:Int),.int .i64 (hi:Int)];have cj:=zz aa;have HX:=zz hX;have br:=zz hX.b0;have Hs:=zz h;have Hw:=zz Y;have HG:=zz hG;have ai:=zz (zpG hN (zpG X ak));have cA:=zz Z;have Ha:=zz N;have aG:=zz bL;have bs:=zz (zpG L hd);have bc:Kz (x.zN w):=hl.1;have ce:Kz (zZ xD w B I):=hl.2;have af:Kz ((qV (fun g=>¬D g/\g<w.heap.size) x.A)/\qV (fun g=>¬D g/\g<w.heap.size) B):=V;have bt:Kz (m<2 ^ 24):=zpz N.m2 (zqo zr N.n24);have aB:=fun W (hW:Bl w W)=>(Y.map.below hW).look q8 underlying115 (z:=.agg #[.pointer none,.pointer none]) zo (ye N.p) true
 rw[Y.XM x.p]at aB;have aN:Kz (c.solve ((Sv.rows x m B al I lo hi).st::rest) ρ=(XN (c.R x.p) m ρ x.args lo hi).flatMap fun n=>if(fit m 0 x.args ((c.R x.p).getD n []) ρ).1=true then c.solve rest (fit m 0 x.args ((c.R x.p).getD n []) ρ).2 else []):=rfl;obtain⟨ss,ac⟩:∃ss,c.solve ((Sv.rows x m B al I lo hi).st::rest) ρ=ss:=⟨_,rfl⟩;rw[ac]at aN hM ⊢;have HM:=zz hM;have bD:=zz (fun W (hW:Bl w W)=>zfW W c.sb c.wb tb pb c.kb c.V9 vs T ρ (h.zH.below hW) (Y.zH.below hW) (Y.tab.below hW) (DD (h.map.below hW) h.Y1.known) x (hl.1.below hW) N.n24 m bt.o N.sz (N.val ρ L hd));clear ac h Y hG hN X ak Z N L hd hl aa hX V bL hM;show Calls _ 330 #[.agg #[.string x.p,.slice x.A x.args.length x.cap,.int .u32 (m:Int),.slice B I.length al,.int .i64 (lo:Int),.int .i64 (hi:Int)],.pointer (some ⟨c.sb,0,none⟩),Gs b2 b3] w _
 rcases hp:P x.p with _|d
 ·rw[hp]at aB;have H1:=zz (show ∀W,Bl W0 W->W.cell? ⟨c.sb,0,none⟩=some (.pointer (some ⟨c.wb,0,none⟩))/\W.cell? ⟨c.wb,1,none⟩=some (.map (some pb))/\W.cell? ⟨w.heap.size,0,none⟩=some (.string x.p)/\(Instr.lookup 115 (.map (some pb)) (.string x.p) true).run prog W=.ok (.tuple #[.agg #[.pointer none,.pointer none],.bool false]) W from fun W hW=>
   ⟨(
    Hs.o.zH.below (zl HX.o.below hW)).cell 0,(Hw.o.zH.below (zl HX.o.below hW)).cell 1,(br.o.below hW).cell 0,by
    have:=aB W (zl HX.o.below hW);simpa using this⟩)
  have ad:=zz (show ss=[] by rw[aN.o,Cx.zfJ HG.o hp,zcV];rfl);clear aB aN hp;go_enter func330,ntmps330;go_upto_region 1 with fail
  rw[cj.o];refine xX [0,0,0,0,0,0,0,0,0,0,0,0,0,0,2,2,0] (fun W=>Bl W0 W) ?_
  repeat refine zS H1.o ?_
  refine xf fun K hK=>?_
  go_simp;obtain⟨W7,ag,aa⟩:=xi W0 131 #[.pointer none,.pointer none];rw[ag];have ab:Bl W0 W7.drew:=aa.below.drew;refine hK.out _ _ ab (fun _=>trivial) ?_;clear hK K ag;try refine zQ ?_
  repeat refine zS H1.o ?_
  refine xf fun K hK=>?_
  refine Xu 131 _ _ rfl W0.heap.size 0 _ _ aa.b0.drew [.pointer none,.pointer none] rfl rfl zp (zo) zt ?_;intro W8 Z;have V:Bl W0 W8:=Z.below ab (zpx _) (zpx _);refine hK.out _ _ V (fun _=>trivial) ?_;clear hK K;try refine zQ ?_
  repeat refine zS H1.o ?_
  refine xt ?_;have a9:=zz (zl HX.o.below V);have bH:Kz (zD W8 W0.heap.size 131 #[.pointer none,.pointer none]):=Z.zH;have X:=zz (br.o.below V);clear Z V ab aa;have c0:=X.o.cell 0;have c1:=X.o.cell 1;have c2:=X.o.cell 2
  go_wp2_with (first
   |(go_at_call 320;refine(bD.o _ a9.o).mono ?_;intro e w9 h9;obtain⟨r,b,rfl,a6,ah,aV,aF⟩:=h9.form;clear h9;have aO:=zz a6;have cm:=zz ah;have cc:=zz aV;have aR:=zz aF;have aM:=zz (show(zX r).length=24 by simp[ah.len]);have bm:=zz (show(prog.info? 155).map (·.size)=some (zX r).length by rw[show(zX r).length=24 by simp[ah.len]];exact yJ);clear a6 ah aV aF c0 c1 c2)
   |(refine xy 155 _ _ rfl ?_;refine XG zj 155 _ _ rfl w9.heap.size 0 _ _ (zD.new _ _ _) (zX r) rfl rfl (by simp[aM.o]) bm.o (X7 _) ?_;intro ae ax;have aw:=zz ax;clear ax))
  have N:Bl w9 ae:=aw.o.below (xq w9 _) (zpx _) (zpx _);have L:=zz (zl a9.o (zl aO.o N));go_end0;rw[ad.o];exact⟨rfl,D,by rw[zp7];exact⟨S,U,f,Hs.o.below hc L.o⟩,xB.below L.o⟩
 ·rw[hp]at aB;have H1:=zz (show ∀W,Bl W0 W->W.cell? ⟨c.sb,0,none⟩=some (.pointer (some ⟨c.wb,0,none⟩))/\W.cell? ⟨c.wb,1,none⟩=some (.map (some pb))/\W.cell? ⟨w.heap.size,0,none⟩=some (.string x.p)/\(Instr.lookup 115 (.map (some pb)) (.string x.p) true).run prog W=.ok (.tuple #[.agg #[.pointer (some ⟨d.rb,0,none⟩),.pointer (some ⟨d.bb,0,none⟩)],.bool true]) W from fun W hW=>
   ⟨(Hs.o.zH.below (zl HX.o.below hW)).cell 0,(Hw.o.zH.below (zl HX.o.below hW)).cell 1,(br.o.below hW).cell 0,aB W (zl HX.o.below hW)⟩)
  have Y:=Ha.o.ar d.ar (rowsOf vs d.ar d.R) (by rw[HG.o,hp];rfl);rw[Uk]at Y;have cs:=zz Y;have HR:=zz (show c.R x.p=rowsOf vs x.args.length d.R by rw[Cx.zbt HG.o hp,Y.1]);have cg:=zz (show ∀r∈d.R,yT vs x.args.length r from fun r hr=>Y.1▸Hw.o.rows x.p d hp r hr);have bK:=zz (fun W (hW:Bl w W) r (hr:Rw r)=>zln ((Hw.o.rel x.p d hp).below hW) ((Hw.o.book x.p d hp).below hW) m (Hw.o.ar x.p d hp) (Y.1▸Ha.o.m2) Y.2 (fun g h1 h2=>by have:=(Hw.o.apart x.p x.p d d false true g hp hp h1 h2).2;cases this) (fun g hg=>zpz (Hw.o.lt x.p d true g hp hg) hW.size) r hr);have Hp:=zz hp;clear aB hp Y;go_enter func330,ntmps330;go_upto_region 1 with fail
  rw[cj.o];refine xX [0,0,0,0,0,0,0,0,0,0,0,0,0,0,2,2,0] (fun W=>Bl W0 W) ?_
  repeat refine zS H1.o ?_
  refine xf fun K hK=>?_
  go_simp;obtain⟨W7,ag,aa⟩:=xi W0 131 #[.pointer none,.pointer none];rw[ag];have ab:Bl W0 W7.drew:=aa.below.drew;refine hK.out _ _ ab (fun _=>trivial) ?_;clear hK K ag;try refine zQ ?_
  repeat refine zS H1.o ?_
  refine xf fun K hK=>?_
  refine Xu 131 _ _ rfl W0.heap.size 0 _ _ aa.b0.drew [.pointer (some ⟨d.rb,0,none⟩),.pointer (some ⟨d.bb,0,none⟩)] rfl rfl zp (zo) zt ?_;intro W8 Z;have V:Bl W0 W8:=Z.below ab (zpx _) (zpx _);refine hK.out _ _ V (fun _=>trivial) ?_;clear hK K;try refine zQ ?_
  repeat refine zS H1.o ?_
  refine xt ?_;have a9:=zz (zl HX.o.below V);have bH:Kz (zD W8 W0.heap.size 131 #[.pointer (some ⟨d.rb,0,none⟩),.pointer (some ⟨d.bb,0,none⟩)]):=Z.zH;have X:=zz (br.o.below V);clear Z V ab aa;have c0:=X.o.cell 0;have c1:=X.o.cell 1;have c2:=X.o.cell 2;go_upto_region 3 with(first
   |(go_at_call 320;refine(bD.o _ a9.o).mono ?_;intro e w9 h9;obtain⟨r,b,rfl,a6,ah,aV,aF⟩:=h9.form;clear h9;have aO:=zz a6;have cm:=zz ah;have cc:=zz aV;have aR:=zz aF;have aM:=zz (show(zX r).length=24 by simp[ah.len]);have bm:=zz (show(prog.info? 155).map (·.size)=some (zX r).length by rw[show(zX r).length=24 by simp[ah.len]];exact yJ);clear a6 ah aV aF c0 c1 c2)
   |(refine xy 155 _ _ rfl ?_;refine XG zj 155 _ _ rfl w9.heap.size 0 _ _ (zD.new _ _ _) (zX r) rfl rfl (by simp[aM.o]) bm.o (X7 _) ?_;intro ae ax;have aw:=zz ax;clear ax))
  have N:Bl w9 ae:=aw.o.below (xq w9 _) (zpx _) (zpx _);have L:=zz (zl a9.o (zl aO.o N));have V:zD ae w9.heap.size 155 (zX r).toArray:=by
   have:=aw.o.zH;rw[aM.o]at this;simpa using this
  have bV:=zz V;have aY:=zz (bH.o.below (zl aO.o N));have a1:=zz (X.o.below (zl aO.o N));have cn:Kz (W0.heap.size<W8.heap.size):=bH.o.lt;clear N V
  cases b with
  |false=>
   have ad:=zz (show ss=[] by
    obtain⟨i,V,N,aF⟩:=aR.o rfl;rw[aN.o,HR.o,zfI cg.o Ha.o.n24 i V N aF];rfl)
   go_wp2;go_end0;rw[ad.o];exact⟨rfl,D,by rw[zp7];exact⟨S,U,f,Hs.o.below hc L.o⟩,xB.below L.o⟩
  |true=>
   have ac:=aN.o;have N:=zeW (ρ:=ρ) (DP Hw.o.tab) (cc.o rfl) cg.o Ha.o.n24 Ha.o.m2 lo hi;rw[<-HR.o]at N;rw[N]at ac;have bv:Kz (ss=c.yZ x.p x.args m lo hi ρ rest (qL d.R m r)):=ac;have k1:=aY.o.cell 1;have c2:=a1.o.cell 2;have ab:=bV.o.range;clear ac N aN;go_upto_region 6 with(first
    |(refine xW 155 _ rfl ?_;refine y7 zj 155 _ rfl w9.heap.size 0 rfl (zX r) _ ab underlying155 rfl bm.o ?_)
    |(go_at_call 331;refine(bK.o ae L.o r cm.o).mono ?_;rintro e aP⟨w1,A,b6,n,rfl,hn,ho,bS,b7,b5,bC⟩;have Hn:=zz hn;have Ho:=zz ho;have cE:=zz bS;have cz:=zz b7;have ct:=zz b5;have bA:=zz bC;clear hn ho bS b7 b5 bC ab k1 c2))
   obtain⟨D',Y,Z⟩:=(Hs.o.below hc L.o).zfP hc (Hw.o.zC (zh.xj (fun _=>False) L.o) fun _ _ h=>h) HG.o ai.o.1 ai.o.2.1 ai.o.2.2 Hp.o ct.o cz.o;have ca:=zz (show ∀g,D' g->g<w1.heap.size from by obtain⟨S',U',f',h'⟩:=Y;exact h'.lt);have cl:=zz (Y.below hc bA.o);have bl:Kz (xB D ae aP D'):=Z.trans (xB.below bA.o);have co:=zz (show xB D w aP D' from(xB.below L.o).trans bl.o);have a5:=zz Hs.o.lt;have ag:=zz (show ∀g,w.heap.size<=g->g<ae.heap.size->¬D' g from fun g h1 h2 N=>by
    rcases Z.2 g N with V|V
    ·have:=a5.o g V;omega
    ·omega)
   have bJ:=zz (a1.o.zC bl.o.1 fun N=>zq2 _ (a5.o _ N));have b9:=zz (aY.o.zC bl.o.1 fun N=>by have:=a5.o _ N;have:=HX.o.below.size;omega);have bU:Kz (∀q∈qL d.R m r,q<d.R.length):=fun q hq=>zcs hq
   have bZ:=zz (show n<=4194304 from by rw[<-Hn.o];exact zpK (za2 _ _ _) cs.o.2);clear Y Z;go_wp2;have cI:=bZ.o;have Y:w.heap.size<ae.heap.size:=zpz HX.o.b0.lt (zpK (zrb cn.o) (zpK aO.o.size (aw.o.below (xq w9 _) (zpx _) (zpx _)).size));have ba:=zz Y;have bF:Kz (W0.heap.size<ae.heap.size):=aY.o.lt;clear Y
   go_loopg[13,14,15,17,60] n (fun gk ad aa ac bW Y Z=>∃(i:Nat) (Di:Nat->Prop),i<=n/\gk=n-i/\Y=.int .i64 (i:Int)/\JS c (O++c.yZ x.p x.args m lo hi ρ rest ((qL d.R m r).take i)) Di ρ Z/\xB D' aP Z Di)
   case atStart=>exact⟨0,D',zpD _,rfl,rfl,by rw[zpY];show JS c (O++[]) D' ρ aP;rw[zp7];exact cl.o,xB.refl _ _⟩
   case round=>
    obtain⟨i,Di,cN,rfl,rfl,bI,am⟩:=hrel;have bp:=zz bI;have aK:=zz am;have aA:=zz (bJ.o.zC am.1 (ag.o _ (zpx _) ba.o));have a3:=b9.o.zC am.1 (ag.o _ HX.o.below.size bF.o);have a7:Kz (xB D w wr Di):=co.o.trans am;have ck:=zz (show ∀g,w.heap.size<=g->g<ae.heap.size->¬Di g from fun g h1 h2 N=>by
     rcases am.2 g N with V|V
     ·exact ag.o g h1 h2 V
     ·have:=bl.o.1.size;omega)
    by_cases a4:i<n
    ·have bP:i<(qL d.R m r).length:=by rw[Hn.o];exact a4
     obtain⟨b,o,rfl,cL,hr⟩:=(Ho.o.xI.kept am.1 fun g hg N=>by have:=cE.o g hg;have:=ca.o g N;omega).at (c:=0) (fun _=>rfl) i bP;have hq:=bU.o _ (zpB bP);have N:(qL d.R m r).take (i+1)=(qL d.R m r).take i++[(qL d.R m r)[i]]:=zpC bP;generalize(qL d.R m r)[i]=q at hr hq N;have d0:wr.cell? ⟨b,o+i,none⟩=some (.int .i64 (q:Int)):=by simpa using hr 0 _ rfl
     have ao:=zz (show c.yZ x.p x.args m lo hi ρ rest ((qL d.R m r).take (i+1))=c.yZ x.p x.args m lo hi ρ rest ((qL d.R m r).take i)++(if lo<=q/\q<hi then(if(fit m 0 x.args ((c.R x.p).getD q []) ρ).1=true then c.solve rest (fit m 0 x.args ((c.R x.p).getD q []) ρ).2 else [])else [])from by rw[N,Cx.zgo]);have Hq:=zz hq;have e4:=aA.o.cell 4;have e5:=aA.o.cell 5;clear hr N hq bI am
     by_cases cJ:q<lo
     ·have b1:decide ((q:Int)<(lo:Int))=true:=zb;have aR:=zz (show c.yZ x.p x.args m lo hi ρ rest ((qL d.R m r).take (i+1))=c.yZ x.p x.args m lo hi ρ rest ((qL d.R m r).take i) by rw[ao.o,if_neg zd,zp7]);clear a3;go_wp2
      go_roundg (n-(i+1))
      case measure=>omega
      case rel=>exact⟨i+1,Di,a4,rfl,ze,by rw[aR.o];exact bp.o,aK.o⟩
     ·have b1:decide ((q:Int)<(lo:Int))=false:=zb
      by_cases cM:hi<=q
      ·have bX:decide ((hi:Int)<=(q:Int))=true:=zb;have aR:=zz (show c.yZ x.p x.args m lo hi ρ rest ((qL d.R m r).take (i+1))=c.yZ x.p x.args m lo hi ρ rest ((qL d.R m r).take i) by rw[ao.o,if_neg zd,zp7]);clear a3;go_wp2
       go_roundg (n-(i+1))
       case measure=>omega
       case rel=>exact⟨i+1,Di,a4,rfl,ze,by rw[aR.o];exact bp.o,aK.o⟩
      ·have bX:decide ((hi:Int)<=(q:Int))=false:=zb;obtain⟨S2,U2,f2,h2⟩:=bp.o;obtain⟨cr,cD,aQ,cK,P2,T2,cG,aa,au,aE,ap,ay⟩:=h2.Xs;have N:∃d2,P2 x.p=some d2:=by
        rcases hq2:P2 x.p with _|d2
        ·have V:=HG.o x.p;rw[au x.p,hq2,Hp.o]at V
         cases V
        ·exact⟨d2,rfl⟩
       obtain⟨d2,Z⟩:=N;have an:=Ha.o.ar d2.ar (rowsOf aQ d2.ar d2.R) (by rw[au,Z];rfl);have aC:c.R x.p=rowsOf aQ x.args.length d2.R:=by rw[Cx.zbt au Z,an.1]
       have ak:d.rb=d2.rb:=(ai.o.2.2 _ _ Hp.o).trans (ay _ _ Z).symm;have ad:q<d2.R.length:=by
        have V:=HR.o;rw[aC]at V;have:=congrArg List.length V;rw[Uk,Uk]at this;rw[this];exact Hq.o
       have Y:Rw d2.R[q]:=by
        obtain⟨aj,ac,A',N,f',V,-⟩:=aa.rel x.p d2 Z;exact V.ok _ (zpB ad)
       have N:yT aQ x.args.length d2.R[q]:=an.1▸aa.rows x.p d2 Z _ (zpB ad);have av:=zje (aa.rel x.p d2 Z) q ad;rw[<-ak]at av;have aq:(c.R x.p).getD q []=Xe aQ x.args.length d2.R[q]:=by
        rw[aC];unfold rowsOf;rw[getD_at _ (by simpa using ad),zqz]
       rw[aq]at ao;obtain⟨r2,aD⟩:∃r2,d2.R[q]=r2:=⟨_,rfl⟩;rw[aD]at Y N av ao;have cv:=zz av;have cf:=zz Y;have b8:=zz N;have H2:=zz h2;have b4:=zz aa;have bh:=zz ap;have bj:=zz (show(zX r2).length=24 by simp[Y.len]);have aU:=zz (show(prog.info? 155).map (·.size)=some (zX r2).length by rw[show(zX r2).length=24 by simp[Y.len]];exact yJ);have k0:=a3.cell 0;obtain⟨us,aj⟩:∃us,Xe aQ x.args.length r2=us:=⟨_,rfl⟩;have cx:=zz (show x.args.length=us.length from by rw[<-aj];exact(Dl N Ha.o.n24).symm);have cF:=zz (show ∀y∈us,y.ok/\y.val.wf from aj▸zl9 aa.tab N);rw[aj]at ao;obtain⟨bb,ρ1,ac⟩:∃bb ρ1,fit m 0 x.args us ρ=(bb,ρ1):=⟨_,_,rfl⟩;rw[ac,if_pos zd]at ao;have az:=zz ac;have cC:=zz aj;clear a3 h2 aa au aE ap ay an aC ak ad Y N av aq aD aj ac Z;go_upto_region 11 with(first
        |(go_at_call 156;refine cv.o.mono ?_;rintro e bk⟨rfl,bu⟩;have ci:=zz bu;clear bu k0 e4 e5 d0 b1 bX)
        |(refine xy 155 _ _ rfl ?_;refine XG zj 155 _ _ rfl bk.heap.size 0 _ _ (zD.new _ _ _) (zX r2) rfl rfl (by simp[bj.o]) aU.o (X7 _) ?_;intro bq bz;have bx:=zz bz;clear bz))
       have N:Bl wr bq:=zl ci.o (bx.o.below (xq bk _) (zpx _) (zpx _));have bw:=zz N;have aa:zD bq bk.heap.size 155 (zX r2).toArray:=by
        have:=bx.o.zH;rw[bj.o]at this;simpa using this
       have ab:=aa.range;have Z:=H2.o.below hc N;have Y:=aA.o.below N;have g0:=Y.cell 0;have g1:=Y.cell 1;have g2:=Y.cell 2;have cb:Kz (zh D w bq):=a7.o.1.trans (zh.xj (fun _=>False) N) fun _ h _=>h.elim
       have aJ:=zz (zlK bq c.sb c.wb cr cD c.kb c.V9 aQ T2 ρ f2 Z.zH (b4.o.zH.below N) (b4.o.tab.below N) Z.map Z.Y1 ⟨fun e=>Z.YV (e▸Z.X3),fun e=>Z.sk (e▸bh.o _ (.inl rfl)),fun e=>Z.sk (bh.o _ (.inr (.inr (.inl e))))⟩ x ⟨bc.o.rd.kept cb.o fun g hg=>(af.o.1 g hg).1,bc.o.len⟩ Ha.o.n24 m bt.o Ha.o.sz r2 cf.o (fun g hg e=>(af.o.1 g hg).1 (e▸Hs.o.X3)) b8.o);rw[cC.o,az.o]at aJ;unfold zcK at aJ;have bo:=zz Z;clear N aa Z Y
       cases bb with
       |false=>
        go_upto_region 13 with(first
         |(refine xW 155 _ rfl ?_;refine y7 zj 155 _ rfl bk.heap.size 0 rfl (zX r2) _ ab underlying155 rfl aU.o ?_)
         |(go_at_call 332;refine aJ.o.mono ?_;rintro e aH⟨rfl,⟨ch,ak,ap⟩,Y⟩;have bG:=zz (bo.o.yu hc Y ak ap);have bE:=zz Y;clear ak ap Y ab g0 g1 g2))
        have aL:=zz (show O++c.yZ x.p x.args m lo hi ρ rest ((qL d.R m r).take i)=O++c.yZ x.p x.args m lo hi ρ rest ((qL d.R m r).take (i+1))from by rw[ao.o];simp);have Z:JS c (O++c.yZ x.p x.args m lo hi ρ rest ((qL d.R m r).take i)) Di ρ1 aH:=⟨S2,U2,ch,bG.o⟩;have N:xB Di wr aH Di:=(xB.below bw.o).trans (xB.kb bo.o.X3 bE.o);have av:=zz Z;have aZ:=zz N;have aT:=zz (aA.o.zC N.1 (ck.o _ (zpx _) ba.o));have c3:=aT.o.cell 3;have aE:Kz (zZ xD aH B I):=ce.o.kept (a7.o.trans N).1 fun g hg=>(af.o.2 g hg).1
        have bM:=zz (show ∀W,zh (·=c.kb) aH W->zZ xD W B I from fun W hW=>aE.o.kept hW fun g hg e=>(af.o.2 g hg).1 (e▸Hs.o.X3));clear Z N;obtain⟨ng,aj⟩:∃ng,I.length=ng:=⟨_,rfl⟩;rw[aj]at c3;have a2:=zz aj;have ad:=zz aG.o.Ze;rw[aj]at ad;have bO:=ad.o;clear aj;go_wp2;clear c3
        go_loopg[17,93] ng (fun gk bW bQ wy=>∃(j:Nat) (ρj:Env),j<=ng/\gk=ng-j/\bQ=.int .i64 (j:Int)/\JS c (O++c.yZ x.p x.args m lo hi ρ rest ((qL d.R m r).take i)) Di ρj wy/\ρj=Z2 ρ1 (I.take j)/\zh (·=c.kb) aH wy)
        case atStart=>exact⟨0,ρ1,zpD _,rfl,rfl,av.o,rfl,zh.refl _ _⟩
        case round=>
         obtain⟨j,ρj,cy,rfl,rfl,be,bd,aS⟩:=hrel;have bf:=zz bd;have aD:=zz aS;have bg:=zz be;clear be bd aS
         by_cases a8:j<ng
         ·have aC:j<I.length:=by rw[a2.o];exact a8
          obtain⟨gb,go,rfl,cq,aI⟩:=(bM.o _ aD.o).at (c:=0) (fun _=>rfl) j aC;have aa:=zz (zdB ρ1 I j aC);have aq:=zz (aG.o.sz _ (zpB aC));generalize I[j]=u at aI aa aq;have d0:wr.cell? ⟨gb,go+j,none⟩=some (.string u):=by simpa using aI 0 _ rfl
          obtain⟨S3,U3,f3,V⟩:=bg.o;have k0:=V.zH.cell 1;have H3:=zz V;clear aI V;obtain⟨bR,bT,ay,an⟩:=H3.o.map.drop q8 underlying140 (ye aq.o) 0;have aW:=zz ay;have au:=zz (show zh (·=c.kb) wr bR from(zh.refl _ _).yu an fun _=>rfl);clear ay an;go_wp2
          go_roundg (ng-(j+1))
          case measure=>omega
          case rel=>exact⟨j+1,ZS ρj u,a8,rfl,ze,⟨S3,U3,_,H3.o.yu hc au.o aW.o (H3.o.Y1.drop u)⟩,by rw[aa.o,bf.o],aD.o.trans au.o fun x hx _=>hx⟩
         ·obtain rfl:j=ng:=zd;have ac:ρj=ρ:=by
           rw[bf.o,zpT (zq4 a2.o)];have:=aG.o.back ρ us bs.o.2;rw[az.o]at this;exact this
          have aX:=zz (show JS c (O++c.yZ x.p x.args m lo hi ρ rest ((qL d.R m r).take i)) Di ρ wr from ac▸bg.o);have bN:=zz (show xB D' aP wr Di from(aK.o.trans aZ.o).trans (by
           obtain⟨S3,U3,f3,V⟩:=av.o;exact xB.kb V.X3 aD.o))
          clear ac;go_wp2
          go_roundg (n-(i+1))
          case measure=>omega
          case rel=>exact⟨i+1,Di,a4,rfl,ze,by rw[<-aL.o];exact aX.o,bN.o⟩
       |true=>
        have cu:=zz (show Ya ρ1 (K++I)from by have:=aG.o.dom ρ us bs.o.2 cx.o;rw[az.o]at this;exact this rfl);have cp:=zz (show Yj ρ1 from by have:=bs.o.1.fit m x.args us cF.o;rw[az.o]at this;exact this);have aL:=zz (show(O++c.yZ x.p x.args m lo hi ρ rest ((qL d.R m r).take i))++c.solve rest ρ1=O++c.yZ x.p x.args m lo hi ρ rest ((qL d.R m r).take (i+1))from by rw[ao.o];simp);have cw:=zz (show(O++c.yZ x.p x.args m lo hi ρ rest ((qL d.R m r).take i)).length+(c.solve rest ρ1).length<=c.M from by
         have h1:=HM.o;rw[bv.o]at h1;have h2:=Cx.zku (c:=c) (p:=x.p) (args:=x.args) (m:=m) (lo:=lo) (hi:=hi) (ρ:=ρ) (rest:=rest) (ns:=qL d.R m r) (i+1);have V:=congrArg List.length aL.o;simp only[zpA]at V ⊢;omega)
        go_upto_region 13 with(first
         |(refine xW 155 _ rfl ?_;refine y7 zj 155 _ rfl bk.heap.size 0 rfl (zX r2) _ ab underlying155 rfl aU.o ?_)
         |(go_at_call 332;refine aJ.o.mono ?_;rintro e aH⟨rfl,⟨ch,ak,ap⟩,Y⟩;have bG:=zz (bo.o.yu hc Y ak ap);have bE:=zz Y;have bB:=zz ((xB.below bw.o).trans (xB.kb bo.o.X3 Y));clear ak ap Y ab g0 g1 g2)
         |(go_at_call 172;refine(cA.o (O++c.yZ x.p x.args m lo hi ρ rest ((qL d.R m r).take i)) Di ρ1 aH ⟨S2,U2,_,bG.o⟩ cp.o cu.o (a7.o.trans bB.o) cw.o).mono ?_;rintro e bn⟨rfl,bi,Z,N⟩;have cd:=zz Z;have bY:=zz N;clear Z N))
        have Z:=cd.o;have N:xB Di wr bn bi:=bB.o.trans bY.o;have av:=zz Z;have aZ:=zz N;have aT:=zz (aA.o.zC N.1 (ck.o _ (zpx _) ba.o));have c3:=aT.o.cell 3;have aE:Kz (zZ xD bn B I):=ce.o.kept (a7.o.trans N).1 fun g hg=>(af.o.2 g hg).1
        have bM:=zz (show ∀W,zh (·=c.kb) bn W->zZ xD W B I from fun W hW=>aE.o.kept hW fun g hg e=>(af.o.2 g hg).1 (e▸Hs.o.X3));clear Z N;obtain⟨ng,aj⟩:∃ng,I.length=ng:=⟨_,rfl⟩;rw[aj]at c3;have a2:=zz aj;have ad:=zz aG.o.Ze;rw[aj]at ad;have bO:=ad.o;clear aj;go_wp2;clear c3
        go_loopg[17,93] ng (fun gk bW bQ wy=>∃(j:Nat) (ρj:Env),j<=ng/\gk=ng-j/\bQ=.int .i64 (j:Int)/\JS c ((O++c.yZ x.p x.args m lo hi ρ rest ((qL d.R m r).take i))++c.solve rest ρ1) bi ρj wy/\ρj=Z2 ρ1 (I.take j)/\zh (·=c.kb) bn wy)
        case atStart=>exact⟨0,ρ1,zpD _,rfl,rfl,av.o,rfl,zh.refl _ _⟩
        case round=>
         obtain⟨j,ρj,cy,rfl,rfl,be,bd,aS⟩:=hrel;have bf:=zz bd;have aD:=zz aS;have bg:=zz be;clear be bd aS
         by_cases a8:j<ng
         ·have aC:j<I.length:=by rw[a2.o];exact a8
          obtain⟨gb,go,rfl,cq,aI⟩:=(bM.o _ aD.o).at (c:=0) (fun _=>rfl) j aC;have aa:=zz (zdB ρ1 I j aC);have aq:=zz (aG.o.sz _ (zpB aC));generalize I[j]=u at aI aa aq;have d0:wr.cell? ⟨gb,go+j,none⟩=some (.string u):=by simpa using aI 0 _ rfl
          obtain⟨S3,U3,f3,V⟩:=bg.o;have k0:=V.zH.cell 1;have H3:=zz V;clear aI V;obtain⟨bR,bT,ay,an⟩:=H3.o.map.drop q8 underlying140 (ye aq.o) 0;have aW:=zz ay;have au:=zz (show zh (·=c.kb) wr bR from(zh.refl _ _).yu an fun _=>rfl);clear ay an;go_wp2
          go_roundg (ng-(j+1))
          case measure=>omega
          case rel=>exact⟨j+1,ZS ρj u,a8,rfl,ze,⟨S3,U3,_,H3.o.yu hc au.o aW.o (H3.o.Y1.drop u)⟩,by rw[aa.o,bf.o],aD.o.trans au.o fun x hx _=>hx⟩
         ·obtain rfl:j=ng:=zd;have ac:ρj=ρ:=by
           rw[bf.o,zpT (zq4 a2.o)];have:=aG.o.back ρ us bs.o.2;rw[az.o]at this;exact this
          have aX:=zz (show JS c ((O++c.yZ x.p x.args m lo hi ρ rest ((qL d.R m r).take i))++c.solve rest ρ1) bi ρ wr from ac▸bg.o);have bN:=zz (show xB D' aP wr bi from(aK.o.trans aZ.o).trans (by
           obtain⟨S3,U3,f3,V⟩:=av.o;exact xB.kb V.X3 aD.o))
          clear ac;go_wp2
          go_roundg (n-(i+1))
          case measure=>omega
          case rel=>exact⟨i+1,bi,a4,rfl,ze,by rw[<-aL.o];exact aX.o,bN.o⟩
    ·obtain rfl:i=n:=zd;have N:=bp.o;rw[zpT (zq4 Hn.o),<-bv.o]at N;have aX:=zz N;clear N bI am a3;go_wp2;go_end0;exact⟨rfl,Di,aX.o,a7.o⟩
end
