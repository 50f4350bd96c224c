/-
  A run: the known columns of an atom as a row.
-/
import Derived.Test.YtfdickkdlcgicaaGreatDoorQ23
set_option maxRecDepth 100000
set_option maxHeartbeats 8000000
set_option linter.all false
namespace Go.Proofs.YtfdickkdlcgicaaGreatDoor.C
open Go.Proofs.Tryz Go Go.RowKit Go.Maps Go.WideMaps
variable {args:List Tm}{i m:Nat}{r:List Nat}{vs:List z6}{w:World}{ρ:Env}
section
theorem zdM{q zR:Nat}{T:List Nat}(h:qv w q zR vs T):vs.length<=2147483647:=by
 obtain⟨L,A,I,D,h,-⟩:=h;have O:=h.le;have N:=h.zR;omega
theorem zf1(r:List Nat)(i j:Nat):(zX r).toArray.setIfInBounds i (.int .i32 (j:Int))=(zX (r.set i j)).toArray:=by
 unfold zX;simp[List.map_set]
theorem Rw.set(h:Rw r)(i j:Nat)(I:j<=2147483647):Rw (r.set i j):=⟨by rw[zqe];exact h.len,fun n L=>by
 rcases List.mem_or_eq_of_mem_set L with q|q
 ·exact h.lt n q
 ·rw[q];exact I⟩
theorem Rw.zgY:Rw (List.replicate 24 0):=⟨zp,fun n h=>by rw[List.eq_of_mem_replicate h];omega⟩
def Vt(vs:List z6)(m:Nat)(ρ:Env)(args:List Tm)(i:Nat)(r:List Nat):Prop:=∀j (h:j<args.length),j<i->m.testBit j=true->(args[j].at ρ).val∈vs/\r.getD j 0=vs.idxOf (args[j].at ρ).val
theorem Vt.skip(h:Vt vs m ρ args i r)(N:m.testBit i=false):Vt vs m ρ args (i+1) r:=fun j L I q=>by
 rcases zrz j i with I|I
 ·exact h j L I q
 ·obtain rfl:j=i:=zd;rw[N]at q;cases q
theorem Vt.put(h:Vt vs m ρ args i r)(N:Rw r)(hi:i<24)(U:i<args.length)(V:(args[i].at ρ).val∈vs):Vt vs m ρ args (i+1) (r.set i (vs.idxOf (args[i].at ρ).val)):=fun j R I q=>by
 have W:=N.len
 by_cases I:j=i
 ·subst I;refine⟨V,?_⟩;rw[zpW,List.getElem?_set_self zd];rfl
 ·obtain⟨L,O⟩:=h j R zd q;refine⟨L,?_⟩;rw[zpW,List.getElem?_set_ne (zrA I),<-zpW];exact O
def za0(vs:List z6)(m:Nat)(ρ:Env)(args:List Tm)(w:World)(e:Ending)(w':World):Prop:=
 Bl w w'/\((∃r,e=.returned (.tuple #[.agg (zX r).toArray,.bool true])/\Jt vs m ρ args r/\Rw r)\/(∃r,e=.returned (.tuple #[.agg (zX r).toArray,.bool false])/\Rw r/\∃i,∃h:i<args.length,m.testBit i=true/\(args[i].at ρ).val∉vs))
theorem zaQ(h:Array Value)(w:World)(q:Nat)(I:Array Value)(b:Bool)(O:h.getD 6 undef=.pointer (some ⟨q,0,none⟩))(U:h.getD 7 undef=.bool b)(V:w.heap[q]? = some (.cells I 155 (0,0)))(hi:(prog.info? 155).map (·.size)=some I.size):
 (results Tryz.f320 h).run prog w=.ok (.tuple #[.agg I,.bool b]) w:=by
 have L:h[6]?.getD undef=.pointer (some ⟨q,0,none⟩):=by simpa using O
 have N:h[7]?.getD undef=.bool b:=by simpa using U
 have R:=run_loadVar_row (P:=prog) w q 155 155 I (0,0) _ V underlying155 rfl hi;simp[results,results320,L,N,asAddr,R]
def zaG(w:World)(h:Nat)(ρ:Env):Prop:=∀W,Bl w W->∀v:ByteArray,v.toList≠[]->v.size<=maxLen->(Instr.lookup 140 (.map (some h)) (.string v) false).run prog W=.ok (.agg ((ρ v).getD Vl.zero).cells.toArray) W
theorem DD{h:Nat}{f:Value->Option Value}(q:xv prog 9 w h f)(L:DH ρ f):zaG w h ρ:=fun W I v O N=>by
 have:=(q.below I).look q8 underlying140 (z:=.agg Vl.zero.cells.toArray) zo (ye N) false;simp only[zqw,if_false]at this;rw[this,L v O]
theorem zfW(w:World)(sb wb tb pb kb:Nat)(V9:Value)(vs:List z6)(T:List Nat)(ρ:Env)(hs:zD w sb 142 #[.pointer (some ⟨wb,0,none⟩),.map (some kb),V9])(aL:zD w wb 117 #[.pointer (some ⟨tb,0,none⟩),.map (some pb)])(hT:qv w tb 2147483647 vs T)(hg:zaG w kb ρ)(x:At)(hl:x.zN w)(aB:x.args.length<=24)(m:Nat)(hm:m<2 ^ 24)(hz:∀t∈x.args,t.v.size<=maxLen)(ay:∀i (h:i<x.args.length),m.testBit i=true->(x.args[i].at ρ).val.wf):
 Calls prog 320 #[.pointer (some ⟨sb,0,none⟩),.agg x.cells.toArray,.int .u32 (m:Int)] w (za0 vs m ρ x.args w):=by
 have HS:=zz hs;have aH:=zz aL;have HT:=zz hT;have HG:=zz hg;have HL:=zz hl.rd;have Hz:=zz hz;have aK:=zz ay;have Hm:=zz hm;have aI:=zz aB;clear hs aL hT hg hl hz ay hm aB;obtain⟨p,A,aO,I⟩:=x;simp only[At.cells]at *;obtain⟨N,L⟩:∃N,I.length=N:=⟨_,rfl⟩;rw[L]at aI ⊢;have HN:=zz L;clear L;obtain⟨W0,L,O⟩:=Vj w 38 155 155 #[.string p,.slice A N aO] (zX (List.replicate 24 0)).toArray (zX (List.replicate 24 0)).toArray;have HX:=zz O;clear O;go_enter func320,ntmps320;go_upto_region 2 with fail
 try rw[show(((w.alloc (.cells #[.string p,.slice A N aO] 38)).alloc (.cells #[.int .i32 0,.int .i32 0,.int .i32 0,.int .i32 0,.int .i32 0,.int .i32 0,.int .i32 0,.int .i32 0,.int .i32 0,.int .i32 0,.int .i32 0,.int .i32 0,.int .i32 0,.int .i32 0,.int .i32 0,.int .i32 0,.int .i32 0,.int .i32 0,.int .i32 0,.int .i32 0,.int .i32 0,.int .i32 0,.int .i32 0,.int .i32 0] 155)).alloc (.cells #[.int .i32 0,.int .i32 0,.int .i32 0,.int .i32 0,.int .i32 0,.int .i32 0,.int .i32 0,.int .i32 0,.int .i32 0,.int .i32 0,.int .i32 0,.int .i32 0,.int .i32 0,.int .i32 0,.int .i32 0,.int .i32 0,.int .i32 0,.int .i32 0,.int .i32 0,.int .i32 0,.int .i32 0,.int .i32 0,.int .i32 0,.int .i32 0] 155))=W0 from L]
 clear L;have c1:=HX.o.b0.cell 1;go_wp2;clear c1;have aB:=aI.o
 go_loopg[9,10,11,12,13,17] N (fun gk Y R U X V O L=>∃(i:Nat) (r:List Nat),i<=N/\gk=N-i/\O=.int .i64 (i:Int)/\Rw r/\Vt vs m ρ I i r/\zD L (w.heap.size+1) 155 (zX (List.replicate 24 0)).toArray/\zD L (w.heap.size+2) 155 (zX r).toArray/\Bl w L)
 case atStart=>exact⟨0,List.replicate 24 0,zpD _,rfl,rfl,Rw.zgY,fun j _ h=>absurd h (Nat.not_lt_zero _),HX.o.b1,HX.o.b2,HX.o.below⟩
 case round=>
  obtain⟨i,r,hi,rfl,rfl,O,L,V,U,R⟩:=hrel;have HB:=zz R;have Z:=zz O;have HR:=zz L;have H6:=zz V;have H8:=zz U;clear R O L V U
  by_cases au:i<N
  ·have al:i<I.length:=by rw[HN.o];exact au
   have ac:i<24:=zd;obtain⟨b,o,rfl,aU,R⟩:=(HL.o.below HB.o).at Tm.xG i al;have L:=Hz.o _ (zpB al);have O:=aK.o i al;obtain⟨t,U⟩:∃t,I[i]=t:=⟨_,rfl⟩;have Ht:=zz U;rw[U]at R L O;obtain⟨v,⟨k,n,s⟩⟩:=t;simp only[Tm.cells]at R L
   replace R:wr.rangeAt b (o+i*4) _:=R
   obtain⟨d0,d1,d2,d3⟩:=four R;have aa:=zz L;have aP:=zz O;clear R L U O;have aV:decide ((i:Int)<0)=false:=zp;have aT:decide ((24:Int)<=(i:Int))=false:=zb;have aS:=GB i m ac Hm.o;have aD:=zz (xq wr (.cells #[.string v,.int .i8 k,.int .i64 n,.string s] 45))
   by_cases O:m.testBit i=true
   ·have aQ:(((m &&& 2 ^ i:Nat):Int)==0)=false:=by
     cases hq:(((m &&& 2 ^ i:Nat):Int)==0)with
     |false=>rfl
     |true=>
      have:=(and_zero m i).1 (by have:=eq_of_beq hq;omega);rw[this]at O;cases O
    have ax:=zz O;obtain⟨W2,R,L⟩:=yb wr 45 43 #[.string v,.int .i8 k,.int .i64 n,.string s] #[.int .i8 k,.int .i64 n,.string s];have ap:=zz L;have aM:=zz (zl HB.o L.below);have aw:=zz (aP.o O);have aG:=zz R;clear L O R
    by_cases hv:v.toList=[]
    ·have b1:v.toList.isEmpty=true:=by simp[hv]
     have b2:(v.toList==([]:List UInt8))=true:=by simp[hv]
     have ad:=zz (show(I[i].at ρ).val=⟨k,n,s⟩ by rw[Ht.o];unfold Tm.at;rw[if_pos hv];rfl);have aA:=zz (show(⟨k,n,s⟩:z6).wf from by have:=aw.o;rw[<-Ht.o,ad.o]at this;exact this);have aj:=zz ap.o.b1;have ae:=zz aM.o;have am:=zz ap.o.below;clear hv;go_upto_region 9 with fail
     rw[aG.o];clear d0 d1 d2 d3;have O:=ax.o;have H9:=zz (show ∀W,Bl W2 W->W.cell? ⟨sb,0,none⟩=some (.pointer (some ⟨wb,0,none⟩))/\W.cell? ⟨wb,0,none⟩=some (.pointer (some ⟨tb,0,none⟩))/\W.cell? ⟨wr.heap.size+1,0,none⟩=some (.int .i8 k)/\W.cell? ⟨wr.heap.size+1,1,none⟩=some (.int .i64 n)/\W.cell? ⟨wr.heap.size+1,2,none⟩=some (.string s)from fun W hW=>
      ⟨(HS.o.below (zl ae.o hW)).cell 0,(aH.o.below (zl ae.o hW)).cell 0,(aj.o.below hW).cell 0,(aj.o.below hW).cell 1,(aj.o.below hW).cell 2⟩)
     refine xX [0,0,0,0,0,0,0,0,2,0,0,0,0,0] (fun W=>Bl W2 W) ?_
     repeat refine zS H9.o ?_
     refine xf fun K hK=>?_
     go_simp;refine(zdZ (HT.o.below (zl ae.o (Below.refl _ _).drew)) ⟨k,n,s⟩ aA.o).mono ?_;rintro e w4⟨rfl,aq⟩;have V:Bl W2 w4:=zl (Below.refl W2.heap.size W2).drew aq;refine hK.out _ _ V (fun _=>trivial) ?_;clear hK K aq;try refine zQ ?_
     repeat refine zS H9.o ?_
     refine xt ?_;have af:=zz (zl am.o V);have ai:=zz (zl ae.o V);clear V
     by_cases L:(⟨k,n,s⟩:z6)∈vs
     ·rw[show numOf vs ⟨k,n,s⟩=vs.idxOf (⟨k,n,s⟩:z6)from if_pos L,decide_eq_true L];have X:=zz (HR.o.put Z.o ac al (by rw[ad.o];exact L));rw[ad.o]at X;have aF:=zz (show vs.idxOf (⟨k,n,s⟩:z6)<=2147483647 from by have:=UU L;have:=zdM HT.o;omega);obtain⟨q,hq⟩:∃q,vs.idxOf (⟨k,n,s⟩:z6)=q:=⟨_,rfl⟩;have X:=zz (show Vt vs m ρ I (i+1) (r.set i q)from by have:=X.o;rw[<-hq];exact this);have ab:=aF.o;rw[hq]at ab ⊢;have ar:=zz ab;have ag:=zz (H8.o.below af.o);have ak:=zz (show i<(zX r).toArray.size by simp[Z.o.len];exact ac);clear hq ab L
      go_wp2_with (refine xy 153 _ _ rfl ?_;refine Xq zj 153 _ _ rfl (w.heap.size+2) i _ _ ag.o (.int .i32 (q:Int)) rfl rfl ak.o zo rfl ?_;intro W9 Y;have U:=zz Y;clear Y)
      go_roundg (N-(i+1))
      case measure=>omega
      case rel=>
       refine⟨i+1,r.set i q,au,rfl,ze,Z.o.set i q ar.o,X.o,U.o.qj (H6.o.below af.o) zd,?_,U.o.below ai.o (zpx _) zd⟩;have:=U.o.zH;rw[zf1]at this;exact this
     ·rw[show numOf vs ⟨k,n,s⟩=0 from if_neg L,decide_eq_false L];have aE:=zz (show ∃i,∃h:i<I.length,m.testBit i=true/\(I[i].at ρ).val∉vs from⟨i,al,O,by rw[ad.o];exact L⟩);clear L;have aJ:=HR.o;have an:=zz (H6.o.below af.o);have ag:=zz (H8.o.below af.o);have ah:=ag.o.range;have R:=zz (show(zX r).length=24 by simp[Z.o.len]);have aa:=zz (show(prog.info? 155).map (·.size)=some (zX r).length by rw[R.o];exact yJ)
      go_wp2_with (first
       |(refine xW 155 _ rfl ?_;refine y7 zj 155 _ rfl (w.heap.size+2) 0 rfl (zX r) _ ah underlying155 rfl aa.o ?_)
       |(refine xy 155 _ _ rfl ?_;refine XG zj 155 _ _ rfl (w.heap.size+1) 0 _ _ an.o (zX r) rfl rfl (by simp[R.o]) aa.o (X7 _) ?_;intro W9 Y;have U:=zz Y;clear Y))
      have ao:zD W9 (w.heap.size+1) 155 (zX r).toArray:=by
       have:=U.o.zH;rw[R.o]at this;simpa using this
      refine bodyPost_ret (v:=.tuple #[.agg (zX r).toArray,.bool false]) (zaQ _ W9 (w.heap.size+1) _ false rfl rfl ao (by simpa using aa.o)) rfl ?_;exact⟨U.o.below ai.o (zpx _) zd,.inr ⟨r,rfl,Z.o,aE.o⟩⟩
    ·have b1:v.toList.isEmpty=false:=by simp[hv]
     have b2:(v.toList==([]:List UInt8))=false:=by simp[hv]
     obtain⟨⟨xk,xn,xs⟩,hx⟩:∃x,(ρ v).getD Vl.zero=x:=⟨_,rfl⟩;have ad:=zz (show(I[i].at ρ).val=⟨xk,xn,xs⟩ by rw[Ht.o];unfold Tm.at;rw[if_neg hv];show((ρ v).getD Vl.zero).val=_;rw[hx];rfl);have aA:=zz (show(⟨xk,xn,xs⟩:z6).wf from by have:=aw.o;rw[<-Ht.o,ad.o]at this;exact this);have av:=zz (fun W hW=>HG.o W hW v hv aa.o);rw[hx]at av;clear hv hx;have az:=fun W (hW:zh (·=wr.heap.size+1) W2 W)=>hW.qt aM.o (zpx _) (fun x hx=>by have:=HB.o.size;omega)
     have aN:=zz (show ∀W,zh (·=wr.heap.size+1) W2 W->W.cell? ⟨sb,1,none⟩=some (.map (some kb))/\W.cell? ⟨wr.heap.size,0,none⟩=some (.string v)/\(Instr.lookup 140 (.map (some kb)) (.string v) false).run prog W=.ok (.agg #[.int .i8 xk,.int .i64 xn,.string xs]) W from fun W hW=>
      ⟨(HS.o.below (az W hW)).cell 1,(ap.o.b0.zC hW zd).cell 0,av.o W (az W hW)⟩)
     clear az;go_upto_region 8 with fail
     rw[aG.o];clear d0 d1 d2 d3;have aR:Kz (∀W:World,True->True):=fun _ _=>trivial
     refine XT [0,0,0,1,0,1,1,3] 7 (fun W=>zh (·=wr.heap.size+1) W2 W) (fun _=>True) ?s0 ?s1 ?_
     case s1=>trivial
     case s0=>exact yw
     try refine zQ ?_
     repeat refine xM aN.o aR.o ?_
     refine Xf zj (fun K hK=>?_);refine Xu 43 _ _ rfl (wr.heap.size+1) 0 _ _ (ap.o.b1.drew) [.int .i8 xk,.int .i64 xn,.string xs] rfl rfl zp (zo) zt ?_;intro W3 az;have aC:zh (·=wr.heap.size+1) W2 W3:=(zh.refl _ W2).drew.trans az.zC (fun x hx _=>hx);refine hK.out _ _ aC ?_;clear hK K;try refine zQ ?_
     repeat refine zS aN.o ?_
     refine xt ?_;have aj:Kz (zD W3 (wr.heap.size+1) 43 #[.int .i8 xk,.int .i64 xn,.string xs]):=az.zH;have am:Kz (Bl wr W3):=aC.qt ap.o.below (zpx _) (fun x hx=>zd);have ae:Kz (Bl w W3):=zl HB.o am.o;clear az aC;go_upto_region 9 with fail
     have O:=ax.o;have H9:=zz (show ∀W,Bl W3 W->W.cell? ⟨sb,0,none⟩=some (.pointer (some ⟨wb,0,none⟩))/\W.cell? ⟨wb,0,none⟩=some (.pointer (some ⟨tb,0,none⟩))/\W.cell? ⟨wr.heap.size+1,0,none⟩=some (.int .i8 xk)/\W.cell? ⟨wr.heap.size+1,1,none⟩=some (.int .i64 xn)/\W.cell? ⟨wr.heap.size+1,2,none⟩=some (.string xs)from fun W hW=>
      ⟨(HS.o.below (zl ae.o hW)).cell 0,(aH.o.below (zl ae.o hW)).cell 0,(aj.o.below hW).cell 0,(aj.o.below hW).cell 1,(aj.o.below hW).cell 2⟩)
     refine xX [0,0,0,0,0,0,0,0,2,0,0,0,0,0] (fun W=>Bl W3 W) ?_
     repeat refine zS H9.o ?_
     refine xf fun K hK=>?_
     go_simp;refine(zdZ (HT.o.below (zl ae.o (Below.refl _ _).drew)) ⟨xk,xn,xs⟩ aA.o).mono ?_;rintro e w4⟨rfl,aq⟩;have V:Bl W3 w4:=zl (Below.refl W3.heap.size W3).drew aq;refine hK.out _ _ V (fun _=>trivial) ?_;clear hK K aq;try refine zQ ?_
     repeat refine zS H9.o ?_
     refine xt ?_;have af:=zz (zl am.o V);have ai:=zz (zl ae.o V);clear V
     by_cases L:(⟨xk,xn,xs⟩:z6)∈vs
     ·rw[show numOf vs ⟨xk,xn,xs⟩=vs.idxOf (⟨xk,xn,xs⟩:z6)from if_pos L,decide_eq_true L];have X:=zz (HR.o.put Z.o ac al (by rw[ad.o];exact L));rw[ad.o]at X;have aF:=zz (show vs.idxOf (⟨xk,xn,xs⟩:z6)<=2147483647 from by have:=UU L;have:=zdM HT.o;omega);obtain⟨q,hq⟩:∃q,vs.idxOf (⟨xk,xn,xs⟩:z6)=q:=⟨_,rfl⟩;have X:=zz (show Vt vs m ρ I (i+1) (r.set i q)from by have:=X.o;rw[<-hq];exact this);have ab:=aF.o;rw[hq]at ab ⊢;have ar:=zz ab;have ag:=zz (H8.o.below af.o);have ak:=zz (show i<(zX r).toArray.size by simp[Z.o.len];exact ac);clear hq ab L
      go_wp2_with (refine xy 153 _ _ rfl ?_;refine Xq zj 153 _ _ rfl (w.heap.size+2) i _ _ ag.o (.int .i32 (q:Int)) rfl rfl ak.o zo rfl ?_;intro W9 Y;have U:=zz Y;clear Y)
      go_roundg (N-(i+1))
      case measure=>omega
      case rel=>
       refine⟨i+1,r.set i q,au,rfl,ze,Z.o.set i q ar.o,X.o,U.o.qj (H6.o.below af.o) zd,?_,U.o.below ai.o (zpx _) zd⟩;have:=U.o.zH;rw[zf1]at this;exact this
     ·rw[show numOf vs ⟨xk,xn,xs⟩=0 from if_neg L,decide_eq_false L];have aE:=zz (show ∃i,∃h:i<I.length,m.testBit i=true/\(I[i].at ρ).val∉vs from⟨i,al,O,by rw[ad.o];exact L⟩);clear L;have aJ:=HR.o;have an:=zz (H6.o.below af.o);have ag:=zz (H8.o.below af.o);have ah:=ag.o.range;have R:=zz (show(zX r).length=24 by simp[Z.o.len]);have aa:=zz (show(prog.info? 155).map (·.size)=some (zX r).length by rw[R.o];exact yJ)
      go_wp2_with (first
       |(refine xW 155 _ rfl ?_;refine y7 zj 155 _ rfl (w.heap.size+2) 0 rfl (zX r) _ ah underlying155 rfl aa.o ?_)
       |(refine xy 155 _ _ rfl ?_;refine XG zj 155 _ _ rfl (w.heap.size+1) 0 _ _ an.o (zX r) rfl rfl (by simp[R.o]) aa.o (X7 _) ?_;intro W9 Y;have U:=zz Y;clear Y))
      have ao:zD W9 (w.heap.size+1) 155 (zX r).toArray:=by
       have:=U.o.zH;rw[R.o]at this;simpa using this
      refine bodyPost_ret (v:=.tuple #[.agg (zX r).toArray,.bool false]) (zaQ _ W9 (w.heap.size+1) _ false rfl rfl ao (by simpa using aa.o)) rfl ?_;exact⟨U.o.below ai.o (zpx _) zd,.inr ⟨r,rfl,Z.o,aE.o⟩⟩
   ·have aQ:(((m &&& 2 ^ i:Nat):Int)==0)=true:=by
     have:=(and_zero m i).2 (by simpa using O);rw[this];rfl
    have L:=zz (HR.o.skip (by simpa using O));clear O;go_wp2
    go_roundg (N-(i+1))
    case measure=>omega
    case rel=>exact⟨i+1,r,au,rfl,ze,Z.o,L.o,H6.o.below aD.o,H8.o.below aD.o,zl HB.o aD.o⟩
  ·obtain rfl:i=N:=zd;have L:=zz (show Jt vs m ρ I r from⟨Z.o.len,fun j V O=>HR.o j V (by have:=HN.o;omega) O⟩);have aJ:=HR.o;have an:=zz (H6.o);have ag:=zz (H8.o);have ah:=ag.o.range;have R:=zz (show(zX r).length=24 by simp[Z.o.len]);have aa:=zz (show(prog.info? 155).map (·.size)=some (zX r).length by rw[R.o];exact yJ)
   go_wp2_with (first
    |(refine xW 155 _ rfl ?_;refine y7 zj 155 _ rfl (w.heap.size+2) 0 rfl (zX r) _ ah underlying155 rfl aa.o ?_)
    |(refine xy 155 _ _ rfl ?_;refine XG zj 155 _ _ rfl (w.heap.size+1) 0 _ _ an.o (zX r) rfl rfl (by simp[R.o]) aa.o (X7 _) ?_;intro W9 Y;have U:=zz Y;clear Y))
   have ao:zD W9 (w.heap.size+1) 155 (zX r).toArray:=by
    have:=U.o.zH;rw[R.o]at this;simpa using this
   refine bodyPost_ret (v:=.tuple #[.agg (zX r).toArray,.bool true]) (zaQ _ W9 (w.heap.size+1) _ true rfl rfl ao (by simpa using aa.o)) rfl ?_;exact⟨U.o.below HB.o (zpx _) zd,.inl ⟨r,rfl,L.o,Z.o⟩⟩
end
