/-
  A run: fitting a row. A run's state, as it lies; steps; goes
-/
import Derived.Test.YtfdickkdlcgicaaGreatDoorQ24
set_option maxRecDepth 100000
set_option maxHeartbeats 8000000
set_option linter.all false
namespace Go.Proofs.YtfdickkdlcgicaaGreatDoor.C
open Go.Proofs.Tryz Go Go.RowKit Go.Maps Go.WideMaps
variable {D S U:Nat->Prop}{G:yW}{I:ByteArray->Nat}{N X q:Nat}{O:List Env}{W w w':World}{f:Value->Option Value}{ρ:Env}
section
def zcK(h:Nat)(R:Bool×Env)(w:World)(e:Ending)(w':World):Prop:=e=.returned (.bool R.1)/\(∃f,xv prog 9 w' h f/\Y2 R.2 f)/\zh (·=h) w w'
theorem zlK(w:World)(sb wb tb pb X:Nat)(V9:Value)(vs:List z6)(T:List Nat)(ρ:Env)(f:Value->Option Value)(hs:zD w sb 142 #[.pointer (some ⟨wb,0,none⟩),.map (some X),V9])(bf:zD w wb 117 #[.pointer (some ⟨tb,0,none⟩),.map (some pb)])(hT:qv w tb 2147483647 vs T)(hm:xv prog 9 w X f)(hf:Y2 ρ f)(aV:sb≠X/\wb≠X/\X∉T)(x:At)(hl:x.zN w)(a4:x.args.length<=24)(m:Nat)(a1:m<2 ^ 24)(hz:∀t∈x.args,t.v.size<=maxLen)(r:List Nat)(hr:Rw r)(bl:qV (fun g=>¬g=X) x.A)(ay:yT vs x.args.length r):
 Calls prog 332 #[.pointer (some ⟨sb,0,none⟩),.agg x.cells.toArray,.int .u32 (m:Int),.agg (zX r).toArray] w (zcK X (fit m 0 x.args (Xe vs x.args.length r) ρ) w):=by
 have Hz:=zz hz;have Hm:=zz a1;have aW:=zz a4;have Z:=hm.lt;have O:=hl.rd;obtain⟨p,A,bw,V⟩:=x;simp only[At.cells]at *;obtain⟨N,hN⟩:∃N,V.length=N:=⟨_,rfl⟩;rw[hN]at aW ay ⊢;obtain⟨us,I⟩:∃us,Xe vs N r=us:=⟨_,rfl⟩;obtain⟨R,hR⟩:∃R,fit m 0 V us ρ=R:=⟨_,rfl⟩;have bt:=zz (show us.length=N by rw[<-I];exact Dl ay aW.o);have bj:Kz (∀i,i<N->us[i]? = some (Y0 vs (r.getD i 0))):=fun i hi=>by rw[<-I];exact UM ay aW.o i hi
 have bc:=zz ay;rw[I,hR];have HN:=zz hN;obtain⟨W0,Y,L⟩:=yb w 38 155 #[.string p,.slice A N bw] (zX r).toArray;have HX:=zz L;have bv:=zz Y;have a2:=zz (hs.below L.below);have bi:=zz (bf.below L.below);have bg:=zz (hT.below L.below);have bu:=zz (hm.below L.below);have bp:=zz (O.below L.below);have bs:=zz hf;have bn:=zz hR;have bo:=zz hr.len;have U:=zz (show sb≠X/\wb≠X/\X<w.heap.size from⟨aV.1,aV.2.1,Z⟩);have bm:=zz aV.2.2;have a3:=zz (zh.xj (·=X) L.below);have br:=zz bl;clear hs bf hT hm hf aV hl hz a1 a4 hr ay I hR hN L Y Z O bl;go_enter func332,ntmps332;go_upto_region 1 with fail
 rw[bv.o];have c1:=HX.o.b0.cell 1;go_wp2;clear c1;have a4:=aW.o
 go_loopg[9,10,11,12,13,14,18] N (fun gk s9 O Y ab aa Z I L=>∃(i:Nat) (ρ':Env) (f':Value->Option Value),i<=N/\gk=N-i/\I=.int .i64 (i:Int)/\xv prog 9 L X f'/\Y2 ρ' f'/\fit m i (V.drop i) (us.drop i) ρ'=R/\zh (·=X) W0 L)
 case atStart=>exact⟨0,ρ,f,zpD _,rfl,rfl,bu.o,bs.o,bn.o,zh.refl _ _⟩
 case round=>
  obtain⟨i,ρ',f',hi,rfl,rfl,L,I,O,Y⟩:=hrel;have HC:=zz Y;have Hf:=zz I;have aZ:=zz L;have bx:Kz (zZ Tm.cells wr A V):=bp.o.kept Y br.o;clear Y I L
  by_cases av:i<N
  ·have a9:i<V.length:=by rw[HN.o];exact av
   have aT:i<24:=zd;obtain⟨b,o,rfl,bA,hr⟩:=bx.o.at Tm.xG i a9;have I:=Hz.o _ (zpB a9);have ba:i<us.length:=by rw[bt.o];exact av
   have hu:us[i]=Y0 vs (r.getD i 0):=by
    have:=bj.o i av;rw[zpF ba]at this;injection this
   rw[zqa a9,zqa ba,VO,hu]at O;obtain⟨c,Y⟩:∃c,r.getD i 0=c:=⟨_,rfl⟩;have L:c<vs.length:=by rw[<-Y];exact bc.o.lt i av
   rw[Y]at O;have Hc:=zz Y;have a8:=zz L;obtain⟨t,Z⟩:∃t,V[i]=t:=⟨_,rfl⟩;rw[Z]at hr I O;obtain⟨v,⟨k,n,s⟩⟩:=t;simp only[Tm.cells]at hr I O
   replace hr:wr.rangeAt b (o+i*4) _:=hr
   obtain⟨d0,d1,d2,d3⟩:=four hr;have aK:=zz I;clear hr I Z Y L hu;have bB:decide ((i:Int)<0)=false:=zp;have bz:decide ((24:Int)<=(i:Int))=false:=zb;have bh:=GB i m aT Hm.o;obtain⟨W2,L,I⟩:=xi wr 45 #[.string v,.int .i8 k,.int .i64 n,.string s];have bq:=zz L;have aL:=zz I;have aF:Kz (zh (·=X) W0 W2):=HC.o.trans (zh.xj (·=X) I.below) fun x hx _=>hx
   have be:=zz (show zh (·=X) W0 (wr.alloc (.cells #[.string v,.int .i8 k,.int .i64 n,.string s] 45))from L.symm▸aF.o);have bk:Kz (xv prog 9 (wr.alloc (.cells #[.string v,.int .i8 k,.int .i64 n,.string s] 45)) X f'):=aZ.o.below (xq _ _);clear L I
   by_cases ae:m.testBit i=true\/v.toList=[95]
   ·rw[if_pos ae]at O;have ak:=zz O;clear O
    by_cases I:m.testBit i=true
    ·have L:(((m &&& 2 ^ i:Nat):Int)==0)=false:=by
      cases hq:(((m &&& 2 ^ i:Nat):Int)==0)with
      |false=>rfl
      |true=>
       have:=(and_zero m i).1 (by have:=eq_of_beq hq;omega);rw[this]at I;cases I
     have Y:(((m &&& 2 ^ i:Nat):Int) != 0)=true:=by unfold bne;rw[L];rfl
     clear ae I;go_wp2
     go_roundg (N-(i+1))
     case measure=>omega
     case rel=>exact⟨i+1,ρ',f',av,rfl,ze,bk.o,Hf.o,ak.o,be.o⟩
    ·have Z:v.toList=[95]:=ae.resolve_left I;have L:(((m &&& 2 ^ i:Nat):Int)==0)=true:=by
      have:=(and_zero m i).2 (by simpa using I);rw[this];rfl
     have Y:(((m &&& 2 ^ i:Nat):Int) != 0)=false:=by unfold bne;rw[L];rfl
     have b2:(v.toList==([95]:List UInt8))=true:=by simp[Z]
     clear ae I Z;go_wp2
     go_roundg (N-(i+1))
     case measure=>omega
     case rel=>exact⟨i+1,ρ',f',av,rfl,ze,bk.o,Hf.o,ak.o,be.o⟩
   ·rw[if_neg ae]at O;have L:(((m &&& 2 ^ i:Nat):Int)==0)=true:=by
     have:=(and_zero m i).2 (by cases hq:m.testBit i with|false=>rfl|true=>exact absurd (.inl hq) ae);rw[this];rfl
    have Y:(((m &&& 2 ^ i:Nat):Int) != 0)=false:=by unfold bne;rw[L];rfl
    have b2:(v.toList==([95]:List UInt8))=false:=by
     cases hq:(v.toList==([95]:List UInt8))with
     |false=>rfl
     |true=>exact absurd (.inr (by simpa using hq)) ae
    have aR:=zz (fun W (hW:Bl W2 W)=>zkI ((bg.o.same fun g I=>aF.o.block g (bg.o.lt g I) fun e=>bm.o (e▸I)).below hW) c a8.o);obtain⟨⟨xk,xn,xs⟩,hx⟩:∃x,vs[c]'a8.out=x:=⟨_,rfl⟩;have ab:Y0 vs c=(⟨xk,xn,xs⟩:Vl):=by unfold Y0;rw[getD_at _ a8.o,hx];rfl
    rw[ab]at O;rw[hx]at aR;have ak:=zz (show(ρ' v=none->fit m (i+1) (V.drop (i+1)) (us.drop (i+1)) (qR ρ' v ⟨xk,xn,xs⟩)=R)/\(∀y,ρ' v=some y->(y=(⟨xk,xn,xs⟩:Vl)->fit m (i+1) (V.drop (i+1)) (us.drop (i+1)) ρ'=R)/\(y≠(⟨xk,xn,xs⟩:Vl)->(false,ρ')=R))from
     ⟨fun h=>by rw[h]at O;exact O,fun y h=>by
      rw[h]at O;exact⟨fun e=>by simp only at O;rw[if_pos e]at O;exact O,fun e=>by simp only at O;rw[if_neg e]at O;exact O⟩⟩)
    have I:i<r.length:=by rw[bo.o];exact aT
    have Z:w.heap.size+1≠X:=by have:=U.o.2.2;omega
    have aa:∀W,Bl W2 W->W.cell? ⟨w.heap.size+1,i,none⟩=some (.int .i32 (c:Int)):=fun W hW=>by
     have:=((HX.o.b1.zC aF.o Z).below hW).cell i;rw[this];have h2:=Hc.o;rw[getD_at _ I]at h2;unfold zX;simp[I,h2]
    have H5:=zz (show ∀W,Bl W2 W->W.cell? ⟨sb,0,none⟩=some (.pointer (some ⟨wb,0,none⟩))/\W.cell? ⟨wb,0,none⟩=some (.pointer (some ⟨tb,0,none⟩))/\W.cell? ⟨w.heap.size+1,i,none⟩=some (.int .i32 (c:Int))/\(i:Int)<24 from fun W hW=>
     ⟨((a2.o.zC aF.o U.o.1).below hW).cell 0,((bi.o.zC aF.o U.o.2.1).below hW).cell 0,aa W hW,zd⟩)
    clear O ab hx ae I Z aa;go_upto_region 5 with fail
    rw[bq.o];clear d0 d1 d2 d3 L Y b2 bh;refine Gd [(0,0),(1,0),(2,0),(3,0),(4,0),(5,0),(6,0),(7,0),(8,0),(9,0)] [(11,0),(12,0),(13,0),(14,2),(15,2),(16,0)] [(10,2),(11,0),(12,0),(13,0),(15,2),(16,0)] 9999 10 14 (fun W=>Bl W2 W) (fun _=>True) zo (zo) zo ?s0 ?s1 ?_
    case s1=>trivial
    case s0=>exact yw
    simp only[xO,qa,qb,qc,qd,qe,qf];try refine zQ ?_
    repeat refine zS H5.o ?_
    refine J9 ?_ ?_
    ·refine xf fun K hK=>?_
     go_simp;refine(aR.o _ (Below.refl _ _).drew).mono ?_;rintro e w6⟨rfl,aX⟩;have aY:Bl W2 w6:=zl (Below.refl _ _).drew aX;refine hK.out _ _ aY (fun _=>trivial) ?_;clear hK K;try refine zQ ?_
     repeat refine zS H5.o ?_
     refine xf fun K hK=>?_
     go_simp;obtain⟨W7,aS,aG⟩:=xi w6 43 #[.int .i8 0,.int .i64 0,.string ⟨#[]⟩];rw[aS];have aA:Bl W2 W7:=zl aY aG.below;refine hK.out _ _ aA (fun _=>trivial) ?_;clear hK K aS;try refine zQ ?_
     repeat refine zS H5.o ?_
     refine xf fun K hK=>?_
     refine Xu 43 _ _ rfl w6.heap.size 0 _ _ aG.b0 [.int .i8 xk,.int .i64 xn,.string xs] rfl rfl zp (zo) zt ?_;intro W8 aE;have aj:Bl W2 W8:=aE.below aA (zpx _) aY.size;refine hK.out _ _ aj (fun _=>trivial) ?_;clear hK K;try refine zQ ?_
     repeat refine zS H5.o ?_
     refine xt ?_;have a5:=zz aj;have aM:Kz (Bl wr W8):=zl aL.o.below aj;have ax:Kz (zh (·=X) W0 W8):=aF.o.trans (zh.xj (·=X) aj) fun x hx _=>hx
     obtain⟨ab,ah⟩:∃g,w6.heap.size=g:=⟨_,rfl⟩;have aa:=zz (show zD W8 ab 43 #[.int .i8 xk,.int .i64 xn,.string xs]from ah▸aE.zH);have L:=zz (show w.heap.size<=ab/\w.heap.size<=wr.heap.size from by
      have h1:=aY.size;have h2:=aL.o.below.size;have h3:=HC.o.size;have h4:=HX.o.below.size;rw[<-ah];exact⟨zd,zd⟩)
     rw[ah];clear aE aj ah aA aG;have aN:=U.o.2.2;have ao:=L.o;have bd:=zz ao;clear ao aN;have aI:=zz ((a2.o.zC ax.o U.o.1));have am:Kz (zD W8 wr.heap.size 45 #[.string v,.int .i8 k,.int .i64 n,.string s]):=aL.o.b0.below a5.o;have aw:=zz (aZ.o.below aM.o);obtain⟨⟨yk,yn,ys⟩,hy⟩:∃y,(ρ' v).getD Vl.zero=y:=⟨_,rfl⟩;obtain⟨ok,aC⟩:∃ok,(ρ' v).isSome=ok:=⟨_,rfl⟩;have aP:=fun W (hW:Bl W8 W)=>(aw.o.below hW).look q8 underlying140 (z:=.agg Vl.zero.cells.toArray) zo (ye aK.o) true
     have aJ:((f' (.string v)).getD (.agg Vl.zero.cells.toArray))=.agg #[.int .i8 yk,.int .i64 yn,.string ys]/\(f' (.string v)).isSome=ok:=by
      rw[Hf.o v,<-aC]
      rcases hq:ρ' v with _|q
      ·rw[hq]at hy;simp only[Option.getD_none]at hy;rw[hy];exact⟨rfl,rfl⟩
      ·rw[hq]at hy;simp only[zqr]at hy;rw[hy];exact⟨rfl,rfl⟩
     have H6:=zz (show ∀W,Bl W8 W->W.cell? ⟨sb,1,none⟩=some (.map (some X))/\W.cell? ⟨wr.heap.size,0,none⟩=some (.string v)/\(Instr.lookup 140 (.map (some X)) (.string v) true).run prog W=.ok (.tuple #[.agg #[.int .i8 yk,.int .i64 yn,.string ys],.bool ok]) W from fun W hW=>
      ⟨(
       aI.o.below hW).cell 1,(am.o.below hW).cell 0,by
       have:=aP W hW;simp only[if_true]at this;rw[this,aJ.1,aJ.2]⟩)
     have Hy:=zz hy;have aQ:=zz aC;clear aP aJ hy aC;go_upto_region 6 with fail
     refine xX [0,0,0,0,0,0,0,0,0,0,2,2,0] (fun W=>Bl W8 W) ?_
     repeat refine zS H6.o ?_
     refine xf fun K hK=>?_
     go_simp;obtain⟨W9,aU,aB⟩:=xi W8 43 #[.int .i8 0,.int .i64 0,.string ⟨#[]⟩];rw[aU];have aD:Bl W8 W9.drew:=aB.below.drew;refine hK.out _ _ aD (fun _=>trivial) ?_;clear hK K aU;try refine zQ ?_
     repeat refine zS H6.o ?_
     refine xf fun K hK=>?_
     refine Xu 43 _ _ rfl W8.heap.size 0 _ _ aB.b0.drew [.int .i8 yk,.int .i64 yn,.string ys] rfl rfl zp (zo) zt ?_;intro Y ai;have aq:Bl W8 Y:=ai.below aD (zpx _) (zpx _);refine hK.out _ _ aq (fun _=>trivial) ?_;clear hK K;try refine zQ ?_
     repeat refine zS H6.o ?_
     refine xt ?_;have I:=zz aq;have al:Kz (zD Y W8.heap.size 43 #[.int .i8 yk,.int .i64 yn,.string ys]):=ai.zH;clear ai aq aD aB;have x0:=(aa.o.below I.o).cell 0;have x1:=(aa.o.below I.o).cell 1;have x2:=(aa.o.below I.o).cell 2;have y0:=al.o.cell 0;have y1:=al.o.cell 1;have y2:=al.o.cell 2
     cases hokk:ok
     ·have aH:=zz (show fit m (i+1) (V.drop (i+1)) (us.drop (i+1)) (qR ρ' v ⟨xk,xn,xs⟩)=R by
       have hq:ρ' v=none:=by have:=aQ.o;rw[hokk]at this;simpa using this
       exact ak.o.1 hq)
      clear hokk;go_upto_region 9 with fail
      clear x0 x1 x2 y0 y1 y2;have au:=zz ((aw.o.below I.o));have H9:=zz (show ∀W,zh (·=X) Y W->W.cell? ⟨sb,1,none⟩=some (.map (some X))/\W.cell? ⟨wr.heap.size,0,none⟩=some (.string v)/\W.cell? ⟨ab,0,none⟩=some (.int .i8 xk)/\W.cell? ⟨ab,1,none⟩=some (.int .i64 xn)/\W.cell? ⟨ab,2,none⟩=some (.string xs)from fun W hW=>
       ⟨((aI.o.below I.o).zC hW U.o.1).cell 1,((am.o.below I.o).zC hW (by have:=U.o.2.2;have:=L.o.1;have:=L.o.2;omega)).cell 0,((aa.o.below I.o).zC hW (by have:=U.o.2.2;have:=L.o.1;have:=L.o.2;omega)).cell 0,((aa.o.below I.o).zC hW (by have:=U.o.2.2;have:=L.o.1;have:=L.o.2;omega)).cell 1,((aa.o.below I.o).zC hW (by have:=U.o.2.2;have:=L.o.1;have:=L.o.2;omega)).cell 2⟩)
      refine xX [0,0,0,0,0,0,0,2] (fun W=>zh (·=X) Y W) ?_
      repeat refine zS H9.o ?_
      refine xf fun K hK=>?_
      refine Zy _ _ _ rfl (au.o.same (w':=Y.drew) rfl) q8 underlying140 rfl (.string v) (.agg #[.int .i8 xk,.int .i64 xn,.string xs]) _ rfl rfl (ye aK.o) ?_;intro an ac ad;have Z:zh (·=X) Y an:=(zh.refl _ Y).drew.yu ad fun _=>rfl
      refine hK.out _ _ Z (fun _=>trivial) ?_;clear hK K ad;try refine zQ ?_
      repeat refine zS H9.o ?_
      refine xt ?_;have ar:=zz ac;have ap:Kz (zh (·=X) W0 an):=ax.o.trans ((zh.xj (·=X) I.o).trans Z fun x hx _=>hx) fun x hx _=>hx
      clear ac Z;go_wp2
      go_roundg (N-(i+1))
      case measure=>omega
      case rel=>exact⟨i+1,qR ρ' v ⟨xk,xn,xs⟩,yp f' (.string v) (.agg #[.int .i8 xk,.int .i64 xn,.string xs]),av,rfl,ze,ar.o,Hf.o.bind v ⟨xk,xn,xs⟩,aH.o,ap.o⟩
     ·obtain⟨q,hq⟩:∃q,ρ' v=some q:=zqq.1 (by rw[aQ.o,hokk]);have a6:q=⟨yk,yn,ys⟩:=by have:=Hy.o;rw[hq]at this;exact this
      subst a6;have af:=ak.o.2 _ hq;clear hokk
      by_cases ag:(⟨yk,yn,ys⟩:Vl)=⟨xk,xn,xs⟩
      ·have af:=af.1 ag;have aO:qR ρ' v ⟨xk,xn,xs⟩=ρ':=zfg (by rw[hq,ag]);have aH:=zz (show fit m (i+1) (V.drop (i+1)) (us.drop (i+1)) (qR ρ' v ⟨xk,xn,xs⟩)=R by rw[aO];exact af);have az:Zw ⟨yk,yn,ys⟩ ⟨xk,xn,xs⟩=true:=VB.2 ag;clear af aO hq ag;go_upto_region 9 with fail
       clear x0 x1 x2 y0 y1 y2 az;have au:=zz ((aw.o.below I.o));have H9:=zz (show ∀W,zh (·=X) Y W->W.cell? ⟨sb,1,none⟩=some (.map (some X))/\W.cell? ⟨wr.heap.size,0,none⟩=some (.string v)/\W.cell? ⟨ab,0,none⟩=some (.int .i8 xk)/\W.cell? ⟨ab,1,none⟩=some (.int .i64 xn)/\W.cell? ⟨ab,2,none⟩=some (.string xs)from fun W hW=>
        ⟨((aI.o.below I.o).zC hW U.o.1).cell 1,((am.o.below I.o).zC hW (by have:=U.o.2.2;have:=L.o.1;have:=L.o.2;omega)).cell 0,((aa.o.below I.o).zC hW (by have:=U.o.2.2;have:=L.o.1;have:=L.o.2;omega)).cell 0,((aa.o.below I.o).zC hW (by have:=U.o.2.2;have:=L.o.1;have:=L.o.2;omega)).cell 1,((aa.o.below I.o).zC hW (by have:=U.o.2.2;have:=L.o.1;have:=L.o.2;omega)).cell 2⟩)
       refine xX [0,0,0,0,0,0,0,2] (fun W=>zh (·=X) Y W) ?_
       repeat refine zS H9.o ?_
       refine xf fun K hK=>?_
       refine Zy _ _ _ rfl (au.o.same (w':=Y.drew) rfl) q8 underlying140 rfl (.string v) (.agg #[.int .i8 xk,.int .i64 xn,.string xs]) _ rfl rfl (ye aK.o) ?_;intro an ac ad;have Z:zh (·=X) Y an:=(zh.refl _ Y).drew.yu ad fun _=>rfl
       refine hK.out _ _ Z (fun _=>trivial) ?_;clear hK K ad;try refine zQ ?_
       repeat refine zS H9.o ?_
       refine xt ?_;have ar:=zz ac;have ap:Kz (zh (·=X) W0 an):=ax.o.trans ((zh.xj (·=X) I.o).trans Z fun x hx _=>hx) fun x hx _=>hx
       clear ac Z;go_wp2
       go_roundg (N-(i+1))
       case measure=>omega
       case rel=>exact⟨i+1,qR ρ' v ⟨xk,xn,xs⟩,yp f' (.string v) (.agg #[.int .i8 xk,.int .i64 xn,.string xs]),av,rfl,ze,ar.o,Hf.o.bind v ⟨xk,xn,xs⟩,aH.o,ap.o⟩
      ·have af:=af.2 ag;have a7:=zz af;have az:Zw ⟨yk,yn,ys⟩ ⟨xk,xn,xs⟩=false:=by cases hh:Zw ⟨yk,yn,ys⟩ ⟨xk,xn,xs⟩with|false=>rfl|true=>exact absurd (VB.1 hh) ag
       clear af hq ag;go_wp2;go_returns;have hR:R=(false,ρ'):=a7.o.symm;exact⟨by rw[hR];rfl,⟨f',aw.o.below I.o,by rw[hR];exact Hf.o⟩,a3.o.trans (ax.o.trans (zh.xj (·=X) I.o) fun x hx _=>hx) fun x hx _=>hx⟩
    ·refine xf fun K hK=>?_
     go_simp;obtain⟨W7,aS,aG⟩:=xi W2 43 #[.int .i8 0,.int .i64 0,.string ⟨#[]⟩];rw[aS];have aA:Bl W2 W7.drew:=aG.below.drew;refine hK.out _ _ aA (fun _=>trivial) ?_;clear hK K aS;try refine zQ ?_
     repeat refine zS H5.o ?_
     refine xf fun K hK=>?_
     go_simp;refine(aR.o _ aA).mono ?_;rintro e w7⟨rfl,aX⟩;have aS:Bl W2 w7:=zl aA aX;refine hK.out _ _ aS (fun _=>trivial) ?_;clear hK K;try refine zQ ?_
     repeat refine zS H5.o ?_
     refine xf fun K hK=>?_
     refine Xu 43 _ _ rfl W2.heap.size 0 _ _ (aG.b0.drew.below aX) [.int .i8 xk,.int .i64 xn,.string xs] rfl rfl zp (zo) zt ?_;intro W8 aE;have aj:Bl W2 W8:=aE.below aS (zpx _) (zpx W2.heap.size);refine hK.out _ _ aj (fun _=>trivial) ?_;clear hK K;try refine zQ ?_
     repeat refine zS H5.o ?_
     refine xt ?_;have a5:=zz aj;have aM:Kz (Bl wr W8):=zl aL.o.below aj;have ax:Kz (zh (·=X) W0 W8):=aF.o.trans (zh.xj (·=X) aj) fun x hx _=>hx
     obtain⟨ab,ah⟩:∃g,W2.heap.size=g:=⟨_,rfl⟩;have aa:=zz (show zD W8 ab 43 #[.int .i8 xk,.int .i64 xn,.string xs]from ah▸aE.zH);have L:=zz (show w.heap.size<=ab/\w.heap.size<=wr.heap.size from by
      have h1:=(zpx W2.heap.size);have h2:=aL.o.below.size;have h3:=HC.o.size;have h4:=HX.o.below.size;rw[<-ah];exact⟨zd,zd⟩)
     rw[ah];clear aE aj ah aA aG;have aN:=U.o.2.2;have ao:=L.o;have bd:=zz ao;clear ao aN;have aI:=zz ((a2.o.zC ax.o U.o.1));have am:Kz (zD W8 wr.heap.size 45 #[.string v,.int .i8 k,.int .i64 n,.string s]):=aL.o.b0.below a5.o;have aw:=zz (aZ.o.below aM.o);obtain⟨⟨yk,yn,ys⟩,hy⟩:∃y,(ρ' v).getD Vl.zero=y:=⟨_,rfl⟩;obtain⟨ok,aC⟩:∃ok,(ρ' v).isSome=ok:=⟨_,rfl⟩;have aP:=fun W (hW:Bl W8 W)=>(aw.o.below hW).look q8 underlying140 (z:=.agg Vl.zero.cells.toArray) zo (ye aK.o) true
     have aJ:((f' (.string v)).getD (.agg Vl.zero.cells.toArray))=.agg #[.int .i8 yk,.int .i64 yn,.string ys]/\(f' (.string v)).isSome=ok:=by
      rw[Hf.o v,<-aC]
      rcases hq:ρ' v with _|q
      ·rw[hq]at hy;simp only[Option.getD_none]at hy;rw[hy];exact⟨rfl,rfl⟩
      ·rw[hq]at hy;simp only[zqr]at hy;rw[hy];exact⟨rfl,rfl⟩
     have H6:=zz (show ∀W,Bl W8 W->W.cell? ⟨sb,1,none⟩=some (.map (some X))/\W.cell? ⟨wr.heap.size,0,none⟩=some (.string v)/\(Instr.lookup 140 (.map (some X)) (.string v) true).run prog W=.ok (.tuple #[.agg #[.int .i8 yk,.int .i64 yn,.string ys],.bool ok]) W from fun W hW=>
      ⟨(
       aI.o.below hW).cell 1,(am.o.below hW).cell 0,by
       have:=aP W hW;simp only[if_true]at this;rw[this,aJ.1,aJ.2]⟩)
     have Hy:=zz hy;have aQ:=zz aC;clear aP aJ hy aC;go_upto_region 6 with fail
     refine xX [0,0,0,0,0,0,0,0,0,0,2,2,0] (fun W=>Bl W8 W) ?_
     repeat refine zS H6.o ?_
     refine xf fun K hK=>?_
     go_simp;obtain⟨W9,aU,aB⟩:=xi W8 43 #[.int .i8 0,.int .i64 0,.string ⟨#[]⟩];rw[aU];have aD:Bl W8 W9.drew:=aB.below.drew;refine hK.out _ _ aD (fun _=>trivial) ?_;clear hK K aU;try refine zQ ?_
     repeat refine zS H6.o ?_
     refine xf fun K hK=>?_
     refine Xu 43 _ _ rfl W8.heap.size 0 _ _ aB.b0.drew [.int .i8 yk,.int .i64 yn,.string ys] rfl rfl zp (zo) zt ?_;intro Y ai;have aq:Bl W8 Y:=ai.below aD (zpx _) (zpx _);refine hK.out _ _ aq (fun _=>trivial) ?_;clear hK K;try refine zQ ?_
     repeat refine zS H6.o ?_
     refine xt ?_;have I:=zz aq;have al:Kz (zD Y W8.heap.size 43 #[.int .i8 yk,.int .i64 yn,.string ys]):=ai.zH;clear ai aq aD aB;have x0:=(aa.o.below I.o).cell 0;have x1:=(aa.o.below I.o).cell 1;have x2:=(aa.o.below I.o).cell 2;have y0:=al.o.cell 0;have y1:=al.o.cell 1;have y2:=al.o.cell 2
     cases hokk:ok
     ·have aH:=zz (show fit m (i+1) (V.drop (i+1)) (us.drop (i+1)) (qR ρ' v ⟨xk,xn,xs⟩)=R by
       have hq:ρ' v=none:=by have:=aQ.o;rw[hokk]at this;simpa using this
       exact ak.o.1 hq)
      clear hokk;go_upto_region 9 with fail
      clear x0 x1 x2 y0 y1 y2;have au:=zz ((aw.o.below I.o));have H9:=zz (show ∀W,zh (·=X) Y W->W.cell? ⟨sb,1,none⟩=some (.map (some X))/\W.cell? ⟨wr.heap.size,0,none⟩=some (.string v)/\W.cell? ⟨ab,0,none⟩=some (.int .i8 xk)/\W.cell? ⟨ab,1,none⟩=some (.int .i64 xn)/\W.cell? ⟨ab,2,none⟩=some (.string xs)from fun W hW=>
       ⟨((aI.o.below I.o).zC hW U.o.1).cell 1,((am.o.below I.o).zC hW (by have:=U.o.2.2;have:=L.o.1;have:=L.o.2;omega)).cell 0,((aa.o.below I.o).zC hW (by have:=U.o.2.2;have:=L.o.1;have:=L.o.2;omega)).cell 0,((aa.o.below I.o).zC hW (by have:=U.o.2.2;have:=L.o.1;have:=L.o.2;omega)).cell 1,((aa.o.below I.o).zC hW (by have:=U.o.2.2;have:=L.o.1;have:=L.o.2;omega)).cell 2⟩)
      refine xX [0,0,0,0,0,0,0,2] (fun W=>zh (·=X) Y W) ?_
      repeat refine zS H9.o ?_
      refine xf fun K hK=>?_
      refine Zy _ _ _ rfl (au.o.same (w':=Y.drew) rfl) q8 underlying140 rfl (.string v) (.agg #[.int .i8 xk,.int .i64 xn,.string xs]) _ rfl rfl (ye aK.o) ?_;intro an ac ad;have Z:zh (·=X) Y an:=(zh.refl _ Y).drew.yu ad fun _=>rfl
      refine hK.out _ _ Z (fun _=>trivial) ?_;clear hK K ad;try refine zQ ?_
      repeat refine zS H9.o ?_
      refine xt ?_;have ar:=zz ac;have ap:Kz (zh (·=X) W0 an):=ax.o.trans ((zh.xj (·=X) I.o).trans Z fun x hx _=>hx) fun x hx _=>hx
      clear ac Z;go_wp2
      go_roundg (N-(i+1))
      case measure=>omega
      case rel=>exact⟨i+1,qR ρ' v ⟨xk,xn,xs⟩,yp f' (.string v) (.agg #[.int .i8 xk,.int .i64 xn,.string xs]),av,rfl,ze,ar.o,Hf.o.bind v ⟨xk,xn,xs⟩,aH.o,ap.o⟩
     ·obtain⟨q,hq⟩:∃q,ρ' v=some q:=zqq.1 (by rw[aQ.o,hokk]);have a6:q=⟨yk,yn,ys⟩:=by have:=Hy.o;rw[hq]at this;exact this
      subst a6;have af:=ak.o.2 _ hq;clear hokk
      by_cases ag:(⟨yk,yn,ys⟩:Vl)=⟨xk,xn,xs⟩
      ·have af:=af.1 ag;have aO:qR ρ' v ⟨xk,xn,xs⟩=ρ':=zfg (by rw[hq,ag]);have aH:=zz (show fit m (i+1) (V.drop (i+1)) (us.drop (i+1)) (qR ρ' v ⟨xk,xn,xs⟩)=R by rw[aO];exact af);have az:Zw ⟨yk,yn,ys⟩ ⟨xk,xn,xs⟩=true:=VB.2 ag;clear af aO hq ag;go_upto_region 9 with fail
       clear x0 x1 x2 y0 y1 y2 az;have au:=zz ((aw.o.below I.o));have H9:=zz (show ∀W,zh (·=X) Y W->W.cell? ⟨sb,1,none⟩=some (.map (some X))/\W.cell? ⟨wr.heap.size,0,none⟩=some (.string v)/\W.cell? ⟨ab,0,none⟩=some (.int .i8 xk)/\W.cell? ⟨ab,1,none⟩=some (.int .i64 xn)/\W.cell? ⟨ab,2,none⟩=some (.string xs)from fun W hW=>
        ⟨((aI.o.below I.o).zC hW U.o.1).cell 1,((am.o.below I.o).zC hW (by have:=U.o.2.2;have:=L.o.1;have:=L.o.2;omega)).cell 0,((aa.o.below I.o).zC hW (by have:=U.o.2.2;have:=L.o.1;have:=L.o.2;omega)).cell 0,((aa.o.below I.o).zC hW (by have:=U.o.2.2;have:=L.o.1;have:=L.o.2;omega)).cell 1,((aa.o.below I.o).zC hW (by have:=U.o.2.2;have:=L.o.1;have:=L.o.2;omega)).cell 2⟩)
       refine xX [0,0,0,0,0,0,0,2] (fun W=>zh (·=X) Y W) ?_
       repeat refine zS H9.o ?_
       refine xf fun K hK=>?_
       refine Zy _ _ _ rfl (au.o.same (w':=Y.drew) rfl) q8 underlying140 rfl (.string v) (.agg #[.int .i8 xk,.int .i64 xn,.string xs]) _ rfl rfl (ye aK.o) ?_;intro an ac ad;have Z:zh (·=X) Y an:=(zh.refl _ Y).drew.yu ad fun _=>rfl
       refine hK.out _ _ Z (fun _=>trivial) ?_;clear hK K ad;try refine zQ ?_
       repeat refine zS H9.o ?_
       refine xt ?_;have ar:=zz ac;have ap:Kz (zh (·=X) W0 an):=ax.o.trans ((zh.xj (·=X) I.o).trans Z fun x hx _=>hx) fun x hx _=>hx
       clear ac Z;go_wp2
       go_roundg (N-(i+1))
       case measure=>omega
       case rel=>exact⟨i+1,qR ρ' v ⟨xk,xn,xs⟩,yp f' (.string v) (.agg #[.int .i8 xk,.int .i64 xn,.string xs]),av,rfl,ze,ar.o,Hf.o.bind v ⟨xk,xn,xs⟩,aH.o,ap.o⟩
      ·have af:=af.2 ag;have a7:=zz af;have az:Zw ⟨yk,yn,ys⟩ ⟨xk,xn,xs⟩=false:=by cases hh:Zw ⟨yk,yn,ys⟩ ⟨xk,xn,xs⟩with|false=>rfl|true=>exact absurd (VB.1 hh) ag
       clear af hq ag;go_wp2;go_returns;have hR:R=(false,ρ'):=a7.o.symm;exact⟨by rw[hR];rfl,⟨f',aw.o.below I.o,by rw[hR];exact Hf.o⟩,a3.o.trans (ax.o.trans (zh.xj (·=X) I.o) fun x hx _=>hx) fun x hx _=>hx⟩
  ·obtain rfl:i=N:=zd;rw[List.drop_eq_nil_of_le (by rw[HN.o];exact zpx _)]at O;have I:=zz (show R=(true,ρ') by rw[<-O];unfold fit;rfl);clear O;go_wp2;go_returns;have hR:=I.o;exact⟨by rw[hR];rfl,⟨f',aZ.o,by rw[hR];exact Hf.o⟩,a3.o.trans HC.o fun x hx _=>hx⟩
def YP(w:World)(q:Nat)(G:yW)(I:ByteArray->Nat)(S:Nat->Prop)(N:Nat):Prop:=
 ∃O L h f D T own,yL w q O L h f D T own/\(∀p,G p=(D p).map fun d=>(d.ar,rowsOf h d.ar d.R))/\h.length<=N/\(∀g,Zp q L T D own g->S g)/\∀p d,D p=some d->d.rb=I p
theorem yd.ziQ{I:Nat}(h:yd w I G S N):∃q,YP w I G q S N:=by
 obtain⟨U,R,O,f,D,T,own,h,W,X,V⟩:=h;exact⟨fun p=>((D p).map (·.rb)).getD 0,U,R,O,f,D,T,own,h,W,X,V,fun p d L=>by show d.rb=((D p).map (·.rb)).getD 0;rw[L];rfl⟩
theorem YP.Xs{O:ByteArray->Nat}(h:YP w q G O S N):yd w q G S N:=by
 obtain⟨I,V,L,f,D,T,own,h,W,U,R,-⟩:=h;exact⟨I,V,L,f,D,T,own,h,W,U,R⟩
theorem YP.zC{Q:Nat->Prop}(h:YP w q G I S N)(hc:zh Q w w')(Y:∀g,S g->¬Q g):YP w' q G I S N:=by
 obtain⟨V,U,R,f,D,T,own,h,X,Z,L,W⟩:=h;exact⟨V,U,R,f,D,T,own,h.zC hc fun g O=>Y g (L g O),X,Z,L,W⟩
theorem YP.below(h:YP w q G I S N)(O:Bl w w'):YP w' q G I S N:=h.zC (zh.xj (fun _=>False) O) fun _ _ L=>L
theorem YP.cut{I:Nat}{L:ByteArray->Nat}(h:YP w I G L S N):YP w I G L (fun g=>S g/\g<w.heap.size) N:=by
 obtain⟨U,R,O,f,D,T,own,h,X,Y,W,V⟩:=h;exact⟨U,R,O,f,D,T,own,h,X,Y,fun g q=>⟨W g q,h.lt_ g q⟩,V⟩
structure Cx where
 wb:Nat
 sb:Nat
 kb:Nat
 gf:FuncId
 Uu:Array Value
 G:yW
 rb:ByteArray->Nat
 N:Nat
 tk:Nat->Int
 M:Nat
 Out:List Env->(Nat->Prop)->World->Prop
def Cx.V9(c:Cx):Value:=.func (.func c.gf) #[] c.Uu
def Cx.R(c:Cx)(p:ByteArray):List (List Vl):=((c.G p).map (·.2)).getD []
noncomputable def Cx.solve(c:Cx):List St->Env->List Env:=C.solve (fun ρ e=>e.ev c.tk ρ) Vg c.R
structure Cx.qT (c:Cx):Prop where
 zC:∀O U Q w w',c.Out O U w->zh Q w w'->(∀g,U g->¬Q g)->c.Out O U w'
 lt:∀O U w,c.Out O U w->∀g,U g->g<w.heap.size
structure Zo (c:Cx) (O:List Env) (S U D:Nat->Prop) (f:Value->Option Value) (ρ:Env) (w:World):Prop where
 Xs:YP w c.wb c.G c.rb S c.N
 out:c.Out O U w
 map:xv prog 9 w c.kb f
 Y1:Y2 ρ f
 zH:zD w c.sb 142 #[.pointer (some ⟨c.wb,0,none⟩),.map (some c.kb),c.V9]
 tk:Tk w c.tk
 ZB:∀g,S g->D g
 V3:∀g,U g->D g
 X3:D c.kb
 YV:¬D c.sb
 X6:¬D 2
 sk:¬S c.kb
 uk:¬U c.kb
 su:∀g,S g->¬U g
 lt:∀g,D g->g<w.heap.size
def JS(c:Cx)(O:List Env)(D:Nat->Prop)(ρ:Env)(w:World):Prop:=∃S U f,Zo c O S U D f ρ w
def Yj(ρ:Env):Prop:=∀v x,ρ v=some x->x.ok/\x.val.wf
theorem JS.below{c:Cx}(L:c.qT)(h:JS c O D ρ w)(q:Bl w w'):JS c O D ρ w':=by
 obtain⟨S,U,f,h⟩:=h;exact⟨S,U,f,h.Xs.below q,L.zC _ _ (fun _=>False) _ _ h.out (zh.xj _ q) fun _ _ h=>h,h.map.below q,h.Y1,h.zH.below q,h.tk.below q (zpx _),h.ZB,h.V3,h.X3,h.YV,h.X6,h.sk,h.uk,h.su,fun g I=>zpz (h.lt g I) q.size⟩
theorem Zo.yu{c:Cx}(W:c.qT){L:Value->Option Value}{N:Env}(h:Zo c O S U D f ρ w)(q:zh (·=c.kb) w w')(V:xv prog 9 w' c.kb L)(R:Y2 N L):Zo c O S U D L N w':=
 ⟨h.Xs.zC q fun g I e=>h.sk (e▸I),W.zC _ _ _ _ _ h.out q fun g I e=>h.uk (e▸I),V,R,h.zH.zC q fun e=>h.YV (e▸h.X3),h.tk.zC q fun e=>h.X6 (e▸h.X3),h.ZB,h.V3,h.X3,h.YV,h.X6,h.sk,h.uk,h.su,fun g I=>zpz (h.lt g I) q.size⟩
theorem Zo.asked{c:Cx}(V:c.qT)(h:Zo c O S U D f ρ w)(L:zh S w w')(hw:YP w' c.wb c.G c.rb (fun g=>S g\/w.heap.size<=g) c.N):
 Zo c O (fun g=>(S g\/w.heap.size<=g)/\g<w'.heap.size) U (fun g=>(D g\/w.heap.size<=g)/\g<w'.heap.size) f ρ w':=by
 have Y:=h.map.lt;have X:=h.zH.lt;have Z:=h.tk.lt;refine⟨hw.cut,V.zC _ _ _ _ _ h.out L fun g q X=>h.su g X q,h.map.zC L h.sk,h.Y1,h.zH.zC L fun e=>h.YV (h.ZB _ e),h.tk.zC L fun e=>h.X6 (h.ZB _ e),fun g q=>⟨q.1.imp (h.ZB g) id,q.2⟩,fun g q=>⟨.inl (h.V3 g q),zpz (V.lt _ _ _ h.out g q) L.size⟩,⟨.inl h.X3,zpz Y L.size⟩,fun R=>?_,fun R=>?_,fun R=>?_,h.uk,fun g q W=>?_,fun g q=>q.2⟩
 ·rcases R.1 with I|I
  ·exact h.YV I
  ·omega
 ·rcases R.1 with I|I
  ·exact h.X6 I
  ·omega
 ·rcases R.1 with I|I
  ·exact h.sk I
  ·omega
 ·rcases q.1 with I|I
  ·exact h.su g I W
  ·have:=V.lt _ _ _ h.out g W;omega
def xB(D:Nat->Prop)(w w':World)(h:Nat->Prop):Prop:=zh D w w'/\∀g,h g->D g\/w.heap.size<=g
theorem xB.refl(D:Nat->Prop)(w:World):xB D w w D:=⟨zh.refl _ _,fun _ h=>.inl h⟩
theorem xB.below(q:Bl w w'):xB D w w' D:=⟨zh.xj _ q,fun _ h=>.inl h⟩
theorem xB.trans{L I:Nat->Prop}{w1 w2:World}(h:xB D w w1 L)(k:xB L w1 w2 I):xB D w w2 I:=
 ⟨h.1.trans k.1 fun x R N=>(h.2 x R).resolve_right zd,fun g O=>(k.2 g O).elim (h.2 g) fun q=>.inr (zpK h.1.size q)⟩
theorem Zo.zfP{c:Cx}(hc:c.qT)(h:Zo c O S U D f ρ w){tb:Nat}{vs:List z6}{Z:Value->Option Value}{P:ByteArray->Option Pd}{T:List Nat}{own:ByteArray->Bool->Nat->Prop}(hw:yL w c.wb tb X vs Z P T own)(hG:∀p,c.G p=(P p).map fun d=>(d.ar,rowsOf vs d.ar d.R))(hN:vs.length<=c.N)(V:∀g,Zp c.wb X T P own g->S g)(hr:∀p d,P p=some d->d.rb=c.rb p){p:ByteArray}{d:Pd}(Y:P p=some d)(L:zh (own p true) w w')(hb:yY w' d.bb d.rb d.R (fun g=>own p true g\/w.heap.size<=g)):
 ∃I,JS c O I ρ w'/\xB D w w' I:=by
 have W:=hw.asked Y L hb;have hW:YP w' c.wb c.G c.rb (fun g=>S g\/w.heap.size<=g) c.N:=⟨tb,X,vs,Z,P,T,_,W,hG,hN,fun g I=>by
  rcases I with I|I|I |⟨q,e,a,he,I⟩
  ·exact .inl (V g (.inl I))
  ·exact .inl (V g (.inr (.inl I)))
  ·exact .inl (V g (.inr (.inr (.inl I))))
  ·rcases I with I |⟨_,_,I,_⟩
   ·exact .inl (V g (.inr (.inr (.inr ⟨q,e,a,he,I⟩))))
   ·exact .inr I,hr⟩
 have hS:∀g,own p true g->S g:=fun g I=>V g (.inr (.inr (.inr ⟨p,d,true,Y,I⟩)))
 exact⟨_,⟨_,_,_,h.asked hc (L.mono fun g I _=>hS g I) hW⟩,L.mono fun g I _=>h.ZB g (hS g I),fun g I=>I.1⟩
def ZV(c:Cx)(O:List Env)(D:Nat->Prop)(ρ:Env)(es:List Env)(w:World)(e:Ending)(w':World):Prop:=e=.returned (.tuple #[])/\∃h,JS c (O++es) h ρ w'/\xB D w w' h
inductive Sv where
 |rows (x:At) (m:Nat) (B:Option Addr) (cap:Nat) (gives:List ByteArray) (lo hi:Nat)
 |Xm (x:At) (m:Nat)
 |test (x:Li)
 |set (v:ByteArray) (e:Ex)
def Sv.val:Sv->Value
 |.rows x m B h q I L=>.iface 313 (.agg #[.string x.p,.slice x.A x.args.length x.cap,.int .u32 (m:Int),.slice B q.length h,.int .i64 (I:Int),.int .i64 (L:Int)])
 |.Xm x m=>.iface 307 (.agg #[.string x.p,.slice x.A x.args.length x.cap,.int .u32 (m:Int)])
 |.test x=>.iface 309 (.agg x.cells.toArray)
 |.set v e=>.iface 311 (.agg (.string v::e.cells).toArray)
def Sv.st:Sv->St
 |.rows x m _ _ h q I=>.rows x.p x.args m h q I
 |.Xm x m=>.Xm x.p x.args m
 |.test x=>.test x.rl x.l x.r
 |.set v e=>.set v e
def Sv.zN(w:World):Sv->Prop
 |.rows x _ B _ h _ _=>x.zN w/\zZ xD w B h
 |.Xm x _=>x.zN w
 |.test x=>x.zN w
 |.set _ e=>e.zN w
def Sv.off(Q:Nat->Prop):Sv->Prop
 |.rows x _ B _ _ _ _=>qV Q x.A/\qV Q B
 |.Xm x _=>qV Q x.A
 |.test x=>x.off Q
 |.set _ e=>e.off Q
abbrev Gj(s:Sv):List Value:=[s.val]
theorem Sv.zN.below{s:Sv}(h:s.zN w)(q:Bl w W):s.zN W:=by
 cases s with
 |rows x m B L I O N=>exact⟨h.1.below q,h.2.below q⟩
 |Xm x m=>exact At.zN.below h q
 |test x=>exact Li.zN.below h q
 |set v e=>exact Ex.zN.below q h
theorem Sv.zN.kept{s:Sv}(I:zh S w W)(h:s.zN w)(q:s.off fun g=>¬S g):s.zN W:=by
 cases s with
 |rows x m B N L O R=>exact⟨⟨h.1.rd.kept I q.1,h.1.len⟩,h.2.kept I q.2⟩
 |Xm x m=>exact⟨h.rd.kept I q,h.len⟩
 |test x=>exact Li.zN.kept I h q
 |set v e=>exact Ex.zN.kept I h q
structure Steps (w:World) (D:Nat->Prop) (A:Option Addr) (l:List Sv):Prop where
 rd:zZ Gj w A l
 off:qV (fun g=>¬D g/\g<w.heap.size) A
 zN:∀s∈l,s.zN w
 XO:∀s∈l,s.off fun g=>¬D g/\g<w.heap.size
theorem Jo:qB prog 275 277 5 56:=qB.of (z:=.agg #[.int .i8 0,.int .i64 0,.string ⟨#[]⟩,.string ⟨#[]⟩,.int .i64 0]) underlying275 zo rfl zr
def Vl.G0(x:Vl):Th:=⟨x.k,x.n,x.s,⟨#[]⟩,0⟩
structure Vl.told (x:Vl):Prop where
 k0:-128<=x.k
 k1:x.k<=127
 n0:-9223372036854775808<=x.n
 n1:x.n<=9223372036854775807
 s:x.s.size<=1048576
theorem Vl.told.qT{x:Vl}(h:x.told):x.G0.qT:=⟨h.k0,h.k1,h.n0,h.n1,h.s,(by decide:(⟨#[]⟩:ByteArray).size<=65)⟩
def zdR(c:Wc)(D:Nat->Prop)(L:Int)(q no:Nat)(w:World)(e:Ending)(w':World):Prop:=∃(b:Bool) (h:Nat) (I:Nat->Prop),e=.returned (.bool b)/\q<=h/\h<=q+1/\yg c I L h no w'/\xB D w w' I
def more(D:Nat->Prop)(w w':World):Nat->Prop:=fun g=>D g\/(w.heap.size<=g/\g<w'.heap.size)
theorem yg.var{c:Wc}{L:Int}{nn no:Nat}(h:yg c D L nn no w){N H:Option Addr}{aa ab:Nat}{U:List ByteArray}{V:List Th}(I:JA c D nn w N H aa ab U V)(hc:zh (fun g=>g=c.eb\/g∈zw N\/g∈zw H) w w'){g1 g2 W:Nat}{s:ByteArray}{x:Th}(hx:x.qT)(hk:zD w' c.eb 352 #[.pointer (some ⟨c.wb,0,none⟩),.slice (some ⟨g1,0,none⟩) (nn+1) W,.slice (some ⟨g2,0,none⟩) (nn+1) X])(Y:Own xD 9 1 w' (some ⟨g1,0,none⟩) W (U++[s]))(o2:Own Th.cells 277 5 w' (some ⟨g2,0,none⟩) X (V++[x]))(ac:g1∈zw N\/w.heap.size<=g1)(ad:g2∈zw H\/w.heap.size<=g2):yg c (more D w w') L (nn+1) no w'/\xB D w w' (more D w w'):=by
 refine⟨h.yu hc (fun g q=>?_) (fun g=>Iff.rfl) ⟨some ⟨g1,0,none⟩,some ⟨g2,0,none⟩,W,X,U++[s],V++[x],hk,by rw[zpA,I.Z0];rfl,Y,by rw[zpA,I.hlen];rfl,o2,fun y hy=>?_,xY ?_,xY ?_⟩,hc.mono fun g q _=>?_,fun g q=>q.imp id And.left⟩
 ·rcases q with rfl|q|q
  ·exact⟨h.ZL,I.zH.yK h.work zr,by obtain⟨O,R,Y,_⟩:=h.out;exact I.zH.yK Y zr,fun O R ho q=>ho.yD I.zH zr q⟩
  ·exact⟨I.nD g q,X0 I.XU h.work zr g q,by obtain⟨O,R,Y,_⟩:=h.out;exact X0 I.XU Y zr g q,fun O R ho Z=>I.XU.ZU ho zr g q Z⟩
  ·exact⟨I.hD g q,X0 I.xV h.work zr g q,by obtain⟨O,R,Y,_⟩:=h.out;exact X0 I.xV Y zr g q,fun O R ho Z=>I.xV.ZU ho zr g q Z⟩
 ·rcases zpE.1 hy with hy|hy
  ·exact I.qT y hy
  ·rw[zpy.1 hy];exact hx
 ·exact ac.elim (fun h=>.inl (I.nD g1 h)) fun h=>.inr ⟨h,Y.Y4⟩
 ·exact ad.elim (fun h=>.inl (I.hD g2 h)) fun h=>.inr ⟨h,o2.Y4⟩
 ·rcases q with rfl|q|q
  ·exact h.ZL
  ·exact I.nD g q
  ·exact I.hD g q
end
