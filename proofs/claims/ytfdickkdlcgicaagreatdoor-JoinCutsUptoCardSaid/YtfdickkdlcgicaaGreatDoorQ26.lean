/-
  What is worked out: does a term fit a thing? The walk.
-/
import Derived.Test.YtfdickkdlcgicaaGreatDoorQ25
set_option maxRecDepth 100000
set_option maxHeartbeats 8000000
set_option linter.all false
namespace Go.Proofs.YtfdickkdlcgicaaGreatDoor.C
open Go.Proofs.Tryz Go Go.RowKit Go.Maps Go.WideMaps
section
theorem zmq{c:Wc}{D:Nat->Prop}{L:Int}{X no:Nat}{w:World}(h:yg c D L X no w)(bo:X<=4194303)(t:Tm)(ht:t.x.told)(x:Th)(q:x.qT):
 Calls prog 247 #[.pointer (some ⟨c.eb,0,none⟩),.agg t.cells.toArray,.agg x.cells.toArray] w (zdR c D L X no w):=by
 obtain⟨v,k,n,s⟩:=t;obtain⟨xk,xn,xs,xm,xd⟩:=x;have bj:=zz q;simp only[Tm.cells,Th.cells]at *;obtain⟨W0,O,I⟩:=yb w 45 277 #[.string v,.int .i8 k,.int .i64 n,.string s] #[.int .i8 xk,.int .i64 xn,.string xs,.string xm,.int .i64 xd];have HW:=zz h;have bn:=zz O;have HX:=zz I;have t0:=I.b0.cell 0;have t1:=I.b0.cell 1;have t2:=I.b0.cell 2;have t3:=I.b0.cell 3;have a4:=zz (show zdR c D L X no w (.returned (.bool true)) W0/\True from⟨⟨true,X,D,rfl,zpx _,zqG _,h.below I.below,xB.below I.below⟩,trivial⟩);clear I O h q;go_enter func247,ntmps247;go_upto_region 1 with fail
 rw[bn.o]
 by_cases a3:v.toList=[95]
 ·have b1:(v.toList==[95])=true:=by simp[a3]
  go_wp2;go_returns;exact a4.o.1
 ·have b1:(v.toList==[95])=false:=by simp[a3]
  go_upto_region 4 with(refine xy 277 _ _ rfl ?_;refine XP zj 277 _ _ rfl _ [.int .i8 k,.int .i64 n,.string s,.string ⟨#[]⟩,.int .i64 0] rfl rfl zp XD zt ?_;intro W1 bd;have ap:=zz bd;clear bd)
  have a9:=zz (zl HX.o.below ap.o.below);have O:=HX.o.b0.below ap.o.below;have I:=HX.o.b1.below ap.o.below;have bh:=zz O;have be:=zz I;have ba:=zz (HW.o.below a9.o);clear t0 t1 t2 t3;have a0:=O.cell 0;have x0:=I.cell 0;have x1:=I.cell 1;have x2:=I.cell 2;have x3:=I.cell 3;have y0:=ap.o.b0.cell 0;have y1:=ap.o.b0.cell 1;have y2:=ap.o.b0.cell 2;have y3:=ap.o.b0.cell 3;clear O I
  by_cases hv:v.toList=[]
  ·have b2:v.toList.isEmpty=true:=by simp[hv]
   have b3:(v.toList==([]:List UInt8))=true:=by simp[hv]
   go_wp2
   all_goals(go_returns;exact⟨_,X,D,rfl,zpx _,zqG _,ba.o,xB.below a9.o⟩)
  ·have b2:v.toList.isEmpty=false:=by simp[hv]
   have b3:(v.toList==([]:List UInt8))=false:=by simp[hv]
   have a5:=zz (zab ba.o.env zd v);go_upto_region 6 with(first
    |(go_at_call 209;refine a5.o.mono ?_;rintro e w2⟨⟨rk,rn,rs,rm,rd⟩,rb,rfl,bm,bf⟩;have bl:=zz bf;clear bf bm;simp only[Th.cells])
    |(refine xy 277 _ _ rfl ?_;refine XP zj 277 _ _ rfl _ [.int .i8 rk,.int .i64 rn,.string rs,.string rm,.int .i64 rd] rfl rfl zp XD zt ?_;intro V bk;have aF:=zz bk;clear bk))
   have an:=zz (zl bl.o aF.o.below);have ar:Kz (Bl w V):=zl a9.o an.o;have bi:=zz (bh.o.below an.o);have ao:=zz (be.o.below an.o);have bg:=zz (ap.o.b0.below an.o);have a2:=zz (ba.o.below an.o);clear a0 x0 x1 x2 x3 y0 y1 y2 y3;have x0:=ao.o.cell 0;have x1:=ao.o.cell 1;have x2:=ao.o.cell 2;have x3:=ao.o.cell 3;have r0:=aF.o.b0.cell 0;have r1:=aF.o.b0.cell 1;have r2:=aF.o.b0.cell 2;have r3:=aF.o.b0.cell 3;have r4:=aF.o.b0.cell 4
   cases rb with
   |false=>
    obtain⟨N,H,aW,Z,ag,Y,he⟩:=a2.o.env;have He:=zz he;have aH:zD V w.heap.size 45 #[.string v,.int .i8 k,.int .i64 n,.string s]:=bi.o;have aT:∀g∈zw N,g≠c.eb:=X0 he.XU he.zH zr;have aK:∀g∈zw H,g≠c.eb:=X0 he.xV he.zH zr;have aQ:∀g∈zw N,g∉zw H:=fun g hg a7=>he.XU.ZU he.xV zr g hg a7
    have ad:∀g∈zw N,g<w.heap.size:=fun g hg=>HW.o.lt g (he.nD g hg)
    have au:∀g∈zw H,g<w.heap.size:=fun g hg=>HW.o.lt g (he.hD g hg)
    have aN:c.eb<w.heap.size:=HW.o.lt _ HW.o.ZL;have I:=zz (zpG aT (zpG aK (zpG aQ (zpG ad (zpG au aN)))));have ai:=zz (show ∀W,zh (fun g=>g=c.eb\/g∈zw N) V W->W.cell? ⟨w.heap.size,0,none⟩=some (.string v)from fun W hW=>(aH.zC hW (fun e=>by
     rcases e with e|e
     ·omega
     ·have:=ad _ e;omega)).cell 0)
    have am:Kz (∀W:World,W.heap[c.eb]? = V.heap[c.eb]?->W.cell? ⟨c.eb,1,none⟩=some (.slice N X aW)):=fun W hW=>(He.o.zH.same hW).cell 1
    clear aH aT aK aQ ad au aN he;go_upto_region 7 with fail
    refine XT [0,0,0,0,1,0,1,2,2,0,0,3] 11 (fun W=>zh (fun g=>g=c.eb\/g∈zw N) V W) (fun W=>W.heap[c.eb]? = V.heap[c.eb]?) ?s0 ?s1 ?_
    case s0=>exact yw
    case s1=>rfl
    try refine zQ ?_
    repeat refine xM ai.o am.o ?_
    refine xf fun K R=>?_
    go_simp;refine R.out _ _ ((zh.refl _ _).drew.alloc _) (fun _=>by exact Below.heap_alloc _ _ _ He.o.zH.lt) ?_;clear R K;try refine zQ ?_
    repeat refine xM ai.o am.o ?_
    refine xf fun K R=>?_
    refine ZE _ _ rfl Vh (f:=xD) (xs:=ag) ((He.o.XU.same (w':=V.drew) fun _ _=>rfl).alloc _) He.o.Z0 v _ 0 1 rfl rfl rfl (yt _ _ _ rfl) zt (zd) zr ?_;intro g1 ac w5 aG aU aZ;have af:zh (fun x=>x∈zw N) V w5:=((zh.refl _ V).drew.alloc _).trans aU (fun x q _=>q);have ax:w5.heap[c.eb]? = V.heap[c.eb]?:=af.block _ He.o.zH.lt (fun h=>I.o.1 _ h rfl);refine R.out _ _ (af.mono fun x q _=>.inr q) (fun _=>ax) ?_;clear R K;try refine zQ ?_
    repeat refine xM ai.o am.o ?_
    refine Xf zj (fun K R=>?_);refine XC 86 _ _ rfl c.eb 1 _ _ (He.o.zH.same ax) (.slice (some ⟨g1,0,none⟩) (X+1) ac) rfl rfl zp (zo) rfl ?_;intro U aa;refine R.out _ _ ((af.mono (S':=fun g=>g=c.eb\/g∈zw N) fun x q _=>.inr q).trans aa.zC (fun x q _=>.inl q)) ?_;clear R K;try refine zQ ?_
    repeat refine xM ai.o am.o ?_
    refine xt ?_;have aj:g1∈zw N\/V.heap.size<=g1:=aZ.imp id (fun h=>by simp at h;omega);have aB:zh (fun g=>g=c.eb\/g∈zw N) V U:=(af.mono (S':=fun g=>g=c.eb\/g∈zw N) fun x q _=>.inr q).trans aa.zC (fun x q _=>.inl q);have az:zD U c.eb 352 #[.pointer (some ⟨c.wb,0,none⟩),.slice (some ⟨g1,0,none⟩) (X+1) ac,.slice H X Z]:=aa.zH;have aO:Own xD 9 1 U (some ⟨g1,0,none⟩) ac (ag++[v]):=aa.own aG (xY (fun e=>by
     rcases aj with h|h
     ·exact I.o.1 _ h e
     ·have:=I.o.2.2.2.2.2;have:=ar.o.size;omega))
    have aY:Own Th.cells 277 5 U H Z Y:=He.o.xV.zC aB (fun g hg h=>by
     rcases h with h|h
     ·exact I.o.2.1 _ hg h
     ·exact I.o.2.2.1 _ h hg)
    have aJ:g1∉zw H:=fun h=>by
     rcases aj with h1|h1
     ·exact I.o.2.2.1 _ h1 h
     ·have:=I.o.2.2.2.2.1 _ h;have:=ar.o.size;omega
    have av:=zz az;have ay:=zz aB;have aR:=zz aO;have bc:=zz aY;have a6:=zz aj;have a8:=zz aJ;have aq:=az.lt;have al:=zz (show ∀W,zh (fun g=>g=c.eb\/g∈zw H) U W->W.cell? ⟨w.heap.size+1,0,none⟩=some (.int .i8 xk)/\W.cell? ⟨w.heap.size+1,1,none⟩=some (.int .i64 xn)/\W.cell? ⟨w.heap.size+1,2,none⟩=some (.string xs)/\W.cell? ⟨w.heap.size+1,3,none⟩=some (.string xm)/\W.cell? ⟨w.heap.size+1,4,none⟩=some (.int .i64 xd)from fun W hW=>by
     have hb:zD W (w.heap.size+1) 277 #[.int .i8 xk,.int .i64 xn,.string xs,.string xm,.int .i64 xd]:=((ao.o).zC ay.o (fun e=>by
      rcases e with e|e
      ·have:=I.o.2.2.2.2.2;omega
      ·have:=I.o.2.2.2.1 _ e;omega)).zC hW (fun e=>by
      rcases e with e|e
      ·have:=I.o.2.2.2.2.2;omega
      ·have:=I.o.2.2.2.2.1 _ e;omega)
     exact⟨hb.cell 0,hb.cell 1,hb.cell 2,hb.cell 3,hb.cell 4⟩)
    have ak:Kz (∀W:World,W.heap[c.eb]? = U.heap[c.eb]?->W.cell? ⟨c.eb,2,none⟩=some (.slice H X Z)):=fun W hW=>(av.o.same hW).cell 2
    clear az aB aO aY aj aJ aa af ax aG aU aZ;go_upto_region 8 with fail
    refine XT [0,0,0,0,1,1,2,2,0,0,3] 10 (fun W=>zh (fun g=>g=c.eb\/g∈zw H) U W) (fun W=>W.heap[c.eb]? = U.heap[c.eb]?) ?s0 ?s1 ?_
    case s0=>exact yw
    case s1=>rfl
    try refine zQ ?_
    repeat refine xM al.o ak.o ?_
    refine xf fun K R=>?_
    go_simp;refine R.out _ _ ((zh.refl _ _).drew.alloc _) (fun _=>by exact Below.heap_alloc _ _ _ aq) ?_;clear R K;try refine zQ ?_
    repeat refine xM al.o ak.o ?_
    refine xf fun K R=>?_
    refine ZE _ _ rfl Jo (f:=Th.cells) (xs:=Y) ((bc.o.same (w':=U.drew) fun _ _=>rfl).alloc _) He.o.hlen ⟨xk,xn,xs,xm,xd⟩ _ 0 1 rfl rfl rfl (yt _ _ _ rfl) zt (zd) zr ?_;intro g2 aX w7 aM aI aP;have ae:zh (fun x=>x∈zw H) U w7:=((zh.refl _ U).drew.alloc _).trans aI (fun x q _=>q);have aC:w7.heap[c.eb]? = U.heap[c.eb]?:=ae.block _ aq (fun h=>I.o.2.1 _ h rfl);refine R.out _ _ (ae.mono fun x q _=>.inr q) (fun _=>aC) ?_;clear R K;try refine zQ ?_
    repeat refine xM al.o ak.o ?_
    refine Xf zj (fun K R=>?_);refine XC 275 _ _ rfl c.eb 2 _ _ (av.o.same aC) (.slice (some ⟨g2,0,none⟩) (X+1) aX) rfl rfl zp (zo) rfl ?_;intro W8 ab;refine R.out _ _ ((ae.mono (S':=fun g=>g=c.eb\/g∈zw H) fun x q _=>.inr q).trans ab.zC (fun x q _=>.inl q)) ?_;clear R K;try refine zQ ?_
    repeat refine xM al.o ak.o ?_
    refine xt ?_;have aD:g2∈zw H\/U.heap.size<=g2:=aP.imp id (fun h=>by simp at h;omega);have aw:zh (fun g=>g=c.eb\/g∈zw H) U W8:=(ae.mono (S':=fun g=>g=c.eb\/g∈zw H) fun x q _=>.inr q).trans ab.zC (fun x q _=>.inl q);have aS:=zz (show ∃D',yg c D' L (X+1) no W8/\xB D w W8 D' from by
     have hC:zh (fun g=>g=c.eb\/g∈zw N\/g∈zw H) V W8:=(ay.o.mono (S':=fun g=>g=c.eb\/g∈zw N\/g∈zw H) fun x q _=>q.imp id .inl).trans aw (fun x q _=>q.imp id .inr);have hv:=(a2.o).var He.o hC (s:=v) (x:=⟨xk,xn,xs,xm,xd⟩) bj.o ab.zH (aR.o.zC aw (fun g hg h=>by
      obtain rfl:g=g1:=by simpa[zw]using hg
      rcases h with h|h
      ·exact X0 aR.o av.o zr _ hg h
      ·exact a8.o h)) (ab.own aM (xY (fun e=>by
      rcases aD with h|h
      ·exact I.o.2.1 _ h e
      ·omega))) a6.o (aD.imp id fun h=>zpK ay.o.size h)
     exact⟨_,hv.1,(xB.below ar.o).trans hv.2⟩)
    clear aD aw ab ae aC aM aI aP;go_wp2;go_returns;obtain⟨D',h1,h2⟩:=aS.o;exact⟨true,X+1,D',rfl,zd,zpx _,h1,h2⟩
   |true=>
    by_cases aE:rm.toList=[]
    ·have b4:rm.toList.isEmpty=true:=by simp[aE]
     have b5:(rm.toList==([]:List UInt8))=true:=by simp[aE]
     have b6:(rm.toList !=([]:List UInt8))=false:=by simp[aE]
     go_wp2_with (refine xy 277 _ _ rfl ?_;refine XG zj 277 _ _ rfl W0.heap.size 0 _ _ bg.o [.int .i8 rk,.int .i64 rn,.string rs,.string rm,.int .i64 rd] rfl rfl zp XD zt ?_;intro W5 aL;have aA:=zz aL;clear aL;clear x0 x1 x2 x3;have O:=aA.o.qj ao.o (by have:=HX.o.size;omega);have x0:=O.cell 0;have x1:=O.cell 1;have x2:=O.cell 2;have x3:=O.cell 3;have ah:=aA.o.zH;have y0:=ah.cell 0;have y1:=ah.cell 1;have y2:=ah.cell 2;have y3:=ah.cell 3;clear O ah;have aV:=zz (show Bl w W5 from aA.o.below ar.o (zpx _) HX.o.below.size))
     all_goals(go_returns;exact⟨_,X,D,rfl,zpx _,zqG _,HW.o.below aV.o,xB.below aV.o⟩)
    ·have b4:rm.toList.isEmpty=false:=by simp[aE]
     have b5:(rm.toList==([]:List UInt8))=false:=by simp[aE]
     have b6:(rm.toList !=([]:List UInt8))=true:=by simp[aE]
     by_cases a1:xm.toList=[]
     ·have b7:xm.toList.isEmpty=true:=by simp[a1]
      have b8:(xm.toList==([]:List UInt8))=true:=by simp[a1]
      obtain⟨N,H,aW,Z,ag,Y,he⟩:=a2.o.env;have He:=zz he;have aH:zD V w.heap.size 45 #[.string v,.int .i8 k,.int .i64 n,.string s]:=bi.o;have aT:∀g∈zw N,g≠c.eb:=X0 he.XU he.zH zr;have aK:∀g∈zw H,g≠c.eb:=X0 he.xV he.zH zr;have aQ:∀g∈zw N,g∉zw H:=fun g hg a7=>he.XU.ZU he.xV zr g hg a7
      have ad:∀g∈zw N,g<w.heap.size:=fun g hg=>HW.o.lt g (he.nD g hg)
      have au:∀g∈zw H,g<w.heap.size:=fun g hg=>HW.o.lt g (he.hD g hg)
      have aN:c.eb<w.heap.size:=HW.o.lt _ HW.o.ZL;have I:=zz (zpG aT (zpG aK (zpG aQ (zpG ad (zpG au aN)))));have ai:=zz (show ∀W,zh (fun g=>g=c.eb\/g∈zw N) V W->W.cell? ⟨w.heap.size,0,none⟩=some (.string v)from fun W hW=>(aH.zC hW (fun e=>by
       rcases e with e|e
       ·omega
       ·have:=ad _ e;omega)).cell 0)
      have am:Kz (∀W:World,W.heap[c.eb]? = V.heap[c.eb]?->W.cell? ⟨c.eb,1,none⟩=some (.slice N X aW)):=fun W hW=>(He.o.zH.same hW).cell 1
      clear aH aT aK aQ ad au aN he;go_upto_region 7 with fail
      refine XT [0,0,0,0,1,0,1,2,2,0,0,3] 11 (fun W=>zh (fun g=>g=c.eb\/g∈zw N) V W) (fun W=>W.heap[c.eb]? = V.heap[c.eb]?) ?s0 ?s1 ?_
      case s0=>exact yw
      case s1=>rfl
      try refine zQ ?_
      repeat refine xM ai.o am.o ?_
      refine xf fun K R=>?_
      go_simp;refine R.out _ _ ((zh.refl _ _).drew.alloc _) (fun _=>by exact Below.heap_alloc _ _ _ He.o.zH.lt) ?_;clear R K;try refine zQ ?_
      repeat refine xM ai.o am.o ?_
      refine xf fun K R=>?_
      refine ZE _ _ rfl Vh (f:=xD) (xs:=ag) ((He.o.XU.same (w':=V.drew) fun _ _=>rfl).alloc _) He.o.Z0 v _ 0 1 rfl rfl rfl (yt _ _ _ rfl) zt (zd) zr ?_;intro g1 ac w5 aG aU aZ;have af:zh (fun x=>x∈zw N) V w5:=((zh.refl _ V).drew.alloc _).trans aU (fun x q _=>q);have ax:w5.heap[c.eb]? = V.heap[c.eb]?:=af.block _ He.o.zH.lt (fun h=>I.o.1 _ h rfl);refine R.out _ _ (af.mono fun x q _=>.inr q) (fun _=>ax) ?_;clear R K;try refine zQ ?_
      repeat refine xM ai.o am.o ?_
      refine Xf zj (fun K R=>?_);refine XC 86 _ _ rfl c.eb 1 _ _ (He.o.zH.same ax) (.slice (some ⟨g1,0,none⟩) (X+1) ac) rfl rfl zp (zo) rfl ?_;intro U aa;refine R.out _ _ ((af.mono (S':=fun g=>g=c.eb\/g∈zw N) fun x q _=>.inr q).trans aa.zC (fun x q _=>.inl q)) ?_;clear R K;try refine zQ ?_
      repeat refine xM ai.o am.o ?_
      refine xt ?_;have aj:g1∈zw N\/V.heap.size<=g1:=aZ.imp id (fun h=>by simp at h;omega);have aB:zh (fun g=>g=c.eb\/g∈zw N) V U:=(af.mono (S':=fun g=>g=c.eb\/g∈zw N) fun x q _=>.inr q).trans aa.zC (fun x q _=>.inl q);have az:zD U c.eb 352 #[.pointer (some ⟨c.wb,0,none⟩),.slice (some ⟨g1,0,none⟩) (X+1) ac,.slice H X Z]:=aa.zH;have aO:Own xD 9 1 U (some ⟨g1,0,none⟩) ac (ag++[v]):=aa.own aG (xY (fun e=>by
       rcases aj with h|h
       ·exact I.o.1 _ h e
       ·have:=I.o.2.2.2.2.2;have:=ar.o.size;omega))
      have aY:Own Th.cells 277 5 U H Z Y:=He.o.xV.zC aB (fun g hg h=>by
       rcases h with h|h
       ·exact I.o.2.1 _ hg h
       ·exact I.o.2.2.1 _ h hg)
      have aJ:g1∉zw H:=fun h=>by
       rcases aj with h1|h1
       ·exact I.o.2.2.1 _ h1 h
       ·have:=I.o.2.2.2.2.1 _ h;have:=ar.o.size;omega
      have av:=zz az;have ay:=zz aB;have aR:=zz aO;have bc:=zz aY;have a6:=zz aj;have a8:=zz aJ;have aq:=az.lt;have al:=zz (show ∀W,zh (fun g=>g=c.eb\/g∈zw H) U W->W.cell? ⟨w.heap.size+1,0,none⟩=some (.int .i8 xk)/\W.cell? ⟨w.heap.size+1,1,none⟩=some (.int .i64 xn)/\W.cell? ⟨w.heap.size+1,2,none⟩=some (.string xs)/\W.cell? ⟨w.heap.size+1,3,none⟩=some (.string xm)/\W.cell? ⟨w.heap.size+1,4,none⟩=some (.int .i64 xd)from fun W hW=>by
       have hb:zD W (w.heap.size+1) 277 #[.int .i8 xk,.int .i64 xn,.string xs,.string xm,.int .i64 xd]:=((ao.o).zC ay.o (fun e=>by
        rcases e with e|e
        ·have:=I.o.2.2.2.2.2;omega
        ·have:=I.o.2.2.2.1 _ e;omega)).zC hW (fun e=>by
        rcases e with e|e
        ·have:=I.o.2.2.2.2.2;omega
        ·have:=I.o.2.2.2.2.1 _ e;omega)
       exact⟨hb.cell 0,hb.cell 1,hb.cell 2,hb.cell 3,hb.cell 4⟩)
      have ak:Kz (∀W:World,W.heap[c.eb]? = U.heap[c.eb]?->W.cell? ⟨c.eb,2,none⟩=some (.slice H X Z)):=fun W hW=>(av.o.same hW).cell 2
      clear az aB aO aY aj aJ aa af ax aG aU aZ;go_upto_region 8 with fail
      refine XT [0,0,0,0,1,1,2,2,0,0,3] 10 (fun W=>zh (fun g=>g=c.eb\/g∈zw H) U W) (fun W=>W.heap[c.eb]? = U.heap[c.eb]?) ?s0 ?s1 ?_
      case s0=>exact yw
      case s1=>rfl
      try refine zQ ?_
      repeat refine xM al.o ak.o ?_
      refine xf fun K R=>?_
      go_simp;refine R.out _ _ ((zh.refl _ _).drew.alloc _) (fun _=>by exact Below.heap_alloc _ _ _ aq) ?_;clear R K;try refine zQ ?_
      repeat refine xM al.o ak.o ?_
      refine xf fun K R=>?_
      refine ZE _ _ rfl Jo (f:=Th.cells) (xs:=Y) ((bc.o.same (w':=U.drew) fun _ _=>rfl).alloc _) He.o.hlen ⟨xk,xn,xs,xm,xd⟩ _ 0 1 rfl rfl rfl (yt _ _ _ rfl) zt (zd) zr ?_;intro g2 aX w7 aM aI aP;have ae:zh (fun x=>x∈zw H) U w7:=((zh.refl _ U).drew.alloc _).trans aI (fun x q _=>q);have aC:w7.heap[c.eb]? = U.heap[c.eb]?:=ae.block _ aq (fun h=>I.o.2.1 _ h rfl);refine R.out _ _ (ae.mono fun x q _=>.inr q) (fun _=>aC) ?_;clear R K;try refine zQ ?_
      repeat refine xM al.o ak.o ?_
      refine Xf zj (fun K R=>?_);refine XC 275 _ _ rfl c.eb 2 _ _ (av.o.same aC) (.slice (some ⟨g2,0,none⟩) (X+1) aX) rfl rfl zp (zo) rfl ?_;intro W8 ab;refine R.out _ _ ((ae.mono (S':=fun g=>g=c.eb\/g∈zw H) fun x q _=>.inr q).trans ab.zC (fun x q _=>.inl q)) ?_;clear R K;try refine zQ ?_
      repeat refine xM al.o ak.o ?_
      refine xt ?_;have aD:g2∈zw H\/U.heap.size<=g2:=aP.imp id (fun h=>by simp at h;omega);have aw:zh (fun g=>g=c.eb\/g∈zw H) U W8:=(ae.mono (S':=fun g=>g=c.eb\/g∈zw H) fun x q _=>.inr q).trans ab.zC (fun x q _=>.inl q);have aS:=zz (show ∃D',yg c D' L (X+1) no W8/\xB D w W8 D' from by
       have hC:zh (fun g=>g=c.eb\/g∈zw N\/g∈zw H) V W8:=(ay.o.mono (S':=fun g=>g=c.eb\/g∈zw N\/g∈zw H) fun x q _=>q.imp id .inl).trans aw (fun x q _=>q.imp id .inr);have hv:=(a2.o).var He.o hC (s:=v) (x:=⟨xk,xn,xs,xm,xd⟩) bj.o ab.zH (aR.o.zC aw (fun g hg h=>by
        obtain rfl:g=g1:=by simpa[zw]using hg
        rcases h with h|h
        ·exact X0 aR.o av.o zr _ hg h
        ·exact a8.o h)) (ab.own aM (xY (fun e=>by
        rcases aD with h|h
        ·exact I.o.2.1 _ h e
        ·omega))) a6.o (aD.imp id fun h=>zpK ay.o.size h)
       exact⟨_,hv.1,(xB.below ar.o).trans hv.2⟩)
      clear aD aw ab ae aC aM aI aP;go_wp2;go_returns;obtain⟨D',h1,h2⟩:=aS.o;exact⟨true,X+1,D',rfl,zd,zpx _,h1,h2⟩
     ·have b7:xm.toList.isEmpty=false:=by simp[a1]
      have b8:(xm.toList==([]:List UInt8))=false:=by simp[a1]
      go_wp2_with (refine xy 277 _ _ rfl ?_;refine XG zj 277 _ _ rfl W0.heap.size 0 _ _ bg.o [.int .i8 rk,.int .i64 rn,.string rs,.string rm,.int .i64 rd] rfl rfl zp XD zt ?_;intro W5 aL;have aA:=zz aL;clear aL;clear x0 x1 x2 x3;have O:=aA.o.qj ao.o (by have:=HX.o.size;omega);have x0:=O.cell 0;have x1:=O.cell 1;have x2:=O.cell 2;have x3:=O.cell 3;have ah:=aA.o.zH;have y0:=ah.cell 0;have y1:=ah.cell 1;have y2:=ah.cell 2;have y3:=ah.cell 3;clear O ah;have aV:=zz (show Bl w W5 from aA.o.below ar.o (zpx _) HX.o.below.size))
      all_goals(go_returns;exact⟨_,X,D,rfl,zpx _,zqG _,HW.o.below aV.o,xB.below aV.o⟩)
end
