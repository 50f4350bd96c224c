/-
  What is worked out: does a term fit a thing? The walk.
-/
import Derived.Test.YtfdickkdlcgicaaGreatDoorP25
set_option maxRecDepth 100000
set_option maxHeartbeats 8000000
set_option linter.all false
namespace Go.Proofs.YtfdickkdlcgicaaGreatDoor.C
open Go.Proofs.Tryz Go Go.RowKit Go.Maps Go.WideMaps
section
theorem zlS{c:Wc}{D:Nat->Prop}{L:Int}{V no:Nat}{w:World}(h:q9 c D L V no w)(bn:V<=4194303)(t:Tm)(ht:t.x.told)(x:Th)(q:x.qL):
 Calls prog 247 #[.pointer (some ⟨c.eb,0,none⟩),.agg t.cells.toArray,.agg x.cells.toArray] w (zdh c D L V no w):=by
 obtain⟨v,k,n,s⟩:=t;obtain⟨xk,xn,xs,xm,xd⟩:=x;have bi:=zz q;simp only[Tm.cells,Th.cells]at *;obtain⟨W0,I,r⟩:=ya w 45 277 #[.string v,.int .i8 k,.int .i64 n,.string s] #[.int .i8 xk,.int .i64 xn,.string xs,.string xm,.int .i64 xd];have HW:=zz h;have bm:=zz I;have HX:=zz r;have t0:=r.b0.cell 0;have t1:=r.b0.cell 1;have t2:=r.b0.cell 2;have t3:=r.b0.cell 3;have a3:=zz (show zdh c D L V no w (.returned (.bool true)) W0/\True from⟨⟨true,V,D,rfl,zoZ _,zqa _,h.below r.below,xB.below r.below⟩,trivial⟩);clear r I h q;go_enter func247,ntmps247;go_upto_region 1 with fail
 rw[bm.o]
 by_cases a2:v.toList=[95]
 ·have b1:(v.toList==[95])=true:=by simp[a2]
  go_wp2;go_returns;exact a3.o.1
 ·have b1:(v.toList==[95])=false:=by simp[a2]
  go_upto_region 4 with(refine xy 277 _ _ rfl ?_;refine XE zj 277 _ _ rfl _ [.int .i8 k,.int .i64 n,.string s,.string ⟨#[]⟩,.int .i64 0] rfl rfl zp Xr zt ?_;intro W1 bc;have ao:=zz bc;clear bc)
  have a8:=zz (zu HX.o.below ao.o.below);have I:=HX.o.b0.below ao.o.below;have r:=HX.o.b1.below ao.o.below;have bg:=zz I;have bd:=zz r;have a9:=zz (HW.o.below a8.o);clear t0 t1 t2 t3;have a0:=I.cell 0;have x0:=r.cell 0;have x1:=r.cell 1;have x2:=r.cell 2;have x3:=r.cell 3;have y0:=ao.o.b0.cell 0;have y1:=ao.o.b0.cell 1;have y2:=ao.o.b0.cell 2;have y3:=ao.o.b0.cell 3;clear I r
  by_cases hv:v.toList=[]
  ·have b2:v.toList.isEmpty=true:=by simp[hv]
   have b3:(v.toList==([]:List UInt8))=true:=by simp[hv]
   go_wp2
   all_goals(go_returns;exact⟨_,V,D,rfl,zoZ _,zqa _,a9.o,xB.below a8.o⟩)
  ·have b2:v.toList.isEmpty=false:=by simp[hv]
   have b3:(v.toList==([]:List UInt8))=false:=by simp[hv]
   have a4:=zz (DL a9.o.env zd v);go_upto_region 6 with(first
    |(go_at_call 209;refine a4.o.mono ?_;rintro e w2⟨⟨rk,rn,rs,rm,rd⟩,rb,rfl,bl,be⟩;have bk:=zz be;clear be bl;simp only[Th.cells])
    |(refine xy 277 _ _ rfl ?_;refine XE zj 277 _ _ rfl _ [.int .i8 rk,.int .i64 rn,.string rs,.string rm,.int .i64 rd] rfl rfl zp Xr zt ?_;intro U bj;have aE:=zz bj;clear bj))
   have am:=zz (zu bk.o aE.o.below);have aq:Kz (Bl w U):=zu a8.o am.o;have bh:=zz (bg.o.below am.o);have an:=zz (bd.o.below am.o);have bf:=zz (ao.o.b0.below am.o);have a1:=zz (a9.o.below am.o);clear a0 x0 x1 x2 x3 y0 y1 y2 y3;have x0:=an.o.cell 0;have x1:=an.o.cell 1;have x2:=an.o.cell 2;have x3:=an.o.cell 3;have r0:=aE.o.b0.cell 0;have r1:=aE.o.b0.cell 1;have r2:=aE.o.b0.cell 2;have r3:=aE.o.b0.cell 3;have r4:=aE.o.b0.cell 4
   cases rb with
   |false=>
    obtain⟨N,H,aV,Y,af,X,he⟩:=a1.o.env;have He:=zz he;have aG:zD U w.heap.size 45 #[.string v,.int .i8 k,.int .i64 n,.string s]:=bh.o;have aS:∀g∈zw N,g≠c.eb:=XN he.XI he.zG zr;have aJ:∀g∈zw H,g≠c.eb:=XN he.xT he.zG zr;have aP:∀g∈zw N,g∉zw H:=fun g hg a6=>he.XI.ZL he.xT zr g hg a6
    have ac:∀g∈zw N,g<w.heap.size:=fun g hg=>HW.o.lt g (he.nD g hg)
    have ar:∀g∈zw H,g<w.heap.size:=fun g hg=>HW.o.lt g (he.hD g hg)
    have aM:c.eb<w.heap.size:=HW.o.lt _ HW.o.ZC;have r:=zz (zpf aS (zpf aJ (zpf aP (zpf ac (zpf ar aM)))));have ah:=zz (show ∀W,zh (fun g=>g=c.eb\/g∈zw N) U W->W.cell? ⟨w.heap.size,0,none⟩=some (.string v)from fun W hW=>(aG.zC hW (fun e=>by
     rcases e with e|e
     ·omega
     ·have:=ac _ e;omega)).cell 0)
    have al:Kz (∀W:World,W.heap[c.eb]? = U.heap[c.eb]?->W.cell? ⟨c.eb,1,none⟩=some (.slice N V aV)):=fun W hW=>(He.o.zG.same hW).cell 1
    clear aG aS aJ aP ac ar aM he;go_upto_region 7 with fail
    refine XH [0,0,0,0,1,0,1,2,2,0,0,3] 11 (fun W=>zh (fun g=>g=c.eb\/g∈zw N) U W) (fun W=>W.heap[c.eb]? = U.heap[c.eb]?) ?s0 ?s1 ?_
    case s0=>exact yj
    case s1=>rfl
    try refine zQ ?_
    repeat refine xK ah.o al.o ?_
    refine xc fun K O=>?_
    go_simp;refine O.out _ _ ((zh.refl _ _).drew.alloc _) (fun _=>by exact Below.heap_alloc _ _ _ He.o.zG.lt) ?_;clear O K;try refine zQ ?_
    repeat refine xK ah.o al.o ?_
    refine xc fun K O=>?_
    refine Zv _ _ rfl Z7 (f:=xC) (xs:=af) ((He.o.XI.same (w':=U.drew) fun _ _=>rfl).alloc _) He.o.ZQ v _ 0 1 rfl rfl rfl (yp _ _ _ rfl) zt (zd) zr ?_;intro g1 ab w5 aF aT aY;have ae:zh (fun x=>x∈zw N) U w5:=((zh.refl _ U).drew.alloc _).trans aT (fun x q _=>q);have aw:w5.heap[c.eb]? = U.heap[c.eb]?:=ae.block _ He.o.zG.lt (fun h=>r.o.1 _ h rfl);refine O.out _ _ (ae.mono fun x q _=>.inr q) (fun _=>aw) ?_;clear O K;try refine zQ ?_
    repeat refine xK ah.o al.o ?_
    refine y7 zj (fun K O=>?_);refine Xq 86 _ _ rfl c.eb 1 _ _ (He.o.zG.same aw) (.slice (some ⟨g1,0,none⟩) (V+1) ab) rfl rfl zp (zo) rfl ?_;intro R Z;refine O.out _ _ ((ae.mono (S':=fun g=>g=c.eb\/g∈zw N) fun x q _=>.inr q).trans Z.zC (fun x q _=>.inl q)) ?_;clear O K;try refine zQ ?_
    repeat refine xK ah.o al.o ?_
    refine xu ?_;have ai:g1∈zw N\/U.heap.size<=g1:=aY.imp id (fun h=>by simp at h;omega);have aA:zh (fun g=>g=c.eb\/g∈zw N) U R:=(ae.mono (S':=fun g=>g=c.eb\/g∈zw N) fun x q _=>.inr q).trans Z.zC (fun x q _=>.inl q);have ay:zD R c.eb 352 #[.pointer (some ⟨c.wb,0,none⟩),.slice (some ⟨g1,0,none⟩) (V+1) ab,.slice H V Y]:=Z.zG;have aN:Own xC 9 1 R (some ⟨g1,0,none⟩) ab (af++[v]):=Z.own aF (xW (fun e=>by
     rcases ai with h|h
     ·exact r.o.1 _ h e
     ·have:=r.o.2.2.2.2.2;have:=aq.o.size;omega))
    have aX:Own Th.cells 277 5 R H Y X:=He.o.xT.zC aA (fun g hg h=>by
     rcases h with h|h
     ·exact r.o.2.1 _ hg h
     ·exact r.o.2.2.1 _ h hg)
    have aI:g1∉zw H:=fun h=>by
     rcases ai with h1|h1
     ·exact r.o.2.2.1 _ h1 h
     ·have:=r.o.2.2.2.2.1 _ h;have:=aq.o.size;omega
    have au:=zz ay;have ax:=zz aA;have aQ:=zz aN;have ba:=zz aX;have a5:=zz ai;have a7:=zz aI;have ap:=ay.lt;have ak:=zz (show ∀W,zh (fun g=>g=c.eb\/g∈zw H) R W->W.cell? ⟨w.heap.size+1,0,none⟩=some (.int .i8 xk)/\W.cell? ⟨w.heap.size+1,1,none⟩=some (.int .i64 xn)/\W.cell? ⟨w.heap.size+1,2,none⟩=some (.string xs)/\W.cell? ⟨w.heap.size+1,3,none⟩=some (.string xm)/\W.cell? ⟨w.heap.size+1,4,none⟩=some (.int .i64 xd)from fun W hW=>by
     have hb:zD W (w.heap.size+1) 277 #[.int .i8 xk,.int .i64 xn,.string xs,.string xm,.int .i64 xd]:=((an.o).zC ax.o (fun e=>by
      rcases e with e|e
      ·have:=r.o.2.2.2.2.2;omega
      ·have:=r.o.2.2.2.1 _ e;omega)).zC hW (fun e=>by
      rcases e with e|e
      ·have:=r.o.2.2.2.2.2;omega
      ·have:=r.o.2.2.2.2.1 _ e;omega)
     exact⟨hb.cell 0,hb.cell 1,hb.cell 2,hb.cell 3,hb.cell 4⟩)
    have aj:Kz (∀W:World,W.heap[c.eb]? = R.heap[c.eb]?->W.cell? ⟨c.eb,2,none⟩=some (.slice H V Y)):=fun W hW=>(au.o.same hW).cell 2
    clear ay aA aN aX ai aI Z ae aw aF aT aY;go_upto_region 8 with fail
    refine XH [0,0,0,0,1,1,2,2,0,0,3] 10 (fun W=>zh (fun g=>g=c.eb\/g∈zw H) R W) (fun W=>W.heap[c.eb]? = R.heap[c.eb]?) ?s0 ?s1 ?_
    case s0=>exact yj
    case s1=>rfl
    try refine zQ ?_
    repeat refine xK ak.o aj.o ?_
    refine xc fun K O=>?_
    go_simp;refine O.out _ _ ((zh.refl _ _).drew.alloc _) (fun _=>by exact Below.heap_alloc _ _ _ ap) ?_;clear O K;try refine zQ ?_
    repeat refine xK ak.o aj.o ?_
    refine xc fun K O=>?_
    refine Zv _ _ rfl U8 (f:=Th.cells) (xs:=X) ((ba.o.same (w':=R.drew) fun _ _=>rfl).alloc _) He.o.hlen ⟨xk,xn,xs,xm,xd⟩ _ 0 1 rfl rfl rfl (yp _ _ _ rfl) zt (zd) zr ?_;intro g2 aW w7 aL aH aO;have ad:zh (fun x=>x∈zw H) R w7:=((zh.refl _ R).drew.alloc _).trans aH (fun x q _=>q);have aB:w7.heap[c.eb]? = R.heap[c.eb]?:=ad.block _ ap (fun h=>r.o.2.1 _ h rfl);refine O.out _ _ (ad.mono fun x q _=>.inr q) (fun _=>aB) ?_;clear O K;try refine zQ ?_
    repeat refine xK ak.o aj.o ?_
    refine y7 zj (fun K O=>?_);refine Xq 275 _ _ rfl c.eb 2 _ _ (au.o.same aB) (.slice (some ⟨g2,0,none⟩) (V+1) aW) rfl rfl zp (zo) rfl ?_;intro W8 aa;refine O.out _ _ ((ad.mono (S':=fun g=>g=c.eb\/g∈zw H) fun x q _=>.inr q).trans aa.zC (fun x q _=>.inl q)) ?_;clear O K;try refine zQ ?_
    repeat refine xK ak.o aj.o ?_
    refine xu ?_;have aC:g2∈zw H\/R.heap.size<=g2:=aO.imp id (fun h=>by simp at h;omega);have av:zh (fun g=>g=c.eb\/g∈zw H) R W8:=(ad.mono (S':=fun g=>g=c.eb\/g∈zw H) fun x q _=>.inr q).trans aa.zC (fun x q _=>.inl q);have aR:=zz (show ∃D',q9 c D' L (V+1) no W8/\xB D w W8 D' from by
     have hC:zh (fun g=>g=c.eb\/g∈zw N\/g∈zw H) U W8:=(ax.o.mono (S':=fun g=>g=c.eb\/g∈zw N\/g∈zw H) fun x q _=>q.imp id .inl).trans av (fun x q _=>q.imp id .inr);have hv:=(a1.o).var He.o hC (s:=v) (x:=⟨xk,xn,xs,xm,xd⟩) bi.o aa.zG (aQ.o.zC av (fun g hg h=>by
      obtain rfl:g=g1:=by simpa[zw]using hg
      rcases h with h|h
      ·exact XN aQ.o au.o zr _ hg h
      ·exact a7.o h)) (aa.own aL (xW (fun e=>by
      rcases aC with h|h
      ·exact r.o.2.1 _ h e
      ·omega))) a5.o (aC.imp id fun h=>zpd ax.o.size h)
     exact⟨_,hv.1,(xB.below aq.o).trans hv.2⟩)
    clear aC av aa ad aB aL aH aO;go_wp2;go_returns;obtain⟨D',h1,h2⟩:=aR.o;exact⟨true,V+1,D',rfl,zd,zoZ _,h1,h2⟩
   |true=>
    by_cases aD:rm.toList=[]
    ·have b4:rm.toList.isEmpty=true:=by simp[aD]
     have b5:(rm.toList==([]:List UInt8))=true:=by simp[aD]
     have b6:(rm.toList !=([]:List UInt8))=false:=by simp[aD]
     go_wp2_with (refine xy 277 _ _ rfl ?_;refine Xu zj 277 _ _ rfl W0.heap.size 0 _ _ bf.o [.int .i8 rk,.int .i64 rn,.string rs,.string rm,.int .i64 rd] rfl rfl zp Xr zt ?_;intro W5 aK;have az:=zz aK;clear aK;clear x0 x1 x2 x3;have I:=az.o.qj an.o (by have:=HX.o.size;omega);have x0:=I.cell 0;have x1:=I.cell 1;have x2:=I.cell 2;have x3:=I.cell 3;have ag:=az.o.zG;have y0:=ag.cell 0;have y1:=ag.cell 1;have y2:=ag.cell 2;have y3:=ag.cell 3;clear I ag;have aU:=zz (show Bl w W5 from az.o.below aq.o (zoZ _) HX.o.below.size))
     all_goals(go_returns;exact⟨_,V,D,rfl,zoZ _,zqa _,HW.o.below aU.o,xB.below aU.o⟩)
    ·have b4:rm.toList.isEmpty=false:=by simp[aD]
     have b5:(rm.toList==([]:List UInt8))=false:=by simp[aD]
     have b6:(rm.toList !=([]:List UInt8))=true:=by simp[aD]
     by_cases aZ:xm.toList=[]
     ·have b7:xm.toList.isEmpty=true:=by simp[aZ]
      have b8:(xm.toList==([]:List UInt8))=true:=by simp[aZ]
      obtain⟨N,H,aV,Y,af,X,he⟩:=a1.o.env;have He:=zz he;have aG:zD U w.heap.size 45 #[.string v,.int .i8 k,.int .i64 n,.string s]:=bh.o;have aS:∀g∈zw N,g≠c.eb:=XN he.XI he.zG zr;have aJ:∀g∈zw H,g≠c.eb:=XN he.xT he.zG zr;have aP:∀g∈zw N,g∉zw H:=fun g hg a6=>he.XI.ZL he.xT zr g hg a6
      have ac:∀g∈zw N,g<w.heap.size:=fun g hg=>HW.o.lt g (he.nD g hg)
      have ar:∀g∈zw H,g<w.heap.size:=fun g hg=>HW.o.lt g (he.hD g hg)
      have aM:c.eb<w.heap.size:=HW.o.lt _ HW.o.ZC;have r:=zz (zpf aS (zpf aJ (zpf aP (zpf ac (zpf ar aM)))));have ah:=zz (show ∀W,zh (fun g=>g=c.eb\/g∈zw N) U W->W.cell? ⟨w.heap.size,0,none⟩=some (.string v)from fun W hW=>(aG.zC hW (fun e=>by
       rcases e with e|e
       ·omega
       ·have:=ac _ e;omega)).cell 0)
      have al:Kz (∀W:World,W.heap[c.eb]? = U.heap[c.eb]?->W.cell? ⟨c.eb,1,none⟩=some (.slice N V aV)):=fun W hW=>(He.o.zG.same hW).cell 1
      clear aG aS aJ aP ac ar aM he;go_upto_region 7 with fail
      refine XH [0,0,0,0,1,0,1,2,2,0,0,3] 11 (fun W=>zh (fun g=>g=c.eb\/g∈zw N) U W) (fun W=>W.heap[c.eb]? = U.heap[c.eb]?) ?s0 ?s1 ?_
      case s0=>exact yj
      case s1=>rfl
      try refine zQ ?_
      repeat refine xK ah.o al.o ?_
      refine xc fun K O=>?_
      go_simp;refine O.out _ _ ((zh.refl _ _).drew.alloc _) (fun _=>by exact Below.heap_alloc _ _ _ He.o.zG.lt) ?_;clear O K;try refine zQ ?_
      repeat refine xK ah.o al.o ?_
      refine xc fun K O=>?_
      refine Zv _ _ rfl Z7 (f:=xC) (xs:=af) ((He.o.XI.same (w':=U.drew) fun _ _=>rfl).alloc _) He.o.ZQ v _ 0 1 rfl rfl rfl (yp _ _ _ rfl) zt (zd) zr ?_;intro g1 ab w5 aF aT aY;have ae:zh (fun x=>x∈zw N) U w5:=((zh.refl _ U).drew.alloc _).trans aT (fun x q _=>q);have aw:w5.heap[c.eb]? = U.heap[c.eb]?:=ae.block _ He.o.zG.lt (fun h=>r.o.1 _ h rfl);refine O.out _ _ (ae.mono fun x q _=>.inr q) (fun _=>aw) ?_;clear O K;try refine zQ ?_
      repeat refine xK ah.o al.o ?_
      refine y7 zj (fun K O=>?_);refine Xq 86 _ _ rfl c.eb 1 _ _ (He.o.zG.same aw) (.slice (some ⟨g1,0,none⟩) (V+1) ab) rfl rfl zp (zo) rfl ?_;intro R Z;refine O.out _ _ ((ae.mono (S':=fun g=>g=c.eb\/g∈zw N) fun x q _=>.inr q).trans Z.zC (fun x q _=>.inl q)) ?_;clear O K;try refine zQ ?_
      repeat refine xK ah.o al.o ?_
      refine xu ?_;have ai:g1∈zw N\/U.heap.size<=g1:=aY.imp id (fun h=>by simp at h;omega);have aA:zh (fun g=>g=c.eb\/g∈zw N) U R:=(ae.mono (S':=fun g=>g=c.eb\/g∈zw N) fun x q _=>.inr q).trans Z.zC (fun x q _=>.inl q);have ay:zD R c.eb 352 #[.pointer (some ⟨c.wb,0,none⟩),.slice (some ⟨g1,0,none⟩) (V+1) ab,.slice H V Y]:=Z.zG;have aN:Own xC 9 1 R (some ⟨g1,0,none⟩) ab (af++[v]):=Z.own aF (xW (fun e=>by
       rcases ai with h|h
       ·exact r.o.1 _ h e
       ·have:=r.o.2.2.2.2.2;have:=aq.o.size;omega))
      have aX:Own Th.cells 277 5 R H Y X:=He.o.xT.zC aA (fun g hg h=>by
       rcases h with h|h
       ·exact r.o.2.1 _ hg h
       ·exact r.o.2.2.1 _ h hg)
      have aI:g1∉zw H:=fun h=>by
       rcases ai with h1|h1
       ·exact r.o.2.2.1 _ h1 h
       ·have:=r.o.2.2.2.2.1 _ h;have:=aq.o.size;omega
      have au:=zz ay;have ax:=zz aA;have aQ:=zz aN;have ba:=zz aX;have a5:=zz ai;have a7:=zz aI;have ap:=ay.lt;have ak:=zz (show ∀W,zh (fun g=>g=c.eb\/g∈zw H) R W->W.cell? ⟨w.heap.size+1,0,none⟩=some (.int .i8 xk)/\W.cell? ⟨w.heap.size+1,1,none⟩=some (.int .i64 xn)/\W.cell? ⟨w.heap.size+1,2,none⟩=some (.string xs)/\W.cell? ⟨w.heap.size+1,3,none⟩=some (.string xm)/\W.cell? ⟨w.heap.size+1,4,none⟩=some (.int .i64 xd)from fun W hW=>by
       have hb:zD W (w.heap.size+1) 277 #[.int .i8 xk,.int .i64 xn,.string xs,.string xm,.int .i64 xd]:=((an.o).zC ax.o (fun e=>by
        rcases e with e|e
        ·have:=r.o.2.2.2.2.2;omega
        ·have:=r.o.2.2.2.1 _ e;omega)).zC hW (fun e=>by
        rcases e with e|e
        ·have:=r.o.2.2.2.2.2;omega
        ·have:=r.o.2.2.2.2.1 _ e;omega)
       exact⟨hb.cell 0,hb.cell 1,hb.cell 2,hb.cell 3,hb.cell 4⟩)
      have aj:Kz (∀W:World,W.heap[c.eb]? = R.heap[c.eb]?->W.cell? ⟨c.eb,2,none⟩=some (.slice H V Y)):=fun W hW=>(au.o.same hW).cell 2
      clear ay aA aN aX ai aI Z ae aw aF aT aY;go_upto_region 8 with fail
      refine XH [0,0,0,0,1,1,2,2,0,0,3] 10 (fun W=>zh (fun g=>g=c.eb\/g∈zw H) R W) (fun W=>W.heap[c.eb]? = R.heap[c.eb]?) ?s0 ?s1 ?_
      case s0=>exact yj
      case s1=>rfl
      try refine zQ ?_
      repeat refine xK ak.o aj.o ?_
      refine xc fun K O=>?_
      go_simp;refine O.out _ _ ((zh.refl _ _).drew.alloc _) (fun _=>by exact Below.heap_alloc _ _ _ ap) ?_;clear O K;try refine zQ ?_
      repeat refine xK ak.o aj.o ?_
      refine xc fun K O=>?_
      refine Zv _ _ rfl U8 (f:=Th.cells) (xs:=X) ((ba.o.same (w':=R.drew) fun _ _=>rfl).alloc _) He.o.hlen ⟨xk,xn,xs,xm,xd⟩ _ 0 1 rfl rfl rfl (yp _ _ _ rfl) zt (zd) zr ?_;intro g2 aW w7 aL aH aO;have ad:zh (fun x=>x∈zw H) R w7:=((zh.refl _ R).drew.alloc _).trans aH (fun x q _=>q);have aB:w7.heap[c.eb]? = R.heap[c.eb]?:=ad.block _ ap (fun h=>r.o.2.1 _ h rfl);refine O.out _ _ (ad.mono fun x q _=>.inr q) (fun _=>aB) ?_;clear O K;try refine zQ ?_
      repeat refine xK ak.o aj.o ?_
      refine y7 zj (fun K O=>?_);refine Xq 275 _ _ rfl c.eb 2 _ _ (au.o.same aB) (.slice (some ⟨g2,0,none⟩) (V+1) aW) rfl rfl zp (zo) rfl ?_;intro W8 aa;refine O.out _ _ ((ad.mono (S':=fun g=>g=c.eb\/g∈zw H) fun x q _=>.inr q).trans aa.zC (fun x q _=>.inl q)) ?_;clear O K;try refine zQ ?_
      repeat refine xK ak.o aj.o ?_
      refine xu ?_;have aC:g2∈zw H\/R.heap.size<=g2:=aO.imp id (fun h=>by simp at h;omega);have av:zh (fun g=>g=c.eb\/g∈zw H) R W8:=(ad.mono (S':=fun g=>g=c.eb\/g∈zw H) fun x q _=>.inr q).trans aa.zC (fun x q _=>.inl q);have aR:=zz (show ∃D',q9 c D' L (V+1) no W8/\xB D w W8 D' from by
       have hC:zh (fun g=>g=c.eb\/g∈zw N\/g∈zw H) U W8:=(ax.o.mono (S':=fun g=>g=c.eb\/g∈zw N\/g∈zw H) fun x q _=>q.imp id .inl).trans av (fun x q _=>q.imp id .inr);have hv:=(a1.o).var He.o hC (s:=v) (x:=⟨xk,xn,xs,xm,xd⟩) bi.o aa.zG (aQ.o.zC av (fun g hg h=>by
        obtain rfl:g=g1:=by simpa[zw]using hg
        rcases h with h|h
        ·exact XN aQ.o au.o zr _ hg h
        ·exact a7.o h)) (aa.own aL (xW (fun e=>by
        rcases aC with h|h
        ·exact r.o.2.1 _ h e
        ·omega))) a5.o (aC.imp id fun h=>zpd ax.o.size h)
       exact⟨_,hv.1,(xB.below aq.o).trans hv.2⟩)
      clear aC av aa ad aB aL aH aO;go_wp2;go_returns;obtain⟨D',h1,h2⟩:=aR.o;exact⟨true,V+1,D',rfl,zd,zoZ _,h1,h2⟩
     ·have b7:xm.toList.isEmpty=false:=by simp[aZ]
      have b8:(xm.toList==([]:List UInt8))=false:=by simp[aZ]
      go_wp2_with (refine xy 277 _ _ rfl ?_;refine Xu zj 277 _ _ rfl W0.heap.size 0 _ _ bf.o [.int .i8 rk,.int .i64 rn,.string rs,.string rm,.int .i64 rd] rfl rfl zp Xr zt ?_;intro W5 aK;have az:=zz aK;clear aK;clear x0 x1 x2 x3;have I:=az.o.qj an.o (by have:=HX.o.size;omega);have x0:=I.cell 0;have x1:=I.cell 1;have x2:=I.cell 2;have x3:=I.cell 3;have ag:=az.o.zG;have y0:=ag.cell 0;have y1:=ag.cell 1;have y2:=ag.cell 2;have y3:=ag.cell 3;clear I ag;have aU:=zz (show Bl w W5 from az.o.below aq.o (zoZ _) HX.o.below.size))
      all_goals(go_returns;exact⟨_,V,D,rfl,zoZ _,zqa _,HW.o.below aU.o,xB.below aU.o⟩)
end
