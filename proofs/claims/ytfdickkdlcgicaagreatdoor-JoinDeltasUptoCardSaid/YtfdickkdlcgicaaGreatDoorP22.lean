/-
  Books: ask, where there is no index yet. Books: ask; Look; C
-/
import Derived.Test.YtfdickkdlcgicaaGreatDoorP21
set_option maxRecDepth 100000
set_option maxHeartbeats 8000000
set_option linter.all false
namespace Go.Proofs.YtfdickkdlcgicaaGreatDoor.C
open Go.Proofs.Tryz Go Go.RowKit Go.Maps Go.WideMaps
variable {A:Option Addr}{I N O ar bb q rb:Nat}{K:List ByteArray}{Q S S1:Nat->Prop}{R:List (List Nat)}{T ns r:List Nat}{f:Value->Option Value}{own:ByteArray->Bool->Nat->Prop}{p u:ByteArray}{us vs:List z6}{w w':World}{α:Type}{ρ:Env}
section
attribute [local go_sem] Oper.semAt_some
theorem zh3(h:Rel w rb ar R S1){mb:Nat}{ix:Nat->Option yQ}(N:YT w bb rb R mb f ix)(m:Nat)(a8:ar<=24)(hm:m<2 ^ ar)(bZ:R.length<=4194304)(hS:∀g,S1 g->¬YF bb mb ix g)(hd:ix m=none):
 Calls prog 323 #[.pointer (some ⟨bb,0,none⟩),.int .u32 (m:Int)] w (Gt m bb rb R (YF bb mb ix) w):=by
 have ay:m<2 ^ 24:=zo0 hm (zpJ zr a8);obtain⟨W0,L,I⟩:=xj w 105 #[.int .u32 (m:Int)];have HX:=zz I;have b9:=zz L;have aH:=zz h.cut;have HS:=zz hS;have al:=zz N;have Hd:=zz hd;have aQ:=zz (fun W (Z:Bl w W)=>zbp (h.below Z) m a8 hm);have bW:=zz (fun W (Z:Bl w W)=>show(Instr.lookup 292 (.map (some mb)) (.int .u32 (m:Int)) true).run prog W=.ok (.tuple #[.pointer none,.bool false]) W from by
  have:=(N.map.below Z).look DT underlying292 (z:=.pointer none) zo (Df ay) true;rw[N.XB m ay,hd]at this;exact this)
 have H0:=zz (show ∀W,Bl W0 W->W.cell? ⟨bb,0,none⟩=some (.pointer (some ⟨rb,0,none⟩))/\W.cell? ⟨bb,1,none⟩=some (.map (some mb))/\W.cell? ⟨w.heap.size,0,none⟩=some (.int .u32 (m:Int))/\(Instr.lookup 292 (.map (some mb)) (.int .u32 (m:Int)) true).run prog W=.ok (.tuple #[.pointer none,.bool false]) W from
  fun W Z=>⟨(N.zG.below (zu I.below Z)).cell 0,(N.zG.below (zu I.below Z)).cell 1,(I.b0.below Z).cell 0,bW.o W (zu I.below Z)⟩)
 clear h N hd I L hS;refine(callsIn_wide (n:=3)).1 ?_;refine callsIn_of_wp_marks func323 rfl trivial ?_ rfl;simp only[ntmps323,zqk,zpn,zpF,Nat.reduceAdd,Nat.reduceSub,zqs,zqt,zqI,zqz,zpa,zpc]
 gi_upto_region 1 with fail
 rw[b9.o];have c0:=(H0.o W0 (Below.refl _ _)).1
 gi_upto_region 3 with(refine⟨trivial,?_⟩;gi_at_call 318;refine(callsIn_wide.2 (zbA _ _)).mono ?_;rintro e w2⟨rfl,bv⟩;have a4:=zz bv;clear bv c0)
 refine Ze [(0,0),(1,0),(2,0),(3,0),(4,0),(5,2),(6,0)] 9999 (fun W=>Bl W0 W) (fun _=>True) zo (zo) zo rfl zo ?s0 ?s1 ?_
 case s1=>trivial
 case s0=>exact a4.o.drew
 simp only[xM,qa,qb,qc,qd,qe,qf];try refine zQ ?_
 repeat refine zT H0.o ?_
 refine xc fun K I=>?_
 go_simp;refine(aQ.o _ (zu HX.o.below a4.o.drew)).mono ?_;rintro e w3⟨rfl,O⟩;have L:Bl W0 w3:=zu a4.o.drew O;have aO:=zz L;refine I.out _ _ L (fun _=>trivial) ?_;clear I K O L;try refine zQ ?_
 repeat refine zT H0.o ?_
 refine YG ?_;try simp only[Act.put]
 gi_upto_region 5 with fail
 refine Ze [(0,0),(1,0),(2,0),(3,0),(4,0),(5,0),(6,0),(7,0),(8,0),(9,2),(10,2),(11,0)] 9999 (fun W=>Bl W0 W) (fun _=>True) zo (zo) zo rfl zo ?s0 ?s1 ?_
 case s1=>trivial
 case s0=>exact aO.o.drew
 simp only[xM,qa,qb,qc,qd,qe,qf];try refine zQ ?_
 repeat refine zT H0.o ?_
 refine xc fun K I=>?_
 go_simp;obtain⟨W6,L,V⟩:=xj w3 446 #[.pointer none];rw[L];have Y:Bl W0 W6.drew:=(zu aO.o V.below).drew;refine I.out _ _ Y (fun _=>trivial) ?_;clear I K L;try refine zQ ?_
 repeat refine zT H0.o ?_
 refine xc fun K I=>?_
 refine Xq 446 _ _ rfl w3.heap.size 0 _ _ V.b0.drew (.pointer none) rfl rfl zp (zo) rfl ?_;intro w4 aa;have O:Bl W0 w4:=aa.below Y (zoZ _) aO.o.size;refine I.out _ _ O (fun _=>trivial) ?_;clear I K;try refine zQ ?_
 repeat refine zT H0.o ?_
 refine YG ?_;try simp only[Act.put]
 have ad:Bl w w4:=zu HX.o.below O;have X:w.heap.size<w3.heap.size:=by have:=HX.o.size;have:=aO.o.size;omega
 have h6:zD w4 w3.heap.size 446 #[.pointer none]:=aa.zG;generalize w3.heap.size=r6 at h6 X ⊢;have bT:=zz O;have aJ:=zz ad;have bm:=zz X;have H6:=zz h6;obtain⟨W5,ae,ag,ac,L⟩:∃W5,w4.alloc (.map #[] 0)=W5/\W5.heap[w4.heap.size]? = some (.map #[] 0)/\W5.heap.size=w4.heap.size+1/\Bl w4 W5:=⟨_,rfl,World.alloc_heap_new _ _,zp,xo _ _⟩;obtain⟨W7,af,ab⟩:=xj W5 456 #[.map (some w4.heap.size),.int .i64 0,.int .i64 0];have bg:=zz ae;have bC:=zz af;have bQ:=zz ag;have a6:=zz ac;have aw:=zz L;have aP:=zz ab;have aq:=@run_makeMap prog;have c0:=(H0.o w4 O).1;have am:W5.cell? ⟨bb,0,none⟩=some (.pointer (some ⟨rb,0,none⟩)):=(H0.o W5 (zu O L)).1;rw[<-bg.o]at am;have U:=(H6.o.below L).below ab.below;have c6:=U.cell 0;have f6:=U.frozen 0;rw[<-bC.o]at c6 f6;have b7:=zz (UQ U (i:=0) (.pointer (some ⟨W5.heap.size,0,none⟩)));clear O aa Y V ad X h6 ae ag ac L af ab U
 gi_upto_region 8 with(refine⟨trivial,?_⟩;gi_at_call 326;rw[bg.o];refine(callsIn_wide.2 (zad (aH.o.below (zu aJ.o aw.o)))).mono ?_;rintro e w9⟨rfl,bM⟩;obtain rfl:=bM.symm)
 rw[bC.o];obtain⟨X,af⟩:∃X,W7.setCell ⟨r6,0,none⟩ (.pointer (some ⟨W5.heap.size,0,none⟩))=X:=⟨_,rfl⟩;have an:XK W7 r6 446 #[.pointer (some ⟨W5.heap.size,0,none⟩)] X:=by rw[<-af];exact b7.o
 rw[af];have aa:Bl w X:=an.below (zu aJ.o (zu aw.o aP.o.below)) (zoZ _) (zqB bm.o);have ad:Bl W0 X:=an.below (zu bT.o (zu aw.o aP.o.below)) (zoZ _) (by have:=HX.o.size;have:=bm.o;omega);have ac:zD X r6 446 #[.pointer (some ⟨W5.heap.size,0,none⟩)]:=an.zG;have ab:zD X W5.heap.size 456 #[.map (some w4.heap.size),.int .i64 0,.int .i64 0]:=aP.o.b0.zC an.zC (by have:=H6.o.lt;have:=a6.o;omega);have ak:X.heap[w4.heap.size]? = some (.map #[] 0):=by
  have h1:W7.heap[w4.heap.size]? = some (.map #[] 0):=(aP.o.below.block _ (by rw[a6.o];omega)).trans bQ.o;exact(an.zC.block _ (zpb.1 h1).1 (by have:=H6.o.lt;omega)).trans h1
 have ah:w.heap.size<=w4.heap.size/\w.heap.size<=W5.heap.size:=⟨aJ.o.size,by rw[a6.o];have:=aJ.o.size;omega⟩;generalize W5.heap.size=V at ac ab ah ⊢;generalize w4.heap.size=Y at ab ak ah ⊢;obtain⟨d,bR,bO,ao,ap⟩:∃d:yQ,d.xb=V/\d.kb=Y/\d.f=(fun _=>none)/\d.seen=0:=⟨⟨V,Y,fun _=>none,0⟩,rfl,rfl,rfl,rfl⟩;subst bR bO;have O:=al.o.same (w':=X) fun g L=>aa.block g (al.o.lt g L)
 have U:r6≠mb:=ac.qM O.map;have ae:w.heap.size≠mb:=by have:=al.o.map.lt;omega
 have ai:d.xb≠mb:=ab.qM O.map;have aj:d.kb≠mb:=by have:=al.o.map.lt;omega
 have H8:=zz (show ∀W,zh (·=mb) X W->W.cell? ⟨bb,1,none⟩=some (.map (some mb))/\W.cell? ⟨w.heap.size,0,none⟩=some (.int .u32 (m:Int))/\W.cell? ⟨r6,0,none⟩=some (.pointer (some ⟨d.xb,0,none⟩))from
  fun W Z=>⟨(O.zG.zC Z (O.zG.qM O.map)).cell 1,((HX.o.b0.below ad).zC Z ae).cell 0,(ac.zC Z U).cell 0⟩)
 have bt:=zz O;have b5:=zz aa;have bw:=zz ad;have bU:=zz ac;have bV:=zz ab;have bq:=zz ak;have bB:=zz ah;have bF:=zz ao;have aZ:=zz ap;have aB:=zz (show r6≠mb/\w.heap.size≠mb/\d.xb≠mb/\d.kb≠mb from⟨U,ae,ai,aj⟩);clear an af O aa ad ac ab ak ah ao ap U ae ai aj c0 am c6 f6;refine Ze [(0,0),(1,0),(2,0),(3,0),(4,0),(5,0),(6,2)] 9999 (fun W=>zh (·=mb) X W) (fun _=>True) zo (zo) zo rfl zo ?s0 ?s1 ?_
 case s1=>trivial
 case s0=>exact yj
 simp only[xM,qa,qb,qc,qd,qe,qf];try refine zQ ?_
 repeat refine zT H8.o ?_
 refine xc fun K I=>?_
 refine Zp _ _ _ rfl (bt.o.map.same (w':=X.drew) rfl) DT underlying292 rfl (.int .u32 (m:Int)) (.pointer (some ⟨d.xb,0,none⟩)) _ rfl rfl (Df ay) ?_;intro O ag ak;have ab:zh (·=mb) X O:=(zh.refl (·=mb) X).drew.yi ak fun _=>rfl
 refine I.out _ _ ab (fun _=>trivial) ?_;clear I K;try refine zQ ?_
 repeat refine zT H8.o ?_
 refine YG ?_;try simp only[Act.put]
 have ai:=bU.o.zC ab aB.o.1;have U:Xw O R m d:=by
  refine⟨?_,?_,by rw[aZ.o];exact zo5 _⟩
  ·rw[aZ.o];exact bV.o.zC ab aB.o.2.2.1
  ·rw[aZ.o,zgL,bF.o];exact Xc.zcM ⟨#[],0,(ab.block _ (zpb.1 bq.o).1 aB.o.2.2.2).trans bq.o,Yj.none_,MapKept.stamped_empty 0⟩
 have ad:∀g,yI d g->w.heap.size<=g:=fun g L=>by
  rcases L with rfl|rfl |⟨x,v,hf,_⟩
  ·exact bB.o.2
  ·exact bB.o.1
  ·rw[bF.o]at hf;cases hf
 have ah:zh (·=mb) w O:=(zh.xi (·=mb) b5.o).trans ab fun g L _=>L
 have ac:=al.o.made Hd.o ah U ad ag rfl;have au:=zz ac;have am:Kz (Y5 ix m d m=some d):=if_pos rfl;have aj:=zz (aH.o.zC ah fun g L e=>HS.o g L.1 (.inr (.inl e)));have aI:Kz (∀g,(S1 g/\g<w.heap.size)->¬yI d g/\g<O.heap.size):=fun g L=>⟨fun h=>by have:=ad g h;omega,zo0 L.2 ah.size⟩
 have aY:=zz (show ∀m2 d2 g,Y5 ix m d m2=some d2->yI d2 g->YF bb mb ix g\/w.heap.size<=g from fun m2 d2 g ae L=>by
  unfold Y5 at ae;split at ae
  ·injection ae with ae;subst ae;exact .inr (ad g L)
  ·exact .inl (.inr (.inr ⟨m2,d2,ae,L⟩)))
 have aV:=zz ((HX.o.b0.below bw.o).zC ab aB.o.2.1);have H6:=zz ai;have bA:=zz (ah.mono (S':=YF bb mb ix) fun g L _=>.inr (.inl L));have H9:=zz (show ∀W,Bl O W->W.cell? ⟨r6,0,none⟩=some (.pointer (some ⟨d.xb,0,none⟩))/\W.cell? ⟨d.xb,2,none⟩=some (.int .i64 0)/\W.cell? ⟨d.xb,1,none⟩=some (.int .i64 (d.seen:Int))/\W.cell? ⟨bb,0,none⟩=some (.pointer (some ⟨rb,0,none⟩))from
  fun W Z=>⟨(ai.below Z).cell 0,(U.zG.below Z).cell 2,(U.zG.below Z).cell 1,(ac.zG.below Z).cell 0⟩)
 clear ab ag ak ai U ad ah ac;clear aq
 gi_upto_region 9 with fail
 refine Ze [(0,0),(1,0),(2,0),(3,0),(4,0),(5,0),(6,0),(7,0),(8,0),(9,2),(10,0)] 9999 (fun W=>Bl O W) (fun _=>True) zo (zo) zo rfl zo ?s0 ?s1 ?_
 case s1=>trivial
 case s0=>exact yj
 simp only[xM,qa,qb,qc,qd,qe,qf];try refine zQ ?_
 repeat refine zT H9.o ?_
 refine xc fun K I=>?_
 go_simp;refine(zad (aj.o.below ((Below.refl O.heap.size O).drew))).mono ?_;rintro e w6⟨rfl,aT⟩;obtain rfl:=aT.symm;refine I.out _ _ ((Below.refl _ _).drew) (fun _=>trivial) ?_;clear I K;try refine zQ ?_
 repeat refine zT H9.o ?_
 refine YG ?_;try simp only[Act.put]
 gi_upto_region 12 with fail
 refine Ze [(0,0),(1,0),(2,0),(3,0),(4,0),(5,0),(6,0),(7,0),(8,0),(9,0),(10,0),(11,0),(12,0),(13,0),(14,2),(15,2)] 9999 (fun W=>Bl O W) (fun _=>True) zo (zo) zo rfl zo ?s0 ?s1 ?_
 case s1=>trivial
 case s0=>exact(Below.refl _ _).drew.drew
 simp only[xM,qa,qb,qc,qd,qe,qf];try refine zQ ?_
 repeat refine zT H9.o ?_
 refine xc fun K I=>?_
 go_simp;refine(UD (aj.o.below ((Below.refl O.heap.size O).drew.drew))).mono ?_;rintro e w6⟨rfl,aT⟩;obtain rfl:=aT.symm;refine I.out _ _ ((Below.refl _ _).drew.drew) (fun _=>trivial) ?_;clear I K;try refine zQ ?_
 repeat refine zT H9.o ?_
 refine xc fun K I=>?_
 go_simp;refine(zfj _ _ _ _).mono ?_;rintro e w8⟨rfl,U⟩;obtain⟨X,af,Z⟩:=Va O.drew.drew 128 3 3 #[.pointer (some ⟨rb,0,none⟩)] #[.int .i64 (d.seen:Int)] #[.int .i64 (R.length:Int)];obtain rfl:X=w8:=af.symm.trans U.symm;have aa:Bl O X:=zu (Below.refl O.heap.size O).drew.drew Z.below;refine I.out _ _ aa (fun _=>trivial) ?_;clear I K af U;try refine zQ ?_
 repeat refine zT H9.o ?_
 refine YG ?_;try simp only[Act.put]
 have bP:=zz (show ∀r∈R,Rw r from by obtain⟨_,_,_,_,_,h,_⟩:=aj.o;exact h.ok);have af:=zz aa;have ab:Xw X R m d:=(au.o.each m d am.o).same fun g L=>aa.block g ((au.o.each m d am.o).lt g L)
 have U:=zz ab;have cd:=zz Z;have an:X.heap.size=O.heap.size+1+1+1:=Z.size;have aN:=zz an;have bo:zD X O.heap.size 128 #[.pointer (some ⟨rb,0,none⟩)]:=Z.b0;have b6:zD X (O.heap.size+1) 3 #[.int .i64 (d.seen:Int)]:=Z.b1;have bS:zD X (O.heap.size+1+1) 3 #[.int .i64 (R.length:Int)]:=Z.b2;have aB:Kz (¬xZ d.kb d.f O.heap.size):=fun h=>ab.ne bo zr (zr) (.inr h)
 clear aa Z
 gi_wp2
 refine' zbY rfl zd (gf:=126) (lb:=#[.pointer (some ⟨O.heap.size,0,none⟩),.pointer (some ⟨O.heap.size+1,0,none⟩),.pointer (some ⟨O.heap.size+1+1,0,none⟩)]) rfl trivial (enters_of func126 zo rfl) (bb:=O.heap.size) (by rw[aN.o];omega)
  (zb6 zd (aj.o.below af.o) d.seen ab.le bZ bo b6 bS) XO.trans (fun W l o Z _ h h1 _=>XO.put W l o Z h h1) (fun _=>rfl)
  (Vi X O.heap.size R m d) (fun _ _ _=>False) (zdt (zoZ _) ab.Yd.map.lt) (fun c _ _ _ _ h _ _=>h) (zd9 (by rw[aN.o];omega) aB.o) ⟨d.f,by simpa using ab.Yd,fun g L=>.inl L,zh.refl _ _⟩
  (fun x=>.cells (Y1 R x).toArray 155) (fun W o _=>XO.alloc W o) _ ?assign ?body ?done ?stop
 case assign=>
  intro q x W g K L I;have Hg:=zz L;clear L;unfold Gk;have Hl:=zz (show(Y1 R x).toArray.size=24 by simp[zcq])
  gi_wp2_with (refine J3 155 _ _ rfl ?_;refine zfx rfl zj 155 _ _ rfl _ (Y1 R x).toArray rfl rfl (by rw[Hl.o];rfl) (by rw[Hl.o];exact yC) (by simpa using zbH R x) ?_)
  rw[Hg.o];simp only[Act.put];exact I
 case stop=>
  rintro D c aA W hD Z h I;exact h.elim
 case body=>
  rintro lk aA x W g L Z⟨f',hG,aq,hC⟩hV;obtain⟨hx,aa⟩:=za4 hV;have aG:R.getD x []=R[x]:=getD_at _ aa;have ad:=bP.o _ (zo3 aa);have aC:Y1 R x=zX R[x]:=by unfold Y1;rw[aG,GL ad.len]
  rw[aC]at Z;have az:¬(xZ d.kb d.f w.heap.size\/w.heap.size=O.heap.size):=fun h=>by
   rcases h with h|h
   ·exact U.o.ne (aV.o.below af.o) zr (zr) (.inr h)
   ·have:=aV.o.lt;omega
  have ak:¬(xZ d.kb d.f r6\/r6=O.heap.size):=fun h=>by
   rcases h with h|h
   ·exact U.o.ne (H6.o.below af.o) zr (zr) (.inr h)
   ·have:=H6.o.lt;omega
  have ao:¬(xZ d.kb d.f d.xb\/d.xb=O.heap.size):=fun h=>by
   rcases h with h|h
   ·exact U.o.TH h
   ·have:=(au.o.each m d am.o).zG.lt;omega
  have ah:=(aV.o.below af.o).zC hC az;have h6:=(H6.o.below af.o).zC hC ak;have av:=U.o.zG.zC hC ao;have ca:=zz ah;have a5:=zz h6;have ag:=zz av;have ai:=zz hG;have ax:=zz aq;have aM:=zz hC;have Hx:=zz hx;have bG:=zz aG;have Hg:=zz L;have aK:=zz ad;have b8:=zz aa;have bN:Kz (d.kb<X.heap.size):=U.o.Yd.map.lt;generalize R[x]=r at Z aK bG;have aD:W.rangeAt g 0 (zX r):=by
   intro j v hv;rw[zpx];have:W.cell? ⟨g,j,none⟩=(zX r).toArray[j]?:=cell_of_row W g j _ _ _ Z;rw[this];simpa using hv
  have ap:g<W.heap.size:=(zpb.1 Z).1;have bl:=zz (To W g r aK.o aD ap m ay);have b3:=zz (aK.o.mask m);have c3:=ah.cell 0;have ac:(zX (qk m r)).length=24:=by simp[Vw,aK.o.len]
  have Hl:=zz ac;clear hG aq hC hx aa aG ad aC Z az ak ao ah h6 av hV aD ap ac L
  gi_upto_region 16 with(first
   |(refine⟨trivial,?_⟩;gi_at_call 324;refine(CallsIn.inRound lk (callsIn_wide.2 bl.o)).mono ?_;rintro e w9⟨rfl,bu⟩;have bY:=zz bu;clear bu c3)
   |(refine J3 155 _ _ rfl ?_;refine zaG rfl zj 155 _ _ rfl _ (zX (qk m r)) rfl rfl (by rw[Hl.o];rfl) (by rw[Hl.o];exact yC) (XT _) ?_;intro W9 bD;have aU:=zz bD;clear bD))
  have ad:Bl W W9:=zu bY.o aU.o.below;have ap:=ai.o.same (w':=W9) fun q Z=>ad.block q (ai.o.lt q Z)
  have aC:=zz ap;have ac:=zz ad;have ak:¬xZ d.kb f' r6:=fun h=>by
   have N:=(a5.o.below ad)
   rcases ap.kind h with e |⟨cs,aa⟩
   ·exact N.qM ap.map e
   ·unfold zD at N;rw[aa]at N;injection N with N;injection N with _ N;exact absurd N zr
  have ao:¬xZ d.kb f' d.xb:=fun h=>by
   have N:=(ag.o.below ad)
   rcases ap.kind h with e |⟨cs,aa⟩
   ·exact N.qM ap.map e
   ·unfold zD at N;rw[aa]at N;injection N with N;injection N with _ N;exact absurd N zr
  have aD:¬xZ d.kb f' w9.heap.size:=fun h=>by
   have N:=aU.o.b0
   rcases ap.kind h with e |⟨cs,aa⟩
   ·exact N.qM ap.map e
   ·unfold zD at N;rw[aa]at N;injection N with N;injection N with _ N;exact absurd N zr
  have az:=zz (show ∀W',zh (xZ d.kb f') W9 W'->W'.cell? ⟨r6,0,none⟩=some (.pointer (some ⟨d.xb,0,none⟩))/\W'.cell? ⟨d.xb,0,none⟩=some (.map (some d.kb))from
   fun W' ah=>⟨((a5.o.below ad).zC ah ak).cell 0,((ag.o.below ad).zC ah ao).cell 0⟩)
  have bc:=zz (show ∀W',zh (xZ d.kb f') W9 W'->W'.rangeAt w9.heap.size 0 (zX (qk m r))from fun W' ah j v hv=>by
   have:=(aU.o.b0.zC ah aD).cell (0+j);rw[this];simpa using hv)
  have aE:(prog.info? 155).map (·.size)=some (zX (qk m r)).length:=by rw[Hl.o];exact yC
  have bX:=zz aE;clear ak ao aD ap ad aE;refine zcR [(0,0),(1,0),(2,0),(3,0),(4,0),(5,0),(6,2),(7,2),(8,0),(10,0),(9,2),(11,2)] 9999 (fun W'=>zh (xZ d.kb f') W9 W') (fun _=>True) zo (zo) zo rfl zo ?s0 ?s1 ?_
  case s1=>trivial
  case s0=>exact yj
  simp only[xM,qa,qb,qc,qd,qe,qf];try refine zQ ?_
  repeat refine zT az.o ?_
  refine V1 155 _ rfl w9.heap.size 0 rfl (zX (qk m r)) _ rfl bc.o underlying155 rfl bX.o ?_;try refine zQ ?_
  repeat refine zT az.o ?_
  refine xc fun K I=>?_
  go_simp;obtain⟨Wa,ad,a3⟩:=xj W9 3 #[.int .i64 (x:Int)];rw[ad];have aL:Bl W9 Wa.drew:=a3.below.drew;refine I.out _ _ (zh.xi _ aL) (fun _=>trivial) ?_;clear I K ad;try refine zQ ?_
  repeat refine zT az.o ?_
  have be:=aC.o.same (w':=Wa.drew) fun q Z=>aL.block q (aC.o.lt q Z)
  obtain⟨cb,Wb,A,cc,f1,hr,bL,bn,bs,ad,a7⟩:=be.entry Uf underlying454 (fun W=>zo) (Ja b3.o);refine xc fun K I=>?_
  refine zct _ _ rfl rfl rfl hr ?_;have aF:zh (xZ d.kb f') W9 Wb:=(zh.xi _ aL).trans a7 fun q Z _=>Z
  refine I.out _ _ aF (fun _=>trivial) ?_;clear I K;try refine zQ ?_
  repeat refine zT az.o ?_
  have aG:x<R.length:=b8.o;have aD:∀j u,[Value.int .i64 (x:Int)][j]? = some u->Wb.cell? ((⟨W9.heap.size,0,none⟩:Addr).add j)=some u:=fun j u hj=>by
   have N:zD Wb W9.heap.size 3 #[.int .i64 (x:Int)]:=a3.b0.drew.zC a7 fun h=>by have:=aC.o.lt _ h;omega
   cases j with
   |zero=>simp at hj;subst hj;exact N.cell 0
   |succ j=>simp at hj
  have bE:=zcF R (d.seen+aA.length) m (.agg (zX (qk m r)).toArray);have b4:=Hx.o;obtain⟨i0,z0,bf,bH,bp,bJ,bK⟩:=zal.ex;obtain⟨v',Wc,a1,bd,bh,aR⟩:=bn.push (st:=65) (.agg (zX (qk m r)).toArray) i0 z0 8 underlying65 bf bH bp bJ bK zr 65 ⟨W9.heap.size,0,none⟩ 1 [.int .i64 (x:Int)] rfl aD zt (by unfold maxLen;omega) zd;rw[bL,zpT]at a1;refine xc fun K I=>?_
  refine zep _ _ rfl rfl rfl a1 ?_;have aS:zh (xZ d.kb f') W9 Wc:=aF.trans bh fun q Z _=>ad q Z
  refine I.out _ _ aS (fun _=>trivial) ?_;clear I K;try refine zQ ?_
  repeat refine zT az.o ?_
  obtain⟨Wd,bi,ba,bI⟩:=(bs.same bd).store (t:=454) v';obtain⟨aX,a9,bk⟩:=aR Wd ba bI;refine xc fun K I=>?_
  refine zbO _ _ _ rfl rfl rfl rfl bi ?_;have ap:zh (xZ d.kb f') W9 Wd:=aF.trans a9 fun q Z _=>ad q Z
  refine I.out _ _ ap (fun _=>trivial) ?_;clear I K;try refine zQ ?_
  repeat refine zT az.o ?_
  have br:X.heap.size<=W.heap.size:=aM.o.size;have bx:KeepsFrom X.heap.size W Wd:=by
   refine⟨zpd ac.o.size ap.size,fun k o hB hk hc=>?_⟩;have aE:=(zpb.1 hk).1;have h9:=(ac.o.block k aE).trans hk;refine(ap.block k (zo0 aE ac.o.size) fun h=>?_).trans h9
   rcases aC.o.kind h with e |⟨cs,aa⟩
   ·have:=bN.o;omega
   ·rw[aa]at h9;injection h9 with h9;subst h9;cases hc
  have bj:XO 155 W Wd:=fun k cs fr hk=>by
   have aE:=(zpb.1 hk).1;have h9:=(ac.o.block k aE).trans hk;refine(ap.block k (zo0 aE ac.o.size) fun h=>?_).trans h9
   rcases aC.o.kind h with e |⟨aW,aa⟩
   ·obtain⟨es,c,hm,_⟩:=aC.o.map;rw[e,hm]at h9;cases h9
   ·rw[aa]at h9;simp at h9
  have bz:Vi X O.heap.size R m d (aA++[x]) Wd:=by
   refine⟨yg f1 (.agg (zX (qk m r)).toArray) v',?_,fun q Z=>?_,?_⟩
   ·rw[zo1,zpD,<-zqd,zbb,<-Hx.o,bG.o,Hx.o];have e:∀G:Value->List (List Value),(fun y=>open Classical in if y=Value.agg (zX (qk m r)).toArray then G (.agg (zX (qk m r)).toArray)++[[Value.int .i64 ((d.seen+aA.length:Nat):Int)]]else G y)=(fun y=>open Classical in if y=Value.agg (zX (qk m r)).toArray then G y++[[Value.int .i64 ((d.seen+aA.length:Nat):Int)]]else G y):=fun G=>by
     funext y
     split
     ·rename_i e;rw[e]
     ·rfl
    rw[Hx.o,e]at aX;exact aX
   ·rcases bk q Z with h|h
    ·exact ax.o q (ad q h)
    ·right;have:=ac.o.size;have:=aF.size;omega
   ·exact(aM.o.trans (zh.xi (fun _=>False) ac.o) (fun _ h _=>h.elim)).trans ap fun q Z a2=>by
     rcases ax.o q Z with h|h
     ·exact .inl h
     ·omega
  have aE:KeepsFrom X.heap.size W Wd/\XO 155 W Wd/\Vi X O.heap.size R m d (aA++[x]) Wd:=⟨bx,bj,bz⟩;have aW:=zz aE;clear aE bx bj bz br aX a9 bk bi ba bI ap aR bh aS bd a1 aF a7 ad bs bn bL hr be aL a3 aD bE b4 aG bf bH bp bJ bK;refine YG ?_;try simp only[Act.put]
  gi_wp2
  exact aW.o
 case done=>
  rintro D xs W hD rfl⟨f',hG,aq,hC⟩I;rw[List.length_range',show d.seen+(R.length-d.seen)=R.length by have:=U.o.le;omega]at hG;have ak:¬(xZ d.kb d.f r6\/r6=O.heap.size):=fun h=>by
   rcases h with h|h
   ·exact U.o.ne (H6.o.below af.o) zr (zr) (.inr h)
   ·have:=H6.o.lt;omega
  have ao:¬(xZ d.kb d.f d.xb\/d.xb=O.heap.size):=fun h=>by
   rcases h with h|h
   ·exact U.o.TH h
   ·have:=(au.o.each m d am.o).zG.lt;omega
  have az:¬(xZ d.kb d.f bb\/bb=O.heap.size):=fun h=>by
   rcases h with h|h
   ·exact(au.o.off m d bb am.o (.inr h)).2 rfl
   ·have:=au.o.zG.lt;omega
  have h6:=(H6.o.below af.o).zC hC ak;have av:=U.o.zG.zC hC ao;have ac:=(au.o.zG.below af.o).zC hC az;have hrel:=(aj.o.below af.o).zC hC fun q Z h=>by
   rcases h with h|h
   ·exact(aI.o q Z).1 (.inr h)
   ·have:=(aI.o q Z).2;omega
  have ad:r6≠d.xb:=h6.yD av zr;have aA:bb≠d.xb:=ac.yD av zr;have ap:=zz (show ∀W',zh (·=d.xb) W W'->W'.cell? ⟨r6,0,none⟩=some (.pointer (some ⟨d.xb,0,none⟩))/\W'.cell? ⟨bb,0,none⟩=some (.pointer (some ⟨rb,0,none⟩))from
   fun W' ah=>⟨(h6.zC ah ad).cell 0,(ac.zC ah aA).cell 0⟩)
  have aD:=zz (fun W' (ah:zh (·=d.xb) W W')=>UD (hrel.zC ah fun q Z h=>(aI.o q Z).1 (.inl h)));have ai:=zz hG;have ag:=zz av;have a5:=zz h6;have ax:=zz aq;have aM:=zz hC;have HK:=zz I;have HD:=zz hD;have aG:=zz ad;clear hG aq hC ak ao az h6 av ac hrel ad aA I hD
  gi_upto_region 17 with fail
  refine Ze [(0,0),(1,0),(2,0),(3,0),(4,0),(5,0),(6,2),(7,0),(8,0),(9,2)] 9999 (fun W'=>zh (·=d.xb) W W') (fun _=>True) zo (zo) zo rfl zo ?s0 ?s1 ?_
  case s1=>trivial
  case s0=>exact yj
  simp only[xM,qa,qb,qc,qd,qe,qf];try refine zQ ?_
  repeat refine zT ap.o ?_
  refine xc fun K I=>?_
  go_simp;refine(aD.o _ (zh.refl _ _).drew).mono ?_;rintro e aR⟨rfl,aA⟩;obtain rfl:=aA.symm;refine I.out _ _ (zh.refl _ _).drew (fun _=>trivial) ?_;clear I K;try refine zQ ?_
  repeat refine zT ap.o ?_
  refine xc fun K I=>?_
  refine Xq 3 _ _ rfl d.xb 1 _ _ ag.o.drew (.int .i64 (R.length:Int)) rfl rfl zp (zo) rfl ?_;intro ah ad;have ac:zh (·=d.xb) W ah:=(zh.refl (·=d.xb) W).drew.trans ad.zC fun q Z _=>Z
  refine I.out _ _ ac (fun _=>trivial) ?_;clear I K;try refine zQ ?_
  repeat refine zT ap.o ?_
  refine YG ?_;try simp only[Act.put]
  have aq:=zz ad;have I:=zz ac;have c6:=(ap.o ah ac).1;clear ad ac
  gi_wp2
  have aF:D<W.heap.size:=(zpb.1 HK.o).1;have aK:d.xb<X.heap.size:=U.o.zG.lt;have az:D≠d.xb:=by have:=HD.o;omega
  have av:ah.heap[D]? = some (.deferred (some [])):=(I.o.block D aF az).trans HK.o;refine⟨zp,.inl ⟨_,_,rfl,run_takeDeferred av,?_⟩⟩;refine⟨.tuple #[.pointer (some ⟨d.xb,0,none⟩),.int .i64 0],by simp[results,results323,go_sem],?_⟩;obtain⟨Wz,aC⟩:∃Wz,ah.putObj D (.deferred none)=Wz:=⟨_,rfl⟩;rw[aC];have ad:zh (·=D) ah Wz:=by
   rw[<-aC];exact⟨rfl,rfl,rfl,by simp[World.putObj],fun k _ hn=>World.putObj_heap_other hn⟩
  have ao:∀q,xZ d.kb f' q->q≠D/\q≠d.xb:=fun q Z=>by
   rcases ai.o.kind Z with rfl |⟨cs,aa⟩
   ·exact⟨by have:=U.o.Yd.map.lt;have:=HD.o;omega,(ag.o.qM ai.o.map).symm⟩
   ·refine⟨?_,?_⟩
    ·rintro rfl;rw[HK.o]at aa;cases aa
    ·rintro rfl;have N:=ag.o;unfold zD at N;rw[aa]at N;simp at N
  have aa:Xw Wz R m ⟨d.xb,d.kb,f',R.length⟩:=by
   refine⟨?_,ai.o.same fun q Z=>(ad.block q (zo0 (ai.o.lt q Z) I.o.size) (ao q Z).1).trans (I.o.block q (ai.o.lt q Z) (ao q Z).2),zoZ _⟩;have:=aq.o.zG.zC ad az.symm;simpa using this
  have ac:∀g,yI ⟨d.xb,d.kb,f',R.length⟩ g->yI d g\/O.heap.size<=g:=fun g L=>by
   rcases L with rfl|L
   ·exact .inl (.inl rfl)
   ·rcases ax.o g L with h|h
    ·exact .inl (.inr h)
    ·right;have:=aN.o;omega
  have aE:zh (yI d) O Wz:=(((zh.xi (yI d) af.o).trans aM.o fun g L a2=>by
   rcases L with h|h
   ·exact .inr h
   ·omega).trans I.o fun g L _=>.inl L).trans ad fun g L a2=>by
   have:=HD.o;have:=aN.o;omega
  have aL:w.heap.size<=O.heap.size:=bA.o.size;have ak:=au.o.zbe am.o aE aa rfl ac;have Z:∀g,yI ⟨d.xb,d.kb,f',R.length⟩ g->YF bb mb ix g\/w.heap.size<=g:=fun g L=>by
   rcases ac g L with h|h
   ·exact aY.o m d g am.o h
   ·right;omega
  refine⟨⟨d.xb,d.kb,f',R.length⟩,rfl,rfl,aa,Z,⟨mb,_,_,ak,fun g L=>?_⟩,bA.o.trans aE fun g L a2=>(aY.o m d g am.o L).resolve_right zd⟩
  rcases L with rfl|rfl |⟨m2,d2,ae,L⟩
  ·exact .inl (.inl rfl)
  ·exact .inl (.inr (.inl rfl))
  ·rcases zdq ae with⟨_,rfl⟩ |⟨_,ae⟩
   ·exact Z g L
   ·exact aY.o m2 d2 g ae L
theorem zbh{V:Nat}{X:Nat->Prop}(h:Rel w O V R S1)(N:yS w bb O R X)(m:Nat)(r:V<=24)(hm:m<2 ^ V)(L:R.length<=4194304)(hS:∀g,S1 g->¬X g):
 Calls prog 323 #[.pointer (some ⟨bb,0,none⟩),.int .u32 (m:Int)] w (Gt m bb O R X w):=by
 obtain⟨Z,f,Y,N,U⟩:=N;have I:∀g,S1 g->¬YF bb Z Y g:=fun g q W=>hS g q (U g W)
 have W:Calls prog 323 #[.pointer (some ⟨bb,0,none⟩),.int .u32 (m:Int)] w (Gt m bb O R (YF bb Z Y) w):=by
  rcases hd:Y m with _|d
  ·exact zh3 h N m r hm L I hd
  ·exact zl9 h N m r hm L I d hd
 refine W.mono ?_;rintro e w'⟨d,rfl,h1,h2,h3,h4,h5⟩;exact⟨d,rfl,h1,h2,fun g q=>(h3 g q).imp (U g) id,h4.mono fun g q=>q.imp (U g) id,h5.mono fun g q _=>U g q⟩
abbrev y5(n:Nat):List Value:=[.int .i64 (n:Int)]
theorem zhE(l:List Nat):(l.map fun n:Nat=>[Value.int .i64 (n:Int)]).flatten=l.flatMap y5:=by rw[zqV]
theorem zd3(w:World)(A:Option Addr)(cap n:Nat)(xs:List Nat)(r:xs.length=n)(h:zY y5 w A xs)(q:n<=4194304):Calls prog 333 #[.slice A n cap] w (Xo y5 3 1 xs w):=
 Ux Tryz.ziu zal rfl (fun w=>sizeOf3 w) (fun _=>rfl) (fun _=>zt) w A cap n xs r h q zr
theorem Xw.VT{m:Nat}{d:yQ}(h:Xw w R m d)(L:d.seen=R.length)(x:List Nat):∃A q,(d.f (.agg (zX (qk m x)).toArray)).getD (.slice none 0 0)=.slice A (qG R m x).length q/\zY y5 w A (qG R m x):=by
 obtain⟨A,q,I,r⟩:=h.Yd.VT (.agg (zX (qk m x)).toArray);rw[L,zf8]at I r;rw[zph]at I r;refine⟨A,q,I,?_⟩;rw[zhE]at r;have N:Own y5 3 1 w A q (qG R m x):=r;exact N.xI
theorem zaF(R:List (List Nat))(m:Nat)(x:List Nat):(qG R m x).length<=R.length:=by
 unfold qG;exact zpd (zql _ _) zp
def zcs(m bb r:Nat)(R:List (List Nat))(S:Nat->Prop)(x:List Nat)(w:World)(e:Ending)(w':World):Prop:=
 ∃q A h n,e=.returned (.tuple #[.slice A n h,.int .i64 0])/\(qG R m x).length=n/\Own y5 3 1 w' A h (qG R m x)/\(∀g∈zw A,q.heap.size<=g)/\yS q bb r R (fun g=>S g\/w.heap.size<=g)/\zh S w q/\Bl q w'
def Du(m bb h:Nat)(R:List (List Nat))(S:Nat->Prop)(x:List Nat)(w:World)(e:Ending)(w':World):Prop:=
 e=.returned (.tuple #[.int .i64 ((qG R m x).length:Int),.int .i64 0])/\yS w' bb h R (fun g=>S g\/w.heap.size<=g)/\zh S w w'
theorem zkO{Z:Nat->Prop}(h:Rel w rb ar R S1)(hb:yS w bb rb R Z)(m:Nat)(aa:ar<=24)(hm:m<2 ^ ar)(X:R.length<=4194304)(hS:∀g,S1 g->¬Z g)(ac:∀g,Z g->g<w.heap.size)(x:List Nat)(hx:Rw x):
 Calls prog 331 #[.pointer (some ⟨bb,0,none⟩),.int .u32 (m:Int),.agg (zX x).toArray] w (zcs m bb rb R Z x w):=by
 obtain⟨W0,r,I⟩:=xj w 155 (zX x).toArray;have q:m<2 ^ 24:=zo0 hm (zpJ zr aa);have HX:=zz I;have aq:=zz r;have ab:=zz (zbh (h.below I.below) (hb.below I.below) m aa hm X hS);have au:=zz ac;have Hx:=zz hx;have an:=zz X;have ad:=zz q;clear h hb hS ac hx I r q X;go_enter func331,ntmps331;go_upto_region 1 with fail
 rw[aq.o];go_upto_region 4 with(go_at_call 323;refine ab.o.mono ?_;rintro e L⟨d,rfl,hd,O,ak,al,ah⟩;have Hd:=zz hd;have I:=zz O;have am:=zz al;have Y:=zz ah;clear hd O ak al ah)
 obtain⟨A,aj,q,N⟩:=I.o.VT Hd.o x;obtain⟨n,hn⟩:∃n,(qG R m x).length=n:=⟨_,rfl⟩;rw[hn]at q;have ae:∀W:World,Bl L W->W.rangeAt w.heap.size 0 (zX x):=fun W r j v V=>by
  have af:w.heap.size<W0.heap.size:=HX.o.b0.lt;have h1:zD W w.heap.size 155 (zX x).toArray:=((HX.o.b0.zC Y.o fun U=>by have:=au.o _ U;omega).below r);rw[h1.cell (0+j)];simpa using V
 have V:w.heap.size<L.heap.size:=zo0 HX.o.b0.lt Y.o.size;have H4:=zz (show ∀W,Bl L W->W.cell? ⟨d.xb,0,none⟩=some (.map (some d.kb))/\(Instr.lookup 454 (.map (some d.kb)) (.agg (zX (qk m x)).toArray) false).run prog W=.ok (.slice A n aj) W from fun W r=>⟨(I.o.zG.below r).cell 0,by
  have:=(I.o.Yd.map.below r).look Uf underlying454 (z:=.slice none 0 0) zo (Ja (Hx.o.mask m)) false;simp only[zp1,if_false]at this;rw[this,q]⟩)
 have ag:=zz (fun W (r:Bl L W)=>To W w.heap.size x Hx.o (ae W r) (zo0 V r.size) m ad.o);have ap:=zz (fun W (r:Bl L W)=>zd3 W A aj n (qG R m x) hn (N.below r) (by rw[<-hn];exact zpd (zaF R m x) an.o));have Hn:=zz hn;have ao:=zz V;clear q N hn ae V;refine xX [0,0,0,0,0,2,0,2,0,0] (fun W=>Bl L W) ?_
 repeat refine zT H4.o ?_
 refine xc fun K hK=>?_
 go_simp;refine(ag.o _ (Below.refl _ _).drew).mono ?_;rintro e w2⟨rfl,r⟩;have q:Bl L w2:=zu (Below.refl L.heap.size L).drew r;refine hK.out _ _ q (fun _=>trivial) ?_;clear hK K r;try refine zQ ?_
 repeat refine zT H4.o ?_
 refine xc fun K hK=>?_
 go_simp;refine(ap.o _ q).mono ?_;rintro e w3⟨A3,N,n3,rfl,ae,ai,af,V⟩;have r:Bl L w3:=zu q af;refine hK.out _ _ r (fun _=>trivial) ?_;clear hK K;try refine zQ ?_
 repeat refine zT H4.o ?_
 refine xu ?_;have HE:=zz (show zcs m bb rb R Z x w (.returned (.tuple #[.slice A3 n3 N,.int .i64 0])) w3 from⟨L,A3,N,n3,rfl,ae,ai,fun g U=>by have:=V g U;have:=q.size;have:=ao.o;omega,
  am.o.mono fun g U=>U.imp id fun h=>zpd (zqB HX.o.b0.lt) h,
  (zh.xi Z HX.o.below).trans Y.o fun g U _=>U,r⟩)
 clear af r q V ai ae;go_wp2;go_returns;exact HE.o
theorem zj3{Y:Nat->Prop}(h:Rel w rb ar R S1)(hb:yS w bb rb R Y)(m:Nat)(ac:ar<=24)(hm:m<2 ^ ar)(X:R.length<=4194304)(hS:∀g,S1 g->¬Y g)(aa:∀g,Y g->g<w.heap.size)(x:List Nat)(hx:Rw x):
 Calls prog 321 #[.pointer (some ⟨bb,0,none⟩),.int .u32 (m:Int),.agg (zX x).toArray] w (Du m bb rb R Y x w):=by
 obtain⟨W0,r,I⟩:=xj w 155 (zX x).toArray;have q:m<2 ^ 24:=zo0 hm (zpJ zr ac);have HX:=zz I;have ak:=zz r;have ae:=zz (zbh (h.below I.below) (hb.below I.below) m ac hm X hS);have am:=zz aa;have Hx:=zz hx;have aj:=zz X;have Z:=zz q;clear h hb hS aa hx I r q X;go_enter func321,ntmps321;go_upto_region 1 with fail
 rw[ak.o];go_upto_region 4 with(go_at_call 323;refine ae.o.mono ?_;rintro e I⟨d,rfl,hd,N,ag,ah,ai⟩;have Hd:=zz hd;have r:=zz N;have al:=zz ah;have V:=zz ai;clear hd N ag ah ai)
 obtain⟨A,ad,q,O⟩:=r.o.VT Hd.o x;obtain⟨n,hn⟩:∃n,(qG R m x).length=n:=⟨_,rfl⟩;rw[hn]at q;have ab:∀W:World,Bl I W->W.rangeAt w.heap.size 0 (zX x):=fun W L j v hv=>by
  have af:w.heap.size<W0.heap.size:=HX.o.b0.lt;have U:zD W w.heap.size 155 (zX x).toArray:=((HX.o.b0.zC V.o fun hg=>by have:=am.o _ hg;omega).below L);rw[U.cell (0+j)];simpa using hv
 have U:w.heap.size<I.heap.size:=zo0 HX.o.b0.lt V.o.size;have H4:=zz (show ∀W,Bl I W->W.cell? ⟨d.xb,0,none⟩=some (.map (some d.kb))/\(Instr.lookup 454 (.map (some d.kb)) (.agg (zX (qk m x)).toArray) false).run prog W=.ok (.slice A n ad) W from fun W L=>⟨(r.o.zG.below L).cell 0,by
  have:=(r.o.Yd.map.below L).look Uf underlying454 (z:=.slice none 0 0) zo (Ja (Hx.o.mask m)) false;simp only[zp1,if_false]at this;rw[this,q]⟩)
 have af:=zz (fun W (L:Bl I W)=>To W w.heap.size x Hx.o (ab W L) (zo0 U L.size) m Z.o);have ao:=zz (fun W (L:Bl I W)=>zd3 W A ad n (qG R m x) hn (O.below L) (by rw[<-hn];exact zpd (zaF R m x) aj.o));have Hn:=zz hn;have an:=zz U;clear q O hn ab U;refine xX [0,0,0,0,0,2,0,0,0,0] (fun W=>Bl I W) ?_
 repeat refine zT H4.o ?_
 refine xc fun K O=>?_
 go_simp;refine(af.o _ (Below.refl _ _).drew).mono ?_;rintro e U⟨rfl,L⟩;have q:Bl I U:=zu (Below.refl I.heap.size I).drew L;refine O.out _ _ q (fun _=>trivial) ?_;clear O K L;try refine zQ ?_
 repeat refine zT H4.o ?_
 refine xu ?_;have L:=zz (show Du m bb rb R Y x w (.returned (.tuple #[.int .i64 (n:Int),.int .i64 0])) U from⟨by rw[Hn.o],
  (al.o.below q).mono fun g hg=>hg.imp id fun h=>zpd (zqB HX.o.b0.lt) h,
  ((zh.xi Y HX.o.below).trans V.o fun g hg _=>hg).trans (zh.xi (fun _=>False) q) fun _ h _=>h.elim⟩)
 clear q;go_wp2;go_returns;exact L.o
theorem zfu(K:List ByteArray):∀(h:List Tm)(i:Nat),ql K (i+1) h=2*ql K i h
 |[],i=>by simp[ql]
 |t::h,i=>by
  rw[ql,ql,zfu K h (i+1),Nat.mul_add]
  congr 1
  split
  ·rw[Nat.pow_succ,Nat.mul_comm]
  ·rfl
theorem zaq(K:List ByteArray):∀(q:List Tm)(j:Nat),(ql K 0 q).testBit j=true↔∃t,q[j]? = some t/\(t.v.toList=[]\/t.v∈K)
 |[],j=>by simp[ql]
 |t::q,j=>by
  rw[ql,zfu,Nat.pow_zero]
  cases j with
  |zero=>
   rw[Nat.testBit_zero,zo9];split
   ·rename_i h;constructor
    ·intro _;exact⟨t,rfl,h⟩
    ·intro _;simp
   ·rename_i h;constructor
    ·intro r;simp at r
    ·rintro⟨L,r,I⟩;cases r;exact absurd I h
  |succ j=>
   rw[Nat.testBit_succ,zpg,<-zaq K q j];have e:∀b M:Nat,b<=1->(b+2*M) / 2=M:=by intro b M h;omega
   rw[e _ _ (by split<;>omega)]
theorem zav{q:List Tm}{j:Nat}{t:Tm}(h:q[j]? = some t):(ql K 0 q).testBit j=false↔t.v.toList≠[]/\t.v∉K:=by
 rw[<-Bool.not_eq_true,zaq];constructor
 ·intro r;exact⟨fun e=>r ⟨t,h,.inl e⟩,fun e=>r ⟨t,h,.inr e⟩⟩
 ·rintro⟨N,I⟩ ⟨O,r,L⟩;rw[h]at r;cases r;exact L.elim N I
theorem zlh(K:List ByteArray)(h:List Tm):ql K 0 h<2 ^ h.length:=by
 have:=DQ K h 0;rw[zpx]at this;omega
theorem Ex.zdN{e:Ex}(h:e.empty):e.vars=[]:=by
 obtain⟨q,t,A,N,r⟩:=e;obtain⟨-,R,rfl⟩:=h;refine List.eq_nil_iff_forall_not_mem.2 fun u O=>?_
 obtain⟨L,V,I,U⟩:=Ex.qJ.1 O;unfold Ex.zN Ex.qp at I;obtain rfl:=zo2.1 I;rw[<-U,R.1]at L;exact L.1 zp
theorem Li.zkg{x:Li}(q:x.ok)(r:x.k≠3):u∈x.vars↔isVar u/\∃t∈x.a.args,t.v=u:=by
 rcases q with⟨_,_,I,L,_⟩ |⟨h,_⟩
 ·rw[Li.qJ,Ex.zdN I,Ex.zdN L,At.qJ];simp
 ·exact absurd h r
theorem G7{x:Li}(h:x.ok)(q:x.k≠3):u∈qz K x↔(isVar u/\∃t∈x.a.args,t.v=u)/\u∉K:=by
 rw[UT,Li.zkg h q]
theorem zjb(O:XV ρ K){x:Li}(q:x.ok)(I:x.k≠3)(xs:List Vl):ZS (fit (ql K 0 x.a.args) 0 x.a.args xs ρ).2 (qz K x)=ρ:=by
 funext u
 rw[zdD];split
 ·rename_i h;exact(O.none_ ((G7 q I).1 h).2).symm
 ·rename_i h
  rcases Je (ql K 0 x.a.args) x.a.args xs 0 ρ u with r |⟨R,j,t,r,L,N,rfl⟩
  ·exact r
  ·rw[zpx]at L;have:=(zav r).1 L;exact absurd ((G7 q I).2 ⟨⟨⟨this.1,N⟩,t,zp8 r,rfl⟩,this.2⟩) h
theorem zhZ(L:XV ρ K){x:Li}(q:x.ok)(N:x.k≠3){xs:List Vl}(U:x.a.args.length=xs.length)(h:(fit (ql K 0 x.a.args) 0 x.a.args xs ρ).1=true):
 XV (fit (ql K 0 x.a.args) 0 x.a.args xs ρ).2 (K++qz K x):=fun v=>by
 rw[zo7];constructor
 ·intro O
  rcases Je (ql K 0 x.a.args) x.a.args xs 0 ρ v with r |⟨V,j,t,r,I,R,rfl⟩
  ·rw[r]at O;exact .inl ((L v).1 O)
  ·rw[zpx]at I;have:=(zav r).1 I;exact .inr ((G7 q N).2 ⟨⟨⟨this.1,R⟩,t,zp8 r,rfl⟩,this.2⟩)
 ·rintro(r|r)
  ·obtain⟨y,I⟩:=zpW.1 ((L v).2 r);rw[DN _ _ _ _ _ _ _ I];rfl
  ·obtain⟨⟨I,t,R,rfl⟩,V⟩:=(G7 q N).1 r;obtain⟨j,O⟩:=List.getElem?_of_mem R;exact zd8 _ _ _ 0 _ U h j t O (by rw[zpx];exact(zav O).2 ⟨I.1,V⟩) I.2
theorem Tf(m:Nat):∀(r:List Tm)(q:List Vl)(i:Nat)(ρ:Env)(v:ByteArray)(y:Vl),(fit m i r q ρ).2 v=some y->ρ v=some y\/y∈q
 |[],q,i,ρ,v,y,h=>by unfold fit at h;exact .inl h
 |t::r,[],i,ρ,v,y,h=>by unfold fit at h;exact .inl h
 |t::r,x::q,i,ρ,v,y,h=>by
  rw[VC]at h;split at h
  ·exact(Tf m r q _ ρ v y h).imp id (zpj _)
  ·split at h
   ·split at h
    ·exact(Tf m r q _ ρ v y h).imp id (zpj _)
    ·exact .inl h
   ·rcases Tf m r q _ _ v y h with I|I
    ·rw[Yw]at I;split at I
     ·cases I;exact .inr zpi
     ·exact .inl I
    ·exact .inr (zpj _ I)
theorem zmx(r:XV ρ K)(v:ByteArray)(x:Vl):XV (qK ρ v x) (K++[v]):=fun u=>by
 rw[Yw,zo7,zo2];split
 ·rename_i h;simp[h]
 ·rename_i h;rw[r u];constructor
  ·exact .inl
  ·rintro(q|q)
   ·exact q
   ·exact absurd q h
theorem zkk(r:XV ρ K){v:ByteArray}(q:v∉K)(x:Vl):ZJ (qK ρ v x) v=ρ:=by
 funext u
 unfold ZJ;split
 ·rename_i h;rw[h];exact(r.none_ q).symm
 ·rename_i h;rw[Yw,if_neg h]
def YP(ρ:Env)(f:Value->Option Value):Prop:=∀v:ByteArray,f (.string v)=(ρ v).map fun x=>.agg x.cells.toArray
theorem YP.known(h:YP ρ f):Dr ρ f:=fun v _=>by
 rw[h v]
 cases ρ v<;>rfl
theorem YP.bind(h:YP ρ f)(v:ByteArray)(x:Vl):YP (qK ρ v x) (yg f (.string v) (.agg x.cells.toArray)):=fun u=>by
 rw[Yw]
 by_cases q:u=v
 ·subst q;rw[Yi,if_pos rfl];rfl
 ·rw[XG (fun e=>q (by injection e)),if_neg q];exact h u
theorem YP.drop(h:YP ρ f)(v:ByteArray):YP (ZJ ρ v) (del f (.string v)):=fun u=>by
 unfold ZJ del
 by_cases q:u=v
 ·subst q;rw[if_pos rfl,if_pos rfl];rfl
 ·rw[if_neg (fun e=>q (by injection e)),if_neg q];exact h u
theorem zkw:YP (fun _=>none) (fun _=>none):=fun _=>rfl
structure Pd where
 rb:Nat
 bb:Nat
 ar:Nat
 R:List (List Nat)
def Pd.kept(d:Pd):Value:=.agg #[.pointer (some ⟨d.rb,0,none⟩),.pointer (some ⟨d.bb,0,none⟩)]
structure yF (w:World) (wb tb pb:Nat) (vs:List z6) (f:Value->Option Value) (D:ByteArray->Option Pd) (T:List Nat) (own:ByteArray->Bool->Nat->Prop):Prop where
 zG:zD w wb 117 #[.pointer (some ⟨tb,0,none⟩),.map (some pb)]
 tab:qu w tb 2147483647 vs T
 map:xv prog 9 w pb f
 XB:∀p:ByteArray,f (.string p)=(D p).map Pd.kept
 only:∀x v,f x=some v->∃p:ByteArray,x=.string p
 small:∀p d,D p=some d->p.size<=maxLen
 rel:∀p d,D p=some d->Rel w d.rb d.ar d.R (own p false)
 book:∀p d,D p=some d->yS w d.bb d.rb d.R (own p true)
 ar:∀p d,D p=some d->d.ar<=24
 rows:∀p d,D p=some d->∀r∈d.R,yN vs d.ar r
 lt:∀p d a g,D p=some d->own p a g->g<w.heap.size
 apart:∀p q d e a b g,D p=some d->D q=some e->own p a g->own q b g->p=q/\a=b
 off:∀p d a g,D p=some d->own p a g->g≠wb/\g≠pb/\g∉T
 XS:wb∉T/\pb∉T
def Zh(h q:Nat)(T:List Nat)(D:ByteArray->Option Pd)(own:ByteArray->Bool->Nat->Prop)(g:Nat):Prop:=g=h\/g=q\/g∈T\/∃p d a,D p=some d/\own p a g
abbrev yR:=ByteArray->Option (Nat×List (List Vl))
def yd(w:World)(q:Nat)(G:yR)(S:Nat->Prop)(N:Nat):Prop:=
 ∃I r h f D T own,yF w q I r h f D T own/\(∀p,G p=(D p).map fun d=>(d.ar,rowsOf h d.ar d.R))/\h.length<=N/\∀g,Zh q r T D own g->S g
theorem yF.lt_{r:Nat}{D:ByteArray->Option Pd}(h:yF w I N r vs f D T own):∀g,Zh I r T D own g->g<w.heap.size:=by
 rintro g (rfl|rfl|q |⟨p,d,a,L,q⟩)
 ·exact h.zG.lt
 ·exact h.map.lt
 ·exact h.tab.lt g q
 ·exact h.lt p d a g L q
theorem yF.zC{R:Nat}{D:ByteArray->Option Pd}(h:yF w N R O vs f D T own)(I:zh Q w w')(L:∀g,Zh N O T D own g->¬Q g):yF w' N R O vs f D T own:=
 ⟨h.zG.zC I (L _ (.inl rfl)),h.tab.same fun g q=>I.block g (h.tab.lt g q) (L g (.inr (.inr (.inl q)))),h.map.zC I (L _ (.inr (.inl rfl))),h.XB,h.only,h.small,
  fun p d r=>(h.rel p d r).zC I fun g q=>L g (.inr (.inr (.inr ⟨p,d,_,r,q⟩))),fun p d r=>(h.book p d r).zC I fun g q=>L g (.inr (.inr (.inr ⟨p,d,_,r,q⟩))),h.ar,h.rows,
  fun p d a g r q=>zo0 (h.lt p d a g r q) I.size,h.apart,h.off,h.XS⟩
theorem yd.zC{G:yR}(h:yd w q G S N)(X:zh Q w w')(V:∀g,S g->¬Q g):yd w' q G S N:=by
 obtain⟨R,O,L,f,D,T,own,h,U,W,r⟩:=h;exact⟨R,O,L,f,D,T,own,h.zC X fun g I=>V g (r g I),U,W,r⟩
theorem yd.below{G:yR}(h:yd w q G S N)(I:Bl w w'):yd w' q G S N:=h.zC (zh.xi (fun _=>False) I) fun _ _ r=>r
theorem yd.cut{G:yR}(h:yd w q G S N):yd w q G (fun g=>S g/\g<w.heap.size) N:=by
 obtain⟨I,U,L,f,D,T,own,h,V,R,O⟩:=h;exact⟨I,U,L,f,D,T,own,h,V,R,fun g r=>⟨O g r,h.lt_ g r⟩⟩
theorem yd.mono{G:yR}{S':Nat->Prop}(h:yd w q G S N)(U:∀g,S g->S' g):yd w q G S' N:=by
 obtain⟨R,O,I,f,D,T,own,h,V,W,L⟩:=h;exact⟨R,O,I,f,D,T,own,h,V,W,fun g r=>U g (L g r)⟩
open Classical in
noncomputable def zj9(own:ByteArray->Bool->Nat->Prop)(p:ByteArray)(lo hi:Nat):ByteArray->Bool->Nat->Prop:=fun q a g=>own q a g\/(q=p/\a=true/\lo<=g/\g<hi)
theorem yF.asked{X tb pb:Nat}{D:ByteArray->Option Pd}(h:yF w X tb pb vs f D T own){d:Pd}(V:D p=some d)(O:zh (own p true) w w')(hb:yS w' d.bb d.rb d.R (fun g=>own p true g\/w.heap.size<=g)):yF w' X tb pb vs f D T (zj9 own p w.heap.size w'.heap.size):=by
 have N:=fun g (r:own p true g)=>h.off p d true g V r
 refine⟨h.zG.zC O fun r=>(N _ r).1 rfl,h.tab.same fun g r=>O.block g (h.tab.lt g r) fun I=>(N g I).2.2 r,h.map.zC O fun r=>(N _ r).2.1 rfl,h.XB,h.only,h.small,fun q e L=>?_,fun q e L=>?_,h.ar,h.rows,
  fun q e a g L r=>?_,fun q Z e Y a b g L U r I=>?_,fun q e a g L r=>?_,h.XS⟩
 ·exact((h.rel q e L).zC O fun g r I=>by have:=(h.apart q p e d _ _ g L V r I).2;cases this).mono fun g r=>.inl r
 ·by_cases e1:q=p
  ·subst e1;rw[V]at L;injection L with L;subst L
   refine hb.cut.mono fun g r=>?_
   rcases r.1 with W|W
   ·exact .inl W
   ·exact .inr ⟨rfl,rfl,W,r.2⟩
  ·exact((h.book q e L).zC O fun g r I=>e1 (h.apart q p e d _ _ g L V r I).1).mono fun g r=>.inl r
 ·rcases r with r |⟨_,_,_,r⟩
  ·exact zo0 (h.lt q e a g L r) O.size
  ·exact r
 ·rcases r with r |⟨rfl,rfl,r,_⟩<;>rcases I with I |⟨rfl,rfl,I,_⟩
  ·exact h.apart q Z e Y a b g L U r I
  ·have:=h.lt q e a g L r;omega
  ·have:=h.lt Z Y b g U I;omega
  ·exact⟨rfl,rfl⟩
 ·rcases r with r |⟨rfl,rfl,r,_⟩
  ·exact h.off q e a g L r
  ·have:=h.zG.lt;have:=h.map.lt;exact⟨zd,zd,fun W=>by have:=h.tab.lt g W;omega⟩
theorem zjG{x:Vl}(h:x.ok):x.val.ok=true:=by
 unfold z6.ok Vl.val
 rcases h with⟨r,q⟩ |⟨r,q,I⟩
 ·simp[r,q];rfl
 ·simp[r,q,I]
structure Vo (us vs vs':List z6) (ns:List Nat):Prop where
 pre:vs <+: vs'
 len:ns.length=us.length
 at_:∀(i:Nat)(u:z6),us[i]? = some u->∃n:Nat,ns[i]? = some n/\vs'[n]? = some u
 le:vs'.length<=vs.length+us.length
theorem prefix_at{a b:List α}(h:a <+: b){n:Nat}{x:α}(q:a[n]? = some x):b[n]? = some x:=by
 obtain⟨t,rfl⟩:=h;rw[zpY (zpB.1 q).1];exact q
theorem zc9(zR:Nat):∀(L vs:List z6)(r:List Nat),(∀u∈L,u.ok=true)->vs.length+L.length<=zR->∃I V,XF zR L vs r=(I,r++V,0)/\Vo L vs I V
 |[],vs,r,_,_=>⟨vs,[],by simp[XF],⟨zqZ _,rfl,fun i u h=>by simp at h,zp⟩⟩
 |u::L,vs,r,R,U=>by
  have Y:=R u zpi;obtain⟨q,n,Z,X,hn,hl⟩:∃q n,Xy zR vs u=(q,n,0)/\vs <+: q/\q[n]? = some u/\q.length<=vs.length+1:=by
   unfold Xy;rw[if_neg (by rw[Y];exact Bool.noConfusion)]
   by_cases h:u∈vs
   ·rw[if_pos h];exact⟨vs,vs.idxOf u,rfl,zqZ _,by rw[zo6 (UF h),zcX h],zd⟩
   ·rw[if_neg h,if_pos (by simp at U;omega)];exact⟨vs++[u],vs.length,rfl,List.prefix_append _ _,zp,zp⟩
  obtain⟨I,V,W,N⟩:=zc9 zR L q (r++[n]) (fun x O=>R x (zpj _ O)) (by simp at U;omega);refine⟨I,n::V,?_,X.trans N.pre,by simp[N.len],fun i x O=>?_,by have:=N.le;simp;omega⟩
  ·rw[G8,Z,if_pos rfl,W];simp
  ·cases i with
   |zero=>simp at O;subst O;exact⟨n,rfl,prefix_at N.pre hn⟩
   |succ i=>exact N.at_ i x O
theorem TU(ns:List Nat)(i:Nat):(pad ns).getD i 0=ns.getD i 0:=by
 unfold pad;rw[zo8,zo8]
 by_cases h:i<ns.length
 ·rw[zpY h]
 ·rw[zpS zd,zp6 (by omega:ns.length<=i)]
  cases hq:(List.replicate (24-ns.length) 0)[i-ns.length]? with
  |none=>rfl
  |some y=>rw[(List.mem_replicate.1 (zp8 hq)).2];rfl
theorem Vo.lt{vs r:List z6}(h:Vo us vs r ns):∀n∈ns,n<r.length:=fun n q=>by
 obtain⟨i,L⟩:=List.getElem?_of_mem q;have q:=(zpB.1 L).1;rw[h.len]at q;obtain⟨O,I,N⟩:=h.at_ i _ (zo6 q);rw[L]at I;injection I with I;subst I
 exact(zpB.1 N).1
theorem Vo.Jv{vs q:List z6}(h:Vo us vs q ns)(I:us.length<=24):yN q us.length (pad ns):=by
 refine⟨by unfold pad;simp;have:=h.len;omega,fun i r=>?_,fun i r=>?_⟩
 ·rw[TU,getD_at _ (by rw[h.len];exact r)];exact h.lt _ (zo3 _)
 ·rw[TU,zo8,zp6 (by rw[h.len];exact r)];rfl
theorem Vo.zfY{vs r:List z6}(h:Vo us vs r ns)(q:us.length<=24):yY r us.length (pad ns)=us.map z6.vl:=by
 have L:=h.Jv q;refine List.ext_getElem? fun i=>?_
 by_cases I:i<us.length
 ·rw[Uy L q i I,zpX,zo6 I,TU];obtain⟨n,O,N⟩:=h.at_ i _ (zo6 I);rw[zo8,O];unfold YN;rw[zo8,zpT,N];rfl
 ·rw[zp6 (by rw[TV L q];omega),zp6 zb]
theorem ziE{vs:List z6}(X:vs.Nodup){q:List Nat}(h:yN vs I r)(L:yN vs I q)(Y:I<=24)(e:yY vs I r=yY vs I q):r=q:=by
 refine zqM (by rw[h.len,L.len]) fun i h1 Z=>?_
 have e1:r[i]=r.getD i 0:=(getD_at _ _).symm;have e2:q[i]=q.getD i 0:=(getD_at _ _).symm;rw[e1,e2]
 by_cases N:i<I
 ·have:=congrArg (fun l:List Vl=>l[i]?) e;simp only[Uy h Y i N,Uy L Y i N]at this;injection this with this
  unfold YN at this;have:=zgu this;have V:=h.lt i N;have W:=L.lt i N;rw[getD_at _ V,getD_at _ W]at this
  rcases Nat.lt_trichotomy (r.getD i 0) (q.getD i 0)with O|R|U
  ·exact absurd this (zpH.1 X _ _ V W O)
  ·exact R
  ·exact absurd this.symm (zpH.1 X _ _ W V U)
 ·rw[h.zero i zd,L.zero i zd]
open Classical in
noncomputable def Z5(R:List (List Vl))(x:List Vl):List (List Vl):=if x∈R then R else R++[x]
theorem zil{vs:List z6}(X:vs.Nodup)(U:q<=24)(V:∀r∈R,yN vs q r)(W:yN vs q r):rowsOf vs q (XX R r)=Z5 (rowsOf vs q R) (yY vs q r)/\(r∈R↔yY vs q r∈rowsOf vs q R):=by
 have I:r∈R↔yY vs q r∈rowsOf vs q R:=by
  unfold rowsOf;rw[zpA];constructor
  ·intro h;exact⟨r,h,rfl⟩
  ·rintro⟨N,L,O⟩;rw[<-ziE X (V N L) W U O];exact L
 refine⟨?_,I⟩;unfold XX Z5
 by_cases h:r∈R
 ·rw[if_pos h,if_pos (I.1 h)]
 ·rw[if_neg h,if_neg (fun L=>h (I.2 L))];unfold rowsOf;rw[zpt];rfl
section
variable {w w':World}{wb tb pb:Nat}{vs:List z6}{f:Value->Option Value}{D:ByteArray->Option Pd}{T:List Nat}{own:ByteArray->Bool->Nat->Prop}
theorem yF.Tq(h:yF w wb tb pb vs f D T own){O:List z6}{q:List Nat}(R:zh (·∈T) w w')(N:qu w' tb 2147483647 O q)(V:vs <+: O)(U:∀k∈q,k∈T\/w.heap.size<=k):yF w' wb tb pb O f D q own:=
 ⟨h.zG.zC R h.XS.1,N,h.map.zC R h.XS.2,h.XB,h.only,h.small,fun p d q=>(h.rel p d q).zC R fun g I=>(h.off p d _ g q I).2.2,fun p d q=>(h.book p d q).zC R fun g I=>(h.off p d _ g q I).2.2,h.ar,
  fun p d q r L=>(h.rows p d q r L).mono V,fun p d a g q I=>zo0 (h.lt p d a g q I) R.size,h.apart,
  fun p d a g q I=>⟨(h.off p d a g q I).1,(h.off p d a g q I).2.1,fun N=>by
   rcases U g N with L|L
   ·exact(h.off p d a g q I).2.2 L
   ·have:=h.lt p d a g q I;omega⟩,
  ⟨fun N=>by rcases U wb N with L|L;exact h.XS.1 L;have:=h.zG.lt;omega,fun N=>by rcases U pb N with L|L;exact h.XS.2 L;have:=h.map.lt;omega⟩⟩
open Classical in
noncomputable def X7(D:ByteArray->Option Pd)(p:ByteArray)(d:Pd):ByteArray->Option Pd:=fun q=>if q=p then some d else D q
open Classical in
noncomputable def zkb(own:ByteArray->Bool->Nat->Prop)(p:ByteArray)(b:Bool)(lo hi:Nat):ByteArray->Bool->Nat->Prop:=fun q a g=>own q a g\/(q=p/\a=b/\lo<=g/\g<hi)
theorem Vd{q:ByteArray}{d e:Pd}(h:X7 D p d q=some e):(q=p/\e=d)\/(q≠p/\D q=some e):=by
 unfold X7 at h;split at h
 ·rename_i e1;injection h with h;exact .inl ⟨e1,h.symm⟩
 ·rename_i e1;exact .inr ⟨e1,h⟩
theorem yF.GY(h:yF w wb tb pb vs f D T own){d:Pd}(Y:D p=some d)(hr:yN vs d.ar r)(hc:zh (own p false) w w')(hrel:Rel w' d.rb d.ar (XX d.R r) (fun x=>own p false x\/w.heap.size<=x)):
 yF w' wb tb pb vs f (X7 D p { d with R:=XX d.R r }) T (zkb own p false w.heap.size w'.heap.size):=by
 have W:=fun g (I:own p false g)=>h.off p d false g Y I
 have XA:∀q e,X7 D p { d with R:=XX d.R r } q=some e->∃L,D q=some L/\e.rb=L.rb/\e.bb=L.bb/\e.ar=L.ar/\(q≠p->e=L)/\(q=p->L.R=d.R/\e.R=XX d.R r/\L=d):=fun q e U=>by
  rcases Vd U with⟨rfl,rfl⟩ |⟨N,Z⟩
  ·exact⟨d,Y,rfl,rfl,rfl,fun O=>(O rfl).elim,fun _=>⟨rfl,rfl,rfl⟩⟩
  ·exact⟨e,Z,rfl,rfl,rfl,fun _=>rfl,fun O=>(N O).elim⟩
 refine⟨h.zG.zC hc fun I=>(W _ I).1 rfl,h.tab.same fun g I=>hc.block g (h.tab.lt g I) fun O=>(W g O).2.2 I,h.map.zC hc fun I=>(W _ I).2.1 rfl,fun q=>?_,h.only,fun q e U=>?_,fun q e U=>?_,fun q e U=>?_,fun q e U=>?_,fun q e U=>?_,
  fun q e a g U I=>?_,fun q q' e L a b g U aa I O=>?_,fun q e a g U I=>?_,h.XS⟩
 ·rw[h.XB q];unfold X7;split
  ·rename_i e1;rw[e1,Y];rfl
  ·rfl
 ·obtain⟨L,N,_⟩:=XA q e U;exact h.small q L N
 ·obtain⟨L,N,Z,h3,h4,h5,h6⟩:=XA q e U
  by_cases X:q=p
  ·obtain⟨h7,h8,h9⟩:=h6 X;subst X;rw[Z,h4,h8,h9];refine hrel.cut.mono fun g I=>?_
   rcases I.1 with N|N
   ·exact .inl N
   ·exact .inr ⟨rfl,rfl,N,I.2⟩
  ·rw[h5 X];exact((h.rel q L N).zC hc fun g I O=>X (h.apart q p L d _ _ g N Y I O).1).mono fun g I=>.inl I
 ·obtain⟨L,N,Z,h3,h4,h5,h6⟩:=XA q e U;have V:=(h.book q L N).zC hc fun g I O=>by have:=(h.apart q p L d _ _ g N Y I O).2;cases this
  by_cases X:q=p
  ·obtain⟨h7,h8,h9⟩:=h6 X;rw[Z,h3,h8];rw[h7]at V;exact(V.grow r).mono fun g I=>.inl I
  ·rw[h5 X];exact V.mono fun g I=>.inl I
 ·obtain⟨L,N,_,_,h4,_⟩:=XA q e U;rw[h4];exact h.ar q L N
 ·obtain⟨L,N,Z,h3,h4,h5,h6⟩:=XA q e U;intro x V
  by_cases X:q=p
  ·obtain⟨h7,h8,h9⟩:=h6 X;rw[h8]at V;rw[h4,h9];unfold XX at V;split at V
   ·exact h.rows p d Y x V
   ·rcases zo7.1 V with V|V
    ·exact h.rows p d Y x V
    ·rw[zo2.1 V];exact hr
  ·rw[h5 X]at V ⊢;exact h.rows q L N x V
 ·obtain⟨L,N,_⟩:=XA q e U
  rcases I with I |⟨_,_,_,I⟩
  ·exact zo0 (h.lt q L a g N I) hc.size
  ·exact I
 ·obtain⟨k,N,_⟩:=XA q e U;obtain⟨X,V,_⟩:=XA q' L aa
  rcases I with I |⟨e1,e2,I,_⟩<;>rcases O with O |⟨e3,e4,O,_⟩
  ·exact h.apart q q' k X a b g N V I O
  ·have:=h.lt q k a g N I;omega
  ·have:=h.lt q' X b g V O;omega
  ·exact⟨e1.trans e3.symm,e2.trans e4.symm⟩
 ·obtain⟨L,N,_⟩:=XA q e U
  rcases I with I |⟨_,_,I,_⟩
  ·exact h.off q L a g N I
  ·have:=h.zG.lt;have:=h.map.lt;exact⟨zd,zd,fun U=>by have:=h.tab.lt g U;omega⟩
theorem yF.born(h:yF w wb tb pb vs f D T own)(hp:p.size<=maxLen)(hd:D p=none){d:Pd}(hR:d.R=[])(ha:d.ar<=24){SR SB:Nat->Prop}{f':Value->Option Value}(hc:zh (·=pb) w w')(hrel:Rel w' d.rb d.ar [] SR)(Z:yS w' d.bb d.rb [] SB)(X:∀g,SR g->w.heap.size<=g)(V:∀g,SB g->w.heap.size<=g)(Y:∀g,SR g->¬SB g)(hm:xv prog 9 w' pb f')(hf:f'=yg f (.string p) d.kept):
 ∃I,yF w' wb tb pb vs f' (X7 D p d) T I/\(∀q a g,I q a g->own q a g\/w.heap.size<=g)/\∀a g,I p a g->w.heap.size<=g:=by
 refine⟨fun q a g=>if q=p then(if a then SB g/\g<w'.heap.size else SR g/\g<w'.heap.size)else own q a g,⟨h.zG.zC hc (h.zG.qM h.map),h.tab.same fun g I=>hc.block g (h.tab.lt g I) fun e=>h.XS.2 (e▸I),hm,fun q=>?_,fun x v hx=>?_,fun q e N=>?_,fun q e N=>?_,fun q e N=>?_,fun q e N=>?_,fun q e N=>?_,
  fun q e a g N I=>?_,fun q q' e e' a b g N aa I U=>?_,fun q e a g N I=>?_,h.XS⟩,fun q a g I=>?_,fun a g I=>?_⟩
 ·rw[hf];unfold X7
  by_cases e:q=p
  ·rw[if_pos e,e,Yi];rfl
  ·rw[if_neg e,XG (fun e'=>e (by injection e'))];exact h.XB q
 ·rw[hf]at hx
  by_cases e:x=.string p
  ·exact⟨p,e⟩
  ·rw[XG e]at hx;exact h.only x v hx
 ·rcases Vd N with⟨rfl,rfl⟩ |⟨O,L⟩
  ·exact hp
  ·exact h.small q e L
 ·rcases Vd N with⟨rfl,rfl⟩ |⟨O,L⟩
  ·rw[hR];simpa using hrel.cut
  ·simp only[if_neg O];exact(h.rel q e L).zC hc fun g I=>(h.off q e _ g L I).2.1
 ·rcases Vd N with⟨rfl,rfl⟩ |⟨O,L⟩
  ·rw[hR];simpa using Z.cut
  ·simp only[if_neg O];exact(h.book q e L).zC hc fun g I=>(h.off q e _ g L I).2.1
 ·rcases Vd N with⟨rfl,rfl⟩ |⟨O,L⟩
  ·exact ha
  ·exact h.ar q e L
 ·rcases Vd N with⟨rfl,rfl⟩ |⟨O,L⟩
  ·rw[hR];intro r W;cases W
  ·exact h.rows q e L
 ·split at I
  ·split at I
   ·exact I.2
   ·exact I.2
  ·rename_i O
   rcases Vd N with⟨L,_⟩ |⟨_,L⟩
   ·exact(O L).elim
   ·exact zo0 (h.lt q e a g L I) hc.size
 ·have W:∀{q:ByteArray}{a:Bool},q=p->(if q=p then(if a then SB g/\g<w'.heap.size else SR g/\g<w'.heap.size)else own q a g)->w.heap.size<=g/\(a=true->SB g)/\(a=false->SR g):=fun {q a} hq I=>by
   rw[if_pos hq]at I
   cases a with
   |true=>exact⟨V g I.1,fun _=>I.1,fun e=>by cases e⟩
   |false=>exact⟨X g I.1,fun e=>(by cases e),fun _=>I.1⟩
  have O:∀{q:ByteArray}{a:Bool}{e:Pd},q≠p->X7 D p d q=some e->(if q=p then(if a then SB g/\g<w'.heap.size else SR g/\g<w'.heap.size)else own q a g)->D q=some e/\own q a g:=fun {q a e} hq N I=>by
   rw[if_neg hq]at I
   rcases Vd N with⟨L,_⟩ |⟨_,L⟩
   ·exact(hq L).elim
   ·exact⟨L,I⟩
  by_cases e1:q=p<;>by_cases e2:q'=p
  ·refine⟨e1.trans e2.symm,?_⟩;obtain⟨_,n1,n2⟩:=W e1 I;obtain⟨_,n3,n4⟩:=W e2 U
   cases a<;>cases b
   ·rfl
   ·exact(Y g (n2 rfl) (n3 rfl)).elim
   ·exact(Y g (n4 rfl) (n1 rfl)).elim
   ·rfl
  ·obtain⟨L,h3⟩:=O e2 aa U;have:=h.lt q' e' b g L h3;have:=(W e1 I).1;omega
  ·obtain⟨L,h3⟩:=O e1 N I;have:=h.lt q e a g L h3;have:=(W e2 U).1;omega
  ·obtain⟨L,h3⟩:=O e1 N I;obtain⟨ab,ac⟩:=O e2 aa U;exact h.apart q q' e e' a b g L ab h3 ac
 ·by_cases e1:q=p
  ·rw[if_pos e1]at I;have:w.heap.size<=g:=by
    cases a with
    |true=>exact V g I.1
    |false=>exact X g I.1
   have:=h.zG.lt;have:=h.map.lt;exact⟨zd,zd,fun O=>by have:=h.tab.lt g O;omega⟩
  ·rw[if_neg e1]at I
   rcases Vd N with⟨L,_⟩ |⟨_,L⟩
   ·exact(e1 L).elim
   ·exact h.off q e a g L I
 ·dsimp only at I
  by_cases e1:q=p
  ·rw[if_pos e1]at I;right
   cases a with
   |true=>exact V g I.1
   |false=>exact X g I.1
  ·rw[if_neg e1]at I;exact .inl I
 ·dsimp only at I
  rw[if_pos rfl]at I
  cases a with
  |true=>exact V g I.1
  |false=>exact X g I.1
end
end
section
theorem zY.YD{f:α->List Value}{xs:List α}(h:zY f w A xs)(r:zh S w w')(I:xs≠[]->qU (fun g=>¬S g) A):zY f w' A xs:=fun q=>
 h.kept r (I fun e=>q (by rw[e];rfl)) q
mutual
def Ex.yb(Q:Nat->Prop):Ex->Prop
 |.mk _ _ A _ h=>(h≠[]->qU Q A)/\Ex.Ys Q h
def Ex.Ys (Q:Nat->Prop):List Ex->Prop
 |[]=>True
 |e::h=>Ex.yb Q e/\Ex.Ys Q h
end
theorem Ex.zaE{Q:Nat->Prop}:∀{l:List Ex},Ex.Ys Q l↔∀e∈l,Ex.yb Q e
 |[]=>by unfold Ex.Ys;simp
 |e::h=>by
  unfold Ex.Ys;rw[Ex.zaE];simp
mutual
theorem Ex.yb.mono{Q Q':Nat->Prop}(h:∀g,Q g->Q' g):∀{e:Ex},e.yb Q->e.yb Q'
 |.mk _ _ A _ I,q=>by
  unfold Ex.yb at q ⊢;exact⟨fun r g L=>h g (q.1 r g L),Ex.Ys.mono h q.2⟩
theorem Ex.Ys.mono {Q Q':Nat->Prop} (h:∀g,Q g->Q' g):∀{l:List Ex},Ex.Ys Q l->Ex.Ys Q' l
 |[],_=>by unfold Ex.Ys;trivial
 |e::r,q=>by
  unfold Ex.Ys at q ⊢;exact⟨Ex.yb.mono h q.1,Ex.Ys.mono h q.2⟩
end
def Li.yb(Q:Nat->Prop)(x:Li):Prop:=(x.a.args≠[]->qU Q x.a.A)/\x.l.yb Q/\x.r.yb Q
theorem Li.yb.mono{Q':Nat->Prop}{x:Li}(h:x.yb Q)(q:∀g,Q g->Q' g):x.yb Q':=⟨fun r g I=>q g (h.1 r g I),h.2.1.mono q,h.2.2.mono q⟩
mutual
theorem Ex.zO.YD{S:Nat->Prop}{w W:World}(r:zh S w W):∀{e:Ex},e.zO w->e.yb (fun g=>¬S g)->e.zO W
 |.mk _ _ A _ I,h,q=>by
  unfold Ex.zO at h ⊢;unfold Ex.yb at q;exact⟨h.1.YD r q.1,h.2.1,Ex.qB.YD r h.2.2 q.2⟩
theorem Ex.qB.YD {S:Nat->Prop} {w W:World} (r:zh S w W):∀{l:List Ex},Ex.qB w l->Ex.Ys (fun g=>¬S g) l->Ex.qB W l
 |[],_,_=>by unfold Ex.qB;trivial
 |e::I,h,q=>by
  unfold Ex.qB at h ⊢;unfold Ex.Ys at q;exact⟨Ex.zO.YD r h.1 q.1,Ex.qB.YD r h.2 q.2⟩
end
theorem Li.zO.YD{W:World}{x:Li}(I:zh S w W)(h:x.zO w)(q:x.yb (fun g=>¬S g)):x.zO W:=
 ⟨⟨h.a.rd.YD I q.1,h.a.len⟩,h.l.YD I q.2.1,h.r.YD I q.2.2⟩
theorem zY.yb{f:α->List Value}{xs:List α}(I:∀x,f x≠[])(h:zY f w A xs)(q:xs≠[]):qU (·<w.heap.size) A:=by
 obtain⟨b,o,rfl,L,_⟩:=h (by
  cases xs with
  |nil=>exact absurd rfl q
  |cons x l=>
   rw[zps];intro e;exact I x (List.append_eq_nil_iff.1 e).1)
 intro g r;simp only[zw,zpK,zqo,zo2]at r;subst r;exact L
mutual
theorem Ex.zO.yb{w:World}:∀{e:Ex},e.zO w->e.yb (·<w.heap.size)
 |.mk _ _ A _ q,h=>by
  unfold Ex.zO at h;unfold Ex.yb;exact⟨h.1.yb fun x e=>(by have:=congrArg List.length e;rw[Ex.xF]at this;cases this),Ex.qB.yb h.2.2⟩
theorem Ex.qB.yb {w:World}:∀{l:List Ex},Ex.qB w l->Ex.Ys (·<w.heap.size) l
 |[],_=>by unfold Ex.Ys;trivial
 |e::q,h=>by
  unfold Ex.qB at h;unfold Ex.Ys;exact⟨Ex.zO.yb h.1,Ex.qB.yb h.2⟩
end
theorem Li.zO.yb{x:Li}(h:x.zO w):x.yb (·<w.heap.size):=⟨zY.yb (f:=Tm.cells) (fun t e=>(nomatch e)) h.a.rd,h.l.yb,h.r.yb⟩
end
