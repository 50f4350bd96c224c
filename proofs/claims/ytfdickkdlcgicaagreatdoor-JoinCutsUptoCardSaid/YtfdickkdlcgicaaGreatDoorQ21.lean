/-
  Books: ask.
-/
import Derived.Test.YtfdickkdlcgicaaGreatDoorQ20
import Derived.Sort.CutIn
set_option maxRecDepth 100000
set_option maxHeartbeats 8000000
set_option linter.all false
namespace Go.Proofs.YtfdickkdlcgicaaGreatDoor.C
open Go.Proofs.Tryz Go Go.RowKit Go.Maps Go.WideMaps
section
attribute [local go_sem] Oper.semAt_some
structure zac (w:World) (R:List (List Nat)) (S1:Nat->Prop) (rb ar bb mb m r6:Nat) (ix:Nat->Option yI) (w5:World) (f':Value->Option Value) (ix':Nat->Option yI) (d:yI):Prop where
 bk:YS w5 bb rb R mb f' ix'
 at_:ix' m=some d
 rel:Rel w5 rb ar R (fun g=>S1 g/\g<w.heap.size)
 dis:∀g,(S1 g/\g<w.heap.size)->¬yO d g/\g<w5.heap.size
 in_:∀m2 d2 g,ix' m2=some d2->yO d2 g->YC bb mb ix g\/w.heap.size<=g
 m3:zD w5 w.heap.size 105 #[.int .u32 (m:Int)]
 h6:zD w5 r6 446 #[.pointer (some ⟨d.xb,0,none⟩)]
 c5:zh (YC bb mb ix) w w5
theorem zmS{w:World}{rb ar:Nat}{R:List (List Nat)}{S1:Nat->Prop}(h:Rel w rb ar R S1){bb mb:Nat}{f:Value->Option Value}{ix:Nat->Option yI}(N:YS w bb rb R mb f ix)(m:Nat)(ba:ar<=24)(hm:m<2 ^ ar)(bS:R.length<=4194304)(hS:∀g,S1 g->¬YC bb mb ix g):
 Calls prog 323 #[.pointer (some ⟨bb,0,none⟩),.int .u32 (m:Int)] w (Dk m bb rb R (YC bb mb ix) w):=by
 have az:m<2 ^ 24:=zpz hm (zqo zr ba);obtain⟨W0,X,L⟩:=xi w 105 #[.int .u32 (m:Int)];have HX:=zz L;have bX:=zz X;have ax:=zz h.cut;have HS:=zz hS;have ad:=zz N;have aP:=zz (fun W (U:Bl w W)=>zbS (h.below U) m ba hm);obtain⟨pp,bv,O,I⟩:∃(pp:Option Addr) (bv:Bool),(∀W,Bl w W->(Instr.lookup 292 (.map (some mb)) (.int .u32 (m:Int)) true).run prog W=.ok (.tuple #[.pointer pp,.bool bv]) W)/\((∃d,ix m=some d/\pp=some ⟨d.xb,0,none⟩/\bv=true)\/(ix m=none/\pp=none/\bv=false)):=by
  have Y:=fun W (U:Bl w W)=>(N.map.below U).look zak underlying292 (z:=.pointer none) zo (DA az) true
  rw[N.XM m az]at Y
  rcases hd:ix m with _|d
  ·rw[hd]at Y;exact⟨none,false,Y,.inr ⟨rfl,rfl,rfl⟩⟩
  ·rw[hd]at Y;exact⟨_,true,Y,.inl ⟨d,rfl,rfl,rfl⟩⟩
 have bP:=zz O;have aT:=zz I;have H0:=zz (show ∀W,Bl W0 W->W.cell? ⟨bb,0,none⟩=some (.pointer (some ⟨rb,0,none⟩))/\W.cell? ⟨bb,1,none⟩=some (.map (some mb))/\W.cell? ⟨w.heap.size,0,none⟩=some (.int .u32 (m:Int))/\(Instr.lookup 292 (.map (some mb)) (.int .u32 (m:Int)) true).run prog W=.ok (.tuple #[.pointer pp,.bool bv]) W from
  fun W U=>⟨(N.zH.below (zl L.below U)).cell 0,(N.zH.below (zl L.below U)).cell 1,(L.b0.below U).cell 0,bP.o W (zl L.below U)⟩)
 clear h N O I L X hS;refine(callsIn_wide (n:=3)).1 ?_;refine callsIn_of_wp_marks func323 rfl trivial ?_ rfl;simp only[ntmps323,zq0,zpV,zqd,Nat.reduceAdd,Nat.reduceSub,zq7,zq8,zrn,zrg,zpI,zpJ]
 gi_upto_region 1 with fail
 rw[bX.o];have c0:=(H0.o W0 (Below.refl _ _)).1
 gi_upto_region 3 with(refine⟨trivial,?_⟩;gi_at_call 318;refine(callsIn_wide.2 (zb4 _ _)).mono ?_;rintro e w2⟨rfl,bz⟩;have a7:=zz bz;clear bz c0)
 refine Zm [(0,0),(1,0),(2,0),(3,0),(4,0),(5,2),(6,0)] 9999 (fun W=>Bl W0 W) (fun _=>True) zo (zo) zo rfl zo ?s0 ?s1 ?_
 case s1=>trivial
 case s0=>exact a7.o.drew
 simp only[xO,qa,qb,qc,qd,qe,qf];try refine zQ ?_
 repeat refine zS H0.o ?_
 refine xf fun K L=>?_
 go_simp;refine(aP.o _ (zl HX.o.below a7.o.drew)).mono ?_;rintro e w3⟨rfl,O⟩;have I:Bl W0 w3:=zl a7.o.drew O;have aO:=zz I;refine L.out _ _ I (fun _=>trivial) ?_;clear L K O I;try refine zQ ?_
 repeat refine zS H0.o ?_
 refine YR ?_;try simp only[Act.put]
 gi_upto_region 5 with fail
 refine Zm [(0,0),(1,0),(2,0),(3,0),(4,0),(5,0),(6,0),(7,0),(8,0),(9,2),(10,2),(11,0)] 9999 (fun W=>Bl W0 W) (fun _=>True) zo (zo) zo rfl zo ?s0 ?s1 ?_
 case s1=>trivial
 case s0=>exact aO.o.drew
 simp only[xO,qa,qb,qc,qd,qe,qf];try refine zQ ?_
 repeat refine zS H0.o ?_
 refine xf fun K L=>?_
 go_simp;obtain⟨W6,I,aU⟩:=xi w3 446 #[.pointer none];rw[I];have aZ:Bl W0 W6.drew:=(zl aO.o aU.below).drew;refine L.out _ _ aZ (fun _=>trivial) ?_;clear L K I;try refine zQ ?_
 repeat refine zS H0.o ?_
 refine xf fun K L=>?_
 refine XC 446 _ _ rfl w3.heap.size 0 _ _ aU.b0.drew (.pointer pp) rfl rfl zp (zo) rfl ?_;intro w4 a1;have aD:Bl W0 w4:=a1.below aZ (zpx _) aO.o.size;refine L.out _ _ aD (fun _=>trivial) ?_;clear L K;try refine zQ ?_
 repeat refine zS H0.o ?_
 refine YR ?_;try simp only[Act.put]
 have bB:Bl w w4:=zl HX.o.below aD;have aV:w.heap.size<w3.heap.size:=by have:=HX.o.size;have:=aO.o.size;omega
 have h6:zD w4 w3.heap.size 446 #[.pointer pp]:=a1.zH;generalize w3.heap.size=r6 at h6 aV ⊢;have bg:=zz aD;have aq:=zz bB;have bq:=zz aV;have H6:=zz h6
 gi_upto_if 38 with fail
 gi_cut []from 37 (fun I=>∃f' bn d,zac w R S1 rb ar bb mb m r6 ix I f' bn d)
 case first=>
  rcases aT.o with⟨d,hd,rfl,rfl⟩ |⟨hd,rfl,rfl⟩
  ·have O:=ad.o.same (w':=w4) fun g I=>aq.o.block g (ad.o.lt g I)
   have HM:=zz (zac.mk (S1:=S1) (r6:=r6) O hd (ax.o.below aq.o) (fun g I=>⟨fun h=>HS.o g I.1 (.inr (.inr ⟨m,d,hd,h⟩)),zpz I.2 aq.o.size⟩) (fun m2 d2 g ab I=>.inl (.inr (.inr ⟨m2,d2,ab,I⟩))) (HX.o.b0.below bg.o) H6.o (zh.xj (YC bb mb ix) aq.o));clear O hd
   gi_wp2
   gi_meet
   exact⟨_,_,_,HM.o⟩
  ·have Hd:=zz hd;clear hd;obtain⟨W5,aa,ah,Z,O⟩:∃W5,w4.alloc (.map #[] 0)=W5/\W5.heap[w4.heap.size]? = some (.map #[] 0)/\W5.heap.size=w4.heap.size+1/\Bl w4 W5:=⟨_,rfl,World.alloc_heap_new _ _,zp,xq _ _⟩;obtain⟨W7,ae,Y⟩:=xi W5 456 #[.map (some w4.heap.size),.int .i64 0,.int .i64 0];have aw:=zz aa;have aI:=zz ae;have aM:=zz ah;have av:=zz Z;have ac:=zz O;have ak:=zz Y;have aX:=@run_makeMap prog;have c0:=(H0.o w4 aD).1;have aA:W5.cell? ⟨bb,0,none⟩=some (.pointer (some ⟨rb,0,none⟩)):=(H0.o W5 (zl aD O)).1;rw[<-aw.o]at aA;have X:=(H6.o.below O).below Y.below;have c6:=X.cell 0;have f6:=X.frozen 0;rw[<-aI.o]at c6 f6;have aW:=zz (U9 X (i:=0) (.pointer (some ⟨W5.heap.size,0,none⟩)));clear aD a1 aZ aU bB aV h6 aa ah Z O ae Y X
   gi_upto_region 8 with(refine⟨trivial,?_⟩;gi_at_call 326;rw[aw.o];refine(callsIn_wide.2 (zaA (ax.o.below (zl aq.o ac.o)))).mono ?_;rintro e w9⟨rfl,aK⟩;obtain rfl:=aK.symm)
   rw[aI.o];obtain⟨X,af⟩:∃X,W7.setCell ⟨r6,0,none⟩ (.pointer (some ⟨W5.heap.size,0,none⟩))=X:=⟨_,rfl⟩;have an:XX W7 r6 446 #[.pointer (some ⟨W5.heap.size,0,none⟩)] X:=by rw[<-af];exact aW.o
   rw[af];have Z:Bl w X:=an.below (zl aq.o (zl ac.o ak.o.below)) (zpx _) (zrb bq.o);have ai:Bl W0 X:=an.below (zl bg.o (zl ac.o ak.o.below)) (zpx _) (by have:=HX.o.size;have:=bq.o;omega);have ag:zD X r6 446 #[.pointer (some ⟨W5.heap.size,0,none⟩)]:=an.zH;have ae:zD X W5.heap.size 456 #[.map (some w4.heap.size),.int .i64 0,.int .i64 0]:=ak.o.b0.zC an.zC (by have:=H6.o.lt;have:=av.o;omega);have au:X.heap[w4.heap.size]? = some (.map #[] 0):=by
    have h1:W7.heap[w4.heap.size]? = some (.map #[] 0):=(ak.o.below.block _ (by rw[av.o];omega)).trans aM.o;exact(an.zC.block _ (zpN.1 h1).1 (by have:=H6.o.lt;omega)).trans h1
   have al:w.heap.size<=w4.heap.size/\w.heap.size<=W5.heap.size:=⟨aq.o.size,by rw[av.o];have:=aq.o.size;omega⟩;generalize W5.heap.size=V at ag ae al ⊢;generalize w4.heap.size=Y at ae au al ⊢;obtain⟨d,aN,aL,aE,aG⟩:∃d:yI,d.xb=V/\d.kb=Y/\d.f=(fun _=>none)/\d.seen=0:=⟨⟨V,Y,fun _=>none,0⟩,rfl,rfl,rfl,rfl⟩;subst aN aL;have O:=ad.o.same (w':=X) fun g I=>Z.block g (ad.o.lt g I)
   have aa:r6≠mb:=ag.qU O.map;have aj:w.heap.size≠mb:=by have:=ad.o.map.lt;omega
   have am:d.xb≠mb:=ae.qU O.map;have ao:d.kb≠mb:=by have:=ad.o.map.lt;omega
   have H8:=zz (show ∀W,zh (·=mb) X W->W.cell? ⟨bb,1,none⟩=some (.map (some mb))/\W.cell? ⟨w.heap.size,0,none⟩=some (.int .u32 (m:Int))/\W.cell? ⟨r6,0,none⟩=some (.pointer (some ⟨d.xb,0,none⟩))from
    fun W U=>⟨(O.zH.zC U (O.zH.qU O.map)).cell 1,((HX.o.b0.below ai).zC U aj).cell 0,(ag.zC U aa).cell 0⟩)
   have aB:=zz O;have aS:=zz Z;have aF:=zz ai;have aQ:=zz ag;have aR:=zz ae;have ay:=zz au;have aH:=zz al;have aJ:=zz aE;have ap:=zz aG;have aC:=zz (show r6≠mb/\w.heap.size≠mb/\d.xb≠mb/\d.kb≠mb from⟨aa,aj,am,ao⟩);clear an af O Z ai ag ae au al aE aG aa aj am ao c0 aA c6 f6;refine Zm [(0,0),(1,0),(2,0),(3,0),(4,0),(5,0),(6,2)] 9999 (fun W=>zh (·=mb) X W) (fun _=>True) zo (zo) zo rfl zo ?s0 ?s1 ?_
   case s1=>trivial
   case s0=>exact yw
   simp only[xO,qa,qb,qc,qd,qe,qf];try refine zQ ?_
   repeat refine zS H8.o ?_
   refine xf fun K L=>?_
   refine Zy _ _ _ rfl (aB.o.map.same (w':=X.drew) rfl) zak underlying292 rfl (.int .u32 (m:Int)) (.pointer (some ⟨d.xb,0,none⟩)) _ rfl rfl (DA az) ?_;intro O ah am;have aa:zh (·=mb) X O:=(zh.refl (·=mb) X).drew.yu am fun _=>rfl
   refine L.out _ _ aa (fun _=>trivial) ?_;clear L K;try refine zQ ?_
   repeat refine zS H8.o ?_
   refine YR ?_;try simp only[Act.put]
   have al:=aQ.o.zC aa aC.o.1;have ai:XI O R m d:=by
    refine⟨?_,?_,by rw[ap.o];exact zpD _⟩
    ·rw[ap.o];exact aR.o.zC aa aC.o.2.2.1
    ·rw[ap.o,zhj,aJ.o];exact Xo.zdn ⟨#[],0,(aa.block _ (zpN.1 ay.o).1 aC.o.2.2.2).trans ay.o,Yu.none_,MapKept.stamped_empty 0⟩
   have ae:∀g,yO d g->w.heap.size<=g:=fun g I=>by
    rcases I with rfl|rfl |⟨x,v,hf,_⟩
    ·exact aH.o.2
    ·exact aH.o.1
    ·rw[aJ.o]at hf;cases hf
   have ag:zh (·=mb) w O:=(zh.xj (·=mb) aS.o).trans aa fun g I _=>I
   have aj:=ad.o.made Hd.o ag ai ae ah rfl;have HM:=zz (zac.mk (S1:=S1) (ix:=ix) (r6:=r6) aj (show ZC ix m d m=some d from if_pos rfl) (ax.o.zC ag fun g I e=>HS.o g I.1 (.inr (.inl e))) (fun g I=>⟨fun h=>by have:=ae g h;omega,zpz I.2 ag.size⟩) (fun m2 d2 g ab I=>by
    unfold ZC at ab;split at ab
    ·injection ab with ab;subst ab;exact .inr (ae g I)
    ·exact .inl (.inr (.inr ⟨m2,d2,ab,I⟩))) ((HX.o.b0.below aF.o).zC aa aC.o.2.1) al (ag.mono (S':=YC bb mb ix) fun g I _=>.inr (.inl I)))
   clear aa ah am al ai ae ag aj aX
   gi_wp2
   gi_meet
   exact⟨_,_,_,HM.o⟩
 case rest=>
  obtain⟨O,rfl⟩:∃O,O=wc:=⟨_,rfl⟩;obtain⟨f',bn,d,hM⟩:=hcut;have av:=zz hM.bk;have am:=zz hM.at_;have ak:=zz hM.rel;have aJ:=zz hM.dis;have a3:=zz hM.in_;have aX:=zz hM.m3;have aa:=H6;have H6:=zz hM.h6;have bD:=zz hM.c5;have H9:=zz (show ∀W,Bl O W->W.cell? ⟨r6,0,none⟩=some (.pointer (some ⟨d.xb,0,none⟩))/\W.cell? ⟨d.xb,2,none⟩=some (.int .i64 0)/\W.cell? ⟨d.xb,1,none⟩=some (.int .i64 (d.seen:Int))/\W.cell? ⟨bb,0,none⟩=some (.pointer (some ⟨rb,0,none⟩))from
   fun W U=>⟨(hM.h6.below U).cell 0,((hM.bk.each m d hM.at_).zH.below U).cell 2,((hM.bk.each m d hM.at_).zH.below U).cell 1,(hM.bk.zH.below U).cell 0⟩)
  clear hM aa
  gi_upto_region 9 with fail
  refine Zm [(0,0),(1,0),(2,0),(3,0),(4,0),(5,0),(6,0),(7,0),(8,0),(9,2),(10,0)] 9999 (fun W=>Bl O W) (fun _=>True) zo (zo) zo rfl zo ?s0 ?s1 ?_
  case s1=>trivial
  case s0=>exact yw
  simp only[xO,qa,qb,qc,qd,qe,qf];try refine zQ ?_
  repeat refine zS H9.o ?_
  refine xf fun K L=>?_
  go_simp;refine(zaA (ak.o.below ((Below.refl O.heap.size O).drew))).mono ?_;rintro e w6⟨rfl,aS⟩;obtain rfl:=aS.symm;refine L.out _ _ ((Below.refl _ _).drew) (fun _=>trivial) ?_;clear L K;try refine zQ ?_
  repeat refine zS H9.o ?_
  refine YR ?_;try simp only[Act.put]
  gi_upto_region 12 with fail
  refine Zm [(0,0),(1,0),(2,0),(3,0),(4,0),(5,0),(6,0),(7,0),(8,0),(9,0),(10,0),(11,0),(12,0),(13,0),(14,2),(15,2)] 9999 (fun W=>Bl O W) (fun _=>True) zo (zo) zo rfl zo ?s0 ?s1 ?_
  case s1=>trivial
  case s0=>exact(Below.refl _ _).drew.drew
  simp only[xO,qa,qb,qc,qd,qe,qf];try refine zQ ?_
  repeat refine zS H9.o ?_
  refine xf fun K L=>?_
  go_simp;refine(UR (ak.o.below ((Below.refl O.heap.size O).drew.drew))).mono ?_;rintro e w6⟨rfl,aS⟩;obtain rfl:=aS.symm;refine L.out _ _ ((Below.refl _ _).drew.drew) (fun _=>trivial) ?_;clear L K;try refine zQ ?_
  repeat refine zS H9.o ?_
  refine xf fun K L=>?_
  go_simp;refine(zfU _ _ _ _).mono ?_;rintro e w8⟨rfl,U⟩;obtain⟨X,af,aa⟩:=Vj O.drew.drew 128 3 3 #[.pointer (some ⟨rb,0,none⟩)] #[.int .i64 (d.seen:Int)] #[.int .i64 (R.length:Int)];obtain rfl:X=w8:=af.symm.trans U.symm;have Z:Bl O X:=zl (Below.refl O.heap.size O).drew.drew aa.below;refine L.out _ _ Z (fun _=>trivial) ?_;clear L K af U;try refine zQ ?_
  repeat refine zS H9.o ?_
  refine YR ?_;try simp only[Act.put]
  have bN:=zz (show ∀r∈R,Rw r from by obtain⟨_,_,_,_,_,h,_⟩:=ak.o;exact h.ok);have ag:=zz Z;have ac:XI X R m d:=(av.o.each m d am.o).same fun g I=>Z.block g ((av.o.each m d am.o).lt g I)
  have U:=zz ac;have b4:=zz aa;have an:X.heap.size=O.heap.size+1+1+1:=aa.size;have aN:=zz an;have bs:zD X O.heap.size 128 #[.pointer (some ⟨rb,0,none⟩)]:=aa.b0;have bV:zD X (O.heap.size+1) 3 #[.int .i64 (d.seen:Int)]:=aa.b1;have bO:zD X (O.heap.size+1+1) 3 #[.int .i64 (R.length:Int)]:=aa.b2;have aC:Kz (¬qh d.kb d.f O.heap.size):=fun h=>ac.ne bs zr (zr) (.inr h)
  clear Z aa
  gi_wp2
  refine' zcw rfl zd (gf:=126) (lb:=#[.pointer (some ⟨O.heap.size,0,none⟩),.pointer (some ⟨O.heap.size+1,0,none⟩),.pointer (some ⟨O.heap.size+1+1,0,none⟩)]) rfl trivial (enters_of func126 zo rfl) (bb:=O.heap.size) (by rw[aN.o];omega)
   (zcE zd (ak.o.below ag.o) d.seen ac.le bS bs bV bO) X1.trans (fun W l o Z _ h h1 _=>X1.put W l o Z h h1) (fun _=>rfl)
   (Vu X O.heap.size R m d) (fun _ _ _=>False) (zd0 (zpx _) ac.Yq.map.lt) (fun c _ _ _ _ h _ _=>h) (zeL (by rw[aN.o];omega) aC.o) ⟨d.f,by simpa using ac.Yq,fun g I=>.inl I,zh.refl _ _⟩
   (fun x=>.cells (Zb R x).toArray 155) (fun W o _=>X1.alloc W o) _ ?assign ?body ?done ?stop
  case assign=>
   intro q x W g K I L;have Hg:=zz I;clear I;unfold GA;have Hl:=zz (show(Zb R x).toArray.size=24 by simp[zc1])
   gi_wp2_with (refine Gh 155 _ _ rfl ?_;refine zf8 rfl zj 155 _ _ rfl _ (Zb R x).toArray rfl rfl (by rw[Hl.o];rfl) (by rw[Hl.o];exact yJ) (by simpa using zcc R x) ?_)
   rw[Hg.o];simp only[Act.put];exact L
  case stop=>
   rintro D c aB W hD Z h L;exact h.elim
  case body=>
   rintro lk aB x W g I Z⟨f',hG,au,hC⟩hV;obtain⟨hx,aa⟩:=zbx hV;have aI:R.getD x []=R[x]:=getD_at _ aa;have af:=bN.o _ (zpB aa);have aE:Zb R x=zX R[x]:=by unfold Zb;rw[aI,G5 af.len]
   rw[aE]at Z;have aA:¬(qh d.kb d.f w.heap.size\/w.heap.size=O.heap.size):=fun h=>by
    rcases h with h|h
    ·exact U.o.ne (aX.o.below ag.o) zr (zr) (.inr h)
    ·have:=aX.o.lt;omega
   have al:¬(qh d.kb d.f r6\/r6=O.heap.size):=fun h=>by
    rcases h with h|h
    ·exact U.o.ne (H6.o.below ag.o) zr (zr) (.inr h)
    ·have:=H6.o.lt;omega
   have ao:¬(qh d.kb d.f d.xb\/d.xb=O.heap.size):=fun h=>by
    rcases h with h|h
    ·exact U.o.T3 h
    ·have:=(av.o.each m d am.o).zH.lt;omega
   have ai:=(aX.o.below ag.o).zC hC aA;have h6:=(H6.o.below ag.o).zC hC al;have aw:=U.o.zH.zC hC ao;have bY:=zz ai;have a8:=zz h6;have ah:=zz aw;have aj:=zz hG;have ay:=zz au;have aM:=zz hC;have Hx:=zz hx;have bG:=zz aI;have Hg:=zz I;have aK:=zz af;have bW:=zz aa;have bM:Kz (d.kb<X.heap.size):=U.o.Yq.map.lt;generalize R[x]=r at Z aK bG;have aF:W.rangeAt g 0 (zX r):=by
    intro j v hv;rw[zp6];have:W.cell? ⟨g,j,none⟩=(zX r).toArray[j]?:=cell_of_row W g j _ _ _ Z;rw[this];simpa using hv
   have ap:g<W.heap.size:=(zpN.1 Z).1;have bp:=zz (TL W g r aK.o aF ap m az);have bT:=zz (aK.o.mask m);have c3:=ai.cell 0;have ae:(zX (ql m r)).length=24:=by simp[VG,aK.o.len]
   have Hl:=zz ae;clear hG au hC hx aa aI af aE Z aA al ao ai h6 aw hV aF ap ae I
   gi_upto_region 16 with(first
    |(refine⟨trivial,?_⟩;gi_at_call 324;refine(CallsIn.inRound lk (callsIn_wide.2 bp.o)).mono ?_;rintro e w9⟨rfl,bx⟩;have bR:=zz bx;clear bx c3)
    |(refine Gh 155 _ _ rfl ?_;refine za4 rfl zj 155 _ _ rfl _ (zX (ql m r)) rfl rfl (by rw[Hl.o];rfl) (by rw[Hl.o];exact yJ) (X7 _) ?_;intro W9 bE;have aW:=zz bE;clear bE))
   have af:Bl W W9:=zl bR.o aW.o.below;have ap:=aj.o.same (w':=W9) fun q Z=>af.block q (aj.o.lt q Z)
   have aE:=zz ap;have ae:=zz af;have al:¬qh d.kb f' r6:=fun h=>by
    have N:=(a8.o.below af)
    rcases ap.kind h with e |⟨cs,aa⟩
    ·exact N.qU ap.map e
    ·unfold zD at N;rw[aa]at N;injection N with N;injection N with _ N;exact absurd N zr
   have ao:¬qh d.kb f' d.xb:=fun h=>by
    have N:=(ah.o.below af)
    rcases ap.kind h with e |⟨cs,aa⟩
    ·exact N.qU ap.map e
    ·unfold zD at N;rw[aa]at N;injection N with N;injection N with _ N;exact absurd N zr
   have aF:¬qh d.kb f' w9.heap.size:=fun h=>by
    have N:=aW.o.b0
    rcases ap.kind h with e |⟨cs,aa⟩
    ·exact N.qU ap.map e
    ·unfold zD at N;rw[aa]at N;injection N with N;injection N with _ N;exact absurd N zr
   have aA:=zz (show ∀W',zh (qh d.kb f') W9 W'->W'.cell? ⟨r6,0,none⟩=some (.pointer (some ⟨d.xb,0,none⟩))/\W'.cell? ⟨d.xb,0,none⟩=some (.map (some d.kb))from
    fun W' ai=>⟨((a8.o.below af).zC ai al).cell 0,((ah.o.below af).zC ai ao).cell 0⟩)
   have be:=zz (show ∀W',zh (qh d.kb f') W9 W'->W'.rangeAt w9.heap.size 0 (zX (ql m r))from fun W' ai j v hv=>by
    have:=(aW.o.b0.zC ai aF).cell (0+j);rw[this];simpa using hv)
   have aG:(prog.info? 155).map (·.size)=some (zX (ql m r)).length:=by rw[Hl.o];exact yJ
   have bQ:=zz aG;clear al ao aF ap af aG;refine zdq [(0,0),(1,0),(2,0),(3,0),(4,0),(5,0),(6,2),(7,2),(8,0),(10,0),(9,2),(11,2)] 9999 (fun W'=>zh (qh d.kb f') W9 W') (fun _=>True) zo (zo) zo rfl zo ?s0 ?s1 ?_
   case s1=>trivial
   case s0=>exact yw
   simp only[xO,qa,qb,qc,qd,qe,qf];try refine zQ ?_
   repeat refine zS aA.o ?_
   refine Ud 155 _ rfl w9.heap.size 0 rfl (zX (ql m r)) _ rfl be.o underlying155 rfl bQ.o ?_;try refine zQ ?_
   repeat refine zS aA.o ?_
   refine xf fun K L=>?_
   go_simp;obtain⟨Wa,af,a6⟩:=xi W9 3 #[.int .i64 (x:Int)];rw[af];have aL:Bl W9 Wa.drew:=a6.below.drew;refine L.out _ _ (zh.xj _ aL) (fun _=>trivial) ?_;clear L K af;try refine zQ ?_
   repeat refine zS aA.o ?_
   have bh:=aE.o.same (w':=Wa.drew) fun q Z=>aL.block q (aE.o.lt q Z)
   obtain⟨bZ,Wb,A,b3,f1,hr,bL,br,bw,af,a9⟩:=bh.entry Ut underlying454 (fun W=>zo) (Jq bT.o);refine xf fun K L=>?_
   refine zc4 _ _ rfl rfl rfl hr ?_;have aH:zh (qh d.kb f') W9 Wb:=(zh.xj _ aL).trans a9 fun q Z _=>Z
   refine L.out _ _ aH (fun _=>trivial) ?_;clear L K;try refine zQ ?_
   repeat refine zS aA.o ?_
   have aI:x<R.length:=bW.o;have aF:∀j u,[Value.int .i64 (x:Int)][j]? = some u->Wb.cell? ((⟨W9.heap.size,0,none⟩:Addr).add j)=some u:=fun j u hj=>by
    have N:zD Wb W9.heap.size 3 #[.int .i64 (x:Int)]:=a6.b0.drew.zC a9 fun h=>by have:=aE.o.lt _ h;omega
    cases j with
    |zero=>simp at hj;subst hj;exact N.cell 0
    |succ j=>simp at hj
   have bF:=zdh R (d.seen+aB.length) m (.agg (zX (ql m r)).toArray);have bU:=Hx.o;obtain⟨i0,z0,bi,bH,bt,bJ,bK⟩:=zaI.ex;obtain⟨v',Wc,a4,bf,bj,aQ⟩:=br.push (st:=65) (.agg (zX (ql m r)).toArray) i0 z0 8 underlying65 bi bH bt bJ bK zr 65 ⟨W9.heap.size,0,none⟩ 1 [.int .i64 (x:Int)] rfl aF zt (by unfold maxLen;omega) zd;rw[bL,zqr]at a4;refine xf fun K L=>?_
   refine ze1 _ _ rfl rfl rfl a4 ?_;have aR:zh (qh d.kb f') W9 Wc:=aH.trans bj fun q Z _=>af q Z
   refine L.out _ _ aR (fun _=>trivial) ?_;clear L K;try refine zQ ?_
   repeat refine zS aA.o ?_
   obtain⟨Wd,bl,bd,bI⟩:=(bw.same bf).store (t:=454) v';obtain⟨a2,bc,bo⟩:=aQ Wd bd bI;refine xf fun K L=>?_
   refine zcn _ _ _ rfl rfl rfl rfl bl ?_;have ap:zh (qh d.kb f') W9 Wd:=aH.trans bc fun q Z _=>af q Z
   refine L.out _ _ ap (fun _=>trivial) ?_;clear L K;try refine zQ ?_
   repeat refine zS aA.o ?_
   have bu:X.heap.size<=W.heap.size:=aM.o.size;have bA:KeepsFrom X.heap.size W Wd:=by
    refine⟨zpK ae.o.size ap.size,fun k o hB hk hc=>?_⟩;have aG:=(zpN.1 hk).1;have h9:=(ae.o.block k aG).trans hk;refine(ap.block k (zpz aG ae.o.size) fun h=>?_).trans h9
    rcases aE.o.kind h with e |⟨cs,aa⟩
    ·have:=bM.o;omega
    ·rw[aa]at h9;injection h9 with h9;subst h9;cases hc
   have bm:X1 155 W Wd:=fun k cs fr hk=>by
    have aG:=(zpN.1 hk).1;have h9:=(ae.o.block k aG).trans hk;refine(ap.block k (zpz aG ae.o.size) fun h=>?_).trans h9
    rcases aE.o.kind h with e |⟨aY,aa⟩
    ·obtain⟨es,c,hm,_⟩:=aE.o.map;rw[e,hm]at h9;cases h9
    ·rw[aa]at h9;simp at h9
   have bC:Vu X O.heap.size R m d (aB++[x]) Wd:=by
    refine⟨yp f1 (.agg (zX (ql m r)).toArray) v',?_,fun q Z=>?_,?_⟩
    ·rw[zpA,zqs,<-zqO,zbD,<-Hx.o,bG.o,Hx.o];have e:∀G:Value->List (List Value),(fun y=>open Classical in if y=Value.agg (zX (ql m r)).toArray then G (.agg (zX (ql m r)).toArray)++[[Value.int .i64 ((d.seen+aB.length:Nat):Int)]]else G y)=(fun y=>open Classical in if y=Value.agg (zX (ql m r)).toArray then G y++[[Value.int .i64 ((d.seen+aB.length:Nat):Int)]]else G y):=fun G=>by
      funext y
      split
      ·rename_i e;rw[e]
      ·rfl
     rw[Hx.o,e]at a2;exact a2
    ·rcases bo q Z with h|h
     ·exact ay.o q (af q h)
     ·right;have:=ae.o.size;have:=aH.size;omega
    ·exact(aM.o.trans (zh.xj (fun _=>False) ae.o) (fun _ h _=>h.elim)).trans ap fun q Z a5=>by
      rcases ay.o q Z with h|h
      ·exact .inl h
      ·omega
   have aG:KeepsFrom X.heap.size W Wd/\X1 155 W Wd/\Vu X O.heap.size R m d (aB++[x]) Wd:=⟨bA,bm,bC⟩;have aY:=zz aG;clear aG bA bm bC bu a2 bc bo bl bd bI ap aQ bj aR bf a4 aH a9 af bw br bL hr bh aL a6 aF bF bU aI bi bH bt bJ bK;refine YR ?_;try simp only[Act.put]
   gi_wp2
   exact aY.o
  case done=>
   rintro D xs W hD rfl⟨f',hG,au,hC⟩L;rw[List.length_range',show d.seen+(R.length-d.seen)=R.length by have:=U.o.le;omega]at hG;have al:¬(qh d.kb d.f r6\/r6=O.heap.size):=fun h=>by
    rcases h with h|h
    ·exact U.o.ne (H6.o.below ag.o) zr (zr) (.inr h)
    ·have:=H6.o.lt;omega
   have ao:¬(qh d.kb d.f d.xb\/d.xb=O.heap.size):=fun h=>by
    rcases h with h|h
    ·exact U.o.T3 h
    ·have:=(av.o.each m d am.o).zH.lt;omega
   have aA:¬(qh d.kb d.f bb\/bb=O.heap.size):=fun h=>by
    rcases h with h|h
    ·exact(av.o.off m d bb am.o (.inr h)).2 rfl
    ·have:=av.o.zH.lt;omega
   have h6:=(H6.o.below ag.o).zC hC al;have aw:=U.o.zH.zC hC ao;have ae:=(av.o.zH.below ag.o).zC hC aA;have hrel:=(ak.o.below ag.o).zC hC fun q Z h=>by
    rcases h with h|h
    ·exact(aJ.o q Z).1 (.inr h)
    ·have:=(aJ.o q Z).2;omega
   have af:r6≠d.xb:=h6.yK aw zr;have aB:bb≠d.xb:=ae.yK aw zr;have ap:=zz (show ∀W',zh (·=d.xb) W W'->W'.cell? ⟨r6,0,none⟩=some (.pointer (some ⟨d.xb,0,none⟩))/\W'.cell? ⟨bb,0,none⟩=some (.pointer (some ⟨rb,0,none⟩))from
    fun W' ai=>⟨(h6.zC ai af).cell 0,(ae.zC ai aB).cell 0⟩)
   have aF:=zz (fun W' (ai:zh (·=d.xb) W W')=>UR (hrel.zC ai fun q Z h=>(aJ.o q Z).1 (.inl h)));have aj:=zz hG;have ah:=zz aw;have a8:=zz h6;have ay:=zz au;have aM:=zz hC;have HK:=zz L;have HD:=zz hD;have aI:=zz af;clear hG au hC al ao aA h6 aw ae hrel af aB L hD
   gi_upto_region 17 with fail
   refine Zm [(0,0),(1,0),(2,0),(3,0),(4,0),(5,0),(6,2),(7,0),(8,0),(9,2)] 9999 (fun W'=>zh (·=d.xb) W W') (fun _=>True) zo (zo) zo rfl zo ?s0 ?s1 ?_
   case s1=>trivial
   case s0=>exact yw
   simp only[xO,qa,qb,qc,qd,qe,qf];try refine zQ ?_
   repeat refine zS ap.o ?_
   refine xf fun K L=>?_
   go_simp;refine(aF.o _ (zh.refl _ _).drew).mono ?_;rintro e aQ⟨rfl,aB⟩;obtain rfl:=aB.symm;refine L.out _ _ (zh.refl _ _).drew (fun _=>trivial) ?_;clear L K;try refine zQ ?_
   repeat refine zS ap.o ?_
   refine xf fun K L=>?_
   refine XC 3 _ _ rfl d.xb 1 _ _ ah.o.drew (.int .i64 (R.length:Int)) rfl rfl zp (zo) rfl ?_;intro ai af;have ae:zh (·=d.xb) W ai:=(zh.refl (·=d.xb) W).drew.trans af.zC fun q Z _=>Z
   refine L.out _ _ ae (fun _=>trivial) ?_;clear L K;try refine zQ ?_
   repeat refine zS ap.o ?_
   refine YR ?_;try simp only[Act.put]
   have au:=zz af;have L:=zz ae;have c6:=(ap.o ai ae).1;clear af ae
   gi_wp2
   have aH:D<W.heap.size:=(zpN.1 HK.o).1;have aK:d.xb<X.heap.size:=U.o.zH.lt;have aA:D≠d.xb:=by have:=HD.o;omega
   have aw:ai.heap[D]? = some (.deferred (some [])):=(L.o.block D aH aA).trans HK.o;refine⟨zp,.inl ⟨_,_,rfl,run_takeDeferred aw,?_⟩⟩;refine⟨.tuple #[.pointer (some ⟨d.xb,0,none⟩),.int .i64 0],by simp[results,results323,go_sem],?_⟩;obtain⟨Wz,aE⟩:∃Wz,ai.putObj D (.deferred none)=Wz:=⟨_,rfl⟩;rw[aE];have af:zh (·=D) ai Wz:=by
    rw[<-aE];exact⟨rfl,rfl,rfl,by simp[World.putObj],fun k _ hn=>World.putObj_heap_other hn⟩
   have ao:∀q,qh d.kb f' q->q≠D/\q≠d.xb:=fun q Z=>by
    rcases aj.o.kind Z with rfl |⟨cs,aa⟩
    ·exact⟨by have:=U.o.Yq.map.lt;have:=HD.o;omega,(ah.o.qU aj.o.map).symm⟩
    ·refine⟨?_,?_⟩
     ·rintro rfl;rw[HK.o]at aa;cases aa
     ·rintro rfl;have N:=ah.o;unfold zD at N;rw[aa]at N;simp at N
   have aa:XI Wz R m ⟨d.xb,d.kb,f',R.length⟩:=by
    refine⟨?_,aj.o.same fun q Z=>(af.block q (zpz (aj.o.lt q Z) L.o.size) (ao q Z).1).trans (L.o.block q (aj.o.lt q Z) (ao q Z).2),zpx _⟩;have:=au.o.zH.zC af aA.symm;simpa using this
   have ae:∀g,yO ⟨d.xb,d.kb,f',R.length⟩ g->yO d g\/O.heap.size<=g:=fun g I=>by
    rcases I with rfl|I
    ·exact .inl (.inl rfl)
    ·rcases ay.o g I with h|h
     ·exact .inl (.inr h)
     ·right;have:=aN.o;omega
   have aG:zh (yO d) O Wz:=(((zh.xj (yO d) ag.o).trans aM.o fun g I a5=>by
    rcases I with h|h
    ·exact .inr h
    ·omega).trans L.o fun g I _=>.inl I).trans af fun g I a5=>by
    have:=HD.o;have:=aN.o;omega
   have aL:w.heap.size<=O.heap.size:=bD.o.size;have al:=av.o.zbH am.o aG aa rfl ae;have Z:∀g,yO ⟨d.xb,d.kb,f',R.length⟩ g->YC bb mb ix g\/w.heap.size<=g:=fun g I=>by
    rcases ae g I with h|h
    ·exact a3.o m d g am.o h
    ·right;omega
   refine⟨⟨d.xb,d.kb,f',R.length⟩,rfl,rfl,aa,Z,⟨mb,_,_,al,fun g I=>?_⟩,bD.o.trans aG fun g I a5=>(a3.o m d g am.o I).resolve_right zd⟩
   rcases I with rfl|rfl |⟨m2,d2,ab,I⟩
   ·exact .inl (.inl rfl)
   ·exact .inl (.inr (.inl rfl))
   ·rcases zdY ab with⟨_,rfl⟩ |⟨_,ab⟩
    ·exact Z g I
    ·exact a3.o m2 d2 g ab I
end
