/-
  Books: ask.
-/
import Derived.Test.YtfdickkdlcgicaaGreatDoorP20
set_option maxRecDepth 100000
set_option maxHeartbeats 8000000
set_option linter.all false
namespace Go.Proofs.YtfdickkdlcgicaaGreatDoor.C
open Go.Proofs.Tryz Go Go.RowKit Go.Maps Go.WideMaps
variable {R:List (List Nat)}{bb m n q:Nat}{d:yQ}{w:World}
section
attribute [local go_sem] Oper.semAt_some
theorem zbY{F:Fence}{P:Program}{α:Type}{g:Operand}{ps:Array Tmp}{assign body:Code}{Q:Exit->Act->World->Prop}{a:Act}(Z:F.round=none)(h1:1<=n){gf:Nat}{lb:Array Value}(hg:a.eval g=.func (.func gf) #[] lb)(ah:F.fn gf)(eg:∀h w,(callFunc gf h).run P w=.ok (.enter gf h) w){r:α->Array Value}{N:World->World->Prop}{S Sp V:List α->Prop}(ac:bb<w.heap.size)(X:UE bb F (n-1) P gf lb r N S Sp V w)(ab:∀{A B C:World},N A B->N B C->N A C)(af:∀(W:World)(l:Nat)(o o':Obj),w.heap.size<=l->W.heap[l]? = some o->o.isCells=false->o.isWalk=false->N W (W.putObj l o'))(ae:∀x,(r x).size=ps.size)(I:List α->World->Prop)(Y:Code->List α->World->Prop)(hI:OwnFrom w.heap.size I)(ad:∀c,OwnFrom w.heap.size (Y c))(ag:∀s W q,I s W->zh (·=bb) W q->I s q)(h0:I [] w)(ob:α->Obj)(aa:∀(W:World)(o:Obj),w.heap.size<=W.heap.size->N W (W.alloc o))(a₁:α->Nat->Act)(L:∀(l:Nat)(x:α)(W:World)(g:Nat)(K:Act->World->Prop),W.heap.size=g->K (a₁ x g) (W.alloc (ob x))->
  assign.wpIn (F.inRound l) (n-1-1) P (Exit.then K (fun _ _ _=>False)) { tmps:=(ps.zip (r x)).foldl (fun t (p,v)=>t.setIfInBounds p v) a.tmps,defers:=[]} W)(U:∀(l:Nat)(q:List α)(x:α)(W:World)(g:Nat),w.heap.size<=g->W.heap[g]? = some (ob x)->I q W->V (q++[x])->body.wpIn (F.inRound l) (n-1-1) P (ownPostG w.heap.size N I Y (q++[x]) W) (a₁ x g) W)(O:∀(D:Nat)(xs:List α)(W:World),w.heap.size<=D->S xs->I xs W->W.heap[D]? = some (.deferred (some []))->Q .normal { a with defers:={ target:=.collected D,args:=#[]}::a.defers } W)(R:∀(D:Nat)(c:Code)(q:List α)(W:World),w.heap.size<=D->Sp q->Y c q W->W.heap[D]? = some (.deferred (some []))->c.wpIn F n P Q { a with defers:={ target:=.collected D,args:=#[]}::a.defers } W):
 (Code.rangeFunc g ps assign body).wpIn F n P Q a w:=
 zbF Z h1 hg ah eg ac X ab af ae I Y hI ad ag h0 a₁ ob aa (fun l x W K h=>L l x W _ K rfl h) U O R
def Gt(m bb h:Nat)(R:List (List Nat))(S:Nat->Prop)(w:World)(e:Ending)(w':World):Prop:=
 ∃d:yQ,e=.returned (.tuple #[.pointer (some ⟨d.xb,0,none⟩),.int .i64 0])/\d.seen=R.length/\Xw w' R m d/\(∀g,yI d g->S g\/w.heap.size<=g)/\yS w' bb h R (fun g=>S g\/w.heap.size<=g)/\zh S w w'
def Vi(r:World)(I:Nat)(R:List (List Nat))(m:Nat)(d:yQ)(h:List Nat)(W:World):Prop:=
 ∃q,Xc prog 155 3 1 W d.kb q (YQ R (d.seen+h.length) m)/\(∀g,xZ d.kb q g->xZ d.kb d.f g\/r.heap.size<=g)/\zh (fun g=>xZ d.kb d.f g\/g=I) r W
theorem zdt{O:World}{Y:Nat}{B:Nat}(hB:O.heap.size<=B)(hk:d.kb<B):OwnFrom B (Vi O Y R m d):=fun _ W I h ⟨q,r,U,X⟩ L N=>by
 refine⟨q,r.same fun g h=>L.block g (r.lt g h) fun e=>?_,U,X.grown L fun k e V=>?_⟩
 ·obtain⟨Z,o,q,hc⟩:=N g e.symm
  rcases r.kind h with rfl |⟨cs,I⟩
  ·omega
  ·rw[I]at q;injection q with q;subst q;cases hc
 ·have:=(N k e).1;omega
theorem zd9{I:World}(O:q<I.heap.size)(Y:¬xZ d.kb d.f q):∀s W r,Vi I q R m d s W->zh (·=q) W r->Vi I q R m d s r:=fun _ W r ⟨V,N,L,X⟩ U=>
 ⟨V,N.same fun g r=>U.block g (N.lt g r) fun e=>by
  subst e
  rcases L g r with h|h
  ·exact Y h
  ·omega,L,X.trans U fun x O _=>.inr O⟩
theorem za4{lo:Nat}{q:List Nat}{x:Nat}(h:∃j,q++[x]=List.range' lo j/\lo+j<=n):x=lo+q.length/\x<n:=by
 obtain⟨j,h,I⟩:=h;have r:=congrArg List.length h;rw[zo1,zpD,List.length_range']at r;have:=congrArg (fun l=>l[q.length]?) h;simp only[List.getElem?_concat_length]at this;rw[List.getElem?_range' zd]at this;injection this with this
 omega
theorem Xw.ne(h:Xw w R m d){g:Nat}{t:TypeId}{N:Array Value}(k:zD w g t N)(O:t≠456)(L:t≠3):¬yI d g:=by
 rintro(rfl|U)
 ·unfold zD at k;have:=h.zG;unfold zD at this;rw[this]at k;injection k with k
  injection k with _ k
  exact O k.symm
 ·unfold zD at k
  rcases h.Yd.kind U with rfl |⟨I,q⟩
  ·obtain⟨V,c,r,_⟩:=h.Yd.map;rw[r]at k;cases k
  ·rw[q]at k;injection k with k
   injection k with _ k
   exact L k.symm
theorem Xw.TH(h:Xw w R m d):¬xZ d.kb d.f d.xb:=by
 intro N;have r:=h.zG;unfold zD at r
 rcases h.Yd.kind N with e |⟨L,q⟩
 ·obtain⟨O,c,I,_⟩:=h.Yd.map;rw[<-e,r]at I;cases I
 ·rw[r]at q;injection q with q
  injection q with _ q
  exact absurd q zr
theorem zdq{I:Nat->Option yQ}{r:yQ}(h:Y5 I m d q=some r):(q=m/\r=d)\/(q≠m/\I q=some r):=by
 unfold Y5 at h;split at h
 ·rename_i e;injection h with h;exact .inl ⟨e,h.symm⟩
 ·rename_i e;exact .inr ⟨e,h⟩
theorem zal:qy prog 65 3 1 8:=qy.of (z:=.int .i64 0) underlying65 zo rfl zr
theorem zl9{rb ar:Nat}{S1:Nat->Prop}(h:Rel w rb ar R S1){mb:Nat}{f:Value->Option Value}{ix:Nat->Option yQ}(L:YT w bb rb R mb f ix)(m:Nat)(aX:ar<=24)(hm:m<2 ^ ar)(bC:R.length<=4194304)(hS:∀g,S1 g->¬YF bb mb ix g)(d:yQ)(hd:ix m=some d):
 Calls prog 323 #[.pointer (some ⟨bb,0,none⟩),.int .u32 (m:Int)] w (Gt m bb rb R (YF bb mb ix) w):=by
 have az:m<2 ^ 24:=zo0 hm (zpJ zr aX);obtain⟨W0,N,I⟩:=xj w 105 #[.int .u32 (m:Int)];have HX:=zz I;have bH:=zz N;have aQ:=zz h.cut;have HS:=zz hS;have aH:=zz L;have Hd:=zz hd;have aG:=zz (fun W (V:Bl w W)=>zbp (h.below V) m aX hm);have bG:=zz (fun W (V:Bl w W)=>show(Instr.lookup 292 (.map (some mb)) (.int .u32 (m:Int)) true).run prog W=.ok (.tuple #[.pointer (some ⟨d.xb,0,none⟩),.bool true]) W from by
  have:=(L.map.below V).look DT underlying292 (z:=.pointer none) zo (Df az) true;rw[L.XB m az,hd]at this;exact this)
 have H0:=zz (show ∀W,Bl W0 W->W.cell? ⟨bb,0,none⟩=some (.pointer (some ⟨rb,0,none⟩))/\W.cell? ⟨bb,1,none⟩=some (.map (some mb))/\W.cell? ⟨w.heap.size,0,none⟩=some (.int .u32 (m:Int))/\(Instr.lookup 292 (.map (some mb)) (.int .u32 (m:Int)) true).run prog W=.ok (.tuple #[.pointer (some ⟨d.xb,0,none⟩),.bool true]) W from
  fun W V=>⟨(L.zG.below (zu I.below V)).cell 0,(L.zG.below (zu I.below V)).cell 1,(I.b0.below V).cell 0,bG.o W (zu I.below V)⟩)
 clear h L hd I N hS;refine(callsIn_wide (n:=3)).1 ?_;refine callsIn_of_wp_marks func323 rfl trivial ?_ rfl;simp only[ntmps323,zqk,zpn,zpF,Nat.reduceAdd,Nat.reduceSub,zqs,zqt,zqI,zqz,zpa,zpc]
 gi_upto_region 1 with fail
 rw[bH.o];have I:=(H0.o W0 (Below.refl _ _)).1
 gi_upto_region 3 with(refine⟨trivial,?_⟩;gi_at_call 318;refine(callsIn_wide.2 (zbA _ _)).mono ?_;rintro e w2⟨rfl,a9⟩;have aP:=zz a9;clear a9 I)
 refine Ze [(0,0),(1,0),(2,0),(3,0),(4,0),(5,2),(6,0)] 9999 (fun W=>Bl W0 W) (fun _=>True) zo (zo) zo rfl zo ?s0 ?s1 ?_
 case s1=>trivial
 case s0=>exact aP.o.drew
 simp only[xM,qa,qb,qc,qd,qe,qf];try refine zQ ?_
 repeat refine zT H0.o ?_
 refine xc fun K I=>?_
 go_simp;refine(aG.o _ (zu HX.o.below aP.o.drew)).mono ?_;rintro e w3⟨rfl,O⟩;have N:Bl W0 w3:=zu aP.o.drew O;have aC:=zz N;refine I.out _ _ N (fun _=>trivial) ?_;clear I K O N;try refine zQ ?_
 repeat refine zT H0.o ?_
 refine YG ?_;try simp only[Act.put]
 gi_upto_region 5 with fail
 refine Ze [(0,0),(1,0),(2,0),(3,0),(4,0),(5,0),(6,0),(7,0),(8,0),(9,2),(10,2),(11,0)] 9999 (fun W=>Bl W0 W) (fun _=>True) zo (zo) zo rfl zo ?s0 ?s1 ?_
 case s1=>trivial
 case s0=>exact aC.o.drew
 simp only[xM,qa,qb,qc,qd,qe,qf];try refine zQ ?_
 repeat refine zT H0.o ?_
 refine xc fun K I=>?_
 go_simp;obtain⟨W6,N,Z⟩:=xj w3 446 #[.pointer none];rw[N];have ac:Bl W0 W6.drew:=(zu aC.o Z.below).drew;refine I.out _ _ ac (fun _=>trivial) ?_;clear I K N;try refine zQ ?_
 repeat refine zT H0.o ?_
 refine xc fun K I=>?_
 refine Xq 446 _ _ rfl w3.heap.size 0 _ _ Z.b0.drew (.pointer (some ⟨d.xb,0,none⟩)) rfl rfl zp (zo) rfl ?_;intro N aa;have Y:Bl W0 N:=aa.below ac (zoZ _) aC.o.size;refine I.out _ _ Y (fun _=>trivial) ?_;clear I K;try refine zQ ?_
 repeat refine zT H0.o ?_
 refine YG ?_;try simp only[Act.put]
 have X:Bl w N:=zu HX.o.below Y;have O:=aH.o.same (w':=N) fun g U=>X.block g (aH.o.lt g U)
 have ab:w.heap.size<w3.heap.size:=by have:=HX.o.size;have:=aC.o.size;omega
 have h6:zD N w3.heap.size 446 #[.pointer (some ⟨d.xb,0,none⟩)]:=aa.zG;generalize w3.heap.size=r6 at h6 ab ⊢;have aj:=zz O;have al:=Hd;have ag:=zz (aQ.o.below X);have ax:Kz (∀g,(S1 g/\g<w.heap.size)->¬yI d g/\g<N.heap.size):=fun g U=>⟨fun h=>HS.o g U.1 (.inr (.inr ⟨m,d,Hd.o,h⟩)),zo0 U.2 X.size⟩
 have aV:Kz (∀m2 d2 g,ix m2=some d2->yI d2 g->YF bb mb ix g\/w.heap.size<=g):=fun m2 d2 g aw U=>.inl (.inr (.inr ⟨m2,d2,aw,U⟩))
 have aU:=zz (HX.o.b0.below Y);have H6:=zz h6;have bL:=zz ab;have bg:=zz (zh.xi (YF bb mb ix) X);have H9:=zz (show ∀W,Bl N W->W.cell? ⟨r6,0,none⟩=some (.pointer (some ⟨d.xb,0,none⟩))/\W.cell? ⟨d.xb,2,none⟩=some (.int .i64 0)/\W.cell? ⟨d.xb,1,none⟩=some (.int .i64 (d.seen:Int))/\W.cell? ⟨bb,0,none⟩=some (.pointer (some ⟨rb,0,none⟩))from
  fun W V=>⟨(h6.below V).cell 0,((O.each m d Hd.o).zG.below V).cell 2,((O.each m d Hd.o).zG.below V).cell 1,(O.zG.below V).cell 0⟩)
 clear Y aa ac Z X O ab h6
 gi_upto_region 9 with fail
 refine Ze [(0,0),(1,0),(2,0),(3,0),(4,0),(5,0),(6,0),(7,0),(8,0),(9,2),(10,0)] 9999 (fun W=>Bl N W) (fun _=>True) zo (zo) zo rfl zo ?s0 ?s1 ?_
 case s1=>trivial
 case s0=>exact yj
 simp only[xM,qa,qb,qc,qd,qe,qf];try refine zQ ?_
 repeat refine zT H9.o ?_
 refine xc fun K I=>?_
 go_simp;refine(zad (ag.o.below ((Below.refl N.heap.size N).drew))).mono ?_;rintro e w6⟨rfl,aK⟩;obtain rfl:=aK.symm;refine I.out _ _ ((Below.refl _ _).drew) (fun _=>trivial) ?_;clear I K;try refine zQ ?_
 repeat refine zT H9.o ?_
 refine YG ?_;try simp only[Act.put]
 gi_upto_region 12 with fail
 refine Ze [(0,0),(1,0),(2,0),(3,0),(4,0),(5,0),(6,0),(7,0),(8,0),(9,0),(10,0),(11,0),(12,0),(13,0),(14,2),(15,2)] 9999 (fun W=>Bl N W) (fun _=>True) zo (zo) zo rfl zo ?s0 ?s1 ?_
 case s1=>trivial
 case s0=>exact(Below.refl _ _).drew.drew
 simp only[xM,qa,qb,qc,qd,qe,qf];try refine zQ ?_
 repeat refine zT H9.o ?_
 refine xc fun K I=>?_
 go_simp;refine(UD (ag.o.below ((Below.refl N.heap.size N).drew.drew))).mono ?_;rintro e w6⟨rfl,aK⟩;obtain rfl:=aK.symm;refine I.out _ _ ((Below.refl _ _).drew.drew) (fun _=>trivial) ?_;clear I K;try refine zQ ?_
 repeat refine zT H9.o ?_
 refine xc fun K I=>?_
 go_simp;refine(zfj _ _ _ _).mono ?_;rintro e w8⟨rfl,O⟩;obtain⟨W8,Y,V⟩:=Va N.drew.drew 128 3 3 #[.pointer (some ⟨rb,0,none⟩)] #[.int .i64 (d.seen:Int)] #[.int .i64 (R.length:Int)];obtain rfl:W8=w8:=Y.symm.trans O.symm;have X:Bl N W8:=zu (Below.refl N.heap.size N).drew.drew V.below;refine I.out _ _ X (fun _=>trivial) ?_;clear I K Y O;try refine zQ ?_
 repeat refine zT H9.o ?_
 refine YG ?_;try simp only[Act.put]
 have bx:=zz (show ∀r∈R,Rw r from by obtain⟨_,_,_,_,_,h,_⟩:=ag.o;exact h.ok);have ab:=zz X;have Z:Xw W8 R m d:=(aj.o.each m d al.o).same fun g U=>X.block g ((aj.o.each m d al.o).lt g U)
 have O:=zz Z;have bK:=zz V;have bA:W8.heap.size=N.heap.size+1+1+1:=V.size;have aB:=zz bA;have bn:zD W8 N.heap.size 128 #[.pointer (some ⟨rb,0,none⟩)]:=V.b0;have bF:zD W8 (N.heap.size+1) 3 #[.int .i64 (d.seen:Int)]:=V.b1;have bD:zD W8 (N.heap.size+1+1) 3 #[.int .i64 (R.length:Int)]:=V.b2;have bB:Kz (¬xZ d.kb d.f N.heap.size):=fun h=>Z.ne bn zr (zr) (.inr h)
 clear X V
 gi_wp2
 refine' zbY rfl zd (gf:=126) (lb:=#[.pointer (some ⟨N.heap.size,0,none⟩),.pointer (some ⟨N.heap.size+1,0,none⟩),.pointer (some ⟨N.heap.size+1+1,0,none⟩)]) rfl trivial (enters_of func126 zo rfl) (bb:=N.heap.size) (by rw[aB.o];omega)
  (zb6 zd (ag.o.below ab.o) d.seen Z.le bC bn bF bD) XO.trans (fun W l o V _ h X _=>XO.put W l o V h X) (fun _=>rfl)
  (Vi W8 N.heap.size R m d) (fun _ _ _=>False) (zdt (zoZ _) Z.Yd.map.lt) (fun c _ _ _ _ h _ _=>h) (zd9 (by rw[aB.o];omega) bB.o) ⟨d.f,by simpa using Z.Yd,fun g U=>.inl U,zh.refl _ _⟩
  (fun x=>.cells (Y1 R x).toArray 155) (fun W o _=>XO.alloc W o) _ ?assign ?body ?done ?stop
 case assign=>
  intro q x W g K U I;have Hg:=zz U;clear U;unfold Gk;have Hl:=zz (show(Y1 R x).toArray.size=24 by simp[zcq])
  gi_wp2_with (refine J3 155 _ _ rfl ?_;refine zfx rfl zj 155 _ _ rfl _ (Y1 R x).toArray rfl rfl (by rw[Hl.o];rfl) (by rw[Hl.o];exact yC) (by simpa using zbH R x) ?_)
  rw[Hg.o];simp only[Act.put];exact I
 case stop=>
  rintro D c ap W hD V h I;exact h.elim
 case body=>
  rintro lk ap x W g U V⟨f',hG,ak,hC⟩hV;obtain⟨hx,X⟩:=za4 hV;have aA:R.getD x []=R[x]:=getD_at _ X;have aa:=bx.o _ (zo3 X);have aq:Y1 R x=zX R[x]:=by unfold Y1;rw[aA,GL aa.len]
  rw[aq]at V;have ao:¬(xZ d.kb d.f w.heap.size\/w.heap.size=N.heap.size):=fun h=>by
   rcases h with h|h
   ·exact O.o.ne (aU.o.below ab.o) zr (zr) (.inr h)
   ·have:=aU.o.lt;omega
  have ai:¬(xZ d.kb d.f r6\/r6=N.heap.size):=fun h=>by
   rcases h with h|h
   ·exact O.o.ne (H6.o.below ab.o) zr (zr) (.inr h)
   ·have:=H6.o.lt;omega
  have af:¬(xZ d.kb d.f d.xb\/d.xb=N.heap.size):=fun h=>by
   rcases h with h|h
   ·exact O.o.TH h
   ·have:=(aj.o.each m d al.o).zG.lt;omega
  have ad:=(aU.o.below ab.o).zC hC ao;have h6:=(H6.o.below ab.o).zC hC ai;have am:=O.o.zG.zC hC af;have bJ:=zz ad;have aM:=zz h6;have ac:=zz am;have ae:=zz hG;have an:=zz ak;have aF:=zz hC;have Hx:=zz hx;have a4:=zz aA;have Hg:=zz U;have aD:=zz aa;have bt:=zz X;have bu:Kz (d.kb<W8.heap.size):=O.o.Yd.map.lt;generalize R[x]=r at V aD a4;have au:W.rangeAt g 0 (zX r):=by
   intro j v hv;rw[zpx];have:W.cell? ⟨g,j,none⟩=(zX r).toArray[j]?:=cell_of_row W g j _ _ _ V;rw[this];simpa using hv
  have ah:g<W.heap.size:=(zpb.1 V).1;have bi:=zz (To W g r aD.o au ah m az);have bE:=zz (aD.o.mask m);have c3:=ad.cell 0;have Y:(zX (qk m r)).length=24:=by simp[Vw,aD.o.len]
  have Hl:=zz Y;clear hG ak hC hx X aA aa aq V ao ai af ad h6 am hV au ah Y U
  gi_upto_region 16 with(first
   |(refine⟨trivial,?_⟩;gi_at_call 324;refine(CallsIn.inRound lk (callsIn_wide.2 bi.o)).mono ?_;rintro e w9⟨rfl,a6⟩;have bz:=zz a6;clear a6 c3)
   |(refine J3 155 _ _ rfl ?_;refine zaG rfl zj 155 _ _ rfl _ (zX (qk m r)) rfl rfl (by rw[Hl.o];rfl) (by rw[Hl.o];exact yC) (XT _) ?_;intro W9 aY;have aS:=zz aY;clear aY))
  have Y:Bl W W9:=zu bz.o aS.o.below;have ah:=ae.o.same (w':=W9) fun q X=>Y.block q (ae.o.lt q X)
  have aq:=zz ah;have aa:=zz Y;have ai:¬xZ d.kb f' r6:=fun h=>by
   have L:=(aM.o.below Y)
   rcases ah.kind h with e |⟨cs,V⟩
   ·exact L.qM ah.map e
   ·unfold zD at L;rw[V]at L;injection L with L;injection L with _ L;exact absurd L zr
  have af:¬xZ d.kb f' d.xb:=fun h=>by
   have L:=(ac.o.below Y)
   rcases ah.kind h with e |⟨cs,V⟩
   ·exact L.qM ah.map e
   ·unfold zD at L;rw[V]at L;injection L with L;injection L with _ L;exact absurd L zr
  have av:¬xZ d.kb f' w9.heap.size:=fun h=>by
   have L:=aS.o.b0
   rcases ah.kind h with e |⟨cs,V⟩
   ·exact L.qM ah.map e
   ·unfold zD at L;rw[V]at L;injection L with L;injection L with _ L;exact absurd L zr
  have ao:=zz (show ∀W',zh (xZ d.kb f') W9 W'->W'.cell? ⟨r6,0,none⟩=some (.pointer (some ⟨d.xb,0,none⟩))/\W'.cell? ⟨d.xb,0,none⟩=some (.map (some d.kb))from
   fun W' ad=>⟨((aM.o.below Y).zC ad ai).cell 0,((ac.o.below Y).zC ad af).cell 0⟩)
  have bc:=zz (show ∀W',zh (xZ d.kb f') W9 W'->W'.rangeAt w9.heap.size 0 (zX (qk m r))from fun W' ad j v hv=>by
   have:=(aS.o.b0.zC ad av).cell (0+j);rw[this];simpa using hv)
  have au:(prog.info? 155).map (·.size)=some (zX (qk m r)).length:=by rw[Hl.o];exact yC
  have bv:=zz au;clear ai af av ah Y au;refine zcR [(0,0),(1,0),(2,0),(3,0),(4,0),(5,0),(6,2),(7,2),(8,0),(10,0),(9,2),(11,2)] 9999 (fun W'=>zh (xZ d.kb f') W9 W') (fun _=>True) zo (zo) zo rfl zo ?s0 ?s1 ?_
  case s1=>trivial
  case s0=>exact yj
  simp only[xM,qa,qb,qc,qd,qe,qf];try refine zQ ?_
  repeat refine zT ao.o ?_
  refine V1 155 _ rfl w9.heap.size 0 rfl (zX (qk m r)) _ rfl bc.o underlying155 rfl bv.o ?_;try refine zQ ?_
  repeat refine zT ao.o ?_
  refine xc fun K I=>?_
  go_simp;obtain⟨Wa,Y,aO⟩:=xj W9 3 #[.int .i64 (x:Int)];rw[Y];have aE:Bl W9 Wa.drew:=aO.below.drew;refine I.out _ _ (zh.xi _ aE) (fun _=>trivial) ?_;clear I K Y;try refine zQ ?_
  repeat refine zT ao.o ?_
  have bj:=aq.o.same (w':=Wa.drew) fun q X=>aE.block q (aq.o.lt q X)
  obtain⟨bI,Wb,A,bM,f1,hr,bs,bl,a3,Y,aW⟩:=bj.entry Uf underlying454 (fun W=>zo) (Ja bE.o);refine xc fun K I=>?_
  refine zct _ _ rfl rfl rfl hr ?_;have ay:zh (xZ d.kb f') W9 Wb:=(zh.xi _ aE).trans aW fun q X _=>X
  refine I.out _ _ ay (fun _=>trivial) ?_;clear I K;try refine zQ ?_
  repeat refine zT ao.o ?_
  have aA:x<R.length:=bt.o;have au:∀j u,[Value.int .i64 (x:Int)][j]? = some u->Wb.cell? ((⟨W9.heap.size,0,none⟩:Addr).add j)=some u:=fun j u hj=>by
   have L:zD Wb W9.heap.size 3 #[.int .i64 (x:Int)]:=aO.b0.drew.zC aW fun h=>by have:=aq.o.lt _ h;omega
   cases j with
   |zero=>simp at hj;subst hj;exact L.cell 0
   |succ j=>simp at hj
  have a1:=zcF R (d.seen+ap.length) m (.agg (zX (qk m r)).toArray);have bw:=Hx.o;obtain⟨i0,z0,bk,a5,bq,bo,br⟩:=zal.ex;obtain⟨v',Wc,aL,bh,bm,aI⟩:=bl.push (st:=65) (.agg (zX (qk m r)).toArray) i0 z0 8 underlying65 bk a5 bq bo br zr 65 ⟨W9.heap.size,0,none⟩ 1 [.int .i64 (x:Int)] rfl au zt (by unfold maxLen;omega) zd;rw[bs,zpT]at aL;refine xc fun K I=>?_
  refine zep _ _ rfl rfl rfl aL ?_;have aJ:zh (xZ d.kb f') W9 Wc:=ay.trans bm fun q X _=>Y q X
  refine I.out _ _ aJ (fun _=>trivial) ?_;clear I K;try refine zQ ?_
  repeat refine zT ao.o ?_
  obtain⟨Wd,bp,ba,bf⟩:=(a3.same bh).store (t:=454) v';obtain⟨aT,a8,a7⟩:=aI Wd ba bf;refine xc fun K I=>?_
  refine zbO _ _ _ rfl rfl rfl rfl bp ?_;have ah:zh (xZ d.kb f') W9 Wd:=ay.trans a8 fun q X _=>Y q X
  refine I.out _ _ ah (fun _=>trivial) ?_;clear I K;try refine zQ ?_
  repeat refine zT ao.o ?_
  have aZ:W8.heap.size<=W.heap.size:=aF.o.size;have bd:KeepsFrom W8.heap.size W Wd:=by
   refine⟨zpd aa.o.size ah.size,fun k o hB hk hc=>?_⟩;have av:=(zpb.1 hk).1;have h9:=(aa.o.block k av).trans hk;refine(ah.block k (zo0 av aa.o.size) fun h=>?_).trans h9
   rcases aq.o.kind h with e |⟨cs,V⟩
   ·have:=bu.o;omega
   ·rw[V]at h9;injection h9 with h9;subst h9;cases hc
  have a2:XO 155 W Wd:=fun k cs fr hk=>by
   have av:=(zpb.1 hk).1;have h9:=(aa.o.block k av).trans hk;refine(ah.block k (zo0 av aa.o.size) fun h=>?_).trans h9
   rcases aq.o.kind h with e |⟨aN,V⟩
   ·obtain⟨es,c,hm,_⟩:=aq.o.map;rw[e,hm]at h9;cases h9
   ·rw[V]at h9;simp at h9
  have be:Vi W8 N.heap.size R m d (ap++[x]) Wd:=by
   refine⟨yg f1 (.agg (zX (qk m r)).toArray) v',?_,fun q X=>?_,?_⟩
   ·rw[zo1,zpD,<-zqd,zbb,<-Hx.o,a4.o,Hx.o];have e:∀G:Value->List (List Value),(fun y=>open Classical in if y=Value.agg (zX (qk m r)).toArray then G (.agg (zX (qk m r)).toArray)++[[Value.int .i64 ((d.seen+ap.length:Nat):Int)]]else G y)=(fun y=>open Classical in if y=Value.agg (zX (qk m r)).toArray then G y++[[Value.int .i64 ((d.seen+ap.length:Nat):Int)]]else G y):=fun G=>by
     funext y
     split
     ·rename_i e;rw[e]
     ·rfl
    rw[Hx.o,e]at aT;exact aT
   ·rcases a7 q X with h|h
    ·exact an.o q (Y q h)
    ·right;have:=aa.o.size;have:=ay.size;omega
   ·exact(aF.o.trans (zh.xi (fun _=>False) aa.o) (fun _ h _=>h.elim)).trans ah fun q X aN=>by
     rcases an.o q X with h|h
     ·exact .inl h
     ·omega
  have av:KeepsFrom W8.heap.size W Wd/\XO 155 W Wd/\Vi W8 N.heap.size R m d (ap++[x]) Wd:=⟨bd,a2,be⟩;have aR:=zz av;clear av bd a2 be aZ aT a8 a7 bp ba bf ah aI bm aJ bh aL ay aW Y a3 bl bs hr bj aE aO au a1 bw aA bk a5 bq bo br;refine YG ?_;try simp only[Act.put]
  gi_wp2
  exact aR.o
 case done=>
  rintro D xs W hD rfl⟨f',hG,ak,hC⟩I;rw[List.length_range',show d.seen+(R.length-d.seen)=R.length by have:=O.o.le;omega]at hG;have ai:¬(xZ d.kb d.f r6\/r6=N.heap.size):=fun h=>by
   rcases h with h|h
   ·exact O.o.ne (H6.o.below ab.o) zr (zr) (.inr h)
   ·have:=H6.o.lt;omega
  have af:¬(xZ d.kb d.f d.xb\/d.xb=N.heap.size):=fun h=>by
   rcases h with h|h
   ·exact O.o.TH h
   ·have:=(aj.o.each m d al.o).zG.lt;omega
  have ap:¬(xZ d.kb d.f bb\/bb=N.heap.size):=fun h=>by
   rcases h with h|h
   ·exact(aj.o.off m d bb al.o (.inr h)).2 rfl
   ·have:=aj.o.zG.lt;omega
  have h6:=(H6.o.below ab.o).zC hC ai;have am:=O.o.zG.zC hC af;have Y:=(aj.o.zG.below ab.o).zC hC ap;have hrel:=(ag.o.below ab.o).zC hC fun q X h=>by
   rcases h with h|h
   ·exact(ax.o q X).1 (.inr h)
   ·have:=(ax.o q X).2;omega
  have aa:r6≠d.xb:=h6.yD am zr;have ao:bb≠d.xb:=Y.yD am zr;have ah:=zz (show ∀W',zh (·=d.xb) W W'->W'.cell? ⟨r6,0,none⟩=some (.pointer (some ⟨d.xb,0,none⟩))/\W'.cell? ⟨bb,0,none⟩=some (.pointer (some ⟨rb,0,none⟩))from
   fun W' ad=>⟨(h6.zC ad aa).cell 0,(Y.zC ad ao).cell 0⟩)
  have aq:=zz (fun W' (ad:zh (·=d.xb) W W')=>UD (hrel.zC ad fun q X h=>(ax.o q X).1 (.inl h)));have ae:=zz hG;have ac:=zz am;have aM:=zz h6;have an:=zz ak;have aF:=zz hC;have HK:=zz I;have HD:=zz hD;have aA:=zz aa;clear hG ak hC ai af ap h6 am Y hrel aa ao I hD
  gi_upto_region 17 with fail
  refine Ze [(0,0),(1,0),(2,0),(3,0),(4,0),(5,0),(6,2),(7,0),(8,0),(9,2)] 9999 (fun W'=>zh (·=d.xb) W W') (fun _=>True) zo (zo) zo rfl zo ?s0 ?s1 ?_
  case s1=>trivial
  case s0=>exact yj
  simp only[xM,qa,qb,qc,qd,qe,qf];try refine zQ ?_
  repeat refine zT ah.o ?_
  refine xc fun K I=>?_
  go_simp;refine(aq.o _ (zh.refl _ _).drew).mono ?_;rintro e aI⟨rfl,ao⟩;obtain rfl:=ao.symm;refine I.out _ _ (zh.refl _ _).drew (fun _=>trivial) ?_;clear I K;try refine zQ ?_
  repeat refine zT ah.o ?_
  refine xc fun K I=>?_
  refine Xq 3 _ _ rfl d.xb 1 _ _ ac.o.drew (.int .i64 (R.length:Int)) rfl rfl zp (zo) rfl ?_;intro ad aa;have Y:zh (·=d.xb) W ad:=(zh.refl (·=d.xb) W).drew.trans aa.zC fun q X _=>X
  refine I.out _ _ Y (fun _=>trivial) ?_;clear I K;try refine zQ ?_
  repeat refine zT ah.o ?_
  refine YG ?_;try simp only[Act.put]
  have ai:=zz aa;have I:=zz Y;have c6:=(ah.o ad Y).1;clear aa Y
  gi_wp2
  have ay:D<W.heap.size:=(zpb.1 HK.o).1;have aD:d.xb<W8.heap.size:=O.o.zG.lt;have am:D≠d.xb:=by have:=HD.o;omega
  have ak:ad.heap[D]? = some (.deferred (some [])):=(I.o.block D ay am).trans HK.o;refine⟨zp,.inl ⟨_,_,rfl,run_takeDeferred ak,?_⟩⟩;refine⟨.tuple #[.pointer (some ⟨d.xb,0,none⟩),.int .i64 0],by simp[results,results323,go_sem],?_⟩;obtain⟨Wz,ap⟩:∃Wz,ad.putObj D (.deferred none)=Wz:=⟨_,rfl⟩;rw[ap];have af:zh (·=D) ad Wz:=by
   rw[<-ap];exact⟨rfl,rfl,rfl,by simp[World.putObj],fun k _ Y=>World.putObj_heap_other Y⟩
  have au:∀q,xZ d.kb f' q->q≠D/\q≠d.xb:=fun q X=>by
   rcases ae.o.kind X with rfl |⟨cs,V⟩
   ·exact⟨by have:=O.o.Yd.map.lt;have:=HD.o;omega,(ac.o.qM ae.o.map).symm⟩
   ·refine⟨?_,?_⟩
    ·rintro rfl;rw[HK.o]at V;cases V
    ·rintro rfl;have L:=ac.o;unfold zD at L;rw[V]at L;simp at L
  have Y:Xw Wz R m ⟨d.xb,d.kb,f',R.length⟩:=by
   refine⟨?_,ae.o.same fun q X=>(af.block q (zo0 (ae.o.lt q X) I.o.size) (au q X).1).trans (I.o.block q (ae.o.lt q X) (au q X).2),zoZ _⟩;have:=ai.o.zG.zC af am.symm;simpa using this
  have X:∀g,yI ⟨d.xb,d.kb,f',R.length⟩ g->yI d g\/N.heap.size<=g:=fun g U=>by
   rcases U with rfl|U
   ·exact .inl (.inl rfl)
   ·rcases an.o g U with h|h
    ·exact .inl (.inr h)
    ·right;have:=aB.o;omega
  have av:zh (yI d) N Wz:=(((zh.xi (yI d) ab.o).trans aF.o fun g U aN=>by
   rcases U with h|h
   ·exact .inr h
   ·omega).trans I.o fun g U _=>.inl U).trans af fun g U aN=>by
   have:=HD.o;have:=aB.o;omega
  have aE:w.heap.size<=N.heap.size:=bg.o.size;have aa:=aj.o.zbe al.o av Y rfl X;have V:∀g,yI ⟨d.xb,d.kb,f',R.length⟩ g->YF bb mb ix g\/w.heap.size<=g:=fun g U=>by
   rcases X g U with h|h
   ·exact aV.o m d g al.o h
   ·right;omega
  refine⟨⟨d.xb,d.kb,f',R.length⟩,rfl,rfl,Y,V,⟨mb,_,_,aa,fun g U=>?_⟩,bg.o.trans av fun g U aN=>(aV.o m d g al.o U).resolve_right zd⟩
  rcases U with rfl|rfl |⟨m2,d2,aw,U⟩
  ·exact .inl (.inl rfl)
  ·exact .inl (.inr (.inl rfl))
  ·rcases zdq aw with⟨_,rfl⟩ |⟨_,aw⟩
   ·exact V g U
   ·exact aV.o m2 d2 g aw U
end
