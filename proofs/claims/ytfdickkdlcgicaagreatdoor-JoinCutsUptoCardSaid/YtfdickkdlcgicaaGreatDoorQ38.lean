/-
  Run's closure: one answer more. Run's closure gives. Run: th
-/
import Derived.Test.YtfdickkdlcgicaaGreatDoorQ37
set_option maxRecDepth 100000
set_option maxHeartbeats 8000000
set_option linter.all false
namespace Go.Proofs.YtfdickkdlcgicaaGreatDoor.C
open Go.Proofs.Tryz Go Go.RowKit Go.Maps Go.WideMaps
variable {G:yW}{N V i n wb:Nat}{Q:Exit->Act->World->Prop}{S:Nat->Prop}{a:Act}{args:List Tm}{c:Cx}{fs:List Fa}{o:Oper}{r:Ru}{rest:List Oper}{w:World}{ρ:Env}
section
section
variable {α:Type}{f:α->List Value}{t e:TypeId}{size bytes:Nat}{A:Option Addr}{cap n:Nat}{xs:List α}{P:Program}{w:World}
theorem zb3{N:Array Oper}(U:o.guard=none)(s y:Operand)(X:o.op=.call { callee:=.builtin .append,args:=#[s,y],argTypes:=#[t,t]})(E:qB P t e size bytes)(h:Own f e size w A cap xs)(V:xs.length=n)(x:α)(R O c:Nat)(hs:a.eval s=.slice A n cap)(hy:a.eval y=.slice (some ⟨R,O,none⟩) 1 c)(hl:(f x).length=size)(L:w.rangeAt R O (f x))(h1:∀u∈f x,u.oneCell'=true)(hb:n<=2147483647)(Y:bytes<=4096)(hQ:∀g q I,Own f e size I (some ⟨g,0,none⟩) q (xs++[x])->zh (·∈zw A) w I->(g∈zw A\/w.heap.size<=g)->wpList P N Q rest (a.put o.dst (.slice (some ⟨g,0,none⟩) (n+1) q)) I):
 wpList P N Q (o::rest) a w:=by
 refine wpList_plain U fun K hK=>?_
 obtain⟨g,q,I,Z,h2,h3,W⟩:∃g q I,(Builtin.append_ #[t,t] o.type #[.slice A n cap,.slice (some ⟨R,O,none⟩) 1 c]).run P w=.ok (.slice (some ⟨g,0,none⟩) (n+1) q) I/\Own f e size I (some ⟨g,0,none⟩) q (xs++[x])/\zh (·∈zw A) w I/\(g∈zw A\/w.heap.size<=g):=by
  subst V;obtain⟨ht,⟨i,z,hi,hz,h3,W,h5⟩,hp⟩:=E;have hm:(xs.length+1)*bytes<=140737488355328:=by
   have:(xs.length+1)*bytes<=2147483648*4096:=zrx zd Y;omega
  obtain⟨g,q,I,Z,X,hg,V⟩:=h.push (P:=P) x t o.type i z bytes ht hi hz h3 W h5 hp R O c hl L h1 (by unfold maxLen;omega) hm;refine⟨g,q,I,Z,X,(zh.refl _ w).grown hg fun k hk _=>?_,?_⟩
  ·cases A with
   |none=>cases hk
   |some a=>simpa[zw]using hk.symm
  ·rcases V with h|h
   ·exact .inl h
   ·right;omega
 unfold Oper.wp execOp;simp only[X,resolve,invoke,builtin,Sem.run_bind,Sem.run_pure,Result.andThen_ok,zqJ,zqb,zq3,hs,hy,Z];exact hK _ _ (hQ g q I h2 h3 W)
end
theorem VW:qB prog 26 71 2 40:=qB.of (z:=.agg #[.string ⟨#[]⟩,.slice none 0 0]) underlying26 zo rfl zr
structure UH (ρ:Env) (args:List Tm) (N i:Nat) (ys:List Vl):Prop where
 len:ys.length=N
 at_:∀j (h:j<args.length),j<i->ys[j]? = some (args[j].at ρ)
theorem UH.put{q:List Vl}(h:UH ρ args N i q)(hi:i<args.length)(O:i<N):UH ρ args N (i+1) (q.set i (args[i].at ρ)):=⟨by rw[zqe];exact h.len,fun j L I=>by
 by_cases e:j=i
 ·subst e;rw[List.getElem?_set_self (by rw[h.len];exact O)]
 ·rw[List.getElem?_set_ne (zrA e)];exact h.at_ j L zd⟩
theorem UH.fin{L:List Vl}(h:UH ρ args N N L)(O:args.length=N):L=args.map fun t=>t.at ρ:=by
 refine List.ext_getElem? fun j=>?_
 rcases zrz j N with I|I
 ·have q:j<args.length:=zd;rw[h.at_ j q I,zqt,zpF q];rfl
 ·rw[zq5 (by rw[h.len];exact I),zq5 (by rw[zpO];omega)]
def zj6(h:Nat)(A:Option Addr)(fs:List Fa)(p:ByteArray)(vs:List Vl)(w:World)(e:Ending)(w':World):Prop:=
 e=.returned (.tuple #[])/\∃g cap F,F.p=p/\F.args=vs/\Own Fa.cells 71 2 w' (some ⟨g,0,none⟩) cap (fs++[F])/\zZ Vl.cells w' F.A F.args/\(∀x∈zw F.A,w.heap.size<=x/\x<w'.heap.size/\x≠g)/\
  zD w' h 26 #[.slice (some ⟨g,0,none⟩) (fs++[F]).length cap]/\zh (fun x=>x=h\/x∈zw A) w w'/\(g∈zw A\/w.heap.size<=g)
theorem ziw(w:World)(aY aZ L sb kb:Nat)(p:ByteArray)(A:Option Addr)(N cap:Nat)(args:List Tm)(hN:args.length=N)(bu:N<=24)(ρ:Env)(c0 c2:Value)(B:Option Addr)(zM n:Nat)(fs:List Fa)(hn:fs.length=n)(a2:n<=2147483647)(ZO:zD w aY 38 #[.string p,.slice A N cap])(Zs:zD w aZ 139 #[.pointer (some ⟨sb,0,none⟩)])(Zf:zD w L 26 #[.slice B n zM])(ks:zD w sb 142 #[c0,.map (some kb),c2])(hg:zaG w kb ρ)(hl:zZ Tm.cells w A args)(ho:Own Fa.cells 71 2 w B zM fs)(hz:∀t∈args,t.v.size<=maxLen):
 Calls prog 58 #[.pointer (some ⟨aY,0,none⟩),.pointer (some ⟨aZ,0,none⟩),.pointer (some ⟨L,0,none⟩)] w (zj6 L B fs p (args.map fun t=>t.at ρ) w):=by
 have H0:Kz (∀W,Bl w W->W.cell? ⟨aY,0,none⟩=some (.string p)/\W.cell? ⟨aY,1,none⟩=some (.slice A N cap)):=fun W hW=>⟨(ZO.below hW).cell 0,(ZO.below hW).cell 1⟩
 have a3:=zz ZO;have a1:=zz Zs;have X:=zz Zf;have bp:=zz ks;have HG:=zz hg;have HL:=zz hl;have HO:=zz ho;have HN:=zz hN;have Hz:=zz hz;have Hn:=zz hn;clear ZO Zs Zf ks hg hl ho hN hz hn;go_enter func58,ntmps58;go_upto_region 0 with fail
 refine Gd [(0,0),(1,0),(2,0),(3,0),(4,0)] [(6,0),(7,2),(8,2)] [(5,2),(6,0),(8,2)] 9999 5 7 (fun W=>Bl w W) (fun _=>True) zo (zo) zo ?s0 ?s1 ?_
 case s1=>trivial
 case s0=>exact yw
 simp only[xO,qa,qb,qc,qd,qe,qf];try refine zQ ?_
 repeat refine zS H0.o ?_
 refine J9 ?_ ?_
 ·refine xf fun K hK=>?_
  go_simp;obtain⟨W1,aG,I,R⟩:=ze3 N zd w.drew;rw[aG];clear aG;have aq:Bl w W1:=zl (Below.refl _ _).drew R;have aL:w.heap.size<W1.heap.size:=I.Y4;refine hK.out _ _ aq (fun _=>trivial) ?_;clear hK K;try refine zQ ?_
  repeat refine zS H0.o ?_
  refine xf fun K hK=>?_
  go_simp;obtain⟨W2,O,q⟩:=xi W1 71 #[.string ⟨#[]⟩,.slice none 0 0];rw[O];have aw:Bl w W2:=zl aq q.below;refine hK.out _ _ aw (fun _=>trivial) ?_;clear hK K O;try refine zQ ?_
  repeat refine zS H0.o ?_
  refine xf fun K hK=>?_
  refine Xu 71 _ _ rfl W1.heap.size 0 _ _ q.b0 [.string p,.slice (some ⟨w.heap.size,0,none⟩) N N] rfl rfl zp (zo) zt ?_;intro W3 af;have av:Bl w W3:=af.below aw (zpx _) (zrb aL);refine hK.out _ _ av (fun _=>trivial) ?_;clear hK K;try refine zQ ?_
  repeat refine zS H0.o ?_
  refine xt ?_;have aB:Own Vl.cells 43 3 W3 (some ⟨w.heap.size,0,none⟩) N (List.replicate N Vl.zero):=af.own (I.below q.below) (xY (by show w.heap.size≠_;omega));have ay:zD W3 W1.heap.size 71 #[.string p,.slice (some ⟨w.heap.size,0,none⟩) N N]:=af.zH;have au:W1.heap.size≠w.heap.size/\w.heap.size<=w.heap.size/\w.heap.size<=W1.heap.size:=⟨zd,zpx _,zrb aL⟩;obtain⟨fb,O⟩:∃fb,W1.heap.size=fb:=⟨_,rfl⟩;rw[O]at ay au ⊢;clear O af aw aL aq q I R;have aU:Kz (Bl w W3):=av;have bl:Kz (Own Vl.cells 43 3 W3 (some ⟨w.heap.size,0,none⟩) N (List.replicate N Vl.zero)):=aB;have bk:Kz (zD W3 fb 71 #[.string p,.slice (some ⟨w.heap.size,0,none⟩) N N]):=ay;have V:Kz (fb≠w.heap.size/\w.heap.size<=w.heap.size/\w.heap.size<=fb):=au;clear av aB ay au;have a6:=(a3.o.below aU.o).cell 1;go_wp2;clear a6
  go_loopg[4,5,16] N (fun gk s4 s5 a5 wx=>∃(i:Nat) (ys:List Vl),i<=N/\gk=N-i/\a5=.int .i64 (i:Int)/\UH ρ args N i ys/\Own Vl.cells 43 3 wx (some ⟨w.heap.size,0,none⟩) N ys/\zD wx fb 71 #[.string p,.slice (some ⟨w.heap.size,0,none⟩) N N]/\Bl w wx)
  case atStart=>exact⟨0,List.replicate N Vl.zero,zpD _,rfl,rfl,⟨zqT,fun j _ h=>absurd h (Nat.not_lt_zero _)⟩,bl.o,bk.o,aU.o⟩
  case round=>
   obtain⟨i,ys,hi,rfl,rfl,aK,aJ,aN,hB⟩:=hrel;have HB:=zz hB;have ae:=zz aK;have ar:=zz aJ;have ah:=zz aN;clear hB aK aJ aN
   by_cases U:i<N
   ·have aA:i<args.length:=by rw[HN.o];exact U
    obtain⟨b,o,rfl,bq,hr⟩:=(HL.o.below HB.o).at Tm.xG i aA;have ag:=Hz.o _ (zpB aA);have ax:=ae.o.put aA U;obtain⟨t,ht⟩:∃t,args[i]=t:=⟨_,rfl⟩;rw[ht]at hr ag ax;obtain⟨v,⟨k,m,s⟩⟩:=t;have aH:=zz ax;simp only[Tm.cells]at hr ag
    replace hr:wr.rangeAt b (o+i*4) _:=hr
    obtain⟨d0,d1,d2,d3⟩:=four hr;have a8:=zz ag;clear hr ag ht ax;obtain⟨W4,aE,O⟩:=xi wr 45 #[.string v,.int .i8 k,.int .i64 m,.string s];have a9:=zz aE;have ak:=zz O;have bm:W4.cell? ⟨fb,1,none⟩=some (.slice (some ⟨w.heap.size,0,none⟩) N N):=(ah.o.below O.below).cell 1;have e0:=O.b0.cell 0;have e1:=O.b0.cell 1;have e2:=O.b0.cell 2;have e3:=O.b0.cell 3;have aD:i<ys.length:=by rw[ae.o.len];exact U
    clear aE O;go_upto_region 4 with fail
    rw[a9.o];clear d0 d1 d2 d3;have bt:Kz ((if v.toList=[]then(⟨k,m,s⟩:Vl)else(ρ v).getD Vl.zero)=(Tm.at ρ ⟨v,⟨k,m,s⟩⟩)):=rfl;go_upto_region 5 with(refine xy 43 _ _ rfl ?_;refine zf7 zj 43 _ _ rfl (ar.o.below ak.o.below) (fun _=>rfl) i aD 0 [.int .i8 k,.int .i64 m,.string s] ⟨k,m,s⟩ zp (zp) rfl rfl zo (zt) ?_;intro W5 aC aQ be;have aI:=zz aC;have az:=zz aQ;clear aC aQ be)
    clear bm e0 e1 e2 e3;have bn:w.heap.size<wr.heap.size:=ar.o.Y4;have ac:=zz ((ah.o.below ak.o.below).zC az.o (fun e=>V.o.1 e));have ap:=zz (ak.o.b0.zC az.o zd);have aS:Kz (Bl w W5):=az.o.qt (zl HB.o ak.o.below) (zpx _) (fun x q=>by have:=V.o.2.1;omega);have e0:=ap.o.cell 0
    by_cases hv:v.toList=[]
    ·have b2:v.toList.isEmpty=true:=by simp[hv]
     have b3:(v.toList==([]:List UInt8))=true:=by simp[hv]
     have b4:(v.toList !=([]:List UInt8))=false:=by simp[hv]
     have Y:=zz (show Tm.at ρ ⟨v,⟨k,m,s⟩⟩=⟨k,m,s⟩from by unfold Tm.at;rw[if_pos hv]);clear hv;go_wp2
     go_roundg (N-(i+1))
     case measure=>omega
     case rel=>exact⟨i+1,_,U,rfl,ze,by have:=aH.o;rw[Y.o]at this;exact this,aI.o,ac.o,aS.o⟩
    ·have b2:v.toList.isEmpty=false:=by simp[hv]
     have b3:(v.toList==([]:List UInt8))=false:=by simp[hv]
     have b4:(v.toList !=([]:List UInt8))=true:=by simp[hv]
     obtain⟨⟨xk,xn,xs⟩,q⟩:∃x,(ρ v).getD Vl.zero=x:=⟨_,rfl⟩;have Y:=zz (show Tm.at ρ ⟨v,⟨k,m,s⟩⟩=⟨xk,xn,xs⟩from by unfold Tm.at;rw[if_neg hv];exact q);have an:=zz (fun W hW=>HG.o W hW v hv a8.o);rw[q]at an;have aj:=zz (fun W (hW:zh (·=w.heap.size) W5 W)=>hW.qt aS.o (zpx _) (fun x q=>by have:=V.o.2.1;omega));have H6:=zz (show ∀W,zh (·=w.heap.size) W5 W->W.cell? ⟨fb,1,none⟩=some (.slice (some ⟨w.heap.size,0,none⟩) N N)/\W.cell? ⟨aZ,0,none⟩=some (.pointer (some ⟨sb,0,none⟩))/\W.cell? ⟨sb,1,none⟩=some (.map (some kb))/\W.cell? ⟨wr.heap.size,0,none⟩=some (.string v)/\(Instr.lookup 140 (.map (some kb)) (.string v) false).run prog W=.ok (.agg #[.int .i8 xk,.int .i64 xn,.string xs]) W/\(i:Int)<(N:Int)/\i<N from fun W hW=>
      ⟨(ac.o.zC hW (fun e=>V.o.1 e)).cell 1,(a1.o.below (aj.o W hW)).cell 0,(bp.o.below (aj.o W hW)).cell 1,(ap.o.zC hW zd).cell 0,an.o W (aj.o W hW),zd,U⟩)
     clear hv q;go_upto_region 6 with fail
     have aW:Kz (∀W:World,True->True):=fun _ _=>trivial
     refine XT [0,1,0,1,0,0,1,0,1,1,0,3] 11 (fun W=>zh (·=w.heap.size) W5 W) (fun _=>True) ?s0 ?s1 ?_
     case s1=>trivial
     case s0=>exact yw
     try refine zQ ?_
     repeat refine xM H6.o aW.o ?_
     refine Xf zj (fun K hK=>?_);refine JU 43 _ _ rfl (aI.o.same (w':=W5.drew) fun _ _=>rfl) (fun _=>rfl) i (by rw[zqe];exact aD) 0 [.int .i8 xk,.int .i64 xn,.string xs] ⟨xk,xn,xs⟩ zp (zp) rfl rfl zo (zt) ?_;intro W6 aa Z a7;have I:zh (·=w.heap.size) W5 W6:=(zh.refl _ W5).drew.trans Z (fun x q _=>q);refine hK.out _ _ I ?_;clear hK K;try refine zQ ?_
     repeat refine xM H6.o aW.o ?_
     refine xt ?_;have a4:=zz (ac.o.zC I (fun e=>V.o.1 e));have bc:=zz (aj.o W6 I);have ai:=zz aa;clear I aa Z a7;go_wp2
     go_roundg (N-(i+1))
     case measure=>omega
     case rel=>exact⟨i+1,_,U,rfl,ze,by have:=aH.o;rw[Y.o]at this;exact this,by have:=ai.o;rw[List.set_set]at this;exact this,a4.o,bc.o⟩
   ·obtain rfl:i=N:=zd;have bj:=zz (ae.o.fin HN.o);have bi:=(X.o.below HB.o).cell 0;have f0:=ah.o.cell 0;have f1:=ah.o.cell 1;have bf:=zz (HO.o.below HB.o)
    go_wp2_with (first
     |(at_builtin;refine zb3 rfl _ _ rfl VW (f:=Fa.cells) (xs:=fs) (bf.o.alloc _) Hn.o ⟨p,some ⟨w.heap.size,0,none⟩,i,ys⟩ _ 0 1 rfl rfl rfl (by rw[show(Fa.cells ⟨p,some ⟨w.heap.size,0,none⟩,i,ys⟩)=[.string p,.slice (some ⟨w.heap.size,0,none⟩) i i]from by simp[Fa.cells,ae.o.len]];exact yt _ _ _ rfl) zt a2 zr ?_)
     |fail)
    intro g am w6 aa Z aM;have R:¬L∈zw B:=HO.o.yD X.o zr;have I:zh (·∈zw B) wr w6:=((zh.refl _ wr).alloc _).trans Z (fun x q _=>q);have bg:zD w6 L 26 #[.slice B n zM]:=(X.o.below HB.o).zC I R;have ao:g∈zw B\/w.heap.size<=g:=aM.imp id (fun h=>by
     have h4:=HB.o.size;try simp at h
     omega)
    have bd:=zz I;have ai:=zz aa;have aO:=zz ao;have aP:=zz R;clear I aa Z aM ao R f0 f1 bi
    go_wp2_with (refine xy 26 _ _ rfl ?_;refine Xq zj 26 _ _ rfl L 0 _ _ bg (.slice (some ⟨g,0,none⟩) (n+1) am) rfl rfl zp (zo) rfl ?_;intro W9 aR;have al:=zz aR;clear aR)
    go_end0;have ba:∀x∈zw B,x<w.heap.size:=HO.o.lt;have aT:=V.o.2.1;have br:=X.o.lt;have aV:g≠L:=fun e=>by
     rcases aO.o with h|h
     ·exact aP.o (e▸h)
     ·omega
    have aF:zh (fun x=>x=L\/x∈zw B) wr W9:=(bd.o.mono (S':=fun x=>x=L\/x∈zw B) fun x q _=>.inr q).trans al.o.zC (fun x q _=>.inl q);have ad:Own Vl.cells 43 3 W9 (some ⟨w.heap.size,0,none⟩) i ys:=ar.o.zC aF (fun x q h=>by
     obtain rfl:x=w.heap.size:=by simpa[zw]using q
     rcases h with h|h
     ·omega
     ·have:=ba _ h;omega)
    refine⟨rfl,g,am,⟨p,some ⟨w.heap.size,0,none⟩,i,ys⟩,rfl,bj.o,al.o.own ai.o (xY aV),ad.xI,?_,?_,?_,aO.o⟩
    ·exact xY (Q:=fun x=>w.heap.size<=x/\x<W9.heap.size/\x≠g) ⟨aT,ad.Y4,fun e=>ad.ZU (al.o.own ai.o (xY aV)) zr w.heap.size (by simp[zw]) (by simp[zw,e])⟩
    ·have:=al.o.zH;rw[zpA,Hn.o];simpa using this
    ·exact((zh.xj (fun x=>x=L\/x∈zw B) HB.o).trans aF (fun x q _=>q))
 ·refine xf fun K hK=>?_
  go_simp;obtain⟨W1,bh,aX⟩:=xi w 71 #[.string ⟨#[]⟩,.slice none 0 0];rw[bh];have aq:Bl w W1.drew:=aX.below.drew;have bs:Kz (W1.heap.size=w.heap.size+1):=aX.size;refine hK.out _ _ aq (fun _=>trivial) ?_;clear hK K bh;try refine zQ ?_
  repeat refine zS H0.o ?_
  refine xf fun K hK=>?_
  go_simp;obtain⟨W2,aG,bo,bh⟩:=ze3 N zd W1.drew;rw[aG];clear aG;have aw:Bl w W2:=zl aq bh;refine hK.out _ _ aw (fun _=>trivial) ?_;clear hK K;try refine zQ ?_
  repeat refine zS H0.o ?_
  refine xf fun K hK=>?_
  refine Xu 71 _ _ rfl w.heap.size 0 _ _ (zD.below aX.b0.drew bh) [.string p,.slice (some ⟨W1.heap.size,0,none⟩) N N] rfl rfl zp (zo) zt ?_;intro W3 af;have av:Bl w W3:=af.below aw (zpx _) (zpx _);refine hK.out _ _ av (fun _=>trivial) ?_;clear hK K;try refine zQ ?_
  repeat refine zS H0.o ?_
  refine xt ?_;have aL:=bs.o;have aB:Own Vl.cells 43 3 W3 (some ⟨W1.heap.size,0,none⟩) N (List.replicate N Vl.zero):=af.own bo (xY (by show W1.heap.size≠_;omega));have ay:zD W3 w.heap.size 71 #[.string p,.slice (some ⟨W1.heap.size,0,none⟩) N N]:=af.zH;have au:w.heap.size≠W1.heap.size/\w.heap.size<=W1.heap.size/\w.heap.size<=w.heap.size:=⟨zd,zd,zpx _⟩;obtain⟨ab,aG⟩:∃ab,W1.heap.size=ab:=⟨_,rfl⟩;rw[aG]at aB ay au ⊢;clear aG af aw aL aq aX bo bh;have aU:Kz (Bl w W3):=av;have bl:Kz (Own Vl.cells 43 3 W3 (some ⟨ab,0,none⟩) N (List.replicate N Vl.zero)):=aB;have bk:Kz (zD W3 w.heap.size 71 #[.string p,.slice (some ⟨ab,0,none⟩) N N]):=ay;have V:Kz (w.heap.size≠ab/\w.heap.size<=ab/\w.heap.size<=w.heap.size):=au;clear av aB ay au;have a6:=(a3.o.below aU.o).cell 1;go_wp2;clear a6
  go_loopg[4,5,16] N (fun gk s4 s5 a5 wx=>∃(i:Nat) (ys:List Vl),i<=N/\gk=N-i/\a5=.int .i64 (i:Int)/\UH ρ args N i ys/\Own Vl.cells 43 3 wx (some ⟨ab,0,none⟩) N ys/\zD wx w.heap.size 71 #[.string p,.slice (some ⟨ab,0,none⟩) N N]/\Bl w wx)
  case atStart=>exact⟨0,List.replicate N Vl.zero,zpD _,rfl,rfl,⟨zqT,fun j _ h=>absurd h (Nat.not_lt_zero _)⟩,bl.o,bk.o,aU.o⟩
  case round=>
   obtain⟨i,ys,hi,rfl,rfl,aK,aJ,aN,hB⟩:=hrel;have HB:=zz hB;have ae:=zz aK;have ar:=zz aJ;have ah:=zz aN;clear hB aK aJ aN
   by_cases U:i<N
   ·have aA:i<args.length:=by rw[HN.o];exact U
    obtain⟨b,o,rfl,bq,hr⟩:=(HL.o.below HB.o).at Tm.xG i aA;have ag:=Hz.o _ (zpB aA);have ax:=ae.o.put aA U;obtain⟨t,ht⟩:∃t,args[i]=t:=⟨_,rfl⟩;rw[ht]at hr ag ax;obtain⟨v,⟨k,m,s⟩⟩:=t;have aH:=zz ax;simp only[Tm.cells]at hr ag
    replace hr:wr.rangeAt b (o+i*4) _:=hr
    obtain⟨d0,d1,d2,d3⟩:=four hr;have a8:=zz ag;clear hr ag ht ax;obtain⟨W4,aE,O⟩:=xi wr 45 #[.string v,.int .i8 k,.int .i64 m,.string s];have a9:=zz aE;have ak:=zz O;have bm:W4.cell? ⟨w.heap.size,1,none⟩=some (.slice (some ⟨ab,0,none⟩) N N):=(ah.o.below O.below).cell 1;have e0:=O.b0.cell 0;have e1:=O.b0.cell 1;have e2:=O.b0.cell 2;have e3:=O.b0.cell 3;have aD:i<ys.length:=by rw[ae.o.len];exact U
    clear aE O;go_upto_region 4 with fail
    rw[a9.o];clear d0 d1 d2 d3;have bt:Kz ((if v.toList=[]then(⟨k,m,s⟩:Vl)else(ρ v).getD Vl.zero)=(Tm.at ρ ⟨v,⟨k,m,s⟩⟩)):=rfl;go_upto_region 5 with(refine xy 43 _ _ rfl ?_;refine zf7 zj 43 _ _ rfl (ar.o.below ak.o.below) (fun _=>rfl) i aD 0 [.int .i8 k,.int .i64 m,.string s] ⟨k,m,s⟩ zp (zp) rfl rfl zo (zt) ?_;intro W5 aC aQ be;have aI:=zz aC;have az:=zz aQ;clear aC aQ be)
    clear bm e0 e1 e2 e3;have bn:ab<wr.heap.size:=ar.o.Y4;have ac:=zz ((ah.o.below ak.o.below).zC az.o (fun e=>V.o.1 e));have ap:=zz (ak.o.b0.zC az.o zd);have aS:Kz (Bl w W5):=az.o.qt (zl HB.o ak.o.below) (zpx _) (fun x q=>by have:=V.o.2.1;omega);have e0:=ap.o.cell 0
    by_cases hv:v.toList=[]
    ·have b2:v.toList.isEmpty=true:=by simp[hv]
     have b3:(v.toList==([]:List UInt8))=true:=by simp[hv]
     have b4:(v.toList !=([]:List UInt8))=false:=by simp[hv]
     have Y:=zz (show Tm.at ρ ⟨v,⟨k,m,s⟩⟩=⟨k,m,s⟩from by unfold Tm.at;rw[if_pos hv]);clear hv;go_wp2
     go_roundg (N-(i+1))
     case measure=>omega
     case rel=>exact⟨i+1,_,U,rfl,ze,by have:=aH.o;rw[Y.o]at this;exact this,aI.o,ac.o,aS.o⟩
    ·have b2:v.toList.isEmpty=false:=by simp[hv]
     have b3:(v.toList==([]:List UInt8))=false:=by simp[hv]
     have b4:(v.toList !=([]:List UInt8))=true:=by simp[hv]
     obtain⟨⟨xk,xn,xs⟩,q⟩:∃x,(ρ v).getD Vl.zero=x:=⟨_,rfl⟩;have Y:=zz (show Tm.at ρ ⟨v,⟨k,m,s⟩⟩=⟨xk,xn,xs⟩from by unfold Tm.at;rw[if_neg hv];exact q);have an:=zz (fun W hW=>HG.o W hW v hv a8.o);rw[q]at an;have aj:=zz (fun W (hW:zh (·=ab) W5 W)=>hW.qt aS.o (zpx _) (fun x q=>by have:=V.o.2.1;omega));have H6:=zz (show ∀W,zh (·=ab) W5 W->W.cell? ⟨w.heap.size,1,none⟩=some (.slice (some ⟨ab,0,none⟩) N N)/\W.cell? ⟨aZ,0,none⟩=some (.pointer (some ⟨sb,0,none⟩))/\W.cell? ⟨sb,1,none⟩=some (.map (some kb))/\W.cell? ⟨wr.heap.size,0,none⟩=some (.string v)/\(Instr.lookup 140 (.map (some kb)) (.string v) false).run prog W=.ok (.agg #[.int .i8 xk,.int .i64 xn,.string xs]) W/\(i:Int)<(N:Int)/\i<N from fun W hW=>
      ⟨(ac.o.zC hW (fun e=>V.o.1 e)).cell 1,(a1.o.below (aj.o W hW)).cell 0,(bp.o.below (aj.o W hW)).cell 1,(ap.o.zC hW zd).cell 0,an.o W (aj.o W hW),zd,U⟩)
     clear hv q;go_upto_region 6 with fail
     have aW:Kz (∀W:World,True->True):=fun _ _=>trivial
     refine XT [0,1,0,1,0,0,1,0,1,1,0,3] 11 (fun W=>zh (·=ab) W5 W) (fun _=>True) ?s0 ?s1 ?_
     case s1=>trivial
     case s0=>exact yw
     try refine zQ ?_
     repeat refine xM H6.o aW.o ?_
     refine Xf zj (fun K hK=>?_);refine JU 43 _ _ rfl (aI.o.same (w':=W5.drew) fun _ _=>rfl) (fun _=>rfl) i (by rw[zqe];exact aD) 0 [.int .i8 xk,.int .i64 xn,.string xs] ⟨xk,xn,xs⟩ zp (zp) rfl rfl zo (zt) ?_;intro W6 aa Z a7;have I:zh (·=ab) W5 W6:=(zh.refl _ W5).drew.trans Z (fun x q _=>q);refine hK.out _ _ I ?_;clear hK K;try refine zQ ?_
     repeat refine xM H6.o aW.o ?_
     refine xt ?_;have a4:=zz (ac.o.zC I (fun e=>V.o.1 e));have bc:=zz (aj.o W6 I);have ai:=zz aa;clear I aa Z a7;go_wp2
     go_roundg (N-(i+1))
     case measure=>omega
     case rel=>exact⟨i+1,_,U,rfl,ze,by have:=aH.o;rw[Y.o]at this;exact this,by have:=ai.o;rw[List.set_set]at this;exact this,a4.o,bc.o⟩
   ·obtain rfl:i=N:=zd;have bj:=zz (ae.o.fin HN.o);have bi:=(X.o.below HB.o).cell 0;have f0:=ah.o.cell 0;have f1:=ah.o.cell 1;have bf:=zz (HO.o.below HB.o)
    go_wp2_with (first
     |(at_builtin;refine zb3 rfl _ _ rfl VW (f:=Fa.cells) (xs:=fs) (bf.o.alloc _) Hn.o ⟨p,some ⟨ab,0,none⟩,i,ys⟩ _ 0 1 rfl rfl rfl (by rw[show(Fa.cells ⟨p,some ⟨ab,0,none⟩,i,ys⟩)=[.string p,.slice (some ⟨ab,0,none⟩) i i]from by simp[Fa.cells,ae.o.len]];exact yt _ _ _ rfl) zt a2 zr ?_)
     |fail)
    intro g am w6 aa Z aM;have R:¬L∈zw B:=HO.o.yD X.o zr;have I:zh (·∈zw B) wr w6:=((zh.refl _ wr).alloc _).trans Z (fun x q _=>q);have bg:zD w6 L 26 #[.slice B n zM]:=(X.o.below HB.o).zC I R;have ao:g∈zw B\/w.heap.size<=g:=aM.imp id (fun h=>by
     have h4:=HB.o.size;try simp at h
     omega)
    have bd:=zz I;have ai:=zz aa;have aO:=zz ao;have aP:=zz R;clear I aa Z aM ao R f0 f1 bi
    go_wp2_with (refine xy 26 _ _ rfl ?_;refine Xq zj 26 _ _ rfl L 0 _ _ bg (.slice (some ⟨g,0,none⟩) (n+1) am) rfl rfl zp (zo) rfl ?_;intro W9 aR;have al:=zz aR;clear aR)
    go_end0;have ba:∀x∈zw B,x<w.heap.size:=HO.o.lt;have aT:=V.o.2.1;have br:=X.o.lt;have aV:g≠L:=fun e=>by
     rcases aO.o with h|h
     ·exact aP.o (e▸h)
     ·omega
    have aF:zh (fun x=>x=L\/x∈zw B) wr W9:=(bd.o.mono (S':=fun x=>x=L\/x∈zw B) fun x q _=>.inr q).trans al.o.zC (fun x q _=>.inl q);have ad:Own Vl.cells 43 3 W9 (some ⟨ab,0,none⟩) i ys:=ar.o.zC aF (fun x q h=>by
     obtain rfl:x=ab:=by simpa[zw]using q
     rcases h with h|h
     ·omega
     ·have:=ba _ h;omega)
    refine⟨rfl,g,am,⟨p,some ⟨ab,0,none⟩,i,ys⟩,rfl,bj.o,al.o.own ai.o (xY aV),ad.xI,?_,?_,?_,aO.o⟩
    ·exact xY (Q:=fun x=>w.heap.size<=x/\x<W9.heap.size/\x≠g) ⟨aT,ad.Y4,fun e=>ad.ZU (al.o.own ai.o (xY aV)) zr ab (by simp[zw]) (by simp[zw,e])⟩
    ·have:=al.o.zH;rw[zpA,Hn.o];simpa using this
    ·exact((zh.xj (fun x=>x=L\/x∈zw B) HB.o).trans aF (fun x q _=>q))
end
section
theorem zk4{hd:At}{X:Nat}(hO:c.Out=Tx hd V X N c.sb)(ac:c.gf=58)(ab:c.Uu=#[.pointer (some ⟨V,0,none⟩),.pointer (some ⟨X,0,none⟩),.pointer (some ⟨N,0,none⟩)])(hM:c.M<=2147483647)(ah:hd.args.length<=24)(hz:∀t∈hd.args,t.v.size<=maxLen)(K:List ByteArray):G8 c K:=by
 refine⟨fun W=>by rw[ac,ab];kernel_rfl,fun O D ρ w q hv ak hb=>?_⟩;obtain⟨S,U,f,h⟩:=q;have q:=h.out;rw[hO]at q;obtain⟨A,ae,fs,k⟩:=q;have aj:fs.length=O.length:=by have:=congrArg List.length k.XM;simpa using this
 rw[ac,ab];refine(ziw w V X N c.sb c.kb hd.p hd.A hd.args.length hd.cap hd.args rfl ah ρ _ _ A ae fs.length fs rfl zd k.ZO k.Zs k.Zf h.zH (DD h.map h.Y1.known) k.head k.own hz).mono ?_;rintro e w'⟨rfl,g,ad,F,hp,ha,xV,hl,hF,hk,hc,hg⟩;have R:∀x,(x=N\/x∈zw A)->U x:=fun x q=>by
  rcases q with rfl|q
  ·exact k.Tb
  ·exact k.uA x q
 have hs:=hc.size;have af:¬(V=N\/V∈zw A):=fun e=>by
  rcases e with e|e
  ·exact k.ZO.yK k.Zf zr e
  ·exact k.own.yD k.ZO zr e
 have ai:¬(X=N\/X∈zw A):=fun e=>by
  rcases e with e|e
  ·exact k.Zs.yK k.Zf zr e
  ·exact k.own.yD k.Zs zr e
 have aa:∀x,x∈zw (some (⟨g,0,none⟩:Addr))->x=g:=fun x q=>by simpa[zw]using q
 have Z:∀x,U x->(U x\/w.heap.size<=x)/\x<w'.heap.size:=fun x q=>⟨.inl q,zpz (k.lt x q) hs⟩
 have ag:(U g\/w.heap.size<=g)/\g<w'.heap.size:=⟨hg.imp (k.uA g) id,xV.Y4⟩;refine⟨rfl,fun x=>(D x\/w.heap.size<=x)/\x<w'.heap.size,⟨S,fun x=>(U x\/w.heap.size<=x)/\x<w'.heap.size,f,⟨h.Xs.zC hc fun x q Y=>h.su x q (R x Y),?_,h.map.zC hc fun Y=>h.uk (R _ Y),h.Y1,h.zH.zC hc fun Y=>h.YV (h.V3 _ (R _ Y)),
  h.tk.zC hc fun Y=>h.X6 (h.V3 _ (R _ Y)),fun x q=>⟨.inl (h.ZB x q),zpz (h.lt x (h.ZB x q)) hs⟩,fun x q=>⟨q.1.imp (h.V3 x) id,q.2⟩,⟨.inl h.X3,zpz (h.lt _ h.X3) hs⟩,fun q=>?_,fun q=>?_,h.sk,fun q=>?_,fun x q hu=>?_,fun x q=>q.2⟩⟩,hc.mono fun x q _=>h.V3 x (R x q),fun x q=>q.1⟩
 ·rw[hO];refine⟨some ⟨g,0,none⟩,ad,fs++[F],k.ZO.zC hc af,k.Zs.zC hc ai,hk,xV,?_,fun x q=>?_,k.head.kept hc fun x q Y=>?_,Z _ k.D7,Z _ k.u13,Z _ k.Tb,fun x q=>by rw[aa x q];exact ag,fun x q y L=>?_,fun x q=>Z x (k.uH x q),fun x q y L=>?_,fun x q=>?_,fun x q=>q.2⟩
  ·rw[zp1,zp1,k.XM]
   congr 1
   simp only[zqb,zq3,qO,zdd,hp,ha]
  ·rcases zpE.1 q with q|q
   ·exact(k.args x q).kept hc fun y L Y=>by
     rcases Y with e|e
     ·exact(k.JP x q y L).1 e
     ·exact(k.JP x q y L).2 e
   ·rw[zpy.1 q];exact hl
  ·rcases Y with e|e
   ·exact(k.Gp x q).1 e
   ·exact(k.Gp x q).2 e
  ·rcases zpE.1 q with q|q
   ·exact Z y (k.uF x q y L)
   ·rw[zpy.1 q]at L;exact⟨.inr (hF y L).1,(hF y L).2.1⟩
  ·rcases zpE.1 q with q|q
   ·refine⟨(k.JP x q y L).1,fun e=>?_⟩;have e:=aa y e;subst e
    rcases hg with I|I
    ·exact(k.JP x q y L).2 I
    ·have:=k.lt y (k.uF x q y L);omega
   ·rw[zpy.1 q]at L;refine⟨fun e=>?_,fun e=>(hF y L).2.2 (aa y e)⟩;have:=k.Zf.lt;have:=(hF y L).1;omega
  ·refine⟨(k.Gp x q).1,fun e=>?_⟩;have e:=aa x e;subst e
   rcases hg with I|I
   ·exact(k.Gp x q).2 I
   ·have:=k.lt x (k.uH x q);omega
 ·rcases q.1 with I|I
  ·exact h.YV I
  ·have:=h.zH.lt;omega
 ·rcases q.1 with I|I
  ·exact h.X6 I
  ·have:=h.tk.lt;omega
 ·rcases q.1 with I|I
  ·exact h.uk I
  ·have:=h.map.lt;omega
 ·rcases hu.1 with I|I
  ·exact h.su x q I
  ·have:=h.lt x (h.ZB x q);omega
theorem zcg{body:List Li}{a:At}(h:a∈Yy body):∃x,(x∈body/\x.k≠3)/\x.a=a:=by
 unfold Yy at h;obtain⟨x,q,rfl⟩:=zp8.1 h;exact⟨x,⟨(zrd.1 q).1,by simpa using(zrd.1 q).2⟩,rfl⟩
noncomputable def VD(tk:Nat->Int)(G:yW):List St->Env->List Env:=C.solve (fun ρ e=>e.ev tk ρ) Vg fun p=>((G p).map (·.2)).getD []
def zeh(G:yW)(O N:Nat)(S:Nat->Prop)(p:ByteArray)(L:List Tm)(es:List Env)(w:World)(e:Ending)(w':World):Prop:=
 ∃A h q I,e=.returned (.tuple #[.slice A q.length h,.int .i64 0])/\Own Fa.cells 71 2 w' A h q/\q.map qO=es.map (fun ρ=>(p,L.map fun t=>t.at ρ))/\(∀f∈q,zZ Vl.cells w' f.A f.args)/\
  (∀g∈zw A,¬I g/\g<w'.heap.size)/\(∀f∈q,∀g∈zw f.A,¬I g/\g<w'.heap.size)/\yd w' O G I N/\(∀g,I g->(S g\/w.heap.size<=g)/\g<w'.heap.size)/\zh S w w'
def zll(G:yW)(R N:Nat)(S:Nat->Prop)(m L:Nat)(p:ByteArray)(O:List Tm)(es:List Env)(w:World)(e:Ending)(w':World):Prop:=
 e=.returned (.tuple #[])/\∃A h q I,zD w' L 26 #[.slice A q.length h]/\Own Fa.cells 71 2 w' A h q/\q.map qO=es.map (fun ρ=>(p,O.map fun t=>t.at ρ))/\(∀f∈q,zZ Vl.cells w' f.A f.args)/\
  (∀g∈zw A,¬I g/\g<w'.heap.size)/\(∀f∈q,∀g∈zw f.A,¬I g/\g<w'.heap.size)/\yd w' R G I N/\(∀g,I g->(S g\/m<=g)/\g<w'.heap.size)/\zh (fun g=>S g\/m<=g) w w'
theorem zeB{body:List Li}:∀{K:List ByteArray}{left:List Nat}{q:List Sp},yi body K left q->∀s∈q,∃I i,∃h:i<body.length,stepOf I i body[i]=some s
 |_,_,_,.nil,s,q=>by cases q
 |_,_,_,.cons (K:=K) (i:=i) (s:=s0) hi hb hst hr,s,q=>by
  rcases zpU.1 q with rfl|q
  ·exact⟨K,i,hb,hst⟩
  ·exact zeB hr s q
theorem ziz{K:List ByteArray}{x:Li}{s:Sp}(h:stepOf K i x=some s)(q:s.k=6):∃v,s.gives=[v]:=by
 unfold stepOf at h;split at h
 ·injection h with h
  subst h;simp only at q;split at q
  ·omega
  ·split at q<;>omega
 split at h
 ·split at h
  ·injection h with h;subst h;simp only at q;omega
  ·cases h
 split at h
 ·injection h with h;subst h;simp only at q;omega
 split at h
 ·rename_i I;injection h with h;subst h
  obtain⟨v,I,_⟩:=I;exact⟨v,I⟩
 ·cases h
theorem zdG{m:Nat}(h:yd w wb G S N)(hS:∀g,S g->g<m)(aI:m<=w.heap.size)(tk:Nat->Int)(hT:Tk w tk)(ar:¬S 2)(aJ:2<m)(p:Px)(hp:p.zN w)(hR:yi p.r.body [] (List.range p.r.body.length) (p.ss.map (·.s)))(aH:p.r.body.length<=16)(aq:∀x∈p.r.body,x.off fun g=>¬S g/\g<m)(ap:∀s∈p.ss,qV (fun g=>¬S g/\g<m) s.A)(F T:Option Addr)(aj ai:Nat)(X W:List Nat)(hF:zZ yX w F X)(aA:zZ yX w T W)(av:X.length=p.r.body.length)(aB:W.length=p.r.body.length)(hm:∀c:Cx,c.G=G->c.tk=tk->∀x∈p.r.body,Zi c x)(hM:(VD tk G (p.ss.map fun s=>madeOf p.r.body (fun i=>X.getD i 0) (fun i=>W.getD i 0) s.s) fun _=>none).length<=2147483647)(q:ByteArray)(Y:Option Addr)(aa:Nat)(I:List Tm)(al:I.length<=24)(az:∀t∈I,t.v.size<=maxLen)(ho:Own Tm.cells 45 4 w Y aa I)(au:∀g∈zw Y,m<=g)(kb sb R U O:Nat)(gk:m<=kb)(gs:m<=sb)(aw:m<=R)(aD:m<=U)(aG:m<=O)(V:xv prog 9 w kb fun _=>none)(ab:zD w R 38 #[.string q,.slice Y I.length aa])(ad:zD w U 139 #[.pointer (some ⟨sb,0,none⟩)])(Z:zD w O 26 #[.slice none 0 0])(ae:zD w sb 142 #[.pointer (some ⟨wb,0,none⟩),.map (some kb),.func (.func 58) #[] #[.pointer (some ⟨R,0,none⟩),.pointer (some ⟨U,0,none⟩),.pointer (some ⟨O,0,none⟩)]]):
 Calls prog 59 #[.pointer (some ⟨sb,0,none⟩),.agg p.cells.toArray,.slice F p.r.body.length aj,.slice T p.r.body.length ai] w
  (zll G wb N S m O q I (VD tk G (p.ss.map fun s=>madeOf p.r.body (fun i=>X.getD i 0) (fun i=>W.getD i 0) s.s) fun _=>none) w):=by
 obtain⟨rb,ax⟩:=h.ziQ;obtain⟨c,L⟩:∃c:Cx,c={ wb:=wb,sb:=sb,kb:=kb,gf:=58,Uu:=#[.pointer (some ⟨R,0,none⟩),.pointer (some ⟨U,0,none⟩),.pointer (some ⟨O,0,none⟩)],G:=G,rb:=rb,N:=N,tk:=tk,M:=2147483647,Out:=Tx ⟨q,Y,aa,I⟩ R U O sb }:=⟨_,rfl⟩;have hO:c.Out=Tx ⟨q,Y,aa,I⟩ R U O c.sb:=by rw[L]
 have hc:=zop hO;have aE:=JT hR;rw[zpO,zro]at aE;obtain⟨K',aF,I⟩:=zbR hc (hm c (by rw[L]) (by rw[L])) (zk4 hO (by rw[L]) (by rw[L]) (by rw[L];exact zpx _) al az) (fun i=>X.getD i 0) (fun i=>W.getD i 0) p.ss [] _ hR;subst I;have ao:∀g,(g=R\/g=U\/g=O\/g∈zw Y)->m<=g:=fun g I=>by
  rcases I with rfl|rfl|rfl|I
  ·exact aw
  ·exact aD
  ·exact aG
  ·exact au g I
 have ak:∀g,(g=R\/g=U\/g=O\/g∈zw Y)->g<w.heap.size:=fun g I=>by
  rcases I with rfl|rfl|rfl|I
  ·exact ab.lt
  ·exact ad.lt
  ·exact Z.lt
  ·exact ho.lt g I
 have hD:∀g,(S g\/g=kb\/(g=R\/g=U\/g=O\/g∈zw Y))->S g\/m<=g:=fun g I=>by
  rcases I with I|rfl|I
  ·exact .inl I
  ·exact .inr gk
  ·exact .inr (ao g I)
 have hQ:∀g,(¬S g/\g<m)->¬(S g\/g=kb\/(g=R\/g=U\/g=O\/g∈zw Y))/\g<w.heap.size:=fun g I=>⟨fun hd=>by
  rcases hD g hd with h1|h1
  ·exact I.1 h1
  ·omega,zd⟩
 have hj:JS c [] (fun g=>S g\/g=kb\/(g=R\/g=U\/g=O\/g∈zw Y)) (fun _=>none) w:=by
  refine⟨S,fun g=>g=R\/g=U\/g=O\/g∈zw Y,fun _=>none,by rw[L];exact ax,?_,by rw[L];exact V,zk5,by rw[L];exact ae,by rw[L];exact hT,fun g I=>.inl I,fun g I=>.inr (.inr I),.inr (.inl (by rw[L])),?_,?_,?_,?_,fun g I hu=>?_,fun g I=>?_⟩
  ·rw[hO,L];exact⟨none,0,[],ab,ad,Z,Own.qz _,rfl,(fun f hf=>nomatch hf),ho.xI,.inl rfl,.inr (.inl rfl),.inr (.inr (.inl rfl)),(fun g I=>nomatch I),(fun f hf=>nomatch hf),fun g I=>.inr (.inr (.inr I)),(fun f hf=>nomatch hf),fun g I=>⟨fun e=>ho.yD Z zr (e▸I),fun hn=>nomatch hn⟩,ak⟩
  ·rw[L];rintro(I|I|I|I|I|I)
   ·have:=hS sb I;omega
   ·exact ae.qU V I
   ·exact ae.yK ab zr I
   ·exact ae.yK ad zr I
   ·exact ae.yK Z zr I
   ·exact ho.yD ae zr I
  ·intro I
   rcases hD _ I with h1|h1
   ·exact ar h1
   ·omega
  ·rw[L];intro I;have:=hS kb I;omega
  ·rw[L];rintro(I|I|I|I)
   ·exact ab.qU V I.symm
   ·exact ad.qU V I.symm
   ·exact Z.qU V I.symm
   ·exact ho.qU V I
  ·have h1:=hS g I;have h2:=ao g hu;omega
  ·rcases I with I|rfl|I
   ·have:=hS g I;omega
   ·exact V.lt
   ·exact ak g I
 have an:c.solve (p.ss.map fun s=>madeOf p.r.body (fun i=>X.getD i 0) (fun i=>W.getD i 0) s.s) (fun _=>none)=VD tk G (p.ss.map fun s=>madeOf p.r.body (fun i=>X.getD i 0) (fun i=>W.getD i 0) s.s) fun _=>none:=by rw[L];rfl
 have ag:zdL p:=⟨fun s hs=>by
  obtain⟨K',i,hi,ag⟩:=zeB hR s.s (zp8.2 ⟨s,hs,rfl⟩);have hl:=(YQ ag).1;exact⟨p.r.body[i],by rw[hl];exact zpF hi,ziz ag⟩,zd,zd⟩
 have am:∀s∈p.ss.map (Yz p.r.body (fun i=>X.getD i 0) (fun i=>W.getD i 0)),s.zN w/\s.off fun g=>¬(S g\/g=kb\/(g=R\/g=U\/g=O\/g∈zw Y))/\g<w.heap.size:=fun s hs=>by
  obtain⟨x,hx,rfl⟩:=zp8.1 hs;unfold Yz
  rcases hl:p.r.body[x.s.lit]? with _|y
  ·exact⟨⟨fun Y=>absurd rfl Y,zr⟩,fun g I=>nomatch I⟩
  ·have hy:=zqE hl;have Y:=hp.r.body y hy;have ac:=aq y hy;have af:=ap x hx;simp only;split
   ·exact⟨Y.a,fun g I=>hQ g (ac.1 g I)⟩
   ·split
    ·exact⟨Y,ac.XW hQ⟩
    ·split
     ·split
      ·exact⟨Y.r,ac.2.2.mono hQ⟩
      ·exact⟨Y.l,ac.2.1.mono hQ⟩
     ·exact⟨⟨Y.a,hp.ss x hx⟩,fun g I=>hQ g (ac.1 g I),fun g I=>hQ g (af g I)⟩
 have af:=zhI hc p X W aF [] _ (fun _=>none) w hj (fun v x Y=>nomatch Y) (fun v=>zp) hp ag am F T aj ai hF aA av aB (by rw[an,L];simpa using hM);rw[an]at af;have ay:c.sb=sb:=by rw[L]
 rw[ay]at af;refine af.mono ?_;rintro e w'⟨rfl,D',⟨S',U',f',Y⟩,ac⟩;have ah:=Y.out;rw[hO]at ah;obtain⟨A,aC,fs,k⟩:=ah;refine⟨rfl,A,aC,fs,S',k.Zf,k.own,by rw[k.XM];rfl,k.args,fun g I=>⟨fun hs=>Y.su g hs (k.uA g I),k.lt g (k.uA g I)⟩,fun f hf g I=>⟨fun hs=>Y.su g hs (k.uF f hf g I),k.lt g (k.uF f hf g I)⟩,by have:=Y.Xs.Xs;rw[L]at this;exact this,fun g I=>⟨?_,Y.lt g (Y.ZB g I)⟩,ac.1.mono fun g I _=>hD g I⟩
 rcases ac.2 g (Y.ZB g I)with h1|h1
 ·exact hD g h1
 ·exact .inr zd
theorem zc5(w:World)(O:Value):∃W,((w.alloc (.map #[] 0)).alloc (.cells #[O,.map (some w.heap.size),.nilFunc] 142)).alloc (.cells #[.pointer (some ⟨w.heap.size+1,0,none⟩)] 139)=W/\Bl w W/\xv prog 9 W w.heap.size (fun _=>none)/\
 zD W (w.heap.size+1) 142 #[O,.map (some w.heap.size),.nilFunc]/\zD W (w.heap.size+1+1) 139 #[.pointer (some ⟨w.heap.size+1,0,none⟩)]:=by
 obtain⟨q,h⟩:∃q,w.alloc (.map #[] 0)=q:=⟨_,rfl⟩;have I:q.heap.size=w.heap.size+1:=by rw[<-h];simp
 have R:Bl w q:=by rw[<-h];exact xq w _
 have U:xv prog 9 q w.heap.size fun _=>none:=by rw[<-h];exact xv.new w 0
 obtain⟨V,N,L⟩:=yb q 142 139 #[O,.map (some w.heap.size),.nilFunc] #[.pointer (some ⟨w.heap.size+1,0,none⟩)];refine⟨V,by rw[h,N],zl R L.below,U.below L.below,?_,?_⟩
 ·rw[<-I];exact L.b0
 ·have:=L.b1;rw[I]at this;exact this
theorem zlg(h:yd w wb G S N)(hS:∀g,S g->g<w.heap.size)(tk:Nat->Int)(hT:Tk w tk)(bO:¬S 2)(p:Px)(hp:p.zN w)(bp:p.r.fits)(ht:p.r.zO.length<=1048576)(bu:p.r.ok)(hv:∀v∈p.r.vars,yo p.r.body v)(hR:yi p.r.body [] (List.range p.r.body.length) (p.ss.map (·.s)))(bq:∀x∈p.r.body,x.off fun g=>¬S g/\g<w.heap.size)(bo:∀s∈p.ss,qV (fun g=>¬S g/\g<w.heap.size) s.A)(h0:∀a∈p.r.head,a.g=0)(bn:p.r.head.length<=24)(bZ:∀a∈p.r.head,a.t.v.size<=maxLen)(bW:p.r.p.size<=maxLen)(ar:ByteArray->Nat)(hG:∀q a R,G q=some (a,R)->a=ar q)(b2:∀x∈p.r.body,x.k≠3->x.a.args.length=ar x.a.p)(b7:p.r.head.length=ar p.r.p)(ba:∀x∈p.r.body,x.a.p.size<=maxLen)(F T:Option Addr)(aX aW nb:Nat)(aD:p.r.body.length=nb)(av aj:List Nat)(hF:zZ yX w F av)(bE:zZ yX w T aj)(bw:av.length=nb)(bI:aj.length=nb)(b6:∀i (hb:i<p.r.body.length),av.getD i 0<=aj.getD i 0/\aj.getD i 0<=if p.r.body[i].k=1 then YF G p.r.body[i].a.p else 0)(hm:∀c:Cx,c.G=G->c.tk=tk->∀x∈p.r.body,Zi c x)(hM:(VD tk G (p.ss.map fun s=>madeOf p.r.body (fun i=>av.getD i 0) (fun i=>aj.getD i 0) s.s) fun _=>none).length<=2147483647):
 Calls prog 19 #[.pointer (some ⟨wb,0,none⟩),.agg p.cells.toArray,.slice F nb aX,.slice T nb aW] w (zeh G wb N S p.r.p (p.r.head.map (·.t)) (VD tk G (p.ss.map fun s=>madeOf p.r.body (fun i=>av.getD i 0) (fun i=>aj.getD i 0) s.s) fun _=>none) w):=by
 have X:=bu.y8;have V:=JT hR;rw[zpO,zro]at V;have b9:=zz (fun W (O:Bl w W)=>zeJ (h.below O));have aU:=zz (fun W (O:Bl w W)=>zgc W p (hp.below O) bp ht bu hv hR);have aR:=zz (fun W (O:Bl w W)=>zki W p.r (hp.r.below O) zd h0);have aZ:=zz (fun W (O:Bl w W)=>znk W p.r.B p.r.zM p.r.body.length p.r.body (hp.r.rd.below O) rfl zd);have bh:=zz (fun W (O:Bl w W) (A:Option Addr) (L n:Nat) (hA:Option Addr) (U:Nat) (l:List At) (Y:zZ At.cells W A l) (hn:l.length=n) (cb:n<=1048576) (bX:l=Yy p.r.body++[⟨p.r.p,hA,U,p.r.head.map (·.t)⟩])=>zkt (h.below O) ar hG A L n l Y hn (fun a ha=>by
  rw[bX]at ha
  rcases zpE.1 ha with ha|ha
  ·obtain⟨x,hx,rfl⟩:=zcg ha;exact b2 x hx.1 hx.2
  ·rw[zpy.1 ha];simp[b7]) (fun a ha=>by
  rw[bX]at ha
  rcases zpE.1 ha with ha|ha
  ·obtain⟨x,hx,rfl⟩:=zcg ha;exact ba x hx.1
  ·rw[zpy.1 ha];exact bW) cb)
 have a1:=zz (fun W (O:Bl w W)=>zgy (h.below O) p.r.B F T p.r.zM aX aW nb p.r.body av aj (hp.r.rd.below O) (hF.below O) (bE.below O) aD bw bI zd ba b6);have bl:=zz hp;have Hw:=zz h;have L:=zz (zpG hS (zpG hT (zpG bO (zpG hR (zpG bq (zpG bo (zpG bn (zpG bZ (zpG hm hM)))))))));have aI:=zz (zpG hF (zpG bE (zpG bw bI)));have Hn:=zz (zpG aD V);have bv:=zz X;obtain⟨es,aq⟩:∃es,VD tk G (p.ss.map fun s=>madeOf p.r.body (fun i=>av.getD i 0) (fun i=>aj.getD i 0) s.s) (fun _=>none)=es:=⟨_,rfl⟩;rw[aq];have bS:=zz aq;clear aq h hS hT bO hp bp ht bu hv hR bq bo h0 bn bZ bW hG b2 b7 ba hF bE bw bI b6 hm hM X V;obtain⟨⟨pp,pA,a3,Z,pB,ao,I⟩,sA,a5,ss⟩:=p;simp only[Px.cells,Ru.cells]at *;obtain⟨ak,X⟩:∃ak,Z.map (·.t)=ak:=⟨_,rfl⟩;rw[X]at aR bh ⊢;have aV:=zz X;clear X;obtain⟨nh,X⟩:∃n,Z.length=n:=⟨_,rfl⟩;obtain⟨ns,V⟩:∃n,ss.length=n:=⟨_,rfl⟩;rw[X,V,aD]at aU;rw[X,aD]at aR;rw[aD]at aZ;rw[X,V,aD];have ai:=zz (zpG aD (zpG X V));clear aD X V;have cf:=@run_makeMap prog;obtain⟨W0,X,V⟩:=xi w 57 #[.string pp,.slice pA nh a3,.slice pB nb ao,.slice sA ns a5];have ce:=zz X;have HX:=zz V;have p0:=V.b0.cell 0;have p1:=V.b0.cell 1;have p2:=V.b0.cell 2;have p3:=V.b0.cell 3;clear V X;go_enter func19,ntmps19;go_upto_region 1 with fail
 rw[ce.o];go_upto_region 6 with(first
  |(go_at_call 51;refine(b9.o _ HX.o.below).mono ?_;rintro e w1⟨rfl,rfl⟩)
  |(go_at_call 53;refine(aU.o _ HX.o.below).mono ?_;rintro e w2⟨rfl,bz⟩;have bx:=zz (zl HX.o.below bz);have hb:=HX.o.b0.below bz;have bL:=zz hb;clear p0 p1 p2 p3;have p0:=hb.cell 0;have p1:=hb.cell 1;have p2:=hb.cell 2;clear hb bz)
  |(go_at_call 54;refine(aR.o _ bx.o).mono ?_;rintro e w3⟨hA,U,hn,rfl,b3,bQ,bA,bM⟩;have bc:=zz (zl bx.o bA);have bV:=zz bQ;have bm:=zz b3;have b4:=zz (bL.o.below bA);have bP:Kz (∀g∈zw hA,w.heap.size<=g):=fun g hg=>zpK bx.o.size (bM g hg);clear bQ b3 bA bM p0 p1 p2)
  |(refine xy 38 _ _ rfl ?_;refine XP zj 38 _ _ rfl _ [.string pp,.slice hA hn U] rfl rfl zp (zo) zt ?_;intro W4 bR;have bg:=zz bR;clear bR))
 have al:Kz (Bl w W4):=zl bc.o bg.o.below;have aJ:=zz (b4.o.below bg.o.below);have aY:=zz bg.o.b0;have H8:Kz (∀W,Bl W4 W->W.cell? ⟨w.heap.size,2,none⟩=some (.slice pB nb ao)/\W.cell? ⟨w3.heap.size,0,none⟩=some (.string pp)/\W.cell? ⟨w3.heap.size,1,none⟩=some (.slice hA hn U)):=fun W O=>⟨(aJ.o.below O).cell 2,(aY.o.below O).cell 0,(aY.o.below O).cell 1⟩
 have am:Kz ((Yy I).length<=16):=zpK (ziu I) bv.o;go_upto_region 8 with fail
 refine Gd [(0,0),(1,0),(2,0),(3,0),(5,0)] [(6,2),(7,2),(8,2),(9,0),(10,0)] [(4,2),(7,2),(8,2),(9,0),(10,0)] 9999 4 6 (fun W=>Bl W4 W) (fun _=>True) zo (zo) zo ?s0 ?s1 ?_
 case s1=>trivial
 case s0=>exact yw
 simp only[xO,qa,qb,qc,qd,qe,qf];try refine zQ ?_
 repeat refine zS H8.o ?_
 refine J9 ?_ ?_
 ·refine xf fun K hK=>?_
  go_simp;refine(aZ.o _ (zl al.o (Below.refl _ _).drew)).mono ?_;rintro e w5⟨aA,bN,an,rfl,a6,bJ,bT,bd⟩;have ap:Bl W4 w5:=zl (Below.refl _ _).drew bT;have aw:=zz a6;have bG:Kz (∀g∈zw aA,W4.heap.size<=g):=bd;refine hK.out _ _ ap (fun _=>trivial) ?_;clear hK K a6 bd;try refine zQ ?_
  repeat refine zS H8.o ?_
  refine xf fun K hK=>?_
  go_simp;refine hK.out _ _ (ap.alloc ap.size _) (fun _=>trivial) ?_;clear hK K;try refine zQ ?_
  repeat refine zS H8.o ?_
  refine xf fun K hK=>?_
  refine ZE _ _ rfl zbi (f:=At.cells) (xs:=Yy I) (bJ.alloc _) aw.o ⟨pp,hA,U,ak⟩ _ 0 1 rfl rfl rfl (by rw[show At.cells ⟨pp,hA,U,ak⟩=[.string pp,.slice hA hn U]from by simp only[At.cells];rw[bm.o]];exact yt _ _ _ rfl) zt (by have:=aw.o;have:=am.o;omega) zr ?_;intro g b5 w7 a9 a4 bC;have bf:zh (·∈zw aA) w5 w7:=((zh.refl _ w5).alloc _).trans a4 (fun x hx _=>hx);have au:Bl W4 w7:=bf.qt ap (zpx _) (fun x hx=>bG.o x hx);have bF:Kz (zZ At.cells w7 (some ⟨g,0,none⟩) (Yy I++[⟨pp,hA,U,ak⟩])):=a9.xI;refine hK.out _ _ au (fun _=>trivial) ?_;clear hK K;try refine zQ ?_
  repeat refine zS H8.o ?_
  refine xf fun K hK=>?_
  go_simp;refine(bh.o _ (zl al.o au) _ _ _ hA U _ bF.o (by rw[zpA,aw.o];rfl) (by have:=aw.o;have:=am.o;omega) rfl).mono ?_;rintro e w9⟨rfl,a8⟩;have aT:Bl W4 w9:=zl au a8;refine hK.out _ _ aT (fun _=>trivial) ?_;clear hK K;try refine zQ ?_
  repeat refine zS H8.o ?_
  refine xt ?_;have aO:=zz aT;clear a8 aT au bf a9 a4 bC;have p2:=(aJ.o.below aO.o).cell 2;go_upto_region 12 with(go_at_call 57;refine(a1.o _ (zl al.o aO.o)).mono ?_;rintro e aS⟨rfl,aG⟩;have aF:=zz (zl aO.o aG);clear aG)
  clear p2;obtain⟨aa,aE,aH⟩:=xi aS 26 #[.slice none 0 0];have be:=zz aE;have ad:=zz aH;clear aE aH;go_upto_region 13 with fail
  rw[be.o];go_upto_region 14 with fail
  obtain⟨ca,aK,aC,ax,ay,ac⟩:=zc5 aa (.pointer (some ⟨wb,0,none⟩));rw[aK];have cc:=ac.cell 0;have az:=zz aC;have bj:=zz ax;have bi:=zz ay;have a7:=zz ac;clear aK aC ax ay ac;go_upto_region 15 with(refine xy 1 _ _ rfl ?_;refine Xq zj 1 _ _ rfl (aa.heap.size+1) 2 _ _ bi.o (.func (.func 58) #[] #[.pointer (some ⟨w3.heap.size,0,none⟩),.pointer (some ⟨aa.heap.size+1+1,0,none⟩),.pointer (some ⟨aS.heap.size,0,none⟩)]) rfl rfl zp (zo) rfl ?_;intro bk aB;have X:=zz aB;clear aB)
  have aL:=al.o.size;have O:Bl W4 aa:=zl aF.o ad.o.below;have Y:Bl W4 bk:=X.o.below (zl O az.o) (zpx _) (by have:=O.size;omega);have V:Kz (Bl w bk):=zl al.o Y;have ab:=X.o.qj a7.o zd;have b1:=ab.cell 0;have af:=aJ.o.below Y;have p0:=af.cell 0;have p1:=af.cell 1;have p2:=af.cell 2;have p3:=af.cell 3;have aQ:=(X.o.zC).size;have ah:=zz (zdG (Hw.o.below V.o) L.o.1 V.o.size tk (L.o.2.1.below V.o (zpx _)) L.o.2.2.1 L.o.2.1.lt ⟨⟨pp,pA,a3,Z,pB,ao,I⟩,sA,a5,ss⟩ (bl.o.below V.o) L.o.2.2.2.1 bv.o L.o.2.2.2.2.1 L.o.2.2.2.2.2.1
   F T aX aW av aj (aI.o.1.below V.o) (aI.o.2.1.below V.o) (aI.o.2.2.1.trans ai.o.1.symm) (aI.o.2.2.2.trans ai.o.1.symm) L.o.2.2.2.2.2.2.2.2.1 L.o.2.2.2.2.2.2.2.2.2
   pp hA U ak (by rw[<-aV.o,zpO];exact L.o.2.2.2.2.2.2.1) (fun t ht=>by
    rw[<-aV.o]at ht;obtain⟨a,ha,rfl⟩:=zp8.1 ht;exact L.o.2.2.2.2.2.2.2.1 a ha) ((bV.o.below bg.o.below).below Y) bP.o aa.heap.size (aa.heap.size+1) w3.heap.size (aa.heap.size+1+1) aS.heap.size
   (zpK aL O.size) (by have:=O.size;omega) bc.o.size (by have:=O.size;omega) (by have:=aF.o.size;omega)
   (bj.o.zC X.o.zC (fun e=>zd)) (by rw[bm.o];exact aY.o.below Y) ab (X.o.qj (ad.o.b0.below az.o) (by have:=ad.o.size;omega)) (by have:=X.o.zH;simpa using this))
  clear ab af O Y aL aQ;have aq:=bS.o;have bs:=ai.o.1;have bD:=ai.o.2.1;have bH:=ai.o.2.2;have ag:=ah.o;simp only[aq]at ag;have ah:=zz ag;clear aq ag;subst bs bD bH
  go_wp2_with (go_at_call 59;refine ah.o.mono ?_;rintro e cd⟨rfl,oA,a2,fs,S',hk,ae⟩;have Zf:=hk.cell 0;have aM:=zz ae;clear hk ae)
  go_returns;obtain⟨ho,aN,aP,bB,bt,br,bK,hC⟩:=aM.o;exact⟨oA,a2,fs,S',rfl,ho,aN,aP,bB,bt,br,bK,(zh.xj S V.o).trans hC (fun x hx b8=>hx.resolve_right zd)⟩
 ·refine xf fun K hK=>?_
  go_simp;obtain⟨W5,bT,bU⟩:=xi W4 38 #[.string pp,.slice hA hn U];rw[bT];have ap:Bl W4 W5.drew:=bU.below.drew;refine hK.out _ _ ap (fun _=>trivial) ?_;clear hK K bT;try refine zQ ?_
  repeat refine zS H8.o ?_
  refine xf fun K hK=>?_
  go_simp;refine(aZ.o _ (zl al.o ap)).mono ?_;rintro e w6⟨aA,bN,an,rfl,a6,bJ,bY,bd⟩;have bT:Bl W4 w6:=zl ap bY;have aw:=zz a6;have bG:Kz (∀g∈zw aA,W4.heap.size<=g):=fun g hg=>zpK ap.size (bd g hg)
  refine hK.out _ _ bT (fun _=>trivial) ?_;clear hK K a6 bd;try refine zQ ?_
  repeat refine zS H8.o ?_
  have a6:w6.rangeAt W4.heap.size 0 (At.cells ⟨pp,hA,U,ak⟩):=by
   have h1:=(zD.below bU.b0.drew bY).range;simp only[At.cells];rw[bm.o];simpa using h1
  refine xf fun K hK=>?_
  refine ZE _ _ rfl zbi (f:=At.cells) (xs:=Yy I) bJ aw.o ⟨pp,hA,U,ak⟩ _ 0 1 rfl rfl rfl a6 zt (by have:=aw.o;have:=am.o;omega) zr ?_;intro g b5 w7 a9 a4 bC;have bf:zh (·∈zw aA) w6 w7:=a4;have au:Bl W4 w7:=bf.qt bT (zpx _) (fun x hx=>bG.o x hx);have bF:Kz (zZ At.cells w7 (some ⟨g,0,none⟩) (Yy I++[⟨pp,hA,U,ak⟩])):=a9.xI;refine hK.out _ _ au (fun _=>trivial) ?_;clear hK K;try refine zQ ?_
  repeat refine zS H8.o ?_
  refine xf fun K hK=>?_
  go_simp;refine(bh.o _ (zl al.o au) _ _ _ hA U _ bF.o (by rw[zpA,aw.o];rfl) (by have:=aw.o;have:=am.o;omega) rfl).mono ?_;rintro e w9⟨rfl,a8⟩;have aT:Bl W4 w9:=zl au a8;refine hK.out _ _ aT (fun _=>trivial) ?_;clear hK K;try refine zQ ?_
  repeat refine zS H8.o ?_
  refine xt ?_;have aO:=zz aT;clear a8 aT au bf a9 a4 bC;have p2:=(aJ.o.below aO.o).cell 2;go_upto_region 12 with(go_at_call 57;refine(a1.o _ (zl al.o aO.o)).mono ?_;rintro e aS⟨rfl,aG⟩;have aF:=zz (zl aO.o aG);clear aG)
  clear p2;obtain⟨aa,aE,aH⟩:=xi aS 26 #[.slice none 0 0];have be:=zz aE;have ad:=zz aH;clear aE aH;go_upto_region 13 with fail
  rw[be.o];go_upto_region 14 with fail
  obtain⟨ca,aK,aC,ax,ay,ac⟩:=zc5 aa (.pointer (some ⟨wb,0,none⟩));rw[aK];have cc:=ac.cell 0;have az:=zz aC;have bj:=zz ax;have bi:=zz ay;have a7:=zz ac;clear aK aC ax ay ac;go_upto_region 15 with(refine xy 1 _ _ rfl ?_;refine Xq zj 1 _ _ rfl (aa.heap.size+1) 2 _ _ bi.o (.func (.func 58) #[] #[.pointer (some ⟨w3.heap.size,0,none⟩),.pointer (some ⟨aa.heap.size+1+1,0,none⟩),.pointer (some ⟨aS.heap.size,0,none⟩)]) rfl rfl zp (zo) rfl ?_;intro bk aB;have X:=zz aB;clear aB)
  have aL:=al.o.size;have O:Bl W4 aa:=zl aF.o ad.o.below;have Y:Bl W4 bk:=X.o.below (zl O az.o) (zpx _) (by have:=O.size;omega);have V:Kz (Bl w bk):=zl al.o Y;have ab:=X.o.qj a7.o zd;have b1:=ab.cell 0;have af:=aJ.o.below Y;have p0:=af.cell 0;have p1:=af.cell 1;have p2:=af.cell 2;have p3:=af.cell 3;have aQ:=(X.o.zC).size;have ah:=zz (zdG (Hw.o.below V.o) L.o.1 V.o.size tk (L.o.2.1.below V.o (zpx _)) L.o.2.2.1 L.o.2.1.lt ⟨⟨pp,pA,a3,Z,pB,ao,I⟩,sA,a5,ss⟩ (bl.o.below V.o) L.o.2.2.2.1 bv.o L.o.2.2.2.2.1 L.o.2.2.2.2.2.1
   F T aX aW av aj (aI.o.1.below V.o) (aI.o.2.1.below V.o) (aI.o.2.2.1.trans ai.o.1.symm) (aI.o.2.2.2.trans ai.o.1.symm) L.o.2.2.2.2.2.2.2.2.1 L.o.2.2.2.2.2.2.2.2.2
   pp hA U ak (by rw[<-aV.o,zpO];exact L.o.2.2.2.2.2.2.1) (fun t ht=>by
    rw[<-aV.o]at ht;obtain⟨a,ha,rfl⟩:=zp8.1 ht;exact L.o.2.2.2.2.2.2.2.1 a ha) ((bV.o.below bg.o.below).below Y) bP.o aa.heap.size (aa.heap.size+1) w3.heap.size (aa.heap.size+1+1) aS.heap.size
   (zpK aL O.size) (by have:=O.size;omega) bc.o.size (by have:=O.size;omega) (by have:=aF.o.size;omega)
   (bj.o.zC X.o.zC (fun e=>zd)) (by rw[bm.o];exact aY.o.below Y) ab (X.o.qj (ad.o.b0.below az.o) (by have:=ad.o.size;omega)) (by have:=X.o.zH;simpa using this))
  clear ab af O Y aL aQ;have aq:=bS.o;have bs:=ai.o.1;have bD:=ai.o.2.1;have bH:=ai.o.2.2;have ag:=ah.o;simp only[aq]at ag;have ah:=zz ag;clear aq ag;subst bs bD bH
  go_wp2_with (go_at_call 59;refine ah.o.mono ?_;rintro e cd⟨rfl,oA,a2,fs,S',hk,ae⟩;have Zf:=hk.cell 0;have aM:=zz ae;clear hk ae)
  go_returns;obtain⟨ho,aN,aP,bB,bt,br,bK,hC⟩:=aM.o;exact⟨oA,a2,fs,S',rfl,ho,aN,aP,bB,bt,br,bK,(zh.xj S V.o).trans hC (fun x hx b8=>hx.resolve_right zd)⟩
structure VK (r:Ru) (fs:List Fa):Prop where
 fits:r.fits
 zO:r.zO.length<=1048576
 XY:r.head.length<=1048576
 y8:r.body.length<=1048575
 may:∀x∈r.body,x.l.may/\x.r.may/\x.a.args.length<=1048576/\x.a.p.size<=1048576/\∀t∈x.a.args,t.x.told
 args:Y8 r.body<=2097152
 nf:fs.length<=1048576
 facts:∀f∈fs,f.args.length<=1048576/\f.p.size<=1048576/\∀v∈f.args,v.told
structure Fit (r:Ru) (fs:List Fa):Prop where
 flat:∀a∈r.head,a.g=0
 Zq:Dy [r] fs
theorem zef{k:Int}(h0:-128<=k)(h:k<=127):(Lit.int .i8 k).wf=true:=by
 simp[Lit.wf,IntKind.min,IntKind.max,IntKind.signed,IntKind.bits];omega
theorem Gi{x:Vl}(h:x.told):x.val.wf:=⟨zef h.k0 h.k1,Ga h.n0 h.n1,zpK h.s zr⟩
mutual
theorem Ex.zaZ:∀{e:Ex},e.may->e.Zk
 |.mk q t A L I,h=>by
  unfold Ex.may at h;unfold Ex.Zk;exact⟨Gi h.2.2.1,Ex.zeU h.2.2.2.2⟩
theorem Ex.zeU:∀{l:List Ex},Ex.Zg l->Ex.ZD l
 |[],_=>by unfold Ex.ZD;trivial
 |e::I,h=>by
  unfold Ex.Zg at h;unfold Ex.ZD;exact⟨Ex.zaZ h.1,Ex.zeU h.2⟩
end
mutual
theorem Ex.Gz:∀(e:Ex),e.bare.Zk↔e.Zk
 |.mk q t A I h=>by
  rw[Ex.bare,Ex.Zk,Ex.Zk,Ex.zfH]
theorem Ex.zfH:∀(l:List Ex),Ex.ZD (Ex.Zh l)↔Ex.ZD l
 |[]=>by rw[Ex.Zh]
 |e::h=>by rw[Ex.Zh,Ex.ZD,Ex.ZD,Ex.Gz,Ex.zfH]
end
theorem zbA{e:Ex}(h:e.empty):J4 c e:=fun ρ x L I=>by
 obtain⟨q,t,A,V,U⟩:=e;unfold Ex.empty at h;obtain⟨rfl,N,-⟩:=h;unfold Ex.ev at I;rw[if_pos rfl,if_pos (by rw[N.1];simp)]at I
 cases I
 obtain⟨v,k,n,s⟩:=t;obtain⟨-,O,L,R⟩:=N;simp only at O L R;subst O L R;exact⟨zef (k:=0) zr (zr),Ga (n:=0) zr (zr),zpD _⟩
noncomputable def UX(r:Ru)(fs:List Fa)(q:ByteArray):Nat:=(((ya r++fs.map yc).find? fun x=>tf (x.1=q)).map (·.2)).getD 0
theorem DC(h:Cons (ya r++fs.map yc)){q:ByteArray}(L:(q,n)∈ya r++fs.map yc):UX r fs q=n:=by
 unfold UX;generalize I:((ya r++fs.map yc).find? fun x=>tf (x.1=q))=o
 rcases o with _|y
 ·rw[List.find?_eq_none]at I;exact absurd (Zn.2 rfl) (I _ L)
 ·have O:=List.find?_some I;have N:=List.mem_of_find?_eq_some I;show y.2=n;exact h _ N _ L (Zn.1 O)
theorem Fit.cons{r:Ru}{fs:List Fa}(h:Fit r fs):Cons (ya r++fs.map yc):=by
 have:=h.Zq.cons;simpa only[zpZ,zru,zp7]using this
theorem Fit.ok(h:Fit r fs):r.ok:=(h.Zq.rules r zpP).1
theorem Fit.lim(h:Fit r fs):∀v∈r.vars,yo r.body v:=(h.Zq.rules r zpP).2
theorem Fit.ar(h:Fit r fs):∀q a R,yz fs q=some (a,R)->a=UX r fs q:=fun q a R e=>by
 obtain⟨⟨x,I,rfl,rfl⟩,-⟩:=DM fs q a R e;exact(DC h.cons (zpR _ (zp8.2 ⟨x,I,rfl⟩))).symm
theorem Fit.zeQ(h:Fit r fs):∀x∈r.body,x.k≠3->x.a.args.length=UX r fs x.a.p:=fun x L N=>by
 have q:x.k=1\/x.k=2:=by
  rcases(h.ok.body x L)with⟨I,_⟩ |⟨I,_⟩
  ·exact I
  ·exact absurd I N
 refine(DC h.cons (zp0 _ (zpQ _ (zqP.2 ⟨x,L,?_⟩)))).symm;unfold Yo;rw[if_pos q];exact zpP
theorem Fit.zjr(h:Fit r fs):r.head.length=UX r fs r.p:=(DC h.cons (zp0 _ zpP)).symm
theorem zd7(fs:List Fa)(p:ByteArray):(((yz fs p).map (·.2)).getD []).length<=Yb fs p:=by
 induction fs using List.zd2 generalizing p with
 |nil=>exact zpD _
 |snoc l x q=>
  rw[zao,zeG];unfold Z8
  by_cases e:p=x.p
  ·subst e;rw[if_pos rfl,if_pos rfl,zqh,zqr];exact zpK (zd9 _ _) (Nat.succ_le_succ (q _))
  ·rw[if_neg e,if_neg (fun h=>e h.symm)];exact q p
theorem zaT(fs:List Fa)(p:ByteArray):YF (yz fs) p<=fs.length:=zpK (zd7 fs p) (zaj fs p)
theorem Li.zif(x:Li):x.vars.length<=x.zO.length:=YY _
theorem zm9{I:Ru}(g:VK r fs)(h:Fit r fs)(Z:qE r I)(c:Cx)(hG:c.G=yz fs):∀x∈I.body,Zi c x:=fun x q=>by
 obtain⟨y,U,e⟩:=Z.mem q;have L:x.ok:=(Z.ok h.ok).body x q;have hf:=Z.fits g.fits;have hp:y.a.p=x.a.p:=show y.bare.a.p=x.bare.a.p from congrArg (fun z:Li=>z.a.p) e
 have ha:y.a.args=x.a.args:=show y.bare.a.args=x.bare.a.args from congrArg (fun z:Li=>z.a.args) e
 have hl:y.l.bare=x.l.bare:=congrArg (fun z:Li=>z.l) e;have hr:y.r.bare=x.r.bare:=congrArg (fun z:Li=>z.r) e;have hk:y.k=x.k:=show y.bare.k=x.bare.k from congrArg (fun z:Li=>z.k) e
 have W:=g.may y U;have O:x.l.Zk:=(Ex.Gz _).1 (hl▸(Ex.Gz _).2 (Ex.zaZ W.1));have Y:x.r.Zk:=(Ex.Gz _).1 (hr▸(Ex.Gz _).2 (Ex.zaZ W.2.1));have hT:x.zO.length<=1048576:=by
  rw[<-Li.zbj e];exact zpK (Li.zfa U) g.zO
 have aa:x.zO.length=x.a.args.length+(x.l.zO.length+x.r.zO.length):=by unfold Li.zO;rw[zpA,zpA]
 have N:∀t∈x.zO,t.v.size<=maxLen:=fun t I=>hf.2.2 t (zpR _ (zqP.2 ⟨x,q,I⟩))
 refine⟨L,hf.2.1 x q,fun t I=>N t (zp0 _ I),fun t I=>Gi (W.2.2.2.2 t (ha▸I)),fun V a R X=>?_,zd,zd,?_,?_,fun v hv=>?_,zpK (Li.zif x) hT⟩
 ·rw[hG]at X;have q:=(DM fs _ _ _ X).2;have h3:=g.nf;refine⟨?_,zd⟩;rw[h.ar _ _ _ X,<-ha,<-hp];exact(h.zeQ y U (by rw[hk];exact V)).symm
 ·rcases L with⟨_,_,q,_⟩ |⟨_,_,_,_,_,q,_⟩
  ·exact zbA q
  ·exact zbw q O
 ·rcases L with⟨_,_,_,q,_⟩ |⟨_,_,_,_,_,_,q⟩
  ·exact zbA q
  ·exact zbw q Y
 ·obtain⟨-,t,I,rfl⟩:=C.qJ.1 hv;exact N t I
theorem zlY{q:Ru}(O:qE r q)(I:ByteArray->Nat):X2 q.body I=X2 r.body I:=by
 funext i
 unfold X2;have h:=congrArg (fun l:List Li=>l[i]?) O.body;simp only[zqt]at h
 rcases h1:q.body[i]? with _|x<;>rcases h2:r.body[i]? with _|y<;>rw[h1,h2]at h
 ·cases h
 ·cases h
 ·simp only[zqh,zqn]at h;have L:x.a.p=y.a.p:=show x.bare.a.p=y.bare.a.p from congrArg (fun z:Li=>z.a.p) h
  have N:x.k=y.k:=show x.bare.k=y.bare.k from congrArg (fun z:Li=>z.k) h
  simp only[L,N]
noncomputable def Xc(r:Ru)(fs:List Fa)(i:Nat):Nat:=match r.body[i]? with
 |some x=>if x.k=1 then YF (yz fs) x.a.p else 0
 |none=>0
theorem VN(h:i<r.body.length):Xc r fs i=if r.body[i].k=1 then YF (yz fs) r.body[i].a.p else 0:=by
 unfold Xc;rw[zpF h]
noncomputable def Xw(tk:Nat->Int)(fs:List Fa)(p:Px)(lo hi:Nat->Nat):List Env:=VD tk (yz fs) (p.ss.map fun s=>madeOf p.r.body lo hi s.s) fun _=>none
theorem G4{tk:Nat->Int}{p:Px}(L:qE r p.r)(I:yi p.r.body [] (List.range r.body.length) (p.ss.map (·.s)))(lo hi:Nat->Nat):(Xw tk fs p lo hi).length<=mulL (X2 r.body (Yb fs)) (List.range r.body.length):=by
 have h:=zi8 (fun ρ e=>e.ev tk ρ) Vg (fun q=>((yz fs q).map (·.2)).getD []) I (Yb fs) (zd7 fs) lo hi fun _=>none
 rw[zlY L,List.map_map]at h;exact h
structure U1 (r:Ru) (p:Px) (S:Nat->Prop) (w:World):Prop where
 copy:qE r p.r
 zN:p.zN w
 right:yi p.r.body [] (List.range r.body.length) (p.ss.map (·.s))
 off:p.r.off fun g=>¬S g/\g<w.heap.size
 XO:∀s∈p.ss,qV (fun g=>¬S g/\g<w.heap.size) s.A
 DW:qV (fun g=>¬S g/\g<w.heap.size) p.A
theorem Dg(h:yd w wb (yz fs) S N)(hS:∀g,S g->g<w.heap.size)(tk:Nat->Int)(hT:Tk w tk)(ah:¬S 2)(g:VK r fs)(f:Fit r fs)(Z:mulL (X2 r.body (Yb fs)) (List.range r.body.length)<=2147483647)(p:Px)(hp:U1 r p S w)(F T:Option Addr)(V R X:Nat)(ai:r.body.length=X)(O L:List Nat)(hF:zZ yX w F O)(af:zZ yX w T L)(ae:O.length=X)(ac:L.length=X)(ad:∀i,i<X->O.getD i 0<=L.getD i 0/\L.getD i 0<=Xc r fs i):
 Calls prog 19 #[.pointer (some ⟨wb,0,none⟩),.agg p.cells.toArray,.slice F X V,.slice T X R] w (zeh (yz fs) wb N S r.p (r.head.map (·.t)) (Xw tk fs p (fun i=>O.getD i 0) fun i=>L.getD i 0) w):=by
 have q:=hp.copy;have ab:=q.len;have I:=q.fits g.fits;have ag:=q.ok f.ok;have hr:=hp.right;rw[<-ab]at hr;have U:=zlg h hS tk hT ah p hp.zN I (by rw[q.zO];exact g.zO) ag (q.zoy f.lim) hr hp.off.2.2 hp.XO (by rw[q.head];exact f.flat) (by rw[q.head];exact f.ok.XY)
  (fun a W=>I.2.2 a.t (zp0 _ (zp8.2 ⟨a,W,rfl⟩))) I.1 (UX r fs) f.ar (fun x hx hk=>by
   obtain⟨y,hy,e⟩:=q.mem hx;have W:y.a.p=x.a.p:=show y.bare.a.p=x.bare.a.p from congrArg (fun z:Li=>z.a.p) e
   have aa:y.a.args=x.a.args:=show y.bare.a.args=x.bare.a.args from congrArg (fun z:Li=>z.a.args) e
   have Y:y.k=x.k:=show y.bare.k=x.bare.k from congrArg (fun z:Li=>z.k) e
   rw[<-W,<-aa];exact f.zeQ y hy (by rw[Y];exact hk)) (by rw[q.head,q.p];exact f.zjr) I.2.1
  F T V R X (by rw[ab];exact ai) O L hF af ae ac (fun i hb=>by
   have aa:i<r.body.length:=zd;have h1:=ad i zd;rw[VN aa]at h1;have e:=congrArg (fun l:List Li=>l[i]?) q.body;simp only[zqt,zpF hb,zpF aa,zqh,zqn]at e;have W:p.r.body[i].a.p=r.body[i].a.p:=show(p.r.body[i]).bare.a.p=(r.body[i]).bare.a.p from congrArg (fun z:Li=>z.a.p) e
   have Y:p.r.body[i].k=r.body[i].k:=show(p.r.body[i]).bare.k=(r.body[i]).bare.k from congrArg (fun z:Li=>z.k) e
   rw[W,Y];exact h1) (fun c hG _ x hx=>zm9 g f q c hG x hx) (zpK (G4 (tk:=tk) q hp.right _ _) Z)
 rw[q.p,q.head]at U;exact U
theorem Xn:qB prog 65 3 1 8:=qB.of (z:=.int .i64 0) underlying65 zo rfl zr
structure Yc (w:World) (m:Nat) (Z Y X:Option Addr) (cz cy cx:Nat) (zs ys xs:List Nat):Prop where
 z:Own yX 3 1 w Z cz zs
 y:Own yX 3 1 w Y cy ys
 x:Own yX 3 1 w X cx xs
 hz:∀g∈zw Z,m<=g
 hy:∀g∈zw Y,m<=g
 hx:∀g∈zw X,m<=g
 zy:∀g∈zw Z,g∉zw Y
 zx:∀g∈zw Z,g∉zw X
 yx:∀g∈zw Y,g∉zw X
section
variable {w W w':World}{m:Nat}{Z Y X:Option Addr}{cz cy cx:Nat}{zs ys xs:List Nat}
theorem Yc.nil(w:World)(m:Nat):Yc w m none none none 0 0 0 [] [] []:=
 ⟨Own.qz w,Own.qz w,Own.qz w,(fun g h=>nomatch h),(fun g h=>nomatch h),(fun g h=>nomatch h),(fun g h=>nomatch h),(fun g h=>nomatch h),(fun g h=>nomatch h)⟩
theorem Yc.V5(h:Yc w m Z Y X cz cy cx zs ys xs):Yc w m Y X Z cy cx cz ys xs zs:=
 ⟨h.y,h.x,h.z,h.hy,h.hx,h.hz,h.yx,fun g I q=>h.zy g q I,fun g I q=>h.zx g q I⟩
theorem Yc.below(h:Yc w m Z Y X cz cy cx zs ys xs)(q:Bl w w'):Yc w' m Z Y X cz cy cx zs ys xs:=
 ⟨h.z.below q,h.y.below q,h.x.below q,h.hz,h.hy,h.hx,h.zy,h.zx,h.yx⟩
theorem Yc.push(h:Yc w m Z Y X cz cy cx zs ys xs)(hm:m<=w.heap.size){a g cap':Nat}(ho:Own yX 3 1 w' (some ⟨g,0,none⟩) cap' (zs++[a]))(V:zh (·∈zw Z) w w')(q:g∈zw Z\/w.heap.size<=g):
 Yc w' m (some ⟨g,0,none⟩) Y X cap' cy cx (zs++[a]) ys xs:=by
 have U:m<=g:=by
  rcases q with q|q
  ·exact h.hz g q
  ·omega
 have R:g∉zw Y:=fun I=>by
  rcases q with q|q
  ·exact h.zy g q I
  ·have:=h.y.lt g I;omega
 have O:g∉zw X:=fun I=>by
  rcases q with q|q
  ·exact h.zx g q I
  ·have:=h.x.lt g I;omega
 exact⟨ho,h.y.same fun k L=>V.block k (h.y.lt k L) (fun N=>h.zy k N L),h.x.same fun k L=>V.block k (h.x.lt k L) (fun N=>h.zx k N L),xY U,h.hy,h.hx,xY R,xY O,h.yx⟩
end
theorem Xg{O w:World}{Z Y X:Option Addr}{cz cy cx:Nat}{zs ys xs:List Nat}{ob:Obj}{t:TypeId}{P:Program}(HT:Kz (Yc w O.heap.size Z Y X cz cy cx zs ys xs))(HB:Kz (Bl O w))(hn:zs.length=n)(x:Nat){N:Array Oper}{s y:Operand}{ab c:Nat}(E:qB P t 3 1 8)(hQ:∀g q w',Kz (Yc w' O.heap.size Y X (some ⟨g,0,none⟩) cy cx q ys xs (zs++[x]))->Kz (Bl O w')->Kz (zh (·∈zw Z) w w')->wpList P N Q rest (a.put o.dst (.slice (some ⟨g,0,none⟩) (n+1) q)) w')(R:o.guard=none:=by rfl)(ho:o.op=.call { callee:=.builtin .append,args:=#[s,y],argTypes:=#[t,t]}:=by rfl)(hs:a.eval s=.slice Z n cz:=by rfl)(hy:a.eval y=.slice (some ⟨ab,V,none⟩) 1 c:=by rfl)(L:(w.alloc ob).rangeAt ab V (yX x):=by exact yt _ _ _ rfl)(hb:n<=4194304:=by omega):
 wpList P N Q (o::rest) a (w.alloc ob):=
 X9 R s y ho E (HT.o.z.alloc _) hn x ab V c hs hy rfl L (by simp[yX,Value.oneCell']) hb (by decide) fun g q w' aa hc hg=>by
  have I:zh (·∈zw Z) w w':=((zh.refl _ w).alloc _).trans hc fun x U _=>U
  have U:g∈zw Z\/w.heap.size<=g:=hg.imp id fun h=>by
   try simp at h
   omega
  exact hQ g q w' (HT.o.push HB.o.size aa I U).V5 (HB.o.trans (I.below HB.o.size HT.o.hz)) I
end
