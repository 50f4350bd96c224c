/-
  Values: divisions. Values: texts put together; their length,
-/
import Derived.Test.YtfdickkdlcgicaaGreatDoorQ14
set_option maxRecDepth 100000
set_option maxHeartbeats 8000000
set_option linter.all false
namespace Go.Proofs.YtfdickkdlcgicaaGreatDoor.C
open Go.Proofs.Tryz Go Go.RowKit Go.Maps Go.WideMaps
section
theorem ziO(w:World)(tk:Nat->Int)(hT:Tk w tk)(A:Option Addr)(cap:Nat)(l:List Vl)(hl:zZ Vl.cells w A l)(aa:∀v∈l,v.ok)(hn:l.length=2)(U:y9 (tk 5) l):
 Calls prog 244 #[.int .i8 5,.slice A 2 cap] w (y6 (qQ tk 5 l) w):=by
 obtain⟨x,y,rfl⟩:∃x y,l=[x,y]:=by
  match l,hn with
  |[x,y],_=>exact⟨x,y,rfl⟩
 obtain⟨b,o,rfl,I,L⟩:=hl.at (c:=2) (fun _=>rfl) 0 zp;obtain⟨b',o',ad,q,h⟩:=hl.at (c:=2) (fun _=>rfl) 1 zp;injection ad with ad
 injection ad with af ai
 subst af ai;have ak:=Vl.Yw (aa x zp);have aj:=Vl.Yw (aa y zp);simp only[zqj,zqZ,zqX,zqk,zry,Nat.reduceAdd]at L h;obtain⟨xk,xn,xs⟩:=x;obtain⟨yk,yn,ys⟩:=y;simp only[Vl.cells]at L h;have Hd:=zz (show ∀W,W.heap[b]? = w.heap[b]?->W.cell? ⟨b,o+1,none⟩=some (.int .i64 xn)/\W.cell? ⟨b,o+2,none⟩=some (.string xs)/\W.cell? ⟨b,o+3+1,none⟩=some (.int .i64 yn)/\W.cell? ⟨b,o+3+2,none⟩=some (.string ys)from fun W Z=>
  have e:=fun j=>World.cell?_of_block (w:=w) (w':=W) (a:=⟨b,j,none⟩) Z
  ⟨(e _).trans (L 1 _ rfl),(e _).trans (L 2 _ rfl),(e _).trans (h 1 _ rfl),(e _).trans (h 2 _ rfl)⟩)
 have V:=zz I;clear L h I q
 by_cases hy:yn=0
 ·subst hy;have hv:qQ tk 5 [⟨xk,xn,xs⟩,⟨yk,0,ys⟩]=none:=by unfold qQ;rw[if_pos U,if_neg zr,if_neg zr,if_neg zr,if_neg zr,if_pos zr];rfl
  rw[hv];clear hv;have Hb:=zz (qs U);obtain⟨W1,L,hX⟩:=xi w 43 #[.int .i8 0,.int .i64 0,.string ⟨#[]⟩];have ae:=zz L;have HX:=zz hX;have ct:(w.alloc (.cells #[.int .i8 0,.int .i64 0,.string ⟨#[]⟩] 43)).cell? ⟨2,5,none⟩=some (.int .i8 (tk 5)):=by
   rw[L];exact(hX.below.cell (p:=⟨2,5,none⟩) hT.lt).trans (hT.cell 5 zr)
  have N:=zz (fun W (Z:Bl w W)=>YZ W (tk 5) _ cap 2 _ rfl (hl.below Z) aa zr);clear hX L hT;go_enter func244,ntmps244;go_upto_region 14 with(go_at_call 264;rw[ae.o];refine(N.o _ HX.o.below).mono ?_;rintro e I⟨rfl,O⟩;rw[Hb.o];have R:=zz (zl HX.o.below O);have ab:=zz (HX.o.b0.below O);clear O ct)
  have H0:Kz (∀W,zh (·=w.heap.size) I W->_):=fun W Z=>Hd.o W ((Z.block b (by have:=V.o;have:=R.o.size;omega) (by have:=V.o;omega)).trans (R.o.block b V.o))
  refine xX [0,0,0,0,0,0,0,0,0,2,0,0,0,0,0] (fun W=>zh (·=w.heap.size) I W) ?_
  repeat refine zS H0.o ?_
  refine xf fun K hK=>?_
  go_simp;refine(zek _ 5 xn zp).mono ?_;rintro e w3⟨rfl,h⟩;have X:=zz (zl R.o ((Below.refl _ _).drew.trans h));have Y:=zz (ab.o.below ((Below.refl I.heap.size I).drew.trans h));refine hK.out _ _ (zh.xj _ ((Below.refl I.heap.size I).drew.trans h)) (fun _=>trivial) ?_;have ah:=zz (zh.xj (·=w.heap.size) ((Below.refl I.heap.size I).drew.trans h));clear hK K h;try refine zQ ?_
  repeat refine zS H0.o ?_
  refine xt ?_
  go_wp2_with (first
   |fail
   |(refine xy 43 _ _ rfl ?_;refine yH 43 w.heap.size 0 Y.o [.int .i8 0,.int .i64 0,.string ⟨#[]⟩] ?_;intro W9 q;have z0:=q.zH.cell 0;have z1:=q.zH.cell 1;have z2:=q.zH.cell 2;have HF:=zz q;clear q))
  simp only[zpY,zpI,zpL,zpJ,zpH,zpM]at z0 z1 z2;refine bodyPost_ret (v:=.tuple #[.agg #[.int .i8 0,.int .i64 0,.string ⟨#[]⟩],.bool false]) (by simp[results,results244,go_sem,z0,z1,z2]) rfl ?_;exact .Zx (x:=Vl.zero) rfl (HF.o.below X.o (zpx _) (zpx _))
 ·have hv:qQ tk 5 [⟨xk,xn,xs⟩,⟨yk,yn,ys⟩]=some (.num (wrap64 (xn.tdiv yn))):=by unfold qQ;rw[if_pos U,if_neg zr,if_neg zr,if_neg zr,if_neg zr,if_pos zr];show(if yn=0 then none else some (Vl.num _))=_;rw[if_neg hy];rfl
  rw[hv];clear hv;have ac:=fun W=>zds W 5 xn yn hy zp
  simp only[show((6:Int)=5)=False from zp,if_true,if_false,if_pos (rfl:(5:Int)=5)]at ac;have ag:=zz ac;clear ac hy;have Hb:=zz (qs U);obtain⟨W1,L,hX⟩:=xi w 43 #[.int .i8 0,.int .i64 0,.string ⟨#[]⟩];have ae:=zz L;have HX:=zz hX;have ct:(w.alloc (.cells #[.int .i8 0,.int .i64 0,.string ⟨#[]⟩] 43)).cell? ⟨2,5,none⟩=some (.int .i8 (tk 5)):=by
   rw[L];exact(hX.below.cell (p:=⟨2,5,none⟩) hT.lt).trans (hT.cell 5 zr)
  have N:=zz (fun W (Z:Bl w W)=>YZ W (tk 5) _ cap 2 _ rfl (hl.below Z) aa zr);clear hX L hT;go_enter func244,ntmps244;go_upto_region 14 with(go_at_call 264;rw[ae.o];refine(N.o _ HX.o.below).mono ?_;rintro e I⟨rfl,O⟩;rw[Hb.o];have R:=zz (zl HX.o.below O);have ab:=zz (HX.o.b0.below O);clear O ct)
  have H0:Kz (∀W,zh (·=w.heap.size) I W->_):=fun W Z=>Hd.o W ((Z.block b (by have:=V.o;have:=R.o.size;omega) (by have:=V.o;omega)).trans (R.o.block b V.o))
  refine xX [0,0,0,0,0,0,0,0,0,2,0,0,0,0,0] (fun W=>zh (·=w.heap.size) I W) ?_
  repeat refine zS H0.o ?_
  refine xf fun K hK=>?_
  go_simp;refine(ag.o _).mono ?_;rintro e w3⟨rfl,h⟩;have X:=zz (zl R.o ((Below.refl _ _).drew.trans h));have Y:=zz (ab.o.below ((Below.refl I.heap.size I).drew.trans h));refine hK.out _ _ (zh.xj _ ((Below.refl I.heap.size I).drew.trans h)) (fun _=>trivial) ?_;have ah:=zz (zh.xj (·=w.heap.size) ((Below.refl I.heap.size I).drew.trans h));clear hK K h;try refine zQ ?_
  repeat refine zS H0.o ?_
  refine xt ?_
  go_wp2_with (first
   |(go_at_call 265;refine(V0 _ _).mono ?_;rintro e w3⟨rfl,h⟩;simp only[Vl.num,Vl.cells];have X:=zz (zl X.o h);have Y:=zz (Y.o.below h);clear h)
   |(refine xy 43 _ _ rfl ?_;refine yH 43 w.heap.size 0 Y.o [.int .i8 1,.int .i64 (wrap64 (xn.tdiv yn)),.string ⟨#[]⟩] ?_;intro W9 q;have z0:=q.zH.cell 0;have z1:=q.zH.cell 1;have z2:=q.zH.cell 2;have HF:=zz q;clear q))
  simp only[zpY,zpI,zpL,zpJ,zpH,zpM]at z0 z1 z2;refine bodyPost_ret (v:=.tuple #[.agg #[.int .i8 1,.int .i64 (wrap64 (xn.tdiv yn)),.string ⟨#[]⟩],.bool true]) (by simp[results,results244,go_sem,z0,z1,z2]) rfl ?_;exact .Yx rfl (HF.o.below X.o (zpx _) (zpx _))
theorem zj5(w:World)(tk:Nat->Int)(hT:Tk w tk)(A:Option Addr)(cap:Nat)(l:List Vl)(hl:zZ Vl.cells w A l)(aa:∀v∈l,v.ok)(hn:l.length=2)(U:y9 (tk 6) l):
 Calls prog 244 #[.int .i8 6,.slice A 2 cap] w (y6 (qQ tk 6 l) w):=by
 obtain⟨x,y,rfl⟩:∃x y,l=[x,y]:=by
  match l,hn with
  |[x,y],_=>exact⟨x,y,rfl⟩
 obtain⟨b,o,rfl,I,L⟩:=hl.at (c:=2) (fun _=>rfl) 0 zp;obtain⟨b',o',ad,q,h⟩:=hl.at (c:=2) (fun _=>rfl) 1 zp;injection ad with ad
 injection ad with af ai
 subst af ai;have ak:=Vl.Yw (aa x zp);have aj:=Vl.Yw (aa y zp);simp only[zqj,zqZ,zqX,zqk,zry,Nat.reduceAdd]at L h;obtain⟨xk,xn,xs⟩:=x;obtain⟨yk,yn,ys⟩:=y;simp only[Vl.cells]at L h;have Hd:=zz (show ∀W,W.heap[b]? = w.heap[b]?->W.cell? ⟨b,o+1,none⟩=some (.int .i64 xn)/\W.cell? ⟨b,o+2,none⟩=some (.string xs)/\W.cell? ⟨b,o+3+1,none⟩=some (.int .i64 yn)/\W.cell? ⟨b,o+3+2,none⟩=some (.string ys)from fun W Z=>
  have e:=fun j=>World.cell?_of_block (w:=w) (w':=W) (a:=⟨b,j,none⟩) Z
  ⟨(e _).trans (L 1 _ rfl),(e _).trans (L 2 _ rfl),(e _).trans (h 1 _ rfl),(e _).trans (h 2 _ rfl)⟩)
 have V:=zz I;clear L h I q
 by_cases hy:yn=0
 ·subst hy;have hv:qQ tk 6 [⟨xk,xn,xs⟩,⟨yk,0,ys⟩]=none:=by unfold qQ;rw[if_pos U,if_neg zr,if_neg zr,if_neg zr,if_neg zr,if_pos zr];rfl
  rw[hv];clear hv;have Hb:=zz (qs U);obtain⟨W1,L,hX⟩:=xi w 43 #[.int .i8 0,.int .i64 0,.string ⟨#[]⟩];have ae:=zz L;have HX:=zz hX;have ct:(w.alloc (.cells #[.int .i8 0,.int .i64 0,.string ⟨#[]⟩] 43)).cell? ⟨2,6,none⟩=some (.int .i8 (tk 6)):=by
   rw[L];exact(hX.below.cell (p:=⟨2,6,none⟩) hT.lt).trans (hT.cell 6 zr)
  have N:=zz (fun W (Z:Bl w W)=>YZ W (tk 6) _ cap 2 _ rfl (hl.below Z) aa zr);clear hX L hT;go_enter func244,ntmps244;go_upto_region 14 with(go_at_call 264;rw[ae.o];refine(N.o _ HX.o.below).mono ?_;rintro e I⟨rfl,O⟩;rw[Hb.o];have R:=zz (zl HX.o.below O);have ab:=zz (HX.o.b0.below O);clear O ct)
  have H0:Kz (∀W,zh (·=w.heap.size) I W->_):=fun W Z=>Hd.o W ((Z.block b (by have:=V.o;have:=R.o.size;omega) (by have:=V.o;omega)).trans (R.o.block b V.o))
  refine xX [0,0,0,0,0,0,0,0,0,2,0,0,0,0,0] (fun W=>zh (·=w.heap.size) I W) ?_
  repeat refine zS H0.o ?_
  refine xf fun K hK=>?_
  go_simp;refine(zek _ 6 xn zp).mono ?_;rintro e w3⟨rfl,h⟩;have X:=zz (zl R.o ((Below.refl _ _).drew.trans h));have Y:=zz (ab.o.below ((Below.refl I.heap.size I).drew.trans h));refine hK.out _ _ (zh.xj _ ((Below.refl I.heap.size I).drew.trans h)) (fun _=>trivial) ?_;have ah:=zz (zh.xj (·=w.heap.size) ((Below.refl I.heap.size I).drew.trans h));clear hK K h;try refine zQ ?_
  repeat refine zS H0.o ?_
  refine xt ?_
  go_wp2_with (first
   |fail
   |(refine xy 43 _ _ rfl ?_;refine yH 43 w.heap.size 0 Y.o [.int .i8 0,.int .i64 0,.string ⟨#[]⟩] ?_;intro W9 q;have z0:=q.zH.cell 0;have z1:=q.zH.cell 1;have z2:=q.zH.cell 2;have HF:=zz q;clear q))
  simp only[zpY,zpI,zpL,zpJ,zpH,zpM]at z0 z1 z2;refine bodyPost_ret (v:=.tuple #[.agg #[.int .i8 0,.int .i64 0,.string ⟨#[]⟩],.bool false]) (by simp[results,results244,go_sem,z0,z1,z2]) rfl ?_;exact .Zx (x:=Vl.zero) rfl (HF.o.below X.o (zpx _) (zpx _))
 ·have hv:qQ tk 6 [⟨xk,xn,xs⟩,⟨yk,yn,ys⟩]=some (.num (xn.tmod yn)):=by unfold qQ;rw[if_pos U,if_neg zr,if_neg zr,if_neg zr,if_neg zr,if_pos zr];show(if yn=0 then none else some (Vl.num _))=_;rw[if_neg hy];rfl
  rw[hv];clear hv;have ac:=fun W=>zds W 6 xn yn hy zp
  simp only[show((6:Int)=5)=False from zp,if_true,if_false,if_pos (rfl:(5:Int)=5)]at ac;have ag:=zz ac;clear ac hy;have Hb:=zz (qs U);obtain⟨W1,L,hX⟩:=xi w 43 #[.int .i8 0,.int .i64 0,.string ⟨#[]⟩];have ae:=zz L;have HX:=zz hX;have ct:(w.alloc (.cells #[.int .i8 0,.int .i64 0,.string ⟨#[]⟩] 43)).cell? ⟨2,6,none⟩=some (.int .i8 (tk 6)):=by
   rw[L];exact(hX.below.cell (p:=⟨2,6,none⟩) hT.lt).trans (hT.cell 6 zr)
  have N:=zz (fun W (Z:Bl w W)=>YZ W (tk 6) _ cap 2 _ rfl (hl.below Z) aa zr);clear hX L hT;go_enter func244,ntmps244;go_upto_region 14 with(go_at_call 264;rw[ae.o];refine(N.o _ HX.o.below).mono ?_;rintro e I⟨rfl,O⟩;rw[Hb.o];have R:=zz (zl HX.o.below O);have ab:=zz (HX.o.b0.below O);clear O ct)
  have H0:Kz (∀W,zh (·=w.heap.size) I W->_):=fun W Z=>Hd.o W ((Z.block b (by have:=V.o;have:=R.o.size;omega) (by have:=V.o;omega)).trans (R.o.block b V.o))
  refine xX [0,0,0,0,0,0,0,0,0,2,0,0,0,0,0] (fun W=>zh (·=w.heap.size) I W) ?_
  repeat refine zS H0.o ?_
  refine xf fun K hK=>?_
  go_simp;refine(ag.o _).mono ?_;rintro e w3⟨rfl,h⟩;have X:=zz (zl R.o ((Below.refl _ _).drew.trans h));have Y:=zz (ab.o.below ((Below.refl I.heap.size I).drew.trans h));refine hK.out _ _ (zh.xj _ ((Below.refl I.heap.size I).drew.trans h)) (fun _=>trivial) ?_;have ah:=zz (zh.xj (·=w.heap.size) ((Below.refl I.heap.size I).drew.trans h));clear hK K h;try refine zQ ?_
  repeat refine zS H0.o ?_
  refine xt ?_
  go_wp2_with (first
   |(go_at_call 265;refine(V0 _ _).mono ?_;rintro e w3⟨rfl,h⟩;simp only[Vl.num,Vl.cells];have X:=zz (zl X.o h);have Y:=zz (Y.o.below h);clear h)
   |(refine xy 43 _ _ rfl ?_;refine yH 43 w.heap.size 0 Y.o [.int .i8 1,.int .i64 (xn.tmod yn),.string ⟨#[]⟩] ?_;intro W9 q;have z0:=q.zH.cell 0;have z1:=q.zH.cell 1;have z2:=q.zH.cell 2;have HF:=zz q;clear q))
  simp only[zpY,zpI,zpL,zpJ,zpH,zpM]at z0 z1 z2;refine bodyPost_ret (v:=.tuple #[.agg #[.int .i8 1,.int .i64 (xn.tmod yn),.string ⟨#[]⟩],.bool true]) (by simp[results,results244,go_sem,z0,z1,z2]) rfl ?_;exact .Yx rfl (HF.o.below X.o (zpx _) (zpx _))
theorem zmY(w:World)(tk:Nat->Int)(hT:Tk w tk)(A:Option Addr)(cap:Nat)(l:List Vl)(hl:zZ Vl.cells w A l)(ab:∀v∈l,v.ok)(hn:l.length=2)(aa:y9 (tk 7) l):
 Calls prog 244 #[.int .i8 7,.slice A 2 cap] w (y6 (qQ tk 7 l) w):=by
 obtain⟨x,y,rfl⟩:∃x y,l=[x,y]:=by
  match l,hn with
  |[x,y],_=>exact⟨x,y,rfl⟩
 obtain⟨b,o,rfl,I,L⟩:=hl.at (c:=2) (fun _=>rfl) 0 zp;obtain⟨b',o',ag,q,h⟩:=hl.at (c:=2) (fun _=>rfl) 1 zp;injection ag with ag
 injection ag with ak am
 subst ak am;have al:=Vl.Yw (ab x zp);have aj:=Vl.Yw (ab y zp);simp only[zqj,zqZ,zqX,zqk,zry,Nat.reduceAdd]at L h;obtain⟨xk,xn,V⟩:=x;obtain⟨yk,yn,X⟩:=y;simp only[Vl.cells]at L h;have Hd:=zz (show ∀W,W.heap[b]? = w.heap[b]?->W.cell? ⟨b,o+1,none⟩=some (.int .i64 xn)/\W.cell? ⟨b,o+2,none⟩=some (.string V)/\W.cell? ⟨b,o+3+1,none⟩=some (.int .i64 yn)/\W.cell? ⟨b,o+3+2,none⟩=some (.string X)from fun W hW=>
  have e:=fun j=>World.cell?_of_block (w:=w) (w':=W) (a:=⟨b,j,none⟩) hW
  ⟨(e _).trans (L 1 _ rfl),(e _).trans (L 2 _ rfl),(e _).trans (h 1 _ rfl),(e _).trans (h 2 _ rfl)⟩)
 have U:=zz I;clear L h I q;have h:qQ tk 7 [⟨xk,xn,V⟩,⟨yk,yn,X⟩]=if(V++X).size<=200 then some (.YU (V++X))else none:=by unfold qQ;rw[if_pos aa,if_neg zr,if_neg zr,if_neg zr,if_neg zr,if_neg zr,if_pos rfl];rfl
 rw[h];clear h;have ai:(V++X).size<=400:=by rw[zqy];have h1:V.size<=200:=al;have h2:X.size<=200:=aj;omega
 have an:∀W,(Op.stringOp .add V X).run prog W=.ok (.string (V++X)) W:=fun W=>by
  rw[zqy]at ai;simp[Op.stringOp];omega
 by_cases hs:(V++X).size<=200
 ·rw[if_pos hs];have Y:=fun W=>Tf W (V++X)
  rw[if_pos hs]at Y;clear hs;have Hb:=zz (qs aa);obtain⟨W1,L,hX⟩:=xi w 43 #[.int .i8 0,.int .i64 0,.string ⟨#[]⟩];have ah:=zz L;have HX:=zz hX;have ct:(w.alloc (.cells #[.int .i8 0,.int .i64 0,.string ⟨#[]⟩] 43)).cell? ⟨2,7,none⟩=some (.int .i8 (tk 7)):=by
   rw[L];exact(hX.below.cell (p:=⟨2,7,none⟩) hT.lt).trans (hT.cell 7 zr)
  have N:=zz (fun W (hW:Bl w W)=>YZ W (tk 7) _ cap 2 _ rfl (hl.below hW) ab zr);clear hX L hT;go_enter func244,ntmps244;go_upto_region 19 with(go_at_call 264;rw[ah.o];refine(N.o _ HX.o.below).mono ?_;rintro e I⟨rfl,O⟩;rw[Hb.o];have R:=zz (zl HX.o.below O);have af:=zz (HX.o.b0.below O);clear O ct)
  have H0:Kz (∀W,zh (·=w.heap.size) I W->_):=fun W hW=>Hd.o W ((hW.block b (by have:=U.o;have:=R.o.size;omega) (by have:=U.o;omega)).trans (R.o.block b U.o))
  refine xX [0,0,0,0,0,0,0,0,0,2,0,0,2,0] (fun W=>zh (·=w.heap.size) I W) ?_
  repeat refine zS H0.o ?_
  refine xf fun K Z=>?_
  go_simp;try simp only[GG]
  refine(Y _).mono ?_;rintro e w3⟨rfl,q⟩;simp only[Vl.num,Vl.YU,Vl.cells];have ac:=zz (zl R.o ((Below.refl _ _).drew.trans q));have ad:=zz (af.o.below ((Below.refl I.heap.size I).drew.trans q));refine Z.out _ _ (zh.xj _ ((Below.refl I.heap.size I).drew.trans q)) (fun _=>trivial) ?_;have ae:=zz (zh.xj (·=w.heap.size) ((Below.refl I.heap.size I).drew.trans q));clear Z K q;try refine zQ ?_
  repeat refine zS H0.o ?_
  refine xf fun K Z=>?_
  refine Xu 43 _ _ rfl w.heap.size 0 _ _ ad.o [.int .i8 2,.int .i64 0,.string (V++X)] rfl rfl zp (zo) zt ?_;intro W9 h;have z0:=h.zH.cell 0;have z1:=h.zH.cell 1;have z2:=h.zH.cell 2;have HF:=zz h;refine Z.out _ _ (ae.o.trans h.zC (fun x hx _=>hx)) (fun _=>trivial) ?_;clear Z K h;try refine zQ ?_
  repeat refine zS H0.o ?_
  refine xt ?_;simp only[zpY,zpI,zpL,zpJ,zpH,zpM]at z0 z1 z2;go_wp2;refine bodyPost_ret (v:=.tuple #[.agg #[.int .i8 2,.int .i64 0,.string (V++X)],.bool true]) (by simp[results,results244,go_sem,z0,z1,z2]) rfl ?_;exact .Yx rfl (HF.o.below ac.o (zpx _) (zpx _))
 ·rw[if_neg hs];have Y:=fun W=>Tf W (V++X)
  rw[if_neg hs]at Y;clear hs;have Hb:=zz (qs aa);obtain⟨W1,L,hX⟩:=xi w 43 #[.int .i8 0,.int .i64 0,.string ⟨#[]⟩];have ah:=zz L;have HX:=zz hX;have ct:(w.alloc (.cells #[.int .i8 0,.int .i64 0,.string ⟨#[]⟩] 43)).cell? ⟨2,7,none⟩=some (.int .i8 (tk 7)):=by
   rw[L];exact(hX.below.cell (p:=⟨2,7,none⟩) hT.lt).trans (hT.cell 7 zr)
  have N:=zz (fun W (hW:Bl w W)=>YZ W (tk 7) _ cap 2 _ rfl (hl.below hW) ab zr);clear hX L hT;go_enter func244,ntmps244;go_upto_region 19 with(go_at_call 264;rw[ah.o];refine(N.o _ HX.o.below).mono ?_;rintro e I⟨rfl,O⟩;rw[Hb.o];have R:=zz (zl HX.o.below O);have af:=zz (HX.o.b0.below O);clear O ct)
  have H0:Kz (∀W,zh (·=w.heap.size) I W->_):=fun W hW=>Hd.o W ((hW.block b (by have:=U.o;have:=R.o.size;omega) (by have:=U.o;omega)).trans (R.o.block b U.o))
  refine xX [0,0,0,0,0,0,0,0,0,2,0,0,2,0] (fun W=>zh (·=w.heap.size) I W) ?_
  repeat refine zS H0.o ?_
  refine xf fun K Z=>?_
  go_simp;try simp only[GG]
  refine(Y _).mono ?_;rintro e w3⟨⟨⟨zk,zn,L⟩,rfl⟩,q⟩;simp only[Vl.num,Vl.YU,Vl.cells];have ac:=zz (zl R.o ((Below.refl _ _).drew.trans q));have ad:=zz (af.o.below ((Below.refl I.heap.size I).drew.trans q));refine Z.out _ _ (zh.xj _ ((Below.refl I.heap.size I).drew.trans q)) (fun _=>trivial) ?_;have ae:=zz (zh.xj (·=w.heap.size) ((Below.refl I.heap.size I).drew.trans q));clear Z K q;try refine zQ ?_
  repeat refine zS H0.o ?_
  refine xf fun K Z=>?_
  refine Xu 43 _ _ rfl w.heap.size 0 _ _ ad.o [.int .i8 zk,.int .i64 zn,.string L] rfl rfl zp (zo) zt ?_;intro W9 h;have z0:=h.zH.cell 0;have z1:=h.zH.cell 1;have z2:=h.zH.cell 2;have HF:=zz h;refine Z.out _ _ (ae.o.trans h.zC (fun x hx _=>hx)) (fun _=>trivial) ?_;clear Z K h;try refine zQ ?_
  repeat refine zS H0.o ?_
  refine xt ?_;simp only[zpY,zpI,zpL,zpJ,zpH,zpM]at z0 z1 z2;go_wp2;refine bodyPost_ret (v:=.tuple #[.agg #[.int .i8 zk,.int .i64 zn,.string L],.bool false]) (by simp[results,results244,go_sem,z0,z1,z2]) rfl ?_;exact .Zx (x:=⟨zk,zn,L⟩) rfl (HF.o.below ac.o (zpx _) (zpx _))
theorem zgU(w:World)(tk:Nat->Int)(hT:Tk w tk)(A:Option Addr)(cap:Nat)(l:List Vl)(hl:zZ Vl.cells w A l)(V:∀v∈l,v.ok)(hn:l.length=1)(I:y9 (tk 8) l):
 Calls prog 244 #[.int .i8 8,.slice A 1 cap] w (y6 (qQ tk 8 l) w):=by
 obtain⟨x,rfl⟩:∃x,l=[x]:=by
  obtain⟨-,h,-⟩:=I
  match l,hn with
  |[x],_=>exact⟨x,rfl⟩
 obtain⟨b,o,rfl,q,L⟩:=hl.at (c:=2) (fun _=>rfl) 0 zp;have ab:=Vl.Yw (V x zp);simp only[zqj,zqX,zqk]at L;obtain⟨xk,xn,R⟩:=x;simp only[Vl.cells]at L;have Hd:Kz (∀W,Bl w W->W.cell? ⟨b,o,none⟩=some (.int .i8 xk)/\W.cell? ⟨b,o+1,none⟩=some (.int .i64 xn)/\W.cell? ⟨b,o+2,none⟩=some (.string R)):=fun W O=>three (yB L O q)
 clear L q;have q:qQ tk 8 [⟨xk,xn,R⟩]=some (.num (R.size:Int)):=by unfold qQ;rw[if_pos I,if_neg zr,if_neg zr,if_neg zr,if_neg zr,if_neg zr,if_neg zr,if_pos rfl];rfl
 rw[q];clear q;have Hb:=zz (qs I);obtain⟨W1,q,N⟩:=xi w 43 #[.int .i8 0,.int .i64 0,.string ⟨#[]⟩];have aa:=zz q;have HX:=zz N;have X:(w.alloc (.cells #[.int .i8 0,.int .i64 0,.string ⟨#[]⟩] 43)).cell? ⟨2,8,none⟩=some (.int .i8 (tk 8)):=by
  rw[q];exact(N.below.cell (p:=⟨2,8,none⟩) hT.lt).trans (hT.cell 8 zr)
 have L:=zz (fun W (O:Bl w W)=>YZ W (tk 8) _ cap 1 _ rfl (hl.below O) V zr);clear N q hT;go_enter func244,ntmps244;go_upto_region 21 with(go_at_call 264;rw[aa.o];refine(L.o _ HX.o.below).mono ?_;rintro e w2⟨rfl,N⟩;rw[Hb.o];have U:=zz (zl HX.o.below N);have Z:=zz (HX.o.b0.below N);clear N X)
 obtain⟨d0,d1,d2⟩:=Hd.o _ U.o
 go_wp2_with (first
  |(go_at_call 265;refine(V0 _ _).mono ?_;rintro e w3⟨rfl,O⟩;simp only[Vl.num,Vl.cells];have X:=zz (zl U.o O);have Y:=zz (Z.o.below O);clear O)
  |(refine xy 43 _ _ rfl ?_;refine yH 43 w.heap.size 0 Y.o [.int .i8 1,.int .i64 (R.size:Int),.string ⟨#[]⟩] ?_;intro W9 q;have z0:=q.zH.cell 0;have z1:=q.zH.cell 1;have z2:=q.zH.cell 2;have HF:=zz q;clear q))
 simp only[zpY,zpI,zpL,zpJ,zpH,zpM]at z0 z1 z2;refine bodyPost_ret (v:=.tuple #[.agg #[.int .i8 1,.int .i64 (R.size:Int),.string ⟨#[]⟩],.bool true]) (by simp[results,results244,go_sem,z0,z1,z2]) rfl ?_;exact .Yx rfl (HF.o.below X.o (zpx _) (zpx _))
end
