/-
  Values: divisions. Values: texts put together; their length,
-/
import Derived.Test.YtfdickkdlcgicaaGreatDoorP14
set_option maxRecDepth 100000
set_option maxHeartbeats 8000000
set_option linter.all false
namespace Go.Proofs.YtfdickkdlcgicaaGreatDoor.C
open Go.Proofs.Tryz Go Go.RowKit Go.Maps Go.WideMaps
section
theorem zih(w:World)(tk:Nat->Int)(hT:Tk w tk)(A:Option Addr)(cap:Nat)(l:List Vl)(hl:zY Vl.cells w A l)(Z:∀v∈l,v.ok)(hn:l.length=2)(R:yW (tk 5) l):
 Calls prog 244 #[.int .i8 5,.slice A 2 cap] w (yV (qI tk 5 l) w):=by
 obtain⟨x,y,rfl⟩:∃x y,l=[x,y]:=by
  match l,hn with
  |[x,y],_=>exact⟨x,y,rfl⟩
 obtain⟨b,o,rfl,r,I⟩:=hl.at (c:=2) (fun _=>rfl) 0 zp;obtain⟨b',o',ac,q,h⟩:=hl.at (c:=2) (fun _=>rfl) 1 zp;injection ac with ac
 injection ac with ae ah
 subst ae ah;have aj:=Vl.Yo (Z x zp);have ai:=Vl.Yo (Z y zp);simp only[zpN,zqy,zqu,zpO,zq1,Nat.reduceAdd]at I h;obtain⟨xk,xn,xs⟩:=x;obtain⟨yk,yn,ys⟩:=y;simp only[Vl.cells]at I h;have Hd:=zz (show ∀W,W.heap[b]? = w.heap[b]?->W.cell? ⟨b,o+1,none⟩=some (.int .i64 xn)/\W.cell? ⟨b,o+2,none⟩=some (.string xs)/\W.cell? ⟨b,o+3+1,none⟩=some (.int .i64 yn)/\W.cell? ⟨b,o+3+2,none⟩=some (.string ys)from fun W Y=>
  have e:=fun j=>World.cell?_of_block (w:=w) (w':=W) (a:=⟨b,j,none⟩) Y
  ⟨(e _).trans (I 1 _ rfl),(e _).trans (I 2 _ rfl),(e _).trans (h 1 _ rfl),(e _).trans (h 2 _ rfl)⟩)
 have U:=zz r;clear I h r q
 by_cases hy:yn=0
 ·subst hy;have hv:qI tk 5 [⟨xk,xn,xs⟩,⟨yk,0,ys⟩]=none:=by unfold qI;rw[if_pos R,if_neg zr,if_neg zr,if_neg zr,if_neg zr,if_pos zr];rfl
  rw[hv];clear hv;have Hb:=zz (qs R);obtain⟨W1,I,hX⟩:=xj w 43 #[.int .i8 0,.int .i64 0,.string ⟨#[]⟩];have ad:=zz I;have HX:=zz hX;have ct:(w.alloc (.cells #[.int .i8 0,.int .i64 0,.string ⟨#[]⟩] 43)).cell? ⟨2,5,none⟩=some (.int .i8 (tk 5)):=by
   rw[I];exact(hX.below.cell (p:=⟨2,5,none⟩) hT.lt).trans (hT.cell 5 zr)
  have L:=zz (fun W (Y:Bl w W)=>YM W (tk 5) _ cap 2 _ rfl (hl.below Y) Z zr);clear hX I hT;go_enter func244,ntmps244;go_upto_region 14 with(go_at_call 264;rw[ad.o];refine(L.o _ HX.o.below).mono ?_;rintro e r⟨rfl,N⟩;rw[Hb.o];have O:=zz (zu HX.o.below N);have aa:=zz (HX.o.b0.below N);clear N ct)
  have H0:Kz (∀W,zh (·=w.heap.size) r W->_):=fun W Y=>Hd.o W ((Y.block b (by have:=U.o;have:=O.o.size;omega) (by have:=U.o;omega)).trans (O.o.block b U.o))
  refine xX [0,0,0,0,0,0,0,0,0,2,0,0,0,0,0] (fun W=>zh (·=w.heap.size) r W) ?_
  repeat refine zT H0.o ?_
  refine xc fun K hK=>?_
  go_simp;refine(zdL _ 5 xn zp).mono ?_;rintro e w3⟨rfl,h⟩;have V:=zz (zu O.o ((Below.refl _ _).drew.trans h));have X:=zz (aa.o.below ((Below.refl r.heap.size r).drew.trans h));refine hK.out _ _ (zh.xi _ ((Below.refl r.heap.size r).drew.trans h)) (fun _=>trivial) ?_;have ag:=zz (zh.xi (·=w.heap.size) ((Below.refl r.heap.size r).drew.trans h));clear hK K h;try refine zQ ?_
  repeat refine zT H0.o ?_
  refine xu ?_
  go_wp2_with (first
   |fail
   |(refine xy 43 _ _ rfl ?_;refine yE 43 w.heap.size 0 X.o [.int .i8 0,.int .i64 0,.string ⟨#[]⟩] ?_;intro W9 q;have z0:=q.zG.cell 0;have z1:=q.zG.cell 1;have z2:=q.zG.cell 2;have HF:=zz q;clear q))
  simp only[zpr,zpa,zpe,zpc,zo9,zpg]at z0 z1 z2;refine bodyPost_ret (v:=.tuple #[.agg #[.int .i8 0,.int .i64 0,.string ⟨#[]⟩],.bool false]) (by simp[results,results244,go_sem,z0,z1,z2]) rfl ?_;exact .Zo (x:=Vl.zero) rfl (HF.o.below V.o (zoZ _) (zoZ _))
 ·have hv:qI tk 5 [⟨xk,xn,xs⟩,⟨yk,yn,ys⟩]=some (.num (wrap64 (xn.tdiv yn))):=by unfold qI;rw[if_pos R,if_neg zr,if_neg zr,if_neg zr,if_neg zr,if_pos zr];show(if yn=0 then none else some (Vl.num _))=_;rw[if_neg hy];rfl
  rw[hv];clear hv;have ab:=fun W=>zcT W 5 xn yn hy zp
  simp only[show((6:Int)=5)=False from zp,if_true,if_false,if_pos (rfl:(5:Int)=5)]at ab;have af:=zz ab;clear ab hy;have Hb:=zz (qs R);obtain⟨W1,I,hX⟩:=xj w 43 #[.int .i8 0,.int .i64 0,.string ⟨#[]⟩];have ad:=zz I;have HX:=zz hX;have ct:(w.alloc (.cells #[.int .i8 0,.int .i64 0,.string ⟨#[]⟩] 43)).cell? ⟨2,5,none⟩=some (.int .i8 (tk 5)):=by
   rw[I];exact(hX.below.cell (p:=⟨2,5,none⟩) hT.lt).trans (hT.cell 5 zr)
  have L:=zz (fun W (Y:Bl w W)=>YM W (tk 5) _ cap 2 _ rfl (hl.below Y) Z zr);clear hX I hT;go_enter func244,ntmps244;go_upto_region 14 with(go_at_call 264;rw[ad.o];refine(L.o _ HX.o.below).mono ?_;rintro e r⟨rfl,N⟩;rw[Hb.o];have O:=zz (zu HX.o.below N);have aa:=zz (HX.o.b0.below N);clear N ct)
  have H0:Kz (∀W,zh (·=w.heap.size) r W->_):=fun W Y=>Hd.o W ((Y.block b (by have:=U.o;have:=O.o.size;omega) (by have:=U.o;omega)).trans (O.o.block b U.o))
  refine xX [0,0,0,0,0,0,0,0,0,2,0,0,0,0,0] (fun W=>zh (·=w.heap.size) r W) ?_
  repeat refine zT H0.o ?_
  refine xc fun K hK=>?_
  go_simp;refine(af.o _).mono ?_;rintro e w3⟨rfl,h⟩;have V:=zz (zu O.o ((Below.refl _ _).drew.trans h));have X:=zz (aa.o.below ((Below.refl r.heap.size r).drew.trans h));refine hK.out _ _ (zh.xi _ ((Below.refl r.heap.size r).drew.trans h)) (fun _=>trivial) ?_;have ag:=zz (zh.xi (·=w.heap.size) ((Below.refl r.heap.size r).drew.trans h));clear hK K h;try refine zQ ?_
  repeat refine zT H0.o ?_
  refine xu ?_
  go_wp2_with (first
   |(go_at_call 265;refine(VO _ _).mono ?_;rintro e w3⟨rfl,h⟩;simp only[Vl.num,Vl.cells];have V:=zz (zu V.o h);have X:=zz (X.o.below h);clear h)
   |(refine xy 43 _ _ rfl ?_;refine yE 43 w.heap.size 0 X.o [.int .i8 1,.int .i64 (wrap64 (xn.tdiv yn)),.string ⟨#[]⟩] ?_;intro W9 q;have z0:=q.zG.cell 0;have z1:=q.zG.cell 1;have z2:=q.zG.cell 2;have HF:=zz q;clear q))
  simp only[zpr,zpa,zpe,zpc,zo9,zpg]at z0 z1 z2;refine bodyPost_ret (v:=.tuple #[.agg #[.int .i8 1,.int .i64 (wrap64 (xn.tdiv yn)),.string ⟨#[]⟩],.bool true]) (by simp[results,results244,go_sem,z0,z1,z2]) rfl ?_;exact .Yp rfl (HF.o.below V.o (zoZ _) (zoZ _))
theorem zjz(w:World)(tk:Nat->Int)(hT:Tk w tk)(A:Option Addr)(cap:Nat)(l:List Vl)(hl:zY Vl.cells w A l)(Z:∀v∈l,v.ok)(hn:l.length=2)(R:yW (tk 6) l):
 Calls prog 244 #[.int .i8 6,.slice A 2 cap] w (yV (qI tk 6 l) w):=by
 obtain⟨x,y,rfl⟩:∃x y,l=[x,y]:=by
  match l,hn with
  |[x,y],_=>exact⟨x,y,rfl⟩
 obtain⟨b,o,rfl,r,I⟩:=hl.at (c:=2) (fun _=>rfl) 0 zp;obtain⟨b',o',ac,q,h⟩:=hl.at (c:=2) (fun _=>rfl) 1 zp;injection ac with ac
 injection ac with ae ah
 subst ae ah;have aj:=Vl.Yo (Z x zp);have ai:=Vl.Yo (Z y zp);simp only[zpN,zqy,zqu,zpO,zq1,Nat.reduceAdd]at I h;obtain⟨xk,xn,xs⟩:=x;obtain⟨yk,yn,ys⟩:=y;simp only[Vl.cells]at I h;have Hd:=zz (show ∀W,W.heap[b]? = w.heap[b]?->W.cell? ⟨b,o+1,none⟩=some (.int .i64 xn)/\W.cell? ⟨b,o+2,none⟩=some (.string xs)/\W.cell? ⟨b,o+3+1,none⟩=some (.int .i64 yn)/\W.cell? ⟨b,o+3+2,none⟩=some (.string ys)from fun W Y=>
  have e:=fun j=>World.cell?_of_block (w:=w) (w':=W) (a:=⟨b,j,none⟩) Y
  ⟨(e _).trans (I 1 _ rfl),(e _).trans (I 2 _ rfl),(e _).trans (h 1 _ rfl),(e _).trans (h 2 _ rfl)⟩)
 have U:=zz r;clear I h r q
 by_cases hy:yn=0
 ·subst hy;have hv:qI tk 6 [⟨xk,xn,xs⟩,⟨yk,0,ys⟩]=none:=by unfold qI;rw[if_pos R,if_neg zr,if_neg zr,if_neg zr,if_neg zr,if_pos zr];rfl
  rw[hv];clear hv;have Hb:=zz (qs R);obtain⟨W1,I,hX⟩:=xj w 43 #[.int .i8 0,.int .i64 0,.string ⟨#[]⟩];have ad:=zz I;have HX:=zz hX;have ct:(w.alloc (.cells #[.int .i8 0,.int .i64 0,.string ⟨#[]⟩] 43)).cell? ⟨2,6,none⟩=some (.int .i8 (tk 6)):=by
   rw[I];exact(hX.below.cell (p:=⟨2,6,none⟩) hT.lt).trans (hT.cell 6 zr)
  have L:=zz (fun W (Y:Bl w W)=>YM W (tk 6) _ cap 2 _ rfl (hl.below Y) Z zr);clear hX I hT;go_enter func244,ntmps244;go_upto_region 14 with(go_at_call 264;rw[ad.o];refine(L.o _ HX.o.below).mono ?_;rintro e r⟨rfl,N⟩;rw[Hb.o];have O:=zz (zu HX.o.below N);have aa:=zz (HX.o.b0.below N);clear N ct)
  have H0:Kz (∀W,zh (·=w.heap.size) r W->_):=fun W Y=>Hd.o W ((Y.block b (by have:=U.o;have:=O.o.size;omega) (by have:=U.o;omega)).trans (O.o.block b U.o))
  refine xX [0,0,0,0,0,0,0,0,0,2,0,0,0,0,0] (fun W=>zh (·=w.heap.size) r W) ?_
  repeat refine zT H0.o ?_
  refine xc fun K hK=>?_
  go_simp;refine(zdL _ 6 xn zp).mono ?_;rintro e w3⟨rfl,h⟩;have V:=zz (zu O.o ((Below.refl _ _).drew.trans h));have X:=zz (aa.o.below ((Below.refl r.heap.size r).drew.trans h));refine hK.out _ _ (zh.xi _ ((Below.refl r.heap.size r).drew.trans h)) (fun _=>trivial) ?_;have ag:=zz (zh.xi (·=w.heap.size) ((Below.refl r.heap.size r).drew.trans h));clear hK K h;try refine zQ ?_
  repeat refine zT H0.o ?_
  refine xu ?_
  go_wp2_with (first
   |fail
   |(refine xy 43 _ _ rfl ?_;refine yE 43 w.heap.size 0 X.o [.int .i8 0,.int .i64 0,.string ⟨#[]⟩] ?_;intro W9 q;have z0:=q.zG.cell 0;have z1:=q.zG.cell 1;have z2:=q.zG.cell 2;have HF:=zz q;clear q))
  simp only[zpr,zpa,zpe,zpc,zo9,zpg]at z0 z1 z2;refine bodyPost_ret (v:=.tuple #[.agg #[.int .i8 0,.int .i64 0,.string ⟨#[]⟩],.bool false]) (by simp[results,results244,go_sem,z0,z1,z2]) rfl ?_;exact .Zo (x:=Vl.zero) rfl (HF.o.below V.o (zoZ _) (zoZ _))
 ·have hv:qI tk 6 [⟨xk,xn,xs⟩,⟨yk,yn,ys⟩]=some (.num (xn.tmod yn)):=by unfold qI;rw[if_pos R,if_neg zr,if_neg zr,if_neg zr,if_neg zr,if_pos zr];show(if yn=0 then none else some (Vl.num _))=_;rw[if_neg hy];rfl
  rw[hv];clear hv;have ab:=fun W=>zcT W 6 xn yn hy zp
  simp only[show((6:Int)=5)=False from zp,if_true,if_false,if_pos (rfl:(5:Int)=5)]at ab;have af:=zz ab;clear ab hy;have Hb:=zz (qs R);obtain⟨W1,I,hX⟩:=xj w 43 #[.int .i8 0,.int .i64 0,.string ⟨#[]⟩];have ad:=zz I;have HX:=zz hX;have ct:(w.alloc (.cells #[.int .i8 0,.int .i64 0,.string ⟨#[]⟩] 43)).cell? ⟨2,6,none⟩=some (.int .i8 (tk 6)):=by
   rw[I];exact(hX.below.cell (p:=⟨2,6,none⟩) hT.lt).trans (hT.cell 6 zr)
  have L:=zz (fun W (Y:Bl w W)=>YM W (tk 6) _ cap 2 _ rfl (hl.below Y) Z zr);clear hX I hT;go_enter func244,ntmps244;go_upto_region 14 with(go_at_call 264;rw[ad.o];refine(L.o _ HX.o.below).mono ?_;rintro e r⟨rfl,N⟩;rw[Hb.o];have O:=zz (zu HX.o.below N);have aa:=zz (HX.o.b0.below N);clear N ct)
  have H0:Kz (∀W,zh (·=w.heap.size) r W->_):=fun W Y=>Hd.o W ((Y.block b (by have:=U.o;have:=O.o.size;omega) (by have:=U.o;omega)).trans (O.o.block b U.o))
  refine xX [0,0,0,0,0,0,0,0,0,2,0,0,0,0,0] (fun W=>zh (·=w.heap.size) r W) ?_
  repeat refine zT H0.o ?_
  refine xc fun K hK=>?_
  go_simp;refine(af.o _).mono ?_;rintro e w3⟨rfl,h⟩;have V:=zz (zu O.o ((Below.refl _ _).drew.trans h));have X:=zz (aa.o.below ((Below.refl r.heap.size r).drew.trans h));refine hK.out _ _ (zh.xi _ ((Below.refl r.heap.size r).drew.trans h)) (fun _=>trivial) ?_;have ag:=zz (zh.xi (·=w.heap.size) ((Below.refl r.heap.size r).drew.trans h));clear hK K h;try refine zQ ?_
  repeat refine zT H0.o ?_
  refine xu ?_
  go_wp2_with (first
   |(go_at_call 265;refine(VO _ _).mono ?_;rintro e w3⟨rfl,h⟩;simp only[Vl.num,Vl.cells];have V:=zz (zu V.o h);have X:=zz (X.o.below h);clear h)
   |(refine xy 43 _ _ rfl ?_;refine yE 43 w.heap.size 0 X.o [.int .i8 1,.int .i64 (xn.tmod yn),.string ⟨#[]⟩] ?_;intro W9 q;have z0:=q.zG.cell 0;have z1:=q.zG.cell 1;have z2:=q.zG.cell 2;have HF:=zz q;clear q))
  simp only[zpr,zpa,zpe,zpc,zo9,zpg]at z0 z1 z2;refine bodyPost_ret (v:=.tuple #[.agg #[.int .i8 1,.int .i64 (xn.tmod yn),.string ⟨#[]⟩],.bool true]) (by simp[results,results244,go_sem,z0,z1,z2]) rfl ?_;exact .Yp rfl (HF.o.below V.o (zoZ _) (zoZ _))
theorem zmr(w:World)(tk:Nat->Int)(hT:Tk w tk)(A:Option Addr)(cap:Nat)(l:List Vl)(hl:zY Vl.cells w A l)(aa:∀v∈l,v.ok)(hn:l.length=2)(Z:yW (tk 7) l):
 Calls prog 244 #[.int .i8 7,.slice A 2 cap] w (yV (qI tk 7 l) w):=by
 obtain⟨x,y,rfl⟩:∃x y,l=[x,y]:=by
  match l,hn with
  |[x,y],_=>exact⟨x,y,rfl⟩
 obtain⟨b,o,rfl,r,I⟩:=hl.at (c:=2) (fun _=>rfl) 0 zp;obtain⟨b',o',af,q,h⟩:=hl.at (c:=2) (fun _=>rfl) 1 zp;injection af with af
 injection af with aj al
 subst aj al;have ak:=Vl.Yo (aa x zp);have ai:=Vl.Yo (aa y zp);simp only[zpN,zqy,zqu,zpO,zq1,Nat.reduceAdd]at I h;obtain⟨xk,xn,U⟩:=x;obtain⟨yk,yn,V⟩:=y;simp only[Vl.cells]at I h;have Hd:=zz (show ∀W,W.heap[b]? = w.heap[b]?->W.cell? ⟨b,o+1,none⟩=some (.int .i64 xn)/\W.cell? ⟨b,o+2,none⟩=some (.string U)/\W.cell? ⟨b,o+3+1,none⟩=some (.int .i64 yn)/\W.cell? ⟨b,o+3+2,none⟩=some (.string V)from fun W hW=>
  have e:=fun j=>World.cell?_of_block (w:=w) (w':=W) (a:=⟨b,j,none⟩) hW
  ⟨(e _).trans (I 1 _ rfl),(e _).trans (I 2 _ rfl),(e _).trans (h 1 _ rfl),(e _).trans (h 2 _ rfl)⟩)
 have R:=zz r;clear I h r q;have h:qI tk 7 [⟨xk,xn,U⟩,⟨yk,yn,V⟩]=if(U++V).size<=200 then some (.YI (U++V))else none:=by unfold qI;rw[if_pos Z,if_neg zr,if_neg zr,if_neg zr,if_neg zr,if_neg zr,if_pos rfl];rfl
 rw[h];clear h;have ah:(U++V).size<=400:=by rw[zp5];have h1:U.size<=200:=ak;have h2:V.size<=200:=ai;omega
 have am:∀W,(Op.stringOp .add U V).run prog W=.ok (.string (U++V)) W:=fun W=>by
  rw[zp5]at ah;simp[Op.stringOp];omega
 by_cases hs:(U++V).size<=200
 ·rw[if_pos hs];have X:=fun W=>GV W (U++V)
  rw[if_pos hs]at X;clear hs;have Hb:=zz (qs Z);obtain⟨W1,I,hX⟩:=xj w 43 #[.int .i8 0,.int .i64 0,.string ⟨#[]⟩];have ag:=zz I;have HX:=zz hX;have ct:(w.alloc (.cells #[.int .i8 0,.int .i64 0,.string ⟨#[]⟩] 43)).cell? ⟨2,7,none⟩=some (.int .i8 (tk 7)):=by
   rw[I];exact(hX.below.cell (p:=⟨2,7,none⟩) hT.lt).trans (hT.cell 7 zr)
  have L:=zz (fun W (hW:Bl w W)=>YM W (tk 7) _ cap 2 _ rfl (hl.below hW) aa zr);clear hX I hT;go_enter func244,ntmps244;go_upto_region 19 with(go_at_call 264;rw[ag.o];refine(L.o _ HX.o.below).mono ?_;rintro e r⟨rfl,N⟩;rw[Hb.o];have O:=zz (zu HX.o.below N);have ae:=zz (HX.o.b0.below N);clear N ct)
  have H0:Kz (∀W,zh (·=w.heap.size) r W->_):=fun W hW=>Hd.o W ((hW.block b (by have:=R.o;have:=O.o.size;omega) (by have:=R.o;omega)).trans (O.o.block b R.o))
  refine xX [0,0,0,0,0,0,0,0,0,2,0,0,2,0] (fun W=>zh (·=w.heap.size) r W) ?_
  repeat refine zT H0.o ?_
  refine xc fun K Y=>?_
  go_simp;try simp only[Gn]
  refine(X _).mono ?_;rintro e w3⟨rfl,q⟩;simp only[Vl.num,Vl.YI,Vl.cells];have ab:=zz (zu O.o ((Below.refl _ _).drew.trans q));have ac:=zz (ae.o.below ((Below.refl r.heap.size r).drew.trans q));refine Y.out _ _ (zh.xi _ ((Below.refl r.heap.size r).drew.trans q)) (fun _=>trivial) ?_;have ad:=zz (zh.xi (·=w.heap.size) ((Below.refl r.heap.size r).drew.trans q));clear Y K q;try refine zQ ?_
  repeat refine zT H0.o ?_
  refine xc fun K Y=>?_
  refine Xi 43 _ _ rfl w.heap.size 0 _ _ ac.o [.int .i8 2,.int .i64 0,.string (U++V)] rfl rfl zp (zo) zt ?_;intro W9 h;have z0:=h.zG.cell 0;have z1:=h.zG.cell 1;have z2:=h.zG.cell 2;have HF:=zz h;refine Y.out _ _ (ad.o.trans h.zC (fun x hx _=>hx)) (fun _=>trivial) ?_;clear Y K h;try refine zQ ?_
  repeat refine zT H0.o ?_
  refine xu ?_;simp only[zpr,zpa,zpe,zpc,zo9,zpg]at z0 z1 z2;go_wp2;refine bodyPost_ret (v:=.tuple #[.agg #[.int .i8 2,.int .i64 0,.string (U++V)],.bool true]) (by simp[results,results244,go_sem,z0,z1,z2]) rfl ?_;exact .Yp rfl (HF.o.below ab.o (zoZ _) (zoZ _))
 ·rw[if_neg hs];have X:=fun W=>GV W (U++V)
  rw[if_neg hs]at X;clear hs;have Hb:=zz (qs Z);obtain⟨W1,I,hX⟩:=xj w 43 #[.int .i8 0,.int .i64 0,.string ⟨#[]⟩];have ag:=zz I;have HX:=zz hX;have ct:(w.alloc (.cells #[.int .i8 0,.int .i64 0,.string ⟨#[]⟩] 43)).cell? ⟨2,7,none⟩=some (.int .i8 (tk 7)):=by
   rw[I];exact(hX.below.cell (p:=⟨2,7,none⟩) hT.lt).trans (hT.cell 7 zr)
  have L:=zz (fun W (hW:Bl w W)=>YM W (tk 7) _ cap 2 _ rfl (hl.below hW) aa zr);clear hX I hT;go_enter func244,ntmps244;go_upto_region 19 with(go_at_call 264;rw[ag.o];refine(L.o _ HX.o.below).mono ?_;rintro e r⟨rfl,N⟩;rw[Hb.o];have O:=zz (zu HX.o.below N);have ae:=zz (HX.o.b0.below N);clear N ct)
  have H0:Kz (∀W,zh (·=w.heap.size) r W->_):=fun W hW=>Hd.o W ((hW.block b (by have:=R.o;have:=O.o.size;omega) (by have:=R.o;omega)).trans (O.o.block b R.o))
  refine xX [0,0,0,0,0,0,0,0,0,2,0,0,2,0] (fun W=>zh (·=w.heap.size) r W) ?_
  repeat refine zT H0.o ?_
  refine xc fun K Y=>?_
  go_simp;try simp only[Gn]
  refine(X _).mono ?_;rintro e w3⟨⟨⟨zk,zn,I⟩,rfl⟩,q⟩;simp only[Vl.num,Vl.YI,Vl.cells];have ab:=zz (zu O.o ((Below.refl _ _).drew.trans q));have ac:=zz (ae.o.below ((Below.refl r.heap.size r).drew.trans q));refine Y.out _ _ (zh.xi _ ((Below.refl r.heap.size r).drew.trans q)) (fun _=>trivial) ?_;have ad:=zz (zh.xi (·=w.heap.size) ((Below.refl r.heap.size r).drew.trans q));clear Y K q;try refine zQ ?_
  repeat refine zT H0.o ?_
  refine xc fun K Y=>?_
  refine Xi 43 _ _ rfl w.heap.size 0 _ _ ac.o [.int .i8 zk,.int .i64 zn,.string I] rfl rfl zp (zo) zt ?_;intro W9 h;have z0:=h.zG.cell 0;have z1:=h.zG.cell 1;have z2:=h.zG.cell 2;have HF:=zz h;refine Y.out _ _ (ad.o.trans h.zC (fun x hx _=>hx)) (fun _=>trivial) ?_;clear Y K h;try refine zQ ?_
  repeat refine zT H0.o ?_
  refine xu ?_;simp only[zpr,zpa,zpe,zpc,zo9,zpg]at z0 z1 z2;go_wp2;refine bodyPost_ret (v:=.tuple #[.agg #[.int .i8 zk,.int .i64 zn,.string I],.bool false]) (by simp[results,results244,go_sem,z0,z1,z2]) rfl ?_;exact .Zo (x:=⟨zk,zn,I⟩) rfl (HF.o.below ab.o (zoZ _) (zoZ _))
theorem zgk(w:World)(tk:Nat->Int)(Z:Tk w tk)(A:Option Addr)(cap:Nat)(l:List Vl)(hl:zY Vl.cells w A l)(U:∀v∈l,v.ok)(hn:l.length=1)(r:yW (tk 8) l):
 Calls prog 244 #[.int .i8 8,.slice A 1 cap] w (yV (qI tk 8 l) w):=by
 obtain⟨x,rfl⟩:∃x,l=[x]:=by
  obtain⟨-,h,-⟩:=r
  match l,hn with
  |[x],_=>exact⟨x,rfl⟩
 obtain⟨b,o,rfl,q,I⟩:=hl.at (c:=2) (fun _=>rfl) 0 zp;have ab:=Vl.Yo (U x zp);simp only[zpN,zqu,zpO]at I;obtain⟨xk,xn,O⟩:=x;simp only[Vl.cells]at I;have Hd:Kz (∀W,Bl w W->W.cell? ⟨b,o,none⟩=some (.int .i8 xk)/\W.cell? ⟨b,o+1,none⟩=some (.int .i64 xn)/\W.cell? ⟨b,o+2,none⟩=some (.string O)):=fun W N=>three (yo I N q)
 clear I q;have q:qI tk 8 [⟨xk,xn,O⟩]=some (.num (O.size:Int)):=by unfold qI;rw[if_pos r,if_neg zr,if_neg zr,if_neg zr,if_neg zr,if_neg zr,if_neg zr,if_pos rfl];rfl
 rw[q];clear q;have Hb:=zz (qs r);obtain⟨W1,q,L⟩:=xj w 43 #[.int .i8 0,.int .i64 0,.string ⟨#[]⟩];have aa:=zz q;have HX:=zz L;have V:(w.alloc (.cells #[.int .i8 0,.int .i64 0,.string ⟨#[]⟩] 43)).cell? ⟨2,8,none⟩=some (.int .i8 (tk 8)):=by
  rw[q];exact(L.below.cell (p:=⟨2,8,none⟩) Z.lt).trans (Z.cell 8 zr)
 have I:=zz (fun W (N:Bl w W)=>YM W (tk 8) _ cap 1 _ rfl (hl.below N) U zr);clear L q Z;go_enter func244,ntmps244;go_upto_region 21 with(go_at_call 264;rw[aa.o];refine(I.o _ HX.o.below).mono ?_;rintro e w2⟨rfl,L⟩;rw[Hb.o];have R:=zz (zu HX.o.below L);have Y:=zz (HX.o.b0.below L);clear L V)
 obtain⟨d0,d1,d2⟩:=Hd.o _ R.o
 go_wp2_with (first
  |(go_at_call 265;refine(VO _ _).mono ?_;rintro e w3⟨rfl,N⟩;simp only[Vl.num,Vl.cells];have V:=zz (zu R.o N);have X:=zz (Y.o.below N);clear N)
  |(refine xy 43 _ _ rfl ?_;refine yE 43 w.heap.size 0 X.o [.int .i8 1,.int .i64 (O.size:Int),.string ⟨#[]⟩] ?_;intro W9 q;have z0:=q.zG.cell 0;have z1:=q.zG.cell 1;have z2:=q.zG.cell 2;have HF:=zz q;clear q))
 simp only[zpr,zpa,zpe,zpc,zo9,zpg]at z0 z1 z2;refine bodyPost_ret (v:=.tuple #[.agg #[.int .i8 1,.int .i64 (O.size:Int),.string ⟨#[]⟩],.bool true]) (by simp[results,results244,go_sem,z0,z1,z2]) rfl ?_;exact .Yp rfl (HF.o.below V.o (zoZ _) (zoZ _))
end
