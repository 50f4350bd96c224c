/-
  A run: steps made for it.
-/
import Derived.Test.YtfdickkdlcgicaaGreatDoorP34
set_option maxRecDepth 100000
set_option maxHeartbeats 8000000
set_option linter.all false
namespace Go.Proofs.YtfdickkdlcgicaaGreatDoor.C
open Go.Proofs.Tryz Go Go.RowKit Go.Maps Go.WideMaps
section
open Classical in
noncomputable def Yr(body:List Li)(lo hi:Nat->Nat)(s:Sx):Sv:=
 match body[s.s.lit]? with
 |none=>.Xb ⟨⟨#[]⟩,none,0,[]⟩ 0
 |some x=>
  if s.s.k=4 then .Xb x.a s.s.known
  else if s.s.k=5 then .test x
  else if s.s.k=6 then(if x.l.q=0/\[x.l.t.v]=s.s.gives then .set x.l.t.v x.r else .set (s.s.gives.headD ⟨#[]⟩) x.l)
  else .rows x.a s.s.known s.A s.cap s.s.gives (lo s.s.lit) (hi s.s.lit)
theorem zjU(body:List Li)(lo hi:Nat->Nat)(s:Sx):(Yr body lo hi s).st=madeOf body lo hi s.s:=by
 unfold Yr madeOf
 rcases body[s.s.lit]? with _|x
 ·rfl
 ·simp only;split
  ·rfl
  ·split
   ·rfl
   ·split
    ·split<;>rfl
    ·rfl
structure Mk (w:World) (F T:Option Addr) (los his:List Nat) (nb lit:Nat):Prop where
 f:zY y5 w F los
 t:zY y5 w T his
 fl:los.length=nb
 tl:his.length=nb
 lit:lit<nb
 le:nb<=1048576
theorem zhA(w:World)(pp:ByteArray)(pA pB sA gA:Option Addr)(pn L R I sn O gn N h q:Nat)(F T:Option Addr)(Z X:Nat)(ad ag:List Nat)(hm:Mk w F T ad ag R h)(body:List Li)(hB:zY Li.cells w pB body)(hb:body.length=R)(x:Li)(hx:body[h]? = some x):
 Calls prog 108 #[.agg #[.string pp,.slice pA pn L,.slice pB R I,.slice sA sn O],.agg #[.int .i8 4,.int .i64 (h:Int),.int .u32 (q:Int),.slice gA gn N],.slice F R Z,.slice T R X] w
  fun e r=>e=.returned (Sv.Xb x.a q).val/\Bl w r:=by
 have V:=hm.lit;have ak:=hm.le;have Y:h<body.length:=by rw[hb];exact V
 have aa:body[h]=x:=by rw[zo6 Y]at hx;injection hx
 have af:=zz (fun W (r:Bl w W)=>hB.below r);clear hm hB;obtain⟨W0,U,r⟩:=ya w 57 107 #[.string pp,.slice pA pn L,.slice pB R I,.slice sA sn O] #[.int .i8 4,.int .i64 (h:Int),.int .u32 (q:Int),.slice gA gn N];have ac:=zz U;have HX:=zz r;have p2:=r.b0.cell 2;have ab:=r.b1.cell 1;have ae:=r.b1.cell 0;clear r U;go_enter func108,ntmps108;go_upto_region 1 with fail
 rw[ac.o];obtain⟨b,o,rfl,aj,r⟩:=(af.o _ HX.o.below).at Li.xF h Y;rw[aa]at r
 replace r:W0.rangeAt b (o+h*16) x.cells:=r
 have Hr:=zz r;clear r;go_upto_region 2 with(first
  |(refine xV 50 _ rfl ?_;refine wpList_load_mid rfl 50 _ rfl b (o+h*16) rfl x.cells _ Hr.o underlying50 rfl (qV x) ?_)
  |(refine xy 50 _ _ rfl ?_;refine XE rfl 50 _ _ rfl _ x.cells rfl rfl ?z (qV x) ?one ?_))
 case z=>rw[Li.xF];rfl
 case one=>exact x.Yh
 intro W5 r;have ai:=(HX.o.b1.below r.below).cell 0;have ah:=(HX.o.b1.below r.below).cell 2;have c1:W5.cell? ⟨W0.heap.size,1,none⟩=some (.string x.a.p):=r.b0.cell 1;have c2:W5.cell? ⟨W0.heap.size,2,none⟩=some (.slice x.a.A x.a.args.length x.a.cap):=r.b0.cell 2;have U:=zz (zu HX.o.below r.below);clear r p2 ab ae;go_wp2;go_returns;exact⟨rfl,U.o⟩
theorem zjn(w:World)(pp:ByteArray)(pA pB sA gA:Option Addr)(pn N Z r sn O gn R q I:Nat)(F T:Option Addr)(ae ad:Nat)(an ai:List Nat)(hm:Mk w F T an ai Z q)(body:List Li)(hB:zY Li.cells w pB body)(hb:body.length=Z)(x:Li)(hx:body[q]? = some x):
 Calls prog 108 #[.agg #[.string pp,.slice pA pn N,.slice pB Z r,.slice sA sn O],.agg #[.int .i8 5,.int .i64 (q:Int),.int .u32 (I:Int),.slice gA gn R],.slice F Z ae,.slice T Z ad] w
  fun e h=>e=.returned (Sv.test x).val/\Bl w h:=by
 have aa:=hm.lit;have aq:=hm.le;have ag:q<body.length:=by rw[hb];exact aa
 have ab:body[q]=x:=by rw[zo6 ag]at hx;injection hx
 have ao:=zz (fun W (h:Bl w W)=>hB.below h);have ar:=zz hm;clear hm hB;obtain⟨W0,L,h⟩:=ya w 57 107 #[.string pp,.slice pA pn N,.slice pB Z r,.slice sA sn O] #[.int .i8 5,.int .i64 (q:Int),.int .u32 (I:Int),.slice gA gn R];have am:=zz L;have HX:=zz h;have p2:=h.b0.cell 2;have ak:=h.b1.cell 1;have al:=h.b1.cell 0;clear h L;go_enter func108,ntmps108;go_upto_region 1 with fail
 rw[am.o];obtain⟨b,o,rfl,ap,Y⟩:=(ao.o _ HX.o.below).at Li.xF q ag;rw[ab]at Y
 replace Y:W0.rangeAt b (o+q*16) x.cells:=Y
 obtain⟨k,⟨p,A,af,ac⟩,rl,⟨q1,⟨v1,⟨k1,n1,s1⟩⟩,A1,U,aj⟩,⟨q2,⟨v2,⟨k2,n2,s2⟩⟩,A2,V,ah⟩⟩:=x;simp only[Li.cells,Ex.cells,zpc,zpa]at Y;obtain⟨N0,h⟩:∃n,ac.length=n:=⟨_,rfl⟩;obtain⟨N1,X⟩:∃n,aj.length=n:=⟨_,rfl⟩;obtain⟨N2,L⟩:∃n,ah.length=n:=⟨_,rfl⟩;rw[h,X,L]at Y;have HN:=zz (zpf h (zpf X L));clear h X L;have Hr:=zz Y;clear Y ab hx;have Y:(prog.info? 50).map (·.size)=some 16:=zo;go_upto_region 2 with(refine xV 50 _ rfl ?_;refine wpList_load_mid rfl 50 _ rfl b (o+q*16) rfl [.int .i8 k,.string p,.slice A N0 af,.int .i8 rl,.int .i8 q1,.string v1,.int .i8 k1,.int .i64 n1,.string s1,.slice A1 N1 U,.int .i8 q2,.string v2,.int .i8 k2,.int .i64 n2,.string s2,.slice A2 N2 V] _ Hr.o underlying50 rfl Y ?_)
 obtain⟨W5,X,h⟩:=xj W0 50 #[.int .i8 k,.string p,.slice A N0 af,.int .i8 rl,.int .i8 q1,.string v1,.int .i8 k1,.int .i64 n1,.string s1,.slice A1 N1 U,.int .i8 q2,.string v2,.int .i8 k2,.int .i64 n2,.string s2,.slice A2 N2 V];rw[X];have L:=zz h;clear h X p2 ak al;have ab:=zz (zu HX.o.below L.o.below);have h:=zz L.o.b0;have X:=zz (HX.o.b1.below L.o.below);clear L;have s0:=X.o.cell 0;have c0:=h.o.cell 0;have c1:=h.o.cell 1;have c2:=h.o.cell 2;have c3:=h.o.cell 3;have c4:=h.o.cell 4;have c5:=h.o.cell 5;have c6:=h.o.cell 6;have c7:=h.o.cell 7;have c8:=h.o.cell 8;have c9:=h.o.cell 9;have ak:=h.o.cell 10;have au:=h.o.cell 11;have al:=h.o.cell 12;have aw:=h.o.cell 13;have L:=h.o.cell 14;have av:=h.o.cell 15;go_wp2;go_returns;refine⟨?_,ab.o⟩;simp only[Sv.val,Li.cells,Ex.cells,HN.o.1,HN.o.2.1,HN.o.2.2];rfl
end
