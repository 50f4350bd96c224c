/-
  A run: steps made for it.
-/
import Derived.Test.YtfdickkdlcgicaaGreatDoorQ34
set_option maxRecDepth 100000
set_option maxHeartbeats 8000000
set_option linter.all false
namespace Go.Proofs.YtfdickkdlcgicaaGreatDoor.C
open Go.Proofs.Tryz Go Go.RowKit Go.Maps Go.WideMaps
section
open Classical in
noncomputable def Yz(body:List Li)(lo hi:Nat->Nat)(s:Sx):Sv:=
 match body[s.s.lit]? with
 |none=>.Xm ⟨⟨#[]⟩,none,0,[]⟩ 0
 |some x=>
  if s.s.k=4 then .Xm x.a s.s.known
  else if s.s.k=5 then .test x
  else if s.s.k=6 then(if x.l.q=0/\[x.l.t.v]=s.s.gives then .set x.l.t.v x.r else .set (s.s.gives.headD ⟨#[]⟩) x.l)
  else .rows x.a s.s.known s.A s.cap s.s.gives (lo s.s.lit) (hi s.s.lit)
theorem zkr(body:List Li)(lo hi:Nat->Nat)(s:Sx):(Yz body lo hi s).st=madeOf body lo hi s.s:=by
 unfold Yz madeOf
 rcases body[s.s.lit]? with _|x
 ·rfl
 ·simp only;split
  ·rfl
  ·split
   ·rfl
   ·split
    ·split<;>rfl
    ·rfl
structure Mk (w:World) (F T:Option Addr) (los his:List Nat) (nb lit:Nat):Prop where
 f:zZ yX w F los
 t:zZ yX w T his
 fl:los.length=nb
 tl:his.length=nb
 lit:lit<nb
 le:nb<=1048576
theorem zia(w:World)(pp:ByteArray)(pA pB sA gA:Option Addr)(pn N U L sn R gn O h q:Nat)(F T:Option Addr)(aa Y:Nat)(ae ah:List Nat)(hm:Mk w F T ae ah U h)(body:List Li)(hB:zZ Li.cells w pB body)(hb:body.length=U)(x:Li)(hx:body[h]? = some x):
 Calls prog 108 #[.agg #[.string pp,.slice pA pn N,.slice pB U L,.slice sA sn R],.agg #[.int .i8 4,.int .i64 (h:Int),.int .u32 (q:Int),.slice gA gn O],.slice F U aa,.slice T U Y] w
  fun e I=>e=.returned (Sv.Xm x.a q).val/\Bl w I:=by
 have X:=hm.lit;have al:=hm.le;have Z:h<body.length:=by rw[hb];exact X
 have ab:body[h]=x:=by rw[zpF Z]at hx;injection hx
 have ag:=zz (fun W (I:Bl w W)=>hB.below I);clear hm hB;obtain⟨W0,V,I⟩:=yb w 57 107 #[.string pp,.slice pA pn N,.slice pB U L,.slice sA sn R] #[.int .i8 4,.int .i64 (h:Int),.int .u32 (q:Int),.slice gA gn O];have ad:=zz V;have HX:=zz I;have p2:=I.b0.cell 2;have ac:=I.b1.cell 1;have af:=I.b1.cell 0;clear I V;go_enter func108,ntmps108;go_upto_region 1 with fail
 rw[ad.o];obtain⟨b,o,rfl,ak,I⟩:=(ag.o _ HX.o.below).at Li.xG h Z;rw[ab]at I
 replace I:W0.rangeAt b (o+h*16) x.cells:=I
 have Hr:=zz I;clear I;go_upto_region 2 with(first
  |(refine xW 50 _ rfl ?_;refine wpList_load_mid rfl 50 _ rfl b (o+h*16) rfl x.cells _ Hr.o underlying50 rfl (q9 x) ?_)
  |(refine xy 50 _ _ rfl ?_;refine XP rfl 50 _ _ rfl _ x.cells rfl rfl ?z (q9 x) ?one ?_))
 case z=>rw[Li.xG];rfl
 case one=>exact x.Ys
 intro W5 I;have aj:=(HX.o.b1.below I.below).cell 0;have ai:=(HX.o.b1.below I.below).cell 2;have c1:W5.cell? ⟨W0.heap.size,1,none⟩=some (.string x.a.p):=I.b0.cell 1;have c2:W5.cell? ⟨W0.heap.size,2,none⟩=some (.slice x.a.A x.a.args.length x.a.cap):=I.b0.cell 2;have V:=zz (zl HX.o.below I.below);clear I p2 ac af;go_wp2;go_returns;exact⟨rfl,V.o⟩
theorem zjT(w:World)(pp:ByteArray)(pA pB sA gA:Option Addr)(pn O nb I sn R gn U q L:Nat)(F T:Option Addr)(ae ad:Nat)(an ai:List Nat)(hm:Mk w F T an ai nb q)(body:List Li)(hB:zZ Li.cells w pB body)(hb:body.length=nb)(x:Li)(hx:body[q]? = some x):
 Calls prog 108 #[.agg #[.string pp,.slice pA pn O,.slice pB nb I,.slice sA sn R],.agg #[.int .i8 5,.int .i64 (q:Int),.int .u32 (L:Int),.slice gA gn U],.slice F nb ae,.slice T nb ad] w
  fun e h=>e=.returned (Sv.test x).val/\Bl w h:=by
 have aa:=hm.lit;have aq:=hm.le;have ag:q<body.length:=by rw[hb];exact aa
 have ab:body[q]=x:=by rw[zpF ag]at hx;injection hx
 have ao:=zz (fun W (h:Bl w W)=>hB.below h);have ar:=zz hm;clear hm hB;obtain⟨W0,N,h⟩:=yb w 57 107 #[.string pp,.slice pA pn O,.slice pB nb I,.slice sA sn R] #[.int .i8 5,.int .i64 (q:Int),.int .u32 (L:Int),.slice gA gn U];have am:=zz N;have HX:=zz h;have p2:=h.b0.cell 2;have ak:=h.b1.cell 1;have al:=h.b1.cell 0;clear h N;go_enter func108,ntmps108;go_upto_region 1 with fail
 rw[am.o];obtain⟨b,o,rfl,ap,Z⟩:=(ao.o _ HX.o.below).at Li.xG q ag;rw[ab]at Z
 replace Z:W0.rangeAt b (o+q*16) x.cells:=Z
 obtain⟨k,⟨p,A,af,ac⟩,rl,⟨q1,⟨v1,⟨k1,n1,s1⟩⟩,A1,V,aj⟩,⟨q2,⟨v2,⟨k2,n2,s2⟩⟩,A2,X,ah⟩⟩:=x;simp only[Li.cells,Ex.cells,zpJ,zpI]at Z;obtain⟨N0,h⟩:∃n,ac.length=n:=⟨_,rfl⟩;obtain⟨N1,Y⟩:∃n,aj.length=n:=⟨_,rfl⟩;obtain⟨N2,N⟩:∃n,ah.length=n:=⟨_,rfl⟩;rw[h,Y,N]at Z;have HN:=zz (zpG h (zpG Y N));clear h Y N;have Hr:=zz Z;clear Z ab hx;have Z:(prog.info? 50).map (·.size)=some 16:=zo;go_upto_region 2 with(refine xW 50 _ rfl ?_;refine wpList_load_mid rfl 50 _ rfl b (o+q*16) rfl [.int .i8 k,.string p,.slice A N0 af,.int .i8 rl,.int .i8 q1,.string v1,.int .i8 k1,.int .i64 n1,.string s1,.slice A1 N1 V,.int .i8 q2,.string v2,.int .i8 k2,.int .i64 n2,.string s2,.slice A2 N2 X] _ Hr.o underlying50 rfl Z ?_)
 obtain⟨W5,Y,h⟩:=xi W0 50 #[.int .i8 k,.string p,.slice A N0 af,.int .i8 rl,.int .i8 q1,.string v1,.int .i8 k1,.int .i64 n1,.string s1,.slice A1 N1 V,.int .i8 q2,.string v2,.int .i8 k2,.int .i64 n2,.string s2,.slice A2 N2 X];rw[Y];have N:=zz h;clear h Y p2 ak al;have ab:=zz (zl HX.o.below N.o.below);have h:=zz N.o.b0;have Y:=zz (HX.o.b1.below N.o.below);clear N;have s0:=Y.o.cell 0;have c0:=h.o.cell 0;have c1:=h.o.cell 1;have c2:=h.o.cell 2;have c3:=h.o.cell 3;have c4:=h.o.cell 4;have c5:=h.o.cell 5;have c6:=h.o.cell 6;have c7:=h.o.cell 7;have c8:=h.o.cell 8;have c9:=h.o.cell 9;have ak:=h.o.cell 10;have au:=h.o.cell 11;have al:=h.o.cell 12;have aw:=h.o.cell 13;have N:=h.o.cell 14;have av:=h.o.cell 15;go_wp2;go_returns;refine⟨?_,ab.o⟩;simp only[Sv.val,Li.cells,Ex.cells,HN.o.1,HN.o.2.1,HN.o.2.2];rfl
end
