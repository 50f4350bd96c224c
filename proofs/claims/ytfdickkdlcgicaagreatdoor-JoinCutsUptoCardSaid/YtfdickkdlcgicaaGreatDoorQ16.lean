/-
  Values: a text's reverse, its characters. Values: what an op
-/
import Derived.Test.YtfdickkdlcgicaaGreatDoorQ15
import Derived.Lib.Bytealg
import Derived.Lib.Small
set_option maxRecDepth 100000
set_option maxHeartbeats 8000000
set_option linter.all false
namespace Go.Proofs.YtfdickkdlcgicaaGreatDoor.C
open Go.Proofs.Tryz Go Go.RowKit Go.Maps Go.WideMaps
variable {tk:Nat->Int}{ρ:Env}
section
theorem zon(w:World)(tk:Nat->Int)(hT:Tk w tk)(A:Option Addr)(cap:Nat)(l:List Vl)(hl:zZ Vl.cells w A l)(af:∀v∈l,v.ok)(hn:l.length=1)(V:y9 (tk 10) l):
 Calls prog 244 #[.int .i8 10,.slice A 1 cap] w (y6 (qQ tk 10 l) w):=by
 obtain⟨x,rfl⟩:∃x,l=[x]:=by
  obtain⟨-,h,-⟩:=V
  match l,hn with
  |[x],_=>exact⟨x,rfl⟩
 obtain⟨b,o,rfl,q,I⟩:=hl.at (c:=2) (fun _=>rfl) 0 zp;have ai:=Vl.Yw (af x zp);simp only[zqj,zqX,zqk]at I;obtain⟨xk,xn,Y⟩:=x;simp only[Vl.cells]at I;have Hd:Kz (∀W,Bl w W->W.cell? ⟨b,o,none⟩=some (.int .i8 xk)/\W.cell? ⟨b,o+1,none⟩=some (.int .i64 xn)/\W.cell? ⟨b,o+2,none⟩=some (.string Y)):=fun W hW=>three (yB I hW q)
 clear I q;have q:qQ tk 10 [⟨xk,xn,Y⟩]=if(ZF Y).size<=200 then some (.YU (ZF Y))else none:=by unfold qQ;rw[if_pos V,if_neg zr,if_neg zr,if_neg zr,if_neg zr,if_neg zr,if_neg zr,if_neg zr,if_neg zr];rfl
 rw[q];clear q;have q:Y.size<=200:=ai;have X:=zz (fun W=>zgx W Y zd);clear q
 by_cases hs:(ZF Y).size<=200
 ·rw[if_pos hs];have L:=fun W=>Tf W (ZF Y)
  rw[if_pos hs]at L;have ah:=zz L;clear hs L;have Hb:=zz (qs V);obtain⟨W1,I,hX⟩:=xi w 43 #[.int .i8 0,.int .i64 0,.string ⟨#[]⟩];have ae:=zz I;have HX:=zz hX;have ct:(w.alloc (.cells #[.int .i8 0,.int .i64 0,.string ⟨#[]⟩] 43)).cell? ⟨2,10,none⟩=some (.int .i8 (tk 10)):=by
   rw[I];exact(hX.below.cell (p:=⟨2,10,none⟩) hT.lt).trans (hT.cell 10 zr)
  have N:=zz (fun W (hW:Bl w W)=>YZ W (tk 10) _ cap 1 _ rfl (hl.below hW) af zr);clear hX I hT;go_enter func244,ntmps244;go_upto_region 28 with(go_at_call 264;rw[ae.o];refine(N.o _ HX.o.below).mono ?_;rintro e w2⟨rfl,O⟩;rw[Hb.o];have Z:=zz (zl HX.o.below O);have ac:=zz (HX.o.b0.below O);clear O ct)
  obtain⟨d0,d1,d2⟩:=Hd.o _ Z.o
  go_wp2_with (first
   |(go_at_call 268;refine(X.o _).mono ?_;rintro e w3⟨rfl,U⟩;have aa:=zz (zl Z.o U);have ab:=zz (ac.o.below U);clear U)
   |(go_at_call 267;refine(ah.o _).mono ?_;rintro e w4⟨rfl,R⟩;simp only[Vl.YU,Vl.cells];have ag:=zz (zl aa.o R);have ad:=zz (ab.o.below R);clear R)
   |(refine xy 43 _ _ rfl ?_;refine yH 43 w.heap.size 0 ad.o [.int .i8 2,.int .i64 0,.string (ZF Y)] ?_;intro W9 q;have z0:=q.zH.cell 0;have z1:=q.zH.cell 1;have z2:=q.zH.cell 2;have HF:=zz q;clear q))
  simp only[zpY,zpI,zpL,zpJ,zpH,zpM]at z0 z1 z2;refine bodyPost_ret (v:=.tuple #[.agg #[.int .i8 2,.int .i64 0,.string (ZF Y)],.bool true]) (by simp[results,results244,go_sem,z0,z1,z2]) rfl ?_;exact .Yx rfl (HF.o.below ag.o (zpx _) (zpx _))
 ·rw[if_neg hs];have L:=fun W=>Tf W (ZF Y)
  rw[if_neg hs]at L;have ah:=zz L;clear hs L;have Hb:=zz (qs V);obtain⟨W1,I,hX⟩:=xi w 43 #[.int .i8 0,.int .i64 0,.string ⟨#[]⟩];have ae:=zz I;have HX:=zz hX;have ct:(w.alloc (.cells #[.int .i8 0,.int .i64 0,.string ⟨#[]⟩] 43)).cell? ⟨2,10,none⟩=some (.int .i8 (tk 10)):=by
   rw[I];exact(hX.below.cell (p:=⟨2,10,none⟩) hT.lt).trans (hT.cell 10 zr)
  have N:=zz (fun W (hW:Bl w W)=>YZ W (tk 10) _ cap 1 _ rfl (hl.below hW) af zr);clear hX I hT;go_enter func244,ntmps244;go_upto_region 28 with(go_at_call 264;rw[ae.o];refine(N.o _ HX.o.below).mono ?_;rintro e w2⟨rfl,O⟩;rw[Hb.o];have Z:=zz (zl HX.o.below O);have ac:=zz (HX.o.b0.below O);clear O ct)
  obtain⟨d0,d1,d2⟩:=Hd.o _ Z.o
  go_wp2_with (first
   |(go_at_call 268;refine(X.o _).mono ?_;rintro e w3⟨rfl,U⟩;have aa:=zz (zl Z.o U);have ab:=zz (ac.o.below U);clear U)
   |(go_at_call 267;refine(ah.o _).mono ?_;rintro e w4⟨⟨⟨zk,L,I⟩,rfl⟩,R⟩;simp only[Vl.YU,Vl.cells];have ag:=zz (zl aa.o R);have ad:=zz (ab.o.below R);clear R)
   |(refine xy 43 _ _ rfl ?_;refine yH 43 w.heap.size 0 ad.o [.int .i8 zk,.int .i64 L,.string I] ?_;intro W9 q;have z0:=q.zH.cell 0;have z1:=q.zH.cell 1;have z2:=q.zH.cell 2;have HF:=zz q;clear q))
  simp only[zpY,zpI,zpL,zpJ,zpH,zpM]at z0 z1 z2;refine bodyPost_ret (v:=.tuple #[.agg #[.int .i8 zk,.int .i64 L,.string I],.bool false]) (by simp[results,results244,go_sem,z0,z1,z2]) rfl ?_;exact .Zx (x:=⟨zk,L,I⟩) rfl (HF.o.below ag.o (zpx _) (zpx _))
theorem zmD(w:World)(tk:Nat->Int)(hT:Tk w tk)(A:Option Addr)(cap:Nat)(l:List Vl)(hl:zZ Vl.cells w A l)(ad:∀v∈l,v.ok)(hn:l.length=1)(R:y9 (tk 9) l):
 Calls prog 244 #[.int .i8 9,.slice A 1 cap] w (y6 (qQ tk 9 l) w):=by
 obtain⟨x,rfl⟩:∃x,l=[x]:=by
  obtain⟨-,h,-⟩:=R
  match l,hn with
  |[x],_=>exact⟨x,rfl⟩
 obtain⟨b,o,rfl,q,L⟩:=hl.at (c:=2) (fun _=>rfl) 0 zp;have ai:=Vl.Yw (ad x zp);simp only[zqj,zqX,zqk]at L;obtain⟨xk,xn,I⟩:=x;simp only[Vl.cells]at L;have Hd:Kz (∀W,Bl w W->W.cell? ⟨b,o,none⟩=some (.int .i8 xk)/\W.cell? ⟨b,o+1,none⟩=some (.int .i64 xn)/\W.cell? ⟨b,o+2,none⟩=some (.string I)):=fun W N=>three (yB L N q)
 clear L q;have q:qQ tk 9 [⟨xk,xn,I⟩]=some (.num (Lib.runeCount I:Int)):=by unfold qQ;rw[if_pos R,if_neg zr,if_neg zr,if_neg zr,if_neg zr,if_neg zr,if_neg zr,if_neg zr,if_pos rfl];rfl
 rw[q];clear q;have q:I.size<=200:=ai;have am:=zz q;clear q;have Hb:=zz (qs R);obtain⟨W1,q,L⟩:=xi w 43 #[.int .i8 0,.int .i64 0,.string ⟨#[]⟩];have ap:=zz q;have HX:=zz L;have O:(w.alloc (.cells #[.int .i8 0,.int .i64 0,.string ⟨#[]⟩] 43)).cell? ⟨2,9,none⟩=some (.int .i8 (tk 9)):=by
  rw[q];exact(L.below.cell (p:=⟨2,9,none⟩) hT.lt).trans (hT.cell 9 zr)
 have ab:=zz (fun W (N:Bl w W)=>YZ W (tk 9) _ cap 1 _ rfl (hl.below N) ad zr);clear L q hT;go_enter func244,ntmps244;go_upto_region 23 with(go_at_call 264;rw[ap.o];refine(ab.o _ HX.o.below).mono ?_;rintro e V⟨rfl,Z⟩;rw[Hb.o];have Y:=zz (zl HX.o.below Z);have al:=zz (HX.o.b0.below Z);clear Z O)
 obtain⟨O,U,N⟩:=Hd.o _ Y.o;obtain⟨W6,q⟩:∃W6,V.iter I 0=W6:=⟨_,rfl⟩;have ag:W6.heap[V.heap.size]? = some (.stringIter I 0):=by rw[<-q];exact World.alloc_heap_new V _
 have L:Bl V W6:=by rw[<-q];exact xq V _
 go_wp2;try rw[q]
 clear q O U N;have aq:=zz (al.o.below L);have ak:Kz (Bl w W6):=zl Y.o L;have ar:=zz Y.o.size;clear L
 go_loopg[8,131] I.size (fun gk U O N=>∃(f q L:Nat),gk=I.size-q/\U=.int .i64 (L:Int)/\L+Lib.runeCountFrom I f q=Lib.runeCount I/\I.size<=q+f/\L<=q/\q<=I.size/\N.heap[V.heap.size]? = some (.stringIter I q)/\zD N w.heap.size _ _/\Bl w N)
 case atStart=>exact⟨I.size,0,0,rfl,rfl,by simp[Lib.runeCount],zd,zpx _,zpD _,ag,aq.o,ak.o⟩
 case round=>
  obtain⟨f,q,L,rfl,rfl,hc,hf,ha,hp,O,hz,hB⟩:=hrel;have HZ:=zz hz;have HB:=zz hB;have Hc:=zz hc;have Hf:=zz hf
  by_cases N:q<I.size
  ·have X:=fun ty=>Lib.run_next_any_at (P:=prog) wr V.heap.size I q ty O N
   have aj:=Lib.decode_width_pos I q N;have aa:=zcZ I q N;obtain⟨d,hd⟩:∃d,(Utf8.decode I q).2=d:=⟨_,rfl⟩;obtain⟨f',ac⟩:∃f',f=f'+1:=⟨f-1,zd⟩;have an:=zz (show L+1+Lib.runeCountFrom I f' (q+d)=Lib.runeCount I by
    rw[<-hc,ac,Lib.runeCountFrom,if_pos N,hd];omega)
   have ao:=zz (show I.size<=q+d+f' from zd);rw[hd]at X aj aa;have av:L<=200:=by have:=am.o;omega
   have ae:=zz (zfn (pos':=q+d) O hz);have ah:=zz (Lib.below_iterAt (k:=V.heap.size) hB ar.o I (q+d));have U:=zz (Lib.iterAt_heap wr V.heap.size I q (q+d) O);obtain⟨w3,af⟩:∃w3,wr.iterAt V.heap.size I (q+d)=w3:=⟨_,rfl⟩;rw[af]at ae ah U X;generalize(Utf8.decode I q).1=au at X;clear hz hB O hd af ac hc hf;go_wp2
   go_roundg (I.size-(q+d))
   case measure=>omega
   case rel=>exact⟨f',q+d,L+1,rfl,by first|go_num |(simp[wrap64];omega),an.o,ao.o,zd,aa,U.o,ae.o,ah.o⟩
  ·have X:=fun ty=>Lib.run_next_end_at (P:=prog) wr V.heap.size I q ty O N
   obtain rfl:L=Lib.runeCount I:=by
    cases f with
    |zero=>simpa[Lib.runeCountFrom]using hc
    |succ f=>simpa[Lib.runeCountFrom,N]using hc
   clear hz hB O N hc hf
   go_wp2_with (first
    |(go_at_call 265;refine(V0 _ _).mono ?_;rintro e w3⟨rfl,aa⟩;simp only[Vl.num,Vl.cells];have ac:=zz (zl HB.o aa);have ae:=zz (HZ.o.below aa);clear aa)
    |(refine xy 43 _ _ rfl ?_;refine yH 43 w.heap.size 0 ae.o [.int .i8 1,.int .i64 (Lib.runeCount I:Int),.string ⟨#[]⟩] ?_;intro W9 U;have z0:=U.zH.cell 0;have z1:=U.zH.cell 1;have z2:=U.zH.cell 2;have HF:=zz U;clear U))
   simp only[zpY,zpI,zpL,zpJ,zpH,zpM]at z0 z1 z2;refine bodyPost_ret (v:=.tuple #[.agg #[.int .i8 1,.int .i64 (Lib.runeCount I:Int),.string ⟨#[]⟩],.bool true]) (by simp[results,results244,go_sem,z0,z1,z2]) rfl ?_;exact .Yx rfl (HF.o.below ac.o (zpx _) (zpx _))
theorem zgl(w:World)(tk:Nat->Int)(O:Tk w tk)(A:Option Addr)(cap n:Nat)(l:List Vl)(N:zZ Vl.cells w A l)(L:∀v∈l,v.ok)(q:Nat)(U:1<=q)(W:q<=10)(R:l.length=n)(X:(n:Int)=arity q):
 Calls prog 244 #[.int .i8 q,.slice A n cap] w (y6 (qQ tk q l) w):=by
 have V:n<=2:=by
  have h:arity q<=2:=by
   unfold arity;split;· decide
   ·split<;>decide
  omega
 by_cases I:y9 (tk q) l
 ·obtain rfl|rfl|rfl|rfl|rfl|rfl|rfl|rfl|rfl|rfl:q=1\/q=2\/q=3\/q=4\/q=5\/q=6\/q=7\/q=8\/q=9\/q=10:=zd
  ·obtain rfl:n=1:=by
    have:arity ((1:Nat):Int)=1:=zr;omega
   exact zgv w tk O A cap l N L R I
  ·obtain rfl:n=2:=by
    have:arity ((2:Nat):Int)=2:=zr;omega
   exact znp w tk O A cap l N L R I
  ·obtain rfl:n=2:=by
    have:arity ((3:Nat):Int)=2:=zr;omega
   exact zjv w tk O A cap l N L R I
  ·obtain rfl:n=2:=by
    have:arity ((4:Nat):Int)=2:=zr;omega
   exact zjo w tk O A cap l N L R I
  ·obtain rfl:n=2:=by
    have:arity ((5:Nat):Int)=2:=zr;omega
   exact ziO w tk O A cap l N L R I
  ·obtain rfl:n=2:=by
    have:arity ((6:Nat):Int)=2:=zr;omega
   exact zj5 w tk O A cap l N L R I
  ·obtain rfl:n=2:=by
    have:arity ((7:Nat):Int)=2:=zr;omega
   exact zmY w tk O A cap l N L R I
  ·obtain rfl:n=1:=by
    have:arity ((8:Nat):Int)=1:=zr;omega
   exact zgU w tk O A cap l N L R I
  ·obtain rfl:n=1:=by
    have:arity ((9:Nat):Int)=1:=zr;omega
   exact zmD w tk O A cap l N L R I
  ·obtain rfl:n=1:=by
    have:arity ((10:Nat):Int)=1:=zr;omega
   exact zon w tk O A cap l N L R I
 ·exact zg9 w tk O A cap l N L q n U W R V I
theorem zj1(w:World)(a:Int):Calls prog 199 #[.int .i8 a] w fun e h=>e=.returned (.bool false)/\h=w:=by
 go_enter func199,ntmps199;go_wp2;go_returns;exact⟨rfl,rfl⟩
theorem zgt(w:World)(a:Int):Calls prog 200 #[.int .i64 a] w fun e h=>e=.returned (.bool false)/\h=w:=by
 go_enter func200,ntmps200;go_wp2;go_returns;exact⟨rfl,rfl⟩
theorem zjS(w:World)(x y:Int):Calls prog 140 #[.int .i8 x,.int .i8 y] w fun e h=>e=.returned (.int .i64 (Lib.compareInt x y))/\h=w:=by
 go_enter func140,ntmps140
 go_wp2_with (go_at_call 199;refine(zj1 _ _).mono ?_;rintro e h⟨rfl,q⟩;rw[q])
 all_goals(go_returns;refine⟨?_,rfl⟩;unfold Lib.compareInt;(repeat' split)<;>first|rfl |(exfalso;omega))
theorem zgO(w:World)(x y:Int):Calls prog 141 #[.int .i64 x,.int .i64 y] w fun e h=>e=.returned (.int .i64 (Lib.compareInt x y))/\h=w:=by
 go_enter func141,ntmps141
 go_wp2_with (go_at_call 200;refine(zgt _ _).mono ?_;rintro e h⟨rfl,q⟩;rw[q])
 all_goals(go_returns;refine⟨?_,rfl⟩;unfold Lib.compareInt;(repeat' split)<;>first|rfl |(exfalso;omega))
theorem zgA(w:World)(a b:ByteArray):Calls prog 190 #[.string a,.string b] w fun e h=>e=.returned (.int .i64 (Lib.compareBytes a.data.toList b.data.toList))/\h=w:=by
 go_enter func190,ntmps190;go_wp2;rw[run_callFunc_extern func228 zo (zo) zo (e:=Extern.BytealgCompare.compare) zo,Lib.run_compareString];simp only[Result.andThen];rw[Oper.upon_value];go_wp2;go_returns;exact⟨rfl,rfl⟩
theorem zhz(w:World)(a b:ByteArray):Calls prog 125 #[.string a,.string b] w fun e h=>e=.returned (.int .i64 (Lib.compareBytes a.data.toList b.data.toList))/\h=w:=by
 go_enter func125,ntmps125
 go_wp2_with (go_at_call 190;refine(zgA _ _ _).mono ?_;rintro e h⟨rfl,rfl⟩)
 go_returns;exact⟨rfl,rfl⟩
def Jb(a b c:Int):Int:=if a=0 then(if b=0 then c else b)else a
def V1(x y:Vl):Int:=Jb (Lib.compareInt x.k y.k) (Lib.compareInt x.n y.n) (Lib.compareBytes x.s.data.toList y.s.data.toList)
theorem zg0(w:World)(g:Nat)(a b c:Int)(h0:w.cell? ⟨g,0,none⟩=some (.int .i64 a))(O:w.cell? ⟨g,1,none⟩=some (.int .i64 b))(N:w.cell? ⟨g,2,none⟩=some (.int .i64 c)):
 Calls prog 124 #[.slice (some ⟨g,0,none⟩) 3 3] w fun e h=>e=.returned (.int .i64 (Jb a b c))/\h=w:=by
 go_enter func124,ntmps124;go_wp2
 go_loopg[5,8] 3 (fun gk I h q=>∃i:Nat,gk=3-i/\i<=3/\h=.int .i64 (i:Int)/\q=w/\(1<=i->a=0)/\(2<=i->b=0)/\(3<=i->c=0))
 case atStart=>exact⟨0,rfl,zr,rfl,rfl,zd,zd,zd⟩
 case round=>
  obtain⟨i,rfl,R,rfl,rfl,h,q,I⟩:=hrel;obtain rfl|rfl|rfl|rfl:i=0\/i=1\/i=2\/i=3:=zd
  ·clear h q I
   by_cases L:a=0
   ·subst L;go_wp2
    go_roundg 2
    case measure=>omega
    case rel=>exact⟨1,rfl,zr,rfl,rfl,zp,zd,zd⟩
   ·go_wp2;go_returns;exact⟨by unfold Jb;rw[if_neg L];rfl,rfl⟩
  ·obtain rfl:=h zr;clear h q I
   by_cases L:b=0
   ·subst L;go_wp2
    go_roundg 1
    case measure=>omega
    case rel=>exact⟨2,rfl,zr,rfl,rfl,zp,zp,zd⟩
   ·go_wp2;go_returns;exact⟨by unfold Jb;rw[if_pos rfl,if_neg L];rfl,rfl⟩
  ·obtain rfl:=h zr;obtain rfl:=q zr;clear h q I
   by_cases L:c=0
   ·subst L;go_wp2
    go_roundg 0
    case measure=>omega
    case rel=>exact⟨3,rfl,zr,rfl,rfl,zp,zp,zp⟩
   ·go_wp2;go_returns;exact⟨by unfold Jb;rw[if_pos rfl,if_pos rfl];rfl,rfl⟩
  ·obtain rfl:=h zr;obtain rfl:=q zr;obtain rfl:=I zr;clear h q I;go_wp2;go_returns;exact⟨by unfold Jb;rw[if_pos rfl,if_pos rfl];rfl,rfl⟩
theorem zh1(w:World)(x y:Vl):Calls prog 82 #[.agg x.cells.toArray,.agg y.cells.toArray] w fun e h=>e=.returned (.int .i64 (V1 x y))/\Bl w h:=by
 obtain⟨xk,U,Z⟩:=x;obtain⟨yk,X,ys⟩:=y;simp only[Vl.cells];obtain⟨O,I,h⟩:=yb w 43 43 #[.int .i8 xk,.int .i64 U,.string Z] #[.int .i8 yk,.int .i64 X,.string ys];have HX:=zz h;have N:=zz (show ∀W,Bl O W->W.cell? ⟨w.heap.size,0,none⟩=some (.int .i8 xk)/\W.cell? ⟨w.heap.size,1,none⟩=some (.int .i64 U)/\W.cell? ⟨w.heap.size,2,none⟩=some (.string Z)/\W.cell? ⟨w.heap.size+1,0,none⟩=some (.int .i8 yk)/\W.cell? ⟨w.heap.size+1,1,none⟩=some (.int .i64 X)/\W.cell? ⟨w.heap.size+1,2,none⟩=some (.string ys)from fun W q=>
  ⟨(h.b0.below q).cell 0,(h.b0.below q).cell 1,(h.b0.below q).cell 2,(h.b1.below q).cell 0,(h.b1.below q).cell 1,(h.b1.below q).cell 2⟩)
 clear h;go_enter func82,ntmps82;go_upto_region 1 with fail
 try rw[I]
 clear I;refine Vm [(0,0),(1,0),(2,0),(3,0),(5,0),(6,0),(7,0),(8,0),(10,0),(11,0),(12,0),(13,0),(4,2),(9,2),(14,2),(15,2),(16,2),(17,0)] (fun W=>Bl O W) ?_
 repeat refine zS N.o ?_
 refine xf fun K h=>?_
 go_simp;refine(zjS _ _ _).mono ?_;rintro e V⟨rfl,rfl⟩;refine h.out _ _ (Below.refl _ _).drew (fun _=>trivial) ?_;clear h K;try refine zQ ?_
 repeat refine zS N.o ?_
 refine xf fun K h=>?_
 go_simp;refine(zgO _ _ _).mono ?_;rintro e V⟨rfl,rfl⟩;refine h.out _ _ (Below.refl _ _).drew (fun _=>trivial) ?_;clear h K;try refine zQ ?_
 repeat refine zS N.o ?_
 refine xf fun K h=>?_
 go_simp;refine(zhz _ _ _).mono ?_;rintro e V⟨rfl,rfl⟩;refine h.out _ _ (Below.refl _ _).drew (fun _=>trivial) ?_;clear h K;try refine zQ ?_
 repeat refine zS N.o ?_
 refine xf fun K h=>?_
 go_simp;obtain⟨I,R,q⟩:=xi O 3 #[.int .i64 (Lib.compareInt xk yk),.int .i64 (Lib.compareInt U X),.int .i64 (Lib.compareBytes Z.data.toList ys.data.toList)];rw[R];have L:Kz (Bl O I.drew):=q.below.trans (Below.refl _ _).drew;have Y:=zz (zg0 I.drew O.heap.size _ _ _ ((q.b0.below (Below.refl I.heap.size I).drew).cell 0) ((q.b0.below (Below.refl I.heap.size I).drew).cell 1) ((q.b0.below (Below.refl I.heap.size I).drew).cell 2));refine h.out _ _ L.o (fun _=>trivial) ?_;clear h K R q;try refine zQ ?_
 repeat refine zS N.o ?_
 refine xf fun K h=>?_
 go_simp;refine Y.o.mono ?_;rintro e V⟨rfl,rfl⟩;refine h.out _ _ L.o (fun _=>trivial) ?_;clear h K;try refine zQ ?_
 repeat refine zS N.o ?_
 refine xt ?_;go_wp2;go_returns;exact⟨rfl,zl HX.o.below L.o⟩
def Vg(r:Int)(x y:Vl):Bool:=
 if r=1 then V1 x y==0
 else if r=2 then V1 x y != 0
 else if r=3 then decide (V1 x y<0)
 else if r=4 then decide (V1 x y<=0)
 else if r=5 then decide (V1 x y > 0)
 else if r=6 then decide (V1 x y ≥ 0)
 else false
theorem ziB(w:World)(r:Int)(x y:Vl)(hx:x.ok)(hy:y.ok)(h1:1<=r)(h6:r<=6):Calls prog 143 #[.int .i8 r,.agg x.cells.toArray,.agg y.cells.toArray] w fun e q=>e=.returned (.bool (Vg r x y))/\Bl w q:=by
 have Hk:=zz (fun W k n s (h:Vl.ok ⟨k,n,s⟩)=>VP W ⟨k,n,s⟩ h);have Hx:=zz hx;have Hy:=zz hy;have Y:=zz (fun W=>zh1 W x y);obtain⟨c,q⟩:∃c,V1 x y=c:=⟨_,rfl⟩;unfold Vg;rw[q]at Y ⊢;clear hx hy q;obtain⟨xk,xn,xs⟩:=x;obtain⟨yk,yn,ys⟩:=y;simp only[Vl.cells]at Hk Y ⊢;obtain⟨R,L,q⟩:=yb w 43 43 #[.int .i8 xk,.int .i64 xn,.string xs] #[.int .i8 yk,.int .i64 yn,.string ys];have HX:=zz q;have U:Kz (Bl w R):=q.below;have V:=zz (show ∀W,Bl R W->W.cell? ⟨w.heap.size,0,none⟩=some (.int .i8 xk)/\W.cell? ⟨w.heap.size,1,none⟩=some (.int .i64 xn)/\W.cell? ⟨w.heap.size,2,none⟩=some (.string xs)/\W.cell? ⟨w.heap.size+1,0,none⟩=some (.int .i8 yk)/\W.cell? ⟨w.heap.size+1,1,none⟩=some (.int .i64 yn)/\W.cell? ⟨w.heap.size+1,2,none⟩=some (.string ys)from fun W I=>
  ⟨(q.b0.below I).cell 0,(q.b0.below I).cell 1,(q.b0.below I).cell 2,(q.b1.below I).cell 0,(q.b1.below I).cell 1,(q.b1.below I).cell 2⟩)
 clear q;obtain rfl|rfl|rfl|rfl|rfl|rfl:r=1\/r=2\/r=3\/r=4\/r=5\/r=6:=zd
 all_goals
  go_enter func143,ntmps143;go_upto_region 1 with fail
  try rw[L]
  clear L;obtain⟨a0,a1,a2,Z,a4,a5⟩:=V.o R (Below.refl _ _);go_upto_region 3 with(go_at_call 32;refine(Hk.o _ _ _ _ (by first|exact Hx.o|exact Hy.o)).mono ?_;rintro e w1⟨rfl,q⟩;clear a0 a1 a2 Z a4 a5;first |(have N:=zz (zl I.o q);obtain⟨a0,a1,a2,Z,a4,a5⟩:=V.o _ N.o) |(have I:=zz q;obtain⟨a0,a1,a2,Z,a4,a5⟩:=V.o _ I.o);clear q)
  go_wp2_with (go_at_call 82;refine(Y.o _).mono ?_;rintro e w3⟨rfl,O⟩;have X:=zz (zl N.o O);clear O)
  go_returns;exact⟨rfl,zl U.o X.o⟩
mutual
noncomputable def Ex.ev(tk:Nat->Int)(ρ:Env):Ex->Option Vl
 |.mk q t _ _ h=>if q=0 then(if t.v.toList=[]then some t.x else ρ t.v)else(Ex.Vq tk ρ h).bind (qQ tk q.toNat)
noncomputable def Ex.Vq (tk:Nat->Int) (ρ:Env):List Ex->Option (List Vl)
 |[]=>some []
 |e::I=>(Ex.ev tk ρ e).bind fun x=>(Ex.Vq tk ρ I).bind fun h=>some (x::h)
end
theorem Gt{tk:Nat->Int}{ρ:Env}:∀{l:List Ex}{q:List Vl},Ex.Vq tk ρ l=some q↔q.length=l.length/\∀i (h:i<l.length),(l[i]).ev tk ρ=q[i]?
 |[],q=>by
  unfold Ex.Vq;constructor
  ·intro h;cases h;exact⟨rfl,fun i h=>absurd h (Nat.not_lt_zero _)⟩
  ·rintro⟨h,-⟩;rw[List.length_eq_zero_iff.1 h]
 |e::V,q=>by
  unfold Ex.Vq;constructor
  ·intro h;obtain⟨x,N,h⟩:=zra.1 h;obtain⟨U,R,h⟩:=zra.1 h
   cases h
   obtain⟨L,I⟩:=Gt.1 R;refine⟨by simp[L],fun i O=>?_⟩
   cases i with
   |zero=>simpa using N
   |succ i=>simpa using I i (by simpa using O)
  ·rintro⟨L,I⟩
   cases q with
   |nil=>simp at L
   |cons y q=>
    have N:=I 0 zp;simp only[zqj,zpH]at N;rw[N,zrv,Gt.2 ⟨by simpa using L,fun i O=>I (i+1) (Nat.succ_lt_succ O)⟩,zrv]
theorem zir{l:List Ex}(i:Nat)(h:i<l.length)(I:(l[i]).ev tk ρ=none):Ex.Vq tk ρ l=none:=by
 cases he:Ex.Vq tk ρ l with
 |none=>rfl
 |some L=>
  obtain⟨N,q⟩:=Gt.1 he;rw[q i h,List.getElem?_eq_none_iff]at I;omega
theorem zn9{q:Nat}{l:List Vl}{x:Vl}(h:qQ tk q l=some x):x.ok:=by
 have I:∀n,(Vl.num n).ok:=fun n=>.inl ⟨rfl,rfl⟩
 have L:∀(s:ByteArray)(y:Vl),(if s.size<=200 then some (Vl.YU s)else none)=some y->y.ok:=fun s y N=>by
  split at N
  next hs=>cases N;exact .inr ⟨rfl,rfl,hs⟩
  ·cases N
 unfold qQ at h;split at h
 ·split at h
  ·cases h;exact I _
  ·split at h
   ·cases h;exact I _
   ·split at h
    ·cases h;exact I _
    ·split at h
     ·cases h;exact I _
     ·split at h
      ·split at h
       ·cases h
       ·cases h;exact I _
      ·split at h
       ·exact L _ _ h
       ·split at h
        ·cases h;exact I _
        ·split at h
         ·cases h;exact I _
         ·exact L _ _ h
 ·cases h
theorem Tm.ok.val{t:Tm}(h:t.ok)(q:t.v.toList=[]):t.x.ok:=by
 rcases h with⟨-,h⟩ |⟨-,h |⟨h,-⟩⟩
 ·exact h
 ·rw[h]at q;exact absurd q zp
 ·exact absurd q h
theorem J1(R:∀v x,ρ v=some x->x.ok):∀{e:Ex}{d:Nat}{x:Vl},e.ok d->e.ev tk ρ=some x->x.ok
 |.mk q t A N L,0,x,h,_=>by unfold Ex.ok at h;exact h.elim
 |.mk q t A N L,d+1,x,h,I=>by
  unfold Ex.ok at h;unfold Ex.ev at I
  rcases h with⟨rfl,-,h⟩ |⟨O,-,-,-⟩
  ·rw[if_pos rfl]at I;split at I
   next hv=>cases I;exact h.2.val hv
   ·exact R _ _ I
  ·rw[if_neg O]at I;obtain⟨l,-,h⟩:=zra.1 I;exact zn9 h
def zaD(ρ:Env)(f:Value->Option Value)(h:List Tm):Prop:=∀t∈h,t.v.toList≠[]->(f (.string t.v)).getD (.agg Vl.zero.cells.toArray)=.agg ((ρ t.v).getD Vl.zero).cells.toArray
theorem zgG(w:World):Calls prog 32 #[.agg Vl.zero.cells.toArray] w fun e h=>(∃c:Int,e=.returned (.int .i64 c)/\(c != 0)=true)/\Bl w h:=by
 simp only[Vl.zero,Vl.cells];go_enter func32,ntmps32;go_wp2;go_returns;exact⟨⟨_,rfl,zr⟩,xq w _⟩
theorem ziN(w:World)(x:Vl)(A:Option Addr)(cap:Nat)(m:Value):Calls prog 202 #[.agg #[.int .i8 0,.string ⟨#[]⟩,.int .i8 x.k,.int .i64 x.n,.string x.s,.slice A 0 cap],m] w (y6 (some x) w):=by
 obtain⟨k,n,s⟩:=x;simp only;obtain⟨U,q,h⟩:=yb w 48 43 #[.int .i8 0,.string ⟨#[]⟩,.int .i8 k,.int .i64 n,.string s,.slice A 0 cap] #[.int .i8 0,.int .i64 0,.string ⟨#[]⟩];have N:=zz h;have R:=h.b0.cell 0;have c1:=h.b0.cell 1;have c2:=h.b0.cell 2;have c3:=h.b0.cell 3;have c4:=h.b0.cell 4;clear h;go_enter func202,ntmps202;go_upto_region 1 with fail
 try rw[q]
 clear q
 go_wp2_with (refine xy 43 _ _ rfl ?_;refine yH 43 (w.heap.size+1) 0 N.o.b1 [.int .i8 k,.int .i64 n,.string s] ?_;intro V h;have L:=h.zH.cell 0;have I:=h.zH.cell 1;have q:=h.zH.cell 2;have O:=zz h;clear h R c1 c2 c3 c4)
 simp only[zpY,zpI,zpL,zpJ,zpH,zpM]at L I q;refine bodyPost_ret (v:=.tuple #[.agg #[.int .i8 k,.int .i64 n,.string s],.bool true]) (by simp[results,results202,go_sem,L,I,q]) rfl ?_;exact .Yx rfl (O.o.below N.o.below (zpx _) (zqG _))
theorem ziP(w:World)(v:ByteArray)(x:Vl)(hx:x.ok)(O:(v.toList==([]:List UInt8))=false)(k n:Int)(s:ByteArray)(A:Option Addr)(cap mb:Nat)(N:∀W,Bl w W->(Instr.lookup 140 (.map (some mb)) (.string v) false).run prog W=.ok (.agg x.cells.toArray) W):
 Calls prog 202 #[.agg #[.int .i8 0,.string v,.int .i8 k,.int .i64 n,.string s,.slice A 0 cap],.map (some mb)] w (y6 (some x) w):=by
 have Hk:=zz (fun W=>VP W x hx);clear hx;obtain⟨xk,V,X⟩:=x;simp only[Vl.cells]at N Hk;obtain⟨W0,U,q⟩:=yb w 48 43 #[.int .i8 0,.string v,.int .i8 k,.int .i64 n,.string s,.slice A 0 cap] #[.int .i8 0,.int .i64 0,.string ⟨#[]⟩];have HX:=zz q;have Z:=q.b0.cell 0;have c1:=q.b0.cell 1;have L:=N W0 q.below;obtain⟨W1,R,h⟩:=xi W0 43 #[.int .i8 xk,.int .i64 V,.string X];have I:=zz h;have Y:Kz (Bl w W1):=zl q.below h.below;have aa:=zz (q.b1.below h.below);clear q h N;go_enter func202,ntmps202;go_upto_region 1 with fail
 try rw[U]
 clear U;go_upto_region 5 with fail
 try rw[R]
 clear R Z c1 L;have R:=I.o.b0.cell 0;have x1:=I.o.b0.cell 1;have x2:=I.o.b0.cell 2;go_upto_region 7 with(go_at_call 32;refine(Hk.o _).mono ?_;rintro e w2⟨rfl,q⟩;have Z:=zz (zl Y.o q);have U:=zz (aa.o.below q);have L:=zz (I.o.b0.below q);clear q R x1 x2)
 have R:=L.o.cell 0;have x1:=L.o.cell 1;have x2:=L.o.cell 2
 go_wp2_with (refine xy 43 _ _ rfl ?_;refine yH 43 (w.heap.size+1) 0 U.o [.int .i8 xk,.int .i64 V,.string X] ?_;intro W9 h;have z0:=h.zH.cell 0;have z1:=h.zH.cell 1;have z2:=h.zH.cell 2;have HF:=zz h;clear h R x1 x2)
 simp only[zpY,zpI,zpL,zpJ,zpH,zpM]at z0 z1 z2;refine bodyPost_ret (v:=.tuple #[.agg #[.int .i8 xk,.int .i64 V,.string X],.bool true]) (by simp[results,results202,go_sem,z0,z1,z2]) rfl ?_;exact .Yx rfl (HF.o.below Z.o (zpx _) (zqG _))
theorem zjy(w:World)(v:ByteArray)(R:(v.toList==([]:List UInt8))=false)(k n:Int)(s:ByteArray)(A:Option Addr)(cap mb:Nat)(q:∀W,Bl w W->(Instr.lookup 140 (.map (some mb)) (.string v) false).run prog W=.ok (.agg Vl.zero.cells.toArray) W):
 Calls prog 202 #[.agg #[.int .i8 0,.string v,.int .i8 k,.int .i64 n,.string s,.slice A 0 cap],.map (some mb)] w (y6 none w):=by
 have Hk:=zz (fun W=>zgG W);obtain⟨Y,L⟩:∃Y:Int,Y=0:=⟨_,rfl⟩;obtain⟨V,I⟩:∃V:Int,V=0:=⟨_,rfl⟩;obtain⟨X,h⟩:∃X:ByteArray,X=⟨#[]⟩:=⟨_,rfl⟩;have N:Vl.zero=⟨Y,V,X⟩:=by rw[L,I,h];rfl
 rw[N]at q Hk;simp only[Vl.cells]at q Hk;clear L I h N;obtain⟨W0,U,I⟩:=yb w 48 43 #[.int .i8 0,.string v,.int .i8 k,.int .i64 n,.string s,.slice A 0 cap] #[.int .i8 0,.int .i64 0,.string ⟨#[]⟩];have HX:=zz I;have c0:=I.b0.cell 0;have c1:=I.b0.cell 1;have N:=q W0 I.below;obtain⟨W1,O,h⟩:=xi W0 43 #[.int .i8 Y,.int .i64 V,.string X];have L:=zz h;have Z:Kz (Bl w W1):=zl I.below h.below;have aa:=zz (I.b1.below h.below);clear I h q;go_enter func202,ntmps202;go_upto_region 1 with fail
 try rw[U]
 clear U;go_upto_region 5 with fail
 try rw[O]
 clear O c0 c1 N;have h:=L.o.b0.cell 0;have x1:=L.o.b0.cell 1;have U:=L.o.b0.cell 2;go_upto_region 6 with(go_at_call 32;refine(Hk.o _).mono ?_;rintro e w2⟨⟨c,rfl,hc⟩,I⟩;have O:=zz (zl Z.o I);have N:=zz (aa.o.below I);clear I h x1 U)
 go_wp2_with (refine xy 43 _ _ rfl ?_;refine yH 43 (w.heap.size+1) 0 N.o [.int .i8 0,.int .i64 0,.string ⟨#[]⟩] ?_;intro W9 h;have z0:=h.zH.cell 0;have z1:=h.zH.cell 1;have U:=h.zH.cell 2;have HF:=zz h;clear h)
 simp only[zpY,zpI,zpL,zpJ,zpH,zpM]at z0 z1 U;refine bodyPost_ret (v:=.tuple #[.agg #[.int .i8 0,.int .i64 0,.string ⟨#[]⟩],.bool false]) (by simp[results,results202,go_sem,z0,z1,U]) rfl ?_;exact .Zx (x:=Vl.zero) rfl (HF.o.below O.o (zpx _) (zqG _))
end
