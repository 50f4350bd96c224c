/-
  Values: a text's reverse, its characters. Values: what an op
-/
import Derived.Test.YtfdickkdlcgicaaGreatDoorP15
import Derived.Lib.Bytealg
import Derived.Lib.Small
set_option maxRecDepth 100000
set_option maxHeartbeats 8000000
set_option linter.all false
namespace Go.Proofs.YtfdickkdlcgicaaGreatDoor.C
open Go.Proofs.Tryz Go Go.RowKit Go.Maps Go.WideMaps
variable {tk:Nat->Int}{ρ:Env}
section
theorem znP(w:World)(tk:Nat->Int)(hT:Tk w tk)(A:Option Addr)(cap:Nat)(l:List Vl)(hl:zY Vl.cells w A l)(af:∀v∈l,v.ok)(hn:l.length=1)(U:yW (tk 10) l):
 Calls prog 244 #[.int .i8 10,.slice A 1 cap] w (yV (qI tk 10 l) w):=by
 obtain⟨x,rfl⟩:∃x,l=[x]:=by
  obtain⟨-,h,-⟩:=U
  match l,hn with
  |[x],_=>exact⟨x,rfl⟩
 obtain⟨b,o,rfl,q,r⟩:=hl.at (c:=2) (fun _=>rfl) 0 zp;have ai:=Vl.Yo (af x zp);simp only[zpN,zqu,zpO]at r;obtain⟨xk,xn,X⟩:=x;simp only[Vl.cells]at r;have Hd:Kz (∀W,Bl w W->W.cell? ⟨b,o,none⟩=some (.int .i8 xk)/\W.cell? ⟨b,o+1,none⟩=some (.int .i64 xn)/\W.cell? ⟨b,o+2,none⟩=some (.string X)):=fun W hW=>three (yo r hW q)
 clear r q;have q:qI tk 10 [⟨xk,xn,X⟩]=if(Zw X).size<=200 then some (.YI (Zw X))else none:=by unfold qI;rw[if_pos U,if_neg zr,if_neg zr,if_neg zr,if_neg zr,if_neg zr,if_neg zr,if_neg zr,if_neg zr];rfl
 rw[q];clear q;have q:X.size<=200:=ai;have V:=zz (fun W=>zfW W X zd);clear q
 by_cases hs:(Zw X).size<=200
 ·rw[if_pos hs];have I:=fun W=>GV W (Zw X)
  rw[if_pos hs]at I;have ah:=zz I;clear hs I;have Hb:=zz (qs U);obtain⟨W1,r,Z⟩:=xj w 43 #[.int .i8 0,.int .i64 0,.string ⟨#[]⟩];have ae:=zz r;have HX:=zz Z;have ct:(w.alloc (.cells #[.int .i8 0,.int .i64 0,.string ⟨#[]⟩] 43)).cell? ⟨2,10,none⟩=some (.int .i8 (tk 10)):=by
   rw[r];exact(Z.below.cell (p:=⟨2,10,none⟩) hT.lt).trans (hT.cell 10 zr)
  have L:=zz (fun W (hW:Bl w W)=>YM W (tk 10) _ cap 1 _ rfl (hl.below hW) af zr);clear Z r hT;go_enter func244,ntmps244;go_upto_region 28 with(go_at_call 264;rw[ae.o];refine(L.o _ HX.o.below).mono ?_;rintro e w2⟨rfl,N⟩;rw[Hb.o];have Y:=zz (zu HX.o.below N);have ac:=zz (HX.o.b0.below N);clear N ct)
  obtain⟨d0,d1,d2⟩:=Hd.o _ Y.o
  go_wp2_with (first
   |(go_at_call 268;refine(V.o _).mono ?_;rintro e w3⟨rfl,R⟩;have aa:=zz (zu Y.o R);have ab:=zz (ac.o.below R);clear R)
   |(go_at_call 267;refine(ah.o _).mono ?_;rintro e w4⟨rfl,O⟩;simp only[Vl.YI,Vl.cells];have ag:=zz (zu aa.o O);have ad:=zz (ab.o.below O);clear O)
   |(refine xy 43 _ _ rfl ?_;refine yE 43 w.heap.size 0 ad.o [.int .i8 2,.int .i64 0,.string (Zw X)] ?_;intro W9 q;have z0:=q.zG.cell 0;have z1:=q.zG.cell 1;have z2:=q.zG.cell 2;have HF:=zz q;clear q))
  simp only[zpr,zpa,zpe,zpc,zo9,zpg]at z0 z1 z2;refine bodyPost_ret (v:=.tuple #[.agg #[.int .i8 2,.int .i64 0,.string (Zw X)],.bool true]) (by simp[results,results244,go_sem,z0,z1,z2]) rfl ?_;exact .Yp rfl (HF.o.below ag.o (zoZ _) (zoZ _))
 ·rw[if_neg hs];have I:=fun W=>GV W (Zw X)
  rw[if_neg hs]at I;have ah:=zz I;clear hs I;have Hb:=zz (qs U);obtain⟨W1,r,Z⟩:=xj w 43 #[.int .i8 0,.int .i64 0,.string ⟨#[]⟩];have ae:=zz r;have HX:=zz Z;have ct:(w.alloc (.cells #[.int .i8 0,.int .i64 0,.string ⟨#[]⟩] 43)).cell? ⟨2,10,none⟩=some (.int .i8 (tk 10)):=by
   rw[r];exact(Z.below.cell (p:=⟨2,10,none⟩) hT.lt).trans (hT.cell 10 zr)
  have L:=zz (fun W (hW:Bl w W)=>YM W (tk 10) _ cap 1 _ rfl (hl.below hW) af zr);clear Z r hT;go_enter func244,ntmps244;go_upto_region 28 with(go_at_call 264;rw[ae.o];refine(L.o _ HX.o.below).mono ?_;rintro e w2⟨rfl,N⟩;rw[Hb.o];have Y:=zz (zu HX.o.below N);have ac:=zz (HX.o.b0.below N);clear N ct)
  obtain⟨d0,d1,d2⟩:=Hd.o _ Y.o
  go_wp2_with (first
   |(go_at_call 268;refine(V.o _).mono ?_;rintro e w3⟨rfl,R⟩;have aa:=zz (zu Y.o R);have ab:=zz (ac.o.below R);clear R)
   |(go_at_call 267;refine(ah.o _).mono ?_;rintro e w4⟨⟨⟨Z,I,r⟩,rfl⟩,O⟩;simp only[Vl.YI,Vl.cells];have ag:=zz (zu aa.o O);have ad:=zz (ab.o.below O);clear O)
   |(refine xy 43 _ _ rfl ?_;refine yE 43 w.heap.size 0 ad.o [.int .i8 Z,.int .i64 I,.string r] ?_;intro W9 q;have z0:=q.zG.cell 0;have z1:=q.zG.cell 1;have z2:=q.zG.cell 2;have HF:=zz q;clear q))
  simp only[zpr,zpa,zpe,zpc,zo9,zpg]at z0 z1 z2;refine bodyPost_ret (v:=.tuple #[.agg #[.int .i8 Z,.int .i64 I,.string r],.bool false]) (by simp[results,results244,go_sem,z0,z1,z2]) rfl ?_;exact .Zo (x:=⟨Z,I,r⟩) rfl (HF.o.below ag.o (zoZ _) (zoZ _))
theorem zl5(w:World)(tk:Nat->Int)(hT:Tk w tk)(A:Option Addr)(cap:Nat)(l:List Vl)(hl:zY Vl.cells w A l)(ac:∀v∈l,v.ok)(hn:l.length=1)(O:yW (tk 9) l):
 Calls prog 244 #[.int .i8 9,.slice A 1 cap] w (yV (qI tk 9 l) w):=by
 obtain⟨x,rfl⟩:∃x,l=[x]:=by
  obtain⟨-,h,-⟩:=O
  match l,hn with
  |[x],_=>exact⟨x,rfl⟩
 obtain⟨b,o,rfl,q,I⟩:=hl.at (c:=2) (fun _=>rfl) 0 zp;have ah:=Vl.Yo (ac x zp);simp only[zpN,zqu,zpO]at I;obtain⟨xk,xn,r⟩:=x;simp only[Vl.cells]at I;have Hd:Kz (∀W,Bl w W->W.cell? ⟨b,o,none⟩=some (.int .i8 xk)/\W.cell? ⟨b,o+1,none⟩=some (.int .i64 xn)/\W.cell? ⟨b,o+2,none⟩=some (.string r)):=fun W L=>three (yo I L q)
 clear I q;have q:qI tk 9 [⟨xk,xn,r⟩]=some (.num (Lib.runeCount r:Int)):=by unfold qI;rw[if_pos O,if_neg zr,if_neg zr,if_neg zr,if_neg zr,if_neg zr,if_neg zr,if_neg zr,if_pos rfl];rfl
 rw[q];clear q;have q:r.size<=200:=ah;have al:=zz q;clear q;have Hb:=zz (qs O);obtain⟨W1,q,I⟩:=xj w 43 #[.int .i8 0,.int .i64 0,.string ⟨#[]⟩];have ao:=zz q;have HX:=zz I;have N:(w.alloc (.cells #[.int .i8 0,.int .i64 0,.string ⟨#[]⟩] 43)).cell? ⟨2,9,none⟩=some (.int .i8 (tk 9)):=by
  rw[q];exact(I.below.cell (p:=⟨2,9,none⟩) hT.lt).trans (hT.cell 9 zr)
 have aa:=zz (fun W (L:Bl w W)=>YM W (tk 9) _ cap 1 _ rfl (hl.below L) ac zr);clear I q hT;go_enter func244,ntmps244;go_upto_region 23 with(go_at_call 264;rw[ao.o];refine(aa.o _ HX.o.below).mono ?_;rintro e U⟨rfl,Y⟩;rw[Hb.o];have X:=zz (zu HX.o.below Y);have ak:=zz (HX.o.b0.below Y);clear Y N)
 obtain⟨N,R,L⟩:=Hd.o _ X.o;obtain⟨W6,q⟩:∃W6,U.iter r 0=W6:=⟨_,rfl⟩;have af:W6.heap[U.heap.size]? = some (.stringIter r 0):=by rw[<-q];exact World.alloc_heap_new U _
 have I:Bl U W6:=by rw[<-q];exact xo U _
 go_wp2;try rw[q]
 clear q N R L;have ap:=zz (ak.o.below I);have aj:Kz (Bl w W6):=zu X.o I;have aq:=zz X.o.size;clear I
 go_loopg[8,131] r.size (fun gk R N L=>∃(f q I:Nat),gk=r.size-q/\R=.int .i64 (I:Int)/\I+Lib.runeCountFrom r f q=Lib.runeCount r/\r.size<=q+f/\I<=q/\q<=r.size/\L.heap[U.heap.size]? = some (.stringIter r q)/\zD L w.heap.size _ _/\Bl w L)
 case atStart=>exact⟨r.size,0,0,rfl,rfl,by simp[Lib.runeCount],zd,zoZ _,zo5 _,af,ap.o,aj.o⟩
 case round=>
  obtain⟨f,q,I,rfl,rfl,hc,hf,ha,hp,N,hz,hB⟩:=hrel;have HZ:=zz hz;have HB:=zz hB;have Hc:=zz hc;have Hf:=zz hf
  by_cases L:q<r.size
  ·have V:=fun ty=>Lib.run_next_any_at (P:=prog) wr U.heap.size r q ty N L
   have ai:=Lib.decode_width_pos r q L;have Z:=zco r q L;obtain⟨d,hd⟩:∃d,(Utf8.decode r q).2=d:=⟨_,rfl⟩;obtain⟨f',ab⟩:∃f',f=f'+1:=⟨f-1,zd⟩;have am:=zz (show I+1+Lib.runeCountFrom r f' (q+d)=Lib.runeCount r by
    rw[<-hc,ab,Lib.runeCountFrom,if_pos L,hd];omega)
   have an:=zz (show r.size<=q+d+f' from zd);rw[hd]at V ai Z;have au:I<=200:=by have:=al.o;omega
   have ad:=zz (zeL (pos':=q+d) N hz);have ag:=zz (Lib.below_iterAt (k:=U.heap.size) hB aq.o r (q+d));have R:=zz (Lib.iterAt_heap wr U.heap.size r q (q+d) N);obtain⟨w3,ae⟩:∃w3,wr.iterAt U.heap.size r (q+d)=w3:=⟨_,rfl⟩;rw[ae]at ad ag R V;generalize(Utf8.decode r q).1=ar at V;clear hz hB N hd ae ab hc hf;go_wp2
   go_roundg (r.size-(q+d))
   case measure=>omega
   case rel=>exact⟨f',q+d,I+1,rfl,by first|go_num |(simp[wrap64];omega),am.o,an.o,zd,Z,R.o,ad.o,ag.o⟩
  ·have V:=fun ty=>Lib.run_next_end_at (P:=prog) wr U.heap.size r q ty N L
   obtain rfl:I=Lib.runeCount r:=by
    cases f with
    |zero=>simpa[Lib.runeCountFrom]using hc
    |succ f=>simpa[Lib.runeCountFrom,L]using hc
   clear hz hB N L hc hf
   go_wp2_with (first
    |(go_at_call 265;refine(VO _ _).mono ?_;rintro e w3⟨rfl,Z⟩;simp only[Vl.num,Vl.cells];have ab:=zz (zu HB.o Z);have ad:=zz (HZ.o.below Z);clear Z)
    |(refine xy 43 _ _ rfl ?_;refine yE 43 w.heap.size 0 ad.o [.int .i8 1,.int .i64 (Lib.runeCount r:Int),.string ⟨#[]⟩] ?_;intro W9 R;have z0:=R.zG.cell 0;have z1:=R.zG.cell 1;have z2:=R.zG.cell 2;have HF:=zz R;clear R))
   simp only[zpr,zpa,zpe,zpc,zo9,zpg]at z0 z1 z2;refine bodyPost_ret (v:=.tuple #[.agg #[.int .i8 1,.int .i64 (Lib.runeCount r:Int),.string ⟨#[]⟩],.bool true]) (by simp[results,results244,go_sem,z0,z1,z2]) rfl ?_;exact .Yp rfl (HF.o.below ab.o (zoZ _) (zoZ _))
theorem zfK(w:World)(tk:Nat->Int)(N:Tk w tk)(A:Option Addr)(cap n:Nat)(l:List Vl)(L:zY Vl.cells w A l)(I:∀v∈l,v.ok)(q:Nat)(R:1<=q)(V:q<=10)(O:l.length=n)(W:(n:Int)=arity q):
 Calls prog 244 #[.int .i8 q,.slice A n cap] w (yV (qI tk q l) w):=by
 have U:n<=2:=by
  have h:arity q<=2:=by
   unfold arity;split;· decide
   ·split<;>decide
  omega
 by_cases r:yW (tk q) l
 ·obtain rfl|rfl|rfl|rfl|rfl|rfl|rfl|rfl|rfl|rfl:q=1\/q=2\/q=3\/q=4\/q=5\/q=6\/q=7\/q=8\/q=9\/q=10:=zd
  ·obtain rfl:n=1:=by
    have:arity ((1:Nat):Int)=1:=zr;omega
   exact zfU w tk N A cap l L I O r
  ·obtain rfl:n=2:=by
    have:arity ((2:Nat):Int)=2:=zr;omega
   exact zmR w tk N A cap l L I O r
  ·obtain rfl:n=2:=by
    have:arity ((3:Nat):Int)=2:=zr;omega
   exact zi0 w tk N A cap l L I O r
  ·obtain rfl:n=2:=by
    have:arity ((4:Nat):Int)=2:=zr;omega
   exact ziT w tk N A cap l L I O r
  ·obtain rfl:n=2:=by
    have:arity ((5:Nat):Int)=2:=zr;omega
   exact zih w tk N A cap l L I O r
  ·obtain rfl:n=2:=by
    have:arity ((6:Nat):Int)=2:=zr;omega
   exact zjz w tk N A cap l L I O r
  ·obtain rfl:n=2:=by
    have:arity ((7:Nat):Int)=2:=zr;omega
   exact zmr w tk N A cap l L I O r
  ·obtain rfl:n=1:=by
    have:arity ((8:Nat):Int)=1:=zr;omega
   exact zgk w tk N A cap l L I O r
  ·obtain rfl:n=1:=by
    have:arity ((9:Nat):Int)=1:=zr;omega
   exact zl5 w tk N A cap l L I O r
  ·obtain rfl:n=1:=by
    have:arity ((10:Nat):Int)=1:=zr;omega
   exact znP w tk N A cap l L I O r
 ·exact zgA w tk N A cap l L I q n R V O U r
theorem zjv(w:World)(a:Int):Calls prog 199 #[.int .i8 a] w fun e h=>e=.returned (.bool false)/\h=w:=by
 go_enter func199,ntmps199;go_wp2;go_returns;exact⟨rfl,rfl⟩
theorem zfS(w:World)(a:Int):Calls prog 200 #[.int .i64 a] w fun e h=>e=.returned (.bool false)/\h=w:=by
 go_enter func200,ntmps200;go_wp2;go_returns;exact⟨rfl,rfl⟩
theorem zjm(w:World)(x y:Int):Calls prog 140 #[.int .i8 x,.int .i8 y] w fun e h=>e=.returned (.int .i64 (Lib.compareInt x y))/\h=w:=by
 go_enter func140,ntmps140
 go_wp2_with (go_at_call 199;refine(zjv _ _).mono ?_;rintro e h⟨rfl,q⟩;rw[q])
 all_goals(go_returns;refine⟨?_,rfl⟩;unfold Lib.compareInt;(repeat' split)<;>first|rfl |(exfalso;omega))
theorem zge(w:World)(x y:Int):Calls prog 141 #[.int .i64 x,.int .i64 y] w fun e h=>e=.returned (.int .i64 (Lib.compareInt x y))/\h=w:=by
 go_enter func141,ntmps141
 go_wp2_with (go_at_call 200;refine(zfS _ _).mono ?_;rintro e h⟨rfl,q⟩;rw[q])
 all_goals(go_returns;refine⟨?_,rfl⟩;unfold Lib.compareInt;(repeat' split)<;>first|rfl |(exfalso;omega))
theorem zfZ(w:World)(a b:ByteArray):Calls prog 190 #[.string a,.string b] w fun e h=>e=.returned (.int .i64 (Lib.compareBytes a.data.toList b.data.toList))/\h=w:=by
 go_enter func190,ntmps190;go_wp2;rw[run_callFunc_extern func228 zo (zo) zo (e:=Extern.BytealgCompare.compare) zo,Lib.run_compareString];simp only[Result.andThen];rw[Oper.upon_value];go_wp2;go_returns;exact⟨rfl,rfl⟩
theorem zgZ(w:World)(a b:ByteArray):Calls prog 125 #[.string a,.string b] w fun e h=>e=.returned (.int .i64 (Lib.compareBytes a.data.toList b.data.toList))/\h=w:=by
 go_enter func125,ntmps125
 go_wp2_with (go_at_call 190;refine(zfZ _ _ _).mono ?_;rintro e h⟨rfl,rfl⟩)
 go_returns;exact⟨rfl,rfl⟩
def UR(a b c:Int):Int:=if a=0 then(if b=0 then c else b)else a
def VQ(x y:Vl):Int:=UR (Lib.compareInt x.k y.k) (Lib.compareInt x.n y.n) (Lib.compareBytes x.s.data.toList y.s.data.toList)
theorem zgq(w:World)(g:Nat)(a b c:Int)(h0:w.cell? ⟨g,0,none⟩=some (.int .i64 a))(N:w.cell? ⟨g,1,none⟩=some (.int .i64 b))(L:w.cell? ⟨g,2,none⟩=some (.int .i64 c)):
 Calls prog 124 #[.slice (some ⟨g,0,none⟩) 3 3] w fun e h=>e=.returned (.int .i64 (UR a b c))/\h=w:=by
 go_enter func124,ntmps124;go_wp2
 go_loopg[5,8] 3 (fun gk r h q=>∃i:Nat,gk=3-i/\i<=3/\h=.int .i64 (i:Int)/\q=w/\(1<=i->a=0)/\(2<=i->b=0)/\(3<=i->c=0))
 case atStart=>exact⟨0,rfl,zr,rfl,rfl,zd,zd,zd⟩
 case round=>
  obtain⟨i,rfl,O,rfl,rfl,h,q,r⟩:=hrel;obtain rfl|rfl|rfl|rfl:i=0\/i=1\/i=2\/i=3:=zd
  ·clear h q r
   by_cases I:a=0
   ·subst I;go_wp2
    go_roundg 2
    case measure=>omega
    case rel=>exact⟨1,rfl,zr,rfl,rfl,zp,zd,zd⟩
   ·go_wp2;go_returns;exact⟨by unfold UR;rw[if_neg I];rfl,rfl⟩
  ·obtain rfl:=h zr;clear h q r
   by_cases I:b=0
   ·subst I;go_wp2
    go_roundg 1
    case measure=>omega
    case rel=>exact⟨2,rfl,zr,rfl,rfl,zp,zp,zd⟩
   ·go_wp2;go_returns;exact⟨by unfold UR;rw[if_pos rfl,if_neg I];rfl,rfl⟩
  ·obtain rfl:=h zr;obtain rfl:=q zr;clear h q r
   by_cases I:c=0
   ·subst I;go_wp2
    go_roundg 0
    case measure=>omega
    case rel=>exact⟨3,rfl,zr,rfl,rfl,zp,zp,zp⟩
   ·go_wp2;go_returns;exact⟨by unfold UR;rw[if_pos rfl,if_pos rfl];rfl,rfl⟩
  ·obtain rfl:=h zr;obtain rfl:=q zr;obtain rfl:=r zr;clear h q r;go_wp2;go_returns;exact⟨by unfold UR;rw[if_pos rfl,if_pos rfl];rfl,rfl⟩
theorem zhq(w:World)(x y:Vl):Calls prog 82 #[.agg x.cells.toArray,.agg y.cells.toArray] w fun e h=>e=.returned (.int .i64 (VQ x y))/\Bl w h:=by
 obtain⟨Z,R,Y⟩:=x;obtain⟨yk,V,ys⟩:=y;simp only[Vl.cells];obtain⟨N,r,h⟩:=ya w 43 43 #[.int .i8 Z,.int .i64 R,.string Y] #[.int .i8 yk,.int .i64 V,.string ys];have HX:=zz h;have L:=zz (show ∀W,Bl N W->W.cell? ⟨w.heap.size,0,none⟩=some (.int .i8 Z)/\W.cell? ⟨w.heap.size,1,none⟩=some (.int .i64 R)/\W.cell? ⟨w.heap.size,2,none⟩=some (.string Y)/\W.cell? ⟨w.heap.size+1,0,none⟩=some (.int .i8 yk)/\W.cell? ⟨w.heap.size+1,1,none⟩=some (.int .i64 V)/\W.cell? ⟨w.heap.size+1,2,none⟩=some (.string ys)from fun W q=>
  ⟨(h.b0.below q).cell 0,(h.b0.below q).cell 1,(h.b0.below q).cell 2,(h.b1.below q).cell 0,(h.b1.below q).cell 1,(h.b1.below q).cell 2⟩)
 clear h;go_enter func82,ntmps82;go_upto_region 1 with fail
 try rw[r]
 clear r;refine Vc [(0,0),(1,0),(2,0),(3,0),(5,0),(6,0),(7,0),(8,0),(10,0),(11,0),(12,0),(13,0),(4,2),(9,2),(14,2),(15,2),(16,2),(17,0)] (fun W=>Bl N W) ?_
 repeat refine zT L.o ?_
 refine xc fun K h=>?_
 go_simp;refine(zjm _ _ _).mono ?_;rintro e U⟨rfl,rfl⟩;refine h.out _ _ (Below.refl _ _).drew (fun _=>trivial) ?_;clear h K;try refine zQ ?_
 repeat refine zT L.o ?_
 refine xc fun K h=>?_
 go_simp;refine(zge _ _ _).mono ?_;rintro e U⟨rfl,rfl⟩;refine h.out _ _ (Below.refl _ _).drew (fun _=>trivial) ?_;clear h K;try refine zQ ?_
 repeat refine zT L.o ?_
 refine xc fun K h=>?_
 go_simp;refine(zgZ _ _ _).mono ?_;rintro e U⟨rfl,rfl⟩;refine h.out _ _ (Below.refl _ _).drew (fun _=>trivial) ?_;clear h K;try refine zQ ?_
 repeat refine zT L.o ?_
 refine xc fun K h=>?_
 go_simp;obtain⟨r,O,q⟩:=xj N 3 #[.int .i64 (Lib.compareInt Z yk),.int .i64 (Lib.compareInt R V),.int .i64 (Lib.compareBytes Y.data.toList ys.data.toList)];rw[O];have I:Kz (Bl N r.drew):=q.below.trans (Below.refl _ _).drew;have X:=zz (zgq r.drew N.heap.size _ _ _ ((q.b0.below (Below.refl r.heap.size r).drew).cell 0) ((q.b0.below (Below.refl r.heap.size r).drew).cell 1) ((q.b0.below (Below.refl r.heap.size r).drew).cell 2));refine h.out _ _ I.o (fun _=>trivial) ?_;clear h K O q;try refine zQ ?_
 repeat refine zT L.o ?_
 refine xc fun K h=>?_
 go_simp;refine X.o.mono ?_;rintro e U⟨rfl,rfl⟩;refine h.out _ _ I.o (fun _=>trivial) ?_;clear h K;try refine zQ ?_
 repeat refine zT L.o ?_
 refine xu ?_;go_wp2;go_returns;exact⟨rfl,zu HX.o.below I.o⟩
def Z6(r:Int)(x y:Vl):Bool:=
 if r=1 then VQ x y==0
 else if r=2 then VQ x y != 0
 else if r=3 then decide (VQ x y<0)
 else if r=4 then decide (VQ x y<=0)
 else if r=5 then decide (VQ x y > 0)
 else if r=6 then decide (VQ x y ≥ 0)
 else false
theorem zh2(w:World)(r:Int)(x y:Vl)(hx:x.ok)(hy:y.ok)(h1:1<=r)(h6:r<=6):Calls prog 143 #[.int .i8 r,.agg x.cells.toArray,.agg y.cells.toArray] w fun e q=>e=.returned (.bool (Z6 r x y))/\Bl w q:=by
 have Hk:=zz (fun W k n s (h:Vl.ok ⟨k,n,s⟩)=>VD W ⟨k,n,s⟩ h);have Hx:=zz hx;have Hy:=zz hy;have Y:=zz (fun W=>zhq W x y);obtain⟨c,q⟩:∃c,VQ x y=c:=⟨_,rfl⟩;unfold Z6;rw[q]at Y ⊢;clear hx hy q;obtain⟨xk,xn,xs⟩:=x;obtain⟨yk,yn,ys⟩:=y;simp only[Vl.cells]at Hk Y ⊢;obtain⟨R,L,q⟩:=ya w 43 43 #[.int .i8 xk,.int .i64 xn,.string xs] #[.int .i8 yk,.int .i64 yn,.string ys];have HX:=zz q;have U:Kz (Bl w R):=q.below;have V:=zz (show ∀W,Bl R W->W.cell? ⟨w.heap.size,0,none⟩=some (.int .i8 xk)/\W.cell? ⟨w.heap.size,1,none⟩=some (.int .i64 xn)/\W.cell? ⟨w.heap.size,2,none⟩=some (.string xs)/\W.cell? ⟨w.heap.size+1,0,none⟩=some (.int .i8 yk)/\W.cell? ⟨w.heap.size+1,1,none⟩=some (.int .i64 yn)/\W.cell? ⟨w.heap.size+1,2,none⟩=some (.string ys)from fun W I=>
  ⟨(q.b0.below I).cell 0,(q.b0.below I).cell 1,(q.b0.below I).cell 2,(q.b1.below I).cell 0,(q.b1.below I).cell 1,(q.b1.below I).cell 2⟩)
 clear q;obtain rfl|rfl|rfl|rfl|rfl|rfl:r=1\/r=2\/r=3\/r=4\/r=5\/r=6:=zd
 all_goals
  go_enter func143,ntmps143;go_upto_region 1 with fail
  try rw[L]
  clear L;obtain⟨a0,a1,a2,Z,a4,a5⟩:=V.o R (Below.refl _ _);go_upto_region 3 with(go_at_call 32;refine(Hk.o _ _ _ _ (by first|exact Hx.o|exact Hy.o)).mono ?_;rintro e w1⟨rfl,q⟩;clear a0 a1 a2 Z a4 a5;first |(have N:=zz (zu I.o q);obtain⟨a0,a1,a2,Z,a4,a5⟩:=V.o _ N.o) |(have I:=zz q;obtain⟨a0,a1,a2,Z,a4,a5⟩:=V.o _ I.o);clear q)
  go_wp2_with (go_at_call 82;refine(Y.o _).mono ?_;rintro e w3⟨rfl,O⟩;have X:=zz (zu N.o O);clear O)
  go_returns;exact⟨rfl,zu U.o X.o⟩
mutual
noncomputable def Ex.ev(tk:Nat->Int)(ρ:Env):Ex->Option Vl
 |.mk q t _ _ h=>if q=0 then(if t.v.toList=[]then some t.x else ρ t.v)else(Ex.Vg tk ρ h).bind (qI tk q.toNat)
noncomputable def Ex.Vg (tk:Nat->Int) (ρ:Env):List Ex->Option (List Vl)
 |[]=>some []
 |e::r=>(Ex.ev tk ρ e).bind fun x=>(Ex.Vg tk ρ r).bind fun h=>some (x::h)
end
theorem Gd{tk:Nat->Int}{ρ:Env}:∀{l:List Ex}{q:List Vl},Ex.Vg tk ρ l=some q↔q.length=l.length/\∀i (h:i<l.length),(l[i]).ev tk ρ=q[i]?
 |[],q=>by
  unfold Ex.Vg;constructor
  ·intro h;cases h;exact⟨rfl,fun i h=>absurd h (zqR _)⟩
  ·rintro⟨h,-⟩;rw[List.length_eq_zero_iff.1 h]
 |e::U,q=>by
  unfold Ex.Vg;constructor
  ·intro h;obtain⟨x,L,h⟩:=zqF.1 h;obtain⟨R,O,h⟩:=zqF.1 h
   cases h
   obtain⟨I,r⟩:=Gd.1 O;refine⟨by simp[I],fun i N=>?_⟩
   cases i with
   |zero=>simpa using L
   |succ i=>simpa using r i (by simpa using N)
  ·rintro⟨I,r⟩
   cases q with
   |nil=>simp at I
   |cons y q=>
    have L:=r 0 zp;simp only[zpN,zo9]at L;rw[L,zqY,Gd.2 ⟨by simpa using I,fun i N=>r (i+1) (Nat.succ_lt_succ N)⟩,zqY]
theorem zhS{l:List Ex}(i:Nat)(h:i<l.length)(r:(l[i]).ev tk ρ=none):Ex.Vg tk ρ l=none:=by
 cases he:Ex.Vg tk ρ l with
 |none=>rfl
 |some I=>
  obtain⟨L,q⟩:=Gd.1 he;rw[q i h,List.getElem?_eq_none_iff]at r;omega
theorem znB{q:Nat}{l:List Vl}{x:Vl}(h:qI tk q l=some x):x.ok:=by
 have r:∀n,(Vl.num n).ok:=fun n=>.inl ⟨rfl,rfl⟩
 have I:∀(s:ByteArray)(y:Vl),(if s.size<=200 then some (Vl.YI s)else none)=some y->y.ok:=fun s y L=>by
  split at L
  next hs=>cases L;exact .inr ⟨rfl,rfl,hs⟩
  ·cases L
 unfold qI at h;split at h
 ·split at h
  ·cases h;exact r _
  ·split at h
   ·cases h;exact r _
   ·split at h
    ·cases h;exact r _
    ·split at h
     ·cases h;exact r _
     ·split at h
      ·split at h
       ·cases h
       ·cases h;exact r _
      ·split at h
       ·exact I _ _ h
       ·split at h
        ·cases h;exact r _
        ·split at h
         ·cases h;exact r _
         ·exact I _ _ h
 ·cases h
theorem Tm.ok.val{t:Tm}(h:t.ok)(q:t.v.toList=[]):t.x.ok:=by
 rcases h with⟨-,h⟩ |⟨-,h |⟨h,-⟩⟩
 ·exact h
 ·rw[h]at q;exact absurd q zp
 ·exact absurd q h
theorem JM(O:∀v x,ρ v=some x->x.ok):∀{e:Ex}{d:Nat}{x:Vl},e.ok d->e.ev tk ρ=some x->x.ok
 |.mk q t A L I,0,x,h,_=>by unfold Ex.ok at h;exact h.elim
 |.mk q t A L I,d+1,x,h,r=>by
  unfold Ex.ok at h;unfold Ex.ev at r
  rcases h with⟨rfl,-,h⟩ |⟨N,-,-,-⟩
  ·rw[if_pos rfl]at r;split at r
   next hv=>cases r;exact h.2.val hv
   ·exact O _ _ r
  ·rw[if_neg N]at r;obtain⟨l,-,h⟩:=zqF.1 r;exact znB h
def zag(ρ:Env)(f:Value->Option Value)(h:List Tm):Prop:=∀t∈h,t.v.toList≠[]->(f (.string t.v)).getD (.agg Vl.zero.cells.toArray)=.agg ((ρ t.v).getD Vl.zero).cells.toArray
theorem zf5(w:World):Calls prog 32 #[.agg Vl.zero.cells.toArray] w fun e h=>(∃c:Int,e=.returned (.int .i64 c)/\(c != 0)=true)/\Bl w h:=by
 simp only[Vl.zero,Vl.cells];go_enter func32,ntmps32;go_wp2;go_returns;exact⟨⟨_,rfl,zr⟩,xo w _⟩
theorem zig(w:World)(x:Vl)(A:Option Addr)(cap:Nat)(m:Value):Calls prog 202 #[.agg #[.int .i8 0,.string ⟨#[]⟩,.int .i8 x.k,.int .i64 x.n,.string x.s,.slice A 0 cap],m] w (yV (some x) w):=by
 obtain⟨k,n,s⟩:=x;simp only;obtain⟨R,q,h⟩:=ya w 48 43 #[.int .i8 0,.string ⟨#[]⟩,.int .i8 k,.int .i64 n,.string s,.slice A 0 cap] #[.int .i8 0,.int .i64 0,.string ⟨#[]⟩];have L:=zz h;have O:=h.b0.cell 0;have c1:=h.b0.cell 1;have c2:=h.b0.cell 2;have c3:=h.b0.cell 3;have c4:=h.b0.cell 4;clear h;go_enter func202,ntmps202;go_upto_region 1 with fail
 try rw[q]
 clear q
 go_wp2_with (refine xy 43 _ _ rfl ?_;refine yE 43 (w.heap.size+1) 0 L.o.b1 [.int .i8 k,.int .i64 n,.string s] ?_;intro U h;have I:=h.zG.cell 0;have r:=h.zG.cell 1;have q:=h.zG.cell 2;have N:=zz h;clear h O c1 c2 c3 c4)
 simp only[zpr,zpa,zpe,zpc,zo9,zpg]at I r q;refine bodyPost_ret (v:=.tuple #[.agg #[.int .i8 k,.int .i64 n,.string s],.bool true]) (by simp[results,results202,go_sem,I,r,q]) rfl ?_;exact .Yp rfl (N.o.below L.o.below (zoZ _) (zqa _))
theorem zii(w:World)(v:ByteArray)(x:Vl)(hx:x.ok)(N:(v.toList==([]:List UInt8))=false)(k n:Int)(s:ByteArray)(A:Option Addr)(cap mb:Nat)(L:∀W,Bl w W->(Instr.lookup 140 (.map (some mb)) (.string v) false).run prog W=.ok (.agg x.cells.toArray) W):
 Calls prog 202 #[.agg #[.int .i8 0,.string v,.int .i8 k,.int .i64 n,.string s,.slice A 0 cap],.map (some mb)] w (yV (some x) w):=by
 have Hk:=zz (fun W=>VD W x hx);clear hx;obtain⟨xk,U,V⟩:=x;simp only[Vl.cells]at L Hk;obtain⟨W0,R,q⟩:=ya w 48 43 #[.int .i8 0,.string v,.int .i8 k,.int .i64 n,.string s,.slice A 0 cap] #[.int .i8 0,.int .i64 0,.string ⟨#[]⟩];have HX:=zz q;have Y:=q.b0.cell 0;have c1:=q.b0.cell 1;have I:=L W0 q.below;obtain⟨W1,O,h⟩:=xj W0 43 #[.int .i8 xk,.int .i64 U,.string V];have r:=zz h;have X:Kz (Bl w W1):=zu q.below h.below;have aa:=zz (q.b1.below h.below);clear q h L;go_enter func202,ntmps202;go_upto_region 1 with fail
 try rw[R]
 clear R;go_upto_region 5 with fail
 try rw[O]
 clear O Y c1 I;have O:=r.o.b0.cell 0;have x1:=r.o.b0.cell 1;have Z:=r.o.b0.cell 2;go_upto_region 7 with(go_at_call 32;refine(Hk.o _).mono ?_;rintro e w2⟨rfl,q⟩;have Y:=zz (zu X.o q);have R:=zz (aa.o.below q);have I:=zz (r.o.b0.below q);clear q O x1 Z)
 have O:=I.o.cell 0;have x1:=I.o.cell 1;have Z:=I.o.cell 2
 go_wp2_with (refine xy 43 _ _ rfl ?_;refine yE 43 (w.heap.size+1) 0 R.o [.int .i8 xk,.int .i64 U,.string V] ?_;intro W9 h;have z0:=h.zG.cell 0;have z1:=h.zG.cell 1;have z2:=h.zG.cell 2;have HF:=zz h;clear h O x1 Z)
 simp only[zpr,zpa,zpe,zpc,zo9,zpg]at z0 z1 z2;refine bodyPost_ret (v:=.tuple #[.agg #[.int .i8 xk,.int .i64 U,.string V],.bool true]) (by simp[results,results202,go_sem,z0,z1,z2]) rfl ?_;exact .Yp rfl (HF.o.below Y.o (zoZ _) (zqa _))
theorem zi3(w:World)(v:ByteArray)(O:(v.toList==([]:List UInt8))=false)(k n:Int)(s:ByteArray)(A:Option Addr)(cap mb:Nat)(q:∀W,Bl w W->(Instr.lookup 140 (.map (some mb)) (.string v) false).run prog W=.ok (.agg Vl.zero.cells.toArray) W):
 Calls prog 202 #[.agg #[.int .i8 0,.string v,.int .i8 k,.int .i64 n,.string s,.slice A 0 cap],.map (some mb)] w (yV none w):=by
 have Hk:=zz (fun W=>zf5 W);obtain⟨X,I⟩:∃X:Int,X=0:=⟨_,rfl⟩;obtain⟨U,r⟩:∃U:Int,U=0:=⟨_,rfl⟩;obtain⟨V,h⟩:∃V:ByteArray,V=⟨#[]⟩:=⟨_,rfl⟩;have L:Vl.zero=⟨X,U,V⟩:=by rw[I,r,h];rfl
 rw[L]at q Hk;simp only[Vl.cells]at q Hk;clear I r h L;obtain⟨W0,R,r⟩:=ya w 48 43 #[.int .i8 0,.string v,.int .i8 k,.int .i64 n,.string s,.slice A 0 cap] #[.int .i8 0,.int .i64 0,.string ⟨#[]⟩];have HX:=zz r;have c0:=r.b0.cell 0;have c1:=r.b0.cell 1;have L:=q W0 r.below;obtain⟨W1,N,h⟩:=xj W0 43 #[.int .i8 X,.int .i64 U,.string V];have I:=zz h;have Y:Kz (Bl w W1):=zu r.below h.below;have Z:=zz (r.b1.below h.below);clear r h q;go_enter func202,ntmps202;go_upto_region 1 with fail
 try rw[R]
 clear R;go_upto_region 5 with fail
 try rw[N]
 clear N c0 c1 L;have h:=I.o.b0.cell 0;have x1:=I.o.b0.cell 1;have R:=I.o.b0.cell 2;go_upto_region 6 with(go_at_call 32;refine(Hk.o _).mono ?_;rintro e w2⟨⟨c,rfl,hc⟩,r⟩;have N:=zz (zu Y.o r);have L:=zz (Z.o.below r);clear r h x1 R)
 go_wp2_with (refine xy 43 _ _ rfl ?_;refine yE 43 (w.heap.size+1) 0 L.o [.int .i8 0,.int .i64 0,.string ⟨#[]⟩] ?_;intro W9 h;have z0:=h.zG.cell 0;have z1:=h.zG.cell 1;have R:=h.zG.cell 2;have HF:=zz h;clear h)
 simp only[zpr,zpa,zpe,zpc,zo9,zpg]at z0 z1 R;refine bodyPost_ret (v:=.tuple #[.agg #[.int .i8 0,.int .i64 0,.string ⟨#[]⟩],.bool false]) (by simp[results,results202,go_sem,z0,z1,R]) rfl ?_;exact .Zo (x:=Vl.zero) rfl (HF.o.below N.o (zoZ _) (zqa _))
end
