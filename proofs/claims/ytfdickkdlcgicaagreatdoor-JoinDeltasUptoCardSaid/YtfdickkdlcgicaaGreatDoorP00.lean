/-
  A region that draws its order: walked once, in an order that
-/
import Derived.Test.YtfdickkdlcgicaaGreatDoorP99
import Derived.OrdersHeld
import Derived.Deep.RegionHeld3
import Derived.WalkKit
import Derived.Below
import Derived.Deep.MidRow
import Derived.Laws.MakeOwn
import Derived.Laws.OwnMore
import Derived.Maps.AppendAt
import Derived.Deep.Draws
import Derived.Test.YtfdickkdlcgicaaGreatDoorChecked
import Derived.KernelRfl
import Derived.Lib.Hide
import Derived.Handy
import Derived.WalkSpells
import Derived.Deep.LoopGhost
import Derived.Laws.IdiomStrings
import Derived.Laws.Tables
set_option maxRecDepth 100000
set_option maxHeartbeats 8000000
set_option linter.all false
namespace Go.Proofs.YtfdickkdlcgicaaGreatDoor
open Go.Proofs.Tryz Go Go.RowKit Go.Maps Go.WideMaps
variable {B b o:Nat}{a:Act}{l r xs:List Value}{rest:List (Bool×Oper)}{w w':World}
section
section
variable {P:Program}{ops:Array Oper}{md:Region.Mode}{Q:Exit->Act->World->Prop}{S:World->Prop}
def X2(P:Program)(ops:Array Oper)(Q:Exit->Act->World->Prop)(S:World->Prop):List (Bool×Oper)->Act->World->Prop
 |[],a,w=>Q .normal a w
 |(false,o)::h,a,w=>∃v,YieldsIf P ops S o v a/\X2 P ops Q S h (a.put o.dst v) w
 |(true,o)::h,a,w=>if Region.wanted o (yielded ops a.tmps)=true then o.wp P a w (fun r q=>S q/\X2 P ops Q S h r q) Q else X2 P ops Q S h (a.put o.dst undef) w
def V6(md:Region.Mode)(ops:Array Oper):List (Nat×Bool)->Array Bool->Bool
 |[],h=>(Region.ready md ops h).isEmpty
 |(i,false)::q,h=>(Region.ready md ops h).contains i&&Region.free md ops h i&&V6 md ops q (h.setIfInBounds i true)
 |(i,true)::q,h=>Region.ready md ops h==[i]&&V6 md ops q (h.setIfInBounds i true)
def Vp(ops:Array Oper)(h:List (Nat×Bool)):List (Bool×Oper):=h.filterMap fun p=>(ops[p.1]?).map fun o=>(p.2,o)
theorem zdp{i:Nat}{listed:Array Bool}(h:i∈Region.ready md ops listed):∃o,ops[i]? = some o:=by
 obtain⟨_,r,q,_⟩:=mem_ready.1 h;exact⟨r,q⟩
theorem Gs(U:Region.noSelect ops=true)(V:∀c a d v w,Q (.panic c) (a.put d v) w->Q (.panic c) a w):∀(r:List (Nat×Bool))(q:Array Bool)(a:Act)(w:World),V6 md ops r q=true->S w->X2 P ops Q S (Vp ops r) a w->wpAnyH P md ops Q S r.length q a w
 |[],q,a,w,L,_,h=>wpAnyH_done (by simpa[V6]using L) h _
 |(i,false)::r,q,a,w,L,O,h=>by
  simp only[V6,zpZ]at L;obtain⟨⟨I,W⟩,R⟩:=L;obtain⟨o,N⟩:=zdp (md:=md) (listed:=q) (i:=i) (by simpa using I);have Y:Vp ops ((i,false)::r)=(false,o)::Vp ops r:=by simp[Vp,N]
  rw[Y]at h;obtain⟨v,X,Z⟩:=h;exact wpAnyH_take N U W I (fun c a w h=>V _ _ _ _ _ h) X O (Gs U V r _ _ _ R O Z)
 |(i,true)::r,q,a,w,L,O,h=>by
  simp only[V6,zpZ]at L;obtain⟨I,R⟩:=L;have I:Region.ready md ops q=[i]:=by simpa using I
  obtain⟨o,N⟩:=zdp (md:=md) (listed:=q) (i:=i) (by rw[I];simp);have Y:Vp ops ((i,true)::r)=(true,o)::Vp ops r:=by simp[Vp,N]
  rw[Y]at h;refine wpAnyH_all I zp (fun j Z=>?_);obtain rfl:=zo2.1 Z;unfold wpOp;simp only[N];unfold X2 at h;split
  ·rename_i X;rw[if_pos X]at h;exact .inl (Oper.wp_mono (fun a' w' W=>⟨W.1,Gs U V r _ _ _ R W.1 W.2⟩) h)
  ·rename_i X;rw[if_neg X]at h;exact⟨O,Gs U V r _ _ _ R O h⟩
theorem zji{id:Nat}(q:List (Nat×Bool))(S:World->Prop)(L:P.follows .mixedOrders=true)(O:Region.noSelect ops=true)(I:q.length=ops.size)(r:V6 .any ops q (Array.replicate ops.size false)=true)(N:S w.drew)(h:X2 P ops (NoPanic Q) S (Vp ops q) a w.drew):(Code.region id ops true).wp P Q a w:=
 wp_region_noPanic (wp_region_held (S:=S) L (by rw[<-I];rw[<-I]at r;exact Gs O (fun _ _ _ _ _ h=>(h:False).elim) q _ a _ r N h))
theorem D8{o:Oper}{v:Value}(hw:Region.wanted o (yielded ops a.tmps)=true)(hy:∀w,S w->(execOp a.eval o).run P w=.ok (.value v) w)(h:X2 P ops Q S rest (a.put o.dst v) w):
 X2 P ops Q S ((false,o)::rest) a w:=⟨v,.inl ⟨hw,hy⟩,h⟩
theorem zfh{o:Oper}(hw:Region.wanted o (yielded ops a.tmps)=true)(h:∀K:Act->World->Prop,Shut (∀a w,S w->X2 P ops Q S rest a w->K a w)->o.wp P a w K Q):X2 P ops Q S ((true,o)::rest) a w:=by
 unfold X2;rw[if_pos hw];exact h _ (fun a w q h=>⟨q,h⟩)
theorem zh4(h:Q .normal a w):X2 P ops (NoPanic Q) S [] a w:=h
end
end
section
theorem yo(h:w.rangeAt b o r)(L:Below B w w')(q:b<B):w'.rangeAt b o r:=fun j v I=>by
 rw[World.cell?_of_block (w:=w) (L.block b q)];exact h j v I
theorem VZ(h:w.rangeAt b o r)(k m:Nat):w.rangeAt b (o+k) ((r.drop k).take m):=fun j v q=>by
 rw[List.getElem?_take]at q;split at q
 ·rw[List.getElem?_drop]at q;rw[zqd];exact h _ _ q
 ·cases q
theorem zcK(h:w.rangeAt b o (xs++r)):w.rangeAt b o xs:=fun j v q=>h j v (by rw[zpY (zpB.1 q).1];exact q)
theorem Gg{q:List Value}(h:w.rangeAt b o (xs++q)):w.rangeAt b (o+xs.length) q:=fun j v r=>by
 rw[zqd];exact h _ _ (by rw[zpS zd,zqE];exact r)
theorem zcd(h:w.rangeAt b o xs)(k:w.rangeAt b (o+xs.length) r):w.rangeAt b o (xs++r):=fun j v q=>by
 rw[List.getElem?_append]at q;split at q
 ·exact h _ _ q
 ·have:=k _ _ q;rw[zqd,show xs.length+(j-xs.length)=j from zd]at this;exact this
theorem Jz(b:Nat):∀(h:List Value)(o:Nat)(w:World),(w.setCells b o h).heap.size=w.heap.size
 |[],_,_=>rfl
 |_::h,o,w=>by
  rw[World.setCells,Jz b h];simp[World.setCell]
def Rd(w:World)(A:Option Addr)(xs:List Value):Prop:=xs≠[]->∃b o,A=some ⟨b,o,none⟩/\b<w.heap.size/\w.rangeAt b o xs
theorem Rd.below{A:Option Addr}(h:Rd w A xs)(I:Below B w w')(N:w.heap.size<=B):Rd w' A xs:=fun r=>by
 obtain⟨b,o,e,q,L⟩:=h r;exact⟨b,o,e,zo0 q I.size,yo L I zd⟩
theorem ZB(w:World)(h:List Value)(t:TypeId):(w.alloc (.cells h.toArray t)).rangeAt w.heap.size 0 h:=fun j v q=>by
 rw[zpx,cell_of_row _ _ _ _ _ _ (heap_alloc_new w _),zpe];exact q
theorem xo(w:World)(o:Obj):Bl w (w.alloc o):=(Below.refl _ _).alloc (zoZ _) o
theorem DX{c:Nat}:∀{rows:List (List Value)},(∀r∈rows,r.length=c)->rows.flatten.length=rows.length*c
 |[],_=>zp
 |r::rows,h=>by
  rw[List.flatten_cons,zo1,h r zpi,DX (fun r q=>h r (zpj _ q)),zpn,Nat.add_mul];omega
theorem DJ{c:Nat}:∀{rows:List (List Value)},(∀r∈rows,r.length=c)->∀j (I:j<rows.length),(rows.flatten.drop (j*c)).take c=rows[j]
 |r::rows,h,0,_=>by
  rw[zqu,zqP,List.flatten_cons,zp3 (by rw[h r zpi];omega),zpm (by rw[h r zpi];omega)];rfl
 |r::rows,h,j+1,I=>by
  have q:=h r zpi;rw[List.flatten_cons,Nat.add_mul,zq1,Nat.add_comm (j*c) c,List.drop_append,zpE zd,zpa,q,zqE,
   DJ (fun r q=>h r (zpj _ q)) j (by simpa using I)]
  rfl
theorem zbg(h:l.length=6):∃q I N L r O,l=[q,I,N,L,r,O]:=by
 match l,h with
 |[q,I,N,L,r,O],_=>exact⟨q,I,N,L,r,O,rfl⟩
theorem zgC(h:l.length=16):∃R X x2 Y U x5 W x7 V Z q I r O L N,l=[R,X,x2,Y,U,x5,W,x7,V,Z,q,I,r,O,L,N]:=by
 match l,h with
 |[R,X,x2,Y,U,x5,W,x7,V,Z,q,I,r,O,L,N],_=>exact⟨R,X,x2,Y,U,x5,W,x7,V,Z,q,I,r,O,L,N,rfl⟩
end
end Go.Proofs.YtfdickkdlcgicaaGreatDoor
namespace Go.Proofs.YtfdickkdlcgicaaGreatDoor.C
open Go.Proofs.Tryz Go Go.RowKit Go.Maps Go.WideMaps
variable {A:Option Addr}{I L a0 q r:Value}{P:Program}{Q:Exit->Act->World->Prop}{W w w1:World}{a:Act}{b o:Nat}{c1 c2 h:Array Value}{p:Prop}{rest:List Oper}{t:TypeId}{α:Type}
section
theorem xy{q:Array Oper}{o:Oper}(r:TypeId)(x y:Operand)(_:o.op=.store r x y)(h:wpList P q Q (o::rest) a w):wpList P q Q (o::rest) a w:=h
theorem xV{q:Array Oper}{o:Oper}(r:TypeId)(x:Operand)(_:o.op=.load r x)(h:wpList P q Q (o::rest) a w):wpList P q Q (o::rest) a w:=h
open Classical in
noncomputable def tf(p:Prop):Bool:=decide p
open Classical in
theorem qs(h:p):tf p=true:=by unfold tf;exact decide_eq_true h
open Classical in
theorem qt(h:¬p):tf p=false:=by unfold tf;exact decide_eq_false h
structure Vl where
 k:Int
 n:Int
 s:ByteArray
structure Tm where
 v:ByteArray
 x:Vl
inductive Ex where
 |mk (q:Int) (t:Tm) (A:Option Addr) (cap:Nat) (kids:List Ex)
structure At where
 p:ByteArray
 A:Option Addr
 cap:Nat
 args:List Tm
structure Li where
 k:Int
 a:At
 rl:Int
 l:Ex
 r:Ex
structure Ar where
 g:Int
 t:Tm
structure Ru where
 p:ByteArray
 A:Option Addr
 cap:Nat
 head:List Ar
 B:Option Addr
 zM:Nat
 body:List Li
structure Fa where
 p:ByteArray
 A:Option Addr
 cap:Nat
 args:List Vl
abbrev Vl.cells(x:Vl):List Value:=[.int .i8 x.k,.int .i64 x.n,.string x.s]
abbrev Tm.cells(t:Tm):List Value:=[.string t.v,.int .i8 t.x.k,.int .i64 t.x.n,.string t.x.s]
def Ex.cells:Ex->List Value
 |.mk q t A r h=>[.int .i8 q,.string t.v,.int .i8 t.x.k,.int .i64 t.x.n,.string t.x.s,.slice A h.length r]
abbrev At.cells(a:At):List Value:=[.string a.p,.slice a.A a.args.length a.cap]
def Li.cells(x:Li):List Value:=[.int .i8 x.k,.string x.a.p,.slice x.a.A x.a.args.length x.a.cap,.int .i8 x.rl]++(x.l.cells++x.r.cells)
abbrev Ar.cells(x:Ar):List Value:=[.int .i8 x.g,.string x.t.v,.int .i8 x.t.x.k,.int .i64 x.t.x.n,.string x.t.x.s]
abbrev Ru.cells(x:Ru):List Value:=[.string x.p,.slice x.A x.head.length x.cap,.slice x.B x.body.length x.zM]
abbrev Fa.cells(x:Fa):List Value:=[.string x.p,.slice x.A x.args.length x.cap]
theorem Ex.xF:∀e:Ex,e.cells.length=6
 |.mk ..=>rfl
theorem Li.xF(x:Li):x.cells.length=16:=by simp[Li.cells,Ex.xF]
theorem two(h:w.rangeAt b o [a0,q]):w.cell? ⟨b,o,none⟩=some a0/\w.cell? ⟨b,o+1,none⟩=some q:=⟨h 0 _ rfl,h 1 _ rfl⟩
theorem three(h:w.rangeAt b o [a0,q,r]):w.cell? ⟨b,o,none⟩=some a0/\w.cell? ⟨b,o+1,none⟩=some q/\w.cell? ⟨b,o+2,none⟩=some r:=⟨h 0 _ rfl,h 1 _ rfl,h 2 _ rfl⟩
theorem four(h:w.rangeAt b o [a0,q,r,I]):w.cell? ⟨b,o,none⟩=some a0/\w.cell? ⟨b,o+1,none⟩=some q/\w.cell? ⟨b,o+2,none⟩=some r/\w.cell? ⟨b,o+3,none⟩=some I:=⟨h 0 _ rfl,h 1 _ rfl,h 2 _ rfl,h 3 _ rfl⟩
theorem ZP(h:w.rangeAt b o [a0,r,I,L,q]):w.cell? ⟨b,o,none⟩=some a0/\w.cell? ⟨b,o+1,none⟩=some r/\w.cell? ⟨b,o+2,none⟩=some I/\w.cell? ⟨b,o+3,none⟩=some L/\w.cell? ⟨b,o+4,none⟩=some q:=⟨h 0 _ rfl,h 1 _ rfl,h 2 _ rfl,h 3 _ rfl,h 4 _ rfl⟩
theorem JI{N:Value}(h:w.rangeAt b o [a0,r,I,L,q,N]):w.cell? ⟨b,o,none⟩=some a0/\w.cell? ⟨b,o+1,none⟩=some r/\w.cell? ⟨b,o+2,none⟩=some I/\w.cell? ⟨b,o+3,none⟩=some L/\w.cell? ⟨b,o+4,none⟩=some q/\w.cell? ⟨b,o+5,none⟩=some N:=⟨h 0 _ rfl,h 1 _ rfl,h 2 _ rfl,h 3 _ rfl,h 4 _ rfl,h 5 _ rfl⟩
theorem boxed(q:Below (w.alloc (.cells h t)).heap.size (w.alloc (.cells h t)) w1)(i:Nat):w1.cell? ⟨w.heap.size,i,none⟩=h[i]?:=by
 rw[World.cell?_of_block (w:=w.alloc (.cells h t)) (q.block w.heap.size zp)];exact cell_of_row _ _ i h t (0,0) (heap_alloc_new w _)
theorem Uw(q:Below (w.alloc (.cells h t)).heap.size (w.alloc (.cells h t)) w1):Bl w w1:=(xo w _).trans (q.mono zp)
structure U9 (w:World) (c1:Array Value) (W0:World):Prop where
 below:Bl w W0
 size:W0.heap.size=w.heap.size+1
 one:∀i,W0.cell? ⟨w.heap.size,i,none⟩=c1[i]?
structure Ua (w:World) (c1 c2:Array Value) (W0:World):Prop where
 below:Bl w W0
 size:W0.heap.size=w.heap.size+2
 one:∀i,W0.cell? ⟨w.heap.size,i,none⟩=c1[i]?
 two:∀i,W0.cell? ⟨w.heap.size+1,i,none⟩=c2[i]?
theorem Vm(w:World)(c1:Array Value)(q:TypeId):∃h,w.alloc (.cells c1 q)=h/\U9 w c1 h:=
 ⟨_,rfl,xo w _,zp,fun i=>cell_of_row _ _ i c1 q (0,0) (heap_alloc_new w _)⟩
theorem zcV(w:World)(c1 c2:Array Value)(r q:TypeId):∃h,(w.alloc (.cells c1 r)).alloc (.cells c2 q)=h/\Ua w c1 c2 h:=by
 refine⟨_,rfl,(xo w _).trans ((xo _ _).mono zp),zp,boxed (xo _ _),fun i=>?_⟩;simp
theorem U9.at{q:World}(h:U9 w c1 q)(r:Bl q w1)(i:Nat):w1.cell? ⟨w.heap.size,i,none⟩=c1[i]?:=
 (World.cell?_of_block (w:=q) (r.block w.heap.size (by have:=h.size;omega))).trans (h.one i)
theorem Ua.Up{q:World}(h:Ua w c1 c2 q)(r:Bl q w1)(i:Nat):w1.cell? ⟨w.heap.size,i,none⟩=c1[i]?:=
 (World.cell?_of_block (w:=q) (r.block w.heap.size (by have:=h.size;omega))).trans (h.one i)
theorem Ua.at2{q:World}(h:Ua w c1 c2 q)(r:Bl q w1)(i:Nat):w1.cell? ⟨w.heap.size+1,i,none⟩=c2[i]?:=
 (World.cell?_of_block (w:=q) (r.block (w.heap.size+1) (by have:=h.size;omega))).trans (h.two i)
theorem U9.in{q:World}(h:U9 w c1 q)(r:Bl q w1):Bl w w1:=h.below.trans (r.mono (by have:=h.size;omega))
theorem Ua.in{q:World}(h:Ua w c1 c2 q)(r:Bl q w1):Bl w w1:=h.below.trans (r.mono (by have:=h.size;omega))
def zY{α:Type}(f:α->List Value)(w:World)(A:Option Addr)(xs:List α):Prop:=Rd w A (xs.flatMap f)
theorem zY.below{f:α->List Value}{xs:List α}(h:zY f w A xs)(q:Bl w W):zY f W A xs:=Rd.below h q (zoZ _)
theorem zY.at{f:α->List Value}{c:Nat}{xs:List α}(O:∀x,(f x).length=c+1)(h:zY f w A xs)(i:Nat)(hi:i<xs.length):
 ∃b o,A=some ⟨b,o,none⟩/\b<w.heap.size/\w.rangeAt b (o+i*(c+1)) (f xs[i]):=by
 have L:∀r∈xs.map f,r.length=c+1:=fun r I=>by
  obtain⟨x,_,rfl⟩:=zpA.1 I;exact O x
 unfold zY at h;rw[zqV]at h;have q:(xs.map f).flatten≠[]:=by
  intro e;have N:=DX L;rw[e,zph,zpF]at N;have:0<xs.length*(c+1):=Nat.mul_pos zd (zd);omega
 obtain⟨b,o,rfl,N,I⟩:=h q;refine⟨b,o,rfl,N,?_⟩;have:=VZ I (i*(c+1)) (c+1);rw[DJ L i (by rw[zph];exact hi),zp4]at this;exact this
mutual
def Ex.zO(w:World):Ex->Prop
 |.mk _ _ A _ h=>zY Ex.cells w A h/\h.length*80<=140737488351232/\Ex.qB w h
def Ex.qB (w:World):List Ex->Prop
 |[]=>True
 |e::h=>Ex.zO w e/\Ex.qB w h
end
mutual
theorem Ex.zO.below{w W:World}(q:Bl w W):∀{e:Ex},e.zO w->e.zO W
 |.mk _ _ A _ r,h=>by
  unfold Ex.zO at h ⊢;exact⟨h.1.below q,h.2.1,Ex.qB.below q h.2.2⟩
theorem Ex.qB.below {w W:World} (q:Bl w W):∀{l:List Ex},Ex.qB w l->Ex.qB W l
 |[],_=>by unfold Ex.qB;trivial
 |e::r,h=>by
  unfold Ex.qB at h ⊢;exact⟨Ex.zO.below q h.1,Ex.qB.below q h.2⟩
end
theorem Ex.qB.mem{w:World}:∀{l:List Ex},Ex.qB w l->∀e∈l,e.zO w
 |e::r,h,x,q=>by
  unfold Ex.qB at h
  rcases zpp.1 q with rfl|q
  ·exact h.1
  ·exact Ex.qB.mem h.2 x q
theorem Ex.qB.of{w:World}:∀{l:List Ex},(∀e∈l,e.zO w)->Ex.qB w l
 |[],_=>by unfold Ex.qB;trivial
 |e::r,h=>by
  unfold Ex.qB;exact⟨h e zpi,Ex.qB.of fun x q=>h x (zpj _ q)⟩
structure At.zO (x:At) (w:World):Prop where
 rd:zY Tm.cells w x.A x.args
 len:x.args.length*48<=140737488351232
structure Li.zO (x:Li) (w:World):Prop where
 a:x.a.zO w
 l:x.l.zO w
 r:x.r.zO w
structure Ru.zO (x:Ru) (w:World):Prop where
 head:zY Ar.cells w x.A x.head
 X9:x.head.length*56<=140737488351232
 rd:zY Li.cells w x.B x.body
 Xz:x.body.length*216<=140737488351232
 body:∀y∈x.body,y.zO w
structure Fa.zO (x:Fa) (w:World):Prop where
 rd:zY Vl.cells w x.A x.args
 len:x.args.length*32<=140737488351232
theorem At.zO.below{x:At}(h:x.zO w)(q:Bl w W):x.zO W:=⟨h.rd.below q,h.len⟩
theorem Li.zO.below{x:Li}(h:x.zO w)(q:Bl w W):x.zO W:=⟨h.a.below q,h.l.below q,h.r.below q⟩
theorem Ru.zO.below{x:Ru}(h:x.zO w)(q:Bl w W):x.zO W:=⟨h.head.below q,h.X9,h.rd.below q,h.Xz,fun y r=>(h.body y r).below q⟩
theorem Fa.zO.below{x:Fa}(h:x.zO w)(q:Bl w W):x.zO W:=⟨h.rd.below q,h.len⟩
def V4(c:Nat):Prop:=(97<=c/\c<=122)\/(65<=c/\c<=90)\/(48<=c/\c<=57)\/c=95
structure Wd (s:ByteArray) (a b:Nat):Prop where
 pos:0<s.size
 le:s.size<=120
 fst:a<=s[0].toNat/\s[0].toNat<=b
 all:∀i (h:i<s.size),V4 s[i].toNat
def kept:List (List UInt8):=[[110,111,116],[99,111,117,110,116],[115,117,109],[109,105,110],[109,97,120],[108,101,110],[99,104,97,114,115],[98,97,99,107]]
def Nm(s:ByteArray):Prop:=s.toList∉kept/\Wd s 97 122
def Vr(s:ByteArray):Prop:=Wd s 65 90
def Vl.ok(x:Vl):Prop:=(x.k=1/\x.s=⟨#[]⟩)\/(x.k=2/\x.n=0/\x.s.size<=200)
def Vl.none(x:Vl):Prop:=x.k=0/\x.n=0/\x.s=⟨#[]⟩
def Tm.ok(t:Tm):Prop:=(t.v=⟨#[]⟩/\t.x.ok)\/(t.x.none/\(t.v=⟨#[95]⟩\/(t.v.toList≠[]/\t.v.toList≠[95]/\Vr t.v)))
def Tm.UY(t:Tm):Prop:=t.v.toList≠[95]/\t.ok
def Tm.none(t:Tm):Prop:=t.v=⟨#[]⟩/\t.x.none
def arity(q:Int):Int:=if q=1\/q=8\/q=9\/q=10 then 1 else if 2<=q/\q<=7 then 2 else -1
def Ex.ok:Nat->Ex->Prop
 |0,_=>False
 |d+1,.mk q t _ _ h=>(q=0/\h=[]/\t.UY)\/(q≠0/\t.none/\(h.length:Int)=arity q/\∀k∈h,Ex.ok d k)
def At.ok(a:At):Prop:=Nm a.p/\a.args.length<=24/\∀t∈a.args,t.ok
def Ex.empty:Ex->Prop
 |.mk q t _ _ h=>q=0/\t.none/\h=[]
def Li.ok(x:Li):Prop:=((x.k=1\/x.k=2)/\x.rl=0/\x.l.empty/\x.r.empty/\x.a.ok)\/(x.k=3/\x.a.p=⟨#[]⟩/\x.a.args=[]/\1<=x.rl/\x.rl<=6/\x.l.ok 8/\x.r.ok 8)
theorem zmP(w:World)(s:ByteArray):∃(q:Nat) (W:World),(convert 9 368 (.string s)).run prog w=.ok (.slice (some ⟨w.heap.size,0,none⟩) s.size q) W/\Bl w W/\w.heap.size<W.heap.size/\
 ∀i (h:i<s.size),W.cell? ⟨w.heap.size,i,none⟩=some (.int .u8 (s[i].toNat:Int)):=by
 refine⟨_,_,run_bytes_of_string w 9 368 5 s underlying9 underlying368 underlying5,(Below.refl _ _).drew.trans (xo w.drew _),zp,fun i h=>?_⟩;generalize grownCap w s.size 0 5=q;have r:=heap_alloc_new w.drew (.cells (bytesRow s q) 5 ((bytesRow s q).size,(bytesRow s q).size+1));rw[show w.drew.heap.size=w.heap.size from rfl]at r;unfold World.cell?;simp only[r];unfold bytesRow;have q:i<(s.data.map fun b=>Value.int .u8 b.toNat).size:=by simpa using h
 rw[Array.getElem?_append_left q,Array.getElem?_map,zqA (by simpa using h)];rfl
theorem zcW(w:World)(s:ByteArray)(a b:Nat)(h:Wd s a b):
 Calls prog 173 #[.string s,.int .u8 (a:Int),.int .u8 (b:Int)] w fun e q=>e=.returned (.bool true)/\Bl w q:=by
 obtain⟨R,Z,⟨h2,h3⟩,L⟩:=h;obtain⟨X,W,O,U,r,q⟩:=zmP w s;have V:=zz U;have I:=zz q;have N:=zz L;clear U r q L;have U:((s.size:Int)==0)=false:=beq_eq_false_iff_ne.2 zd;have aa:decide ((120:Int)<(s.size:Int))=false:=zb;have Y:decide (s[0].toNat<a)=false:=zb;have ab:decide (b<s[0].toNat)=false:=zb;go_enter func173,ntmps173;go_wp2
 go_loopg[8,32] s.size (fun gk _ q L=>∃i:Nat,i<=s.size/\gk=s.size-i/\q=.int .i64 (i:Int)/\L=W)
 case atStart=>exact⟨0,zo5 _,rfl,rfl,rfl⟩
 case round=>
  obtain⟨i,hi,rfl,rfl,rfl⟩:=hrel
  by_cases r:i<s.size
  ·have L:=I.o i r;have q:=N.o i r;generalize s[i].toNat=c at L q;unfold V4 at q
   rcases q with h|h|h|h
   all_goals
    go_wp2
    go_roundg (s.size-(i+1))
    case measure=>omega
    case rel=>exact⟨i+1,zd,rfl,ze,rfl⟩
  ·obtain rfl:i=s.size:=zd;go_wp2;go_returns;exact⟨rfl,V.o⟩
theorem zbP(w:World)(s:ByteArray)(h:Nm s):Calls prog 110 #[.string s] w fun e q=>e=.returned (.bool true)/\Bl w q:=by
 obtain⟨O,r⟩:=h;simp only[kept,zpp,zqv,or_false,not_or]at O;obtain⟨N,q,V,L,X,R,U,I⟩:=O;have b0:(s.toList==([110,111,116]:List UInt8))=false:=by simp[N]
 have Y:(s.toList==([99,111,117,110,116]:List UInt8))=false:=by simp[q]
 have b2:(s.toList==([115,117,109]:List UInt8))=false:=by simp[V]
 have b3:(s.toList==([109,105,110]:List UInt8))=false:=by simp[L]
 have b4:(s.toList==([109,97,120]:List UInt8))=false:=by simp[X]
 have Z:(s.toList==([108,101,110]:List UInt8))=false:=by simp[R]
 have b6:(s.toList==([99,104,97,114,115]:List UInt8))=false:=by simp[U]
 have b7:(s.toList==([98,97,99,107]:List UInt8))=false:=by simp[I]
 have O:=zz (zcW w s 97 122 r);clear r N q V L X R U I;go_enter func110,ntmps110
 go_wp2_with (go_at_call 173;refine O.o.mono ?_;rintro e W⟨rfl,q⟩)
 go_returns;exact⟨rfl,q⟩
theorem VD(w:World)(x:Vl)(h:x.ok):Calls prog 32 #[.agg x.cells.toArray] w fun e q=>e=.returned (.int .i64 0)/\Bl w q:=by
 obtain⟨k,n,s⟩:=x
 rcases h with⟨r,q⟩ |⟨r,q,I⟩
 ·simp only at r q;subst r q;go_enter func32,ntmps32;go_wp2;go_returns;exact⟨rfl,xo w _⟩
 ·simp only at r q I;subst r q;go_enter func32,ntmps32;go_wp2;go_returns;exact⟨rfl,xo w _⟩
theorem Jt(w:World):Calls prog 113 #[.bool true] w fun e h=>e=.returned (.int .i64 0)/\Bl w h:=by
 go_enter func113,ntmps113;go_wp2;go_returns;exact⟨rfl,Below.refl _ _⟩
theorem zbs(w:World)(t:Tm)(h:t.ok):Calls prog 214 #[.agg t.cells.toArray] w fun e q=>e=.returned (.int .i64 0)/\Bl w q:=by
 obtain⟨v,k,n,s⟩:=t
 rcases h with⟨N,L⟩ |⟨⟨N,L,R⟩,I⟩
 ·simp only at N L;subst N;have O:=zz (fun W=>VD W ⟨k,n,s⟩ L);clear L;go_enter func214,ntmps214
  go_wp2_with (first
   |(go_at_call 32;refine(O.o _).mono ?_;rintro e X⟨rfl,r⟩)
   |(go_at_call 113;refine(Jt _).mono ?_;rintro e V⟨rfl,q⟩))
  go_returns;exact⟨rfl,(xo w _).trans ((r.mono zp).trans (q.mono (by have:=r.size;simp at this;omega)))⟩
 ·simp only at N L R I;subst N L R
  rcases I with I |⟨I,O,U⟩
  ·subst I;go_enter func214,ntmps214
   go_wp2_with (go_at_call 113;refine(Jt _).mono ?_;rintro e V⟨rfl,q⟩)
   go_returns;exact⟨rfl,(xo w _).trans (q.mono zp)⟩
  ·have b0:(v.toList==([]:List UInt8))=false:=by simp[I]
   have Z:(v.toList==([95]:List UInt8))=false:=by simp[O]
   have Y:=zz (fun W=>zcW W v 65 90 U);clear I O U;go_enter func214,ntmps214
   go_wp2_with (first
    |(go_at_call 173;refine(Y.o _).mono ?_;rintro e X⟨rfl,r⟩)
    |(go_at_call 113;refine(Jt _).mono ?_;rintro e V⟨rfl,q⟩))
   go_returns;exact⟨rfl,(xo w _).trans ((r.mono zp).trans (q.mono (by have:=r.size;simp at this;omega)))⟩
theorem Da(w:World)(t:Tm)(h:t.UY):Calls prog 174 #[.agg t.cells.toArray] w fun e q=>e=.returned (.bool true)/\Bl w q:=by
 obtain⟨I,q⟩:=h;have L:(t.v.toList==([95]:List UInt8))=false:=by simp[I]
 have r:=zz (fun W=>zbs W t q);clear I q;obtain⟨v,k,n,s⟩:=t;simp only[Tm.cells]at L r ⊢;go_enter func174,ntmps174
 go_wp2_with (go_at_call 214;refine(r.o _).mono ?_;rintro e I⟨rfl,q⟩)
 go_returns;exact⟨rfl,(xo w _).trans (q.mono zp)⟩
theorem zar(w:World)(t:Tm)(h:t.none):Calls prog 175 #[.agg t.cells.toArray] w fun e q=>e=.returned (.bool true)/\Bl w q:=by
 obtain⟨v,k,n,s⟩:=t;obtain⟨rfl,r,q,I⟩:=h;simp only at r q I;subst r q I;go_enter func175,ntmps175;go_wp2;go_returns;exact⟨rfl,xo w _⟩
theorem zea(w:World)(e:Ex)(h:e.empty):Calls prog 176 #[.agg e.cells.toArray] w fun e r=>e=.returned (.bool true)/\Bl w r:=by
 obtain⟨q,⟨v,k,n,s⟩,A,N,I⟩:=e;obtain⟨rfl,r,rfl⟩:=h;have L:=zz (fun W=>zar W _ r);clear r;simp only[Ex.cells,Tm.cells,zpF]at L ⊢;go_enter func176,ntmps176
 go_wp2_with (go_at_call 175;refine(L.o _).mono ?_;rintro e O⟨rfl,r⟩;have R:=boxed r 5)
 go_returns;exact⟨rfl,Uw r⟩
theorem zid(w:World)(q:Int):Calls prog 253 #[.int .i8 q] w fun e h=>e=.returned (.int .i64 (arity q))/\h=w:=by
 unfold arity;go_enter func253,ntmps253;go_wp2
 all_goals
  go_returns;refine⟨?_,rfl⟩
  simp_all<;>omega
theorem zk3(w:World)(A:Option Addr)(cap:Nat)(h:List Ex)(X:h.length*80<=140737488351232)(r:zY Ex.cells w A h)(p:Addr)(U:∀k∈h,∀W,Bl w W->Calls prog 255 #[.agg k.cells.toArray,.pointer (some p)] W fun e I=>e=.returned (.bool false)/\Bl W I):
 Calls prog 281 #[.slice A h.length cap,.func (.func 255) #[] #[.pointer (some p)]] w fun e I=>e=.returned (.int .i64 (-1))/\Bl w I:=by
 have V:=zz r;have Hf:=zz U;clear r U;obtain⟨n,I⟩:∃n,h.length=n:=⟨_,rfl⟩;rw[I]at X ⊢;have Y:=zz I;clear I;go_enter func281,ntmps281;go_wp2
 go_loopg[8] n (fun gk I L=>∃i:Nat,i<=n/\gk=n-i/\I=.int .i64 (i:Int)/\Bl w L)
 case atStart=>exact⟨0,zo5 _,rfl,rfl,Below.refl _ _⟩
 case round=>
  obtain⟨i,hi,rfl,rfl,L⟩:=hrel
  by_cases O:i<n
  ·have I:i<h.length:=by rw[Y.o];exact O
   obtain⟨b,o,rfl,hb,r⟩:=(V.o.below L).at Ex.xF i I;have N:=Hf.o h[i] (zo3 I) wr L;generalize h[i]=e at r N;obtain⟨q,⟨v,k,m,s⟩,A',R,ks⟩:=e;simp only[Ex.cells]at r N
   replace r:wr.rangeAt b (o+i*6) _:=r
   obtain⟨c0,c1,c2,c3,c4,c5⟩:=JI r;have Z:=zz N;clear r N
   go_wp2_with (go_at_call 255;refine Z.o.mono ?_;rintro e w1⟨rfl,N⟩)
   go_roundg (n-(i+1))
   case measure=>omega
   case rel=>exact⟨i+1,zd,rfl,ze,L.trans (N.mono L.size)⟩
  ·obtain rfl:i=n:=zd;go_wp2;go_returns;exact⟨rfl,L⟩
theorem zhc(w:World)(A:Option Addr)(cap:Nat)(h:List Ex)(L:h.length*80<=140737488351232)(I:zY Ex.cells w A h)(p:Addr)(r:∀k∈h,∀W,Bl w W->Calls prog 255 #[.agg k.cells.toArray,.pointer (some p)] W fun e q=>e=.returned (.bool false)/\Bl W q):
 Calls prog 254 #[.slice A h.length cap,.func (.func 255) #[] #[.pointer (some p)]] w fun e q=>e=.returned (.bool false)/\Bl w q:=by
 have H:=zz (zk3 w A cap h L I p r);clear I r;go_enter func254,ntmps254
 go_wp2_with (go_at_call 281;refine H.o.mono ?_;rintro e N⟨rfl,q⟩)
 go_returns;exact⟨rfl,q⟩
theorem zgi(w:World)(e:Ex)(p:Addr)(d:Nat)(U:d<=8)(O:w.cell? p=some (.int .i64 ((d:Int)+1)))(L:p.block<w.heap.size)(h:∀W,Bl w W->Calls prog 222 #[.agg e.cells.toArray,.int .i64 (d:Int)] W fun e r=>e=.returned (.bool true)/\Bl W r):
 Calls prog 255 #[.agg e.cells.toArray,.pointer (some p)] w fun e r=>e=.returned (.bool false)/\Bl w r:=by
 have r:∀o,(w.alloc o).cell? p=some (.int .i64 ((d:Int)+1)):=fun o=>(World.cell?_of_block (w:=w) (Below.heap_alloc w o p.block L)).trans O
 obtain⟨q,⟨v,k,n,s⟩,A,N,I⟩:=e;have H:=zz h;clear h O;simp only[Ex.cells,Tm.cells]at H ⊢;have R:=r (.cells #[.int .i8 q,.string v,.int .i8 k,.int .i64 n,.string s,.slice A I.length N] 48);clear r;go_enter func255,ntmps255
 go_wp2_with (go_at_call 222;refine(H.o _ ((Below.refl _ _).alloc (zoZ _) _)).mono ?_;rintro e V⟨rfl,r⟩)
 go_returns;exact⟨rfl,Uw r⟩
theorem zcb:∀(d:Nat)(I:d<=8)(e:Ex)(w:World)(r:e.zO w)(h:e.ok d),Calls prog 222 #[.agg e.cells.toArray,.int .i64 (d:Int)] w fun e L=>e=.returned (.bool true)/\Bl w L
 |0,_,_,_,_,h=>by unfold Ex.ok at h;exact h.elim
 |d+1,I,.mk q ⟨v,k,n,s⟩ A ab O,w,r,h=>by
  have IH:=zz (fun e W r h=>zcb d zd e W r h);unfold Ex.zO at r;obtain⟨hr,U,Y⟩:=r;unfold Ex.ok at h
  rcases h with⟨rfl,rfl,Z⟩ |⟨hq,Z,hn,V⟩
  ·have r:=zz (fun W=>Da W _ Z);clear Z IH hr Y;simp only[Ex.cells,Tm.cells,zpF]at r ⊢;have h0:((d:Int)+1==0)=false:=beq_eq_false_iff_ne.2 zd;go_enter func222,ntmps222
   go_wp2_with (go_at_call 174;refine(r.o _).mono ?_;rintro e w1⟨rfl,X⟩)
   go_returns;exact⟨rfl,(xo w _).trans ((xo _ _).trans (X.mono zp) |>.mono zp)⟩
  ·have Hn:=zz (fun W=>zar W _ Z);have aa:=zz U;have Hr:=zz hr;have Hk:=zz Y;have ae:=zz V;have ad:((O.length:Int) != arity q)=false:=by simp[hn]
   have ag:(q==0)=false:=beq_eq_false_iff_ne.2 hq;clear Z hr Y V U hn hq;simp only[Ex.cells,Tm.cells]at Hn ⊢;generalize r:O.length=N at ad ⊢;have HN:=zz r;clear r;have h0:((d:Int)+1==0)=false:=beq_eq_false_iff_ne.2 zd;go_enter func222,ntmps222;go_wp2;obtain⟨W0,L,r⟩:=zcV w #[.int .i8 q,.string v,.int .i8 k,.int .i64 n,.string s,.slice A N ab] #[.int .i64 ((d:Int)+1)] 48 3;rw[L];have HX:=zz r;have Hc:Kz (∀W,Bl W0 W->_):=fun W I=>zpf (r.Up I 0) (zpf (r.Up I 1) (zpf (r.Up I 2) (zpf (r.Up I 3) (zpf (r.Up I 4) (zpf (r.Up I 5) (r.at2 I 0))))))
   clear L r;refine zji [(0,false),(1,false),(2,true),(3,false),(4,false),(5,false),(6,false),(7,false),(8,false),(9,false),(10,true),(11,false),(12,false)] (fun W=>Bl W0 W) zo (zo) rfl zo (Below.refl _ _).drew ?_;simp only[Vp,List.filterMap_cons,List.filterMap_nil,zpe,zpg,zo9,zpK];try simp only[Act.put,zpy,zpQ,zp0]
   repeat(first
    |(apply Dp;(case hw=>rfl);simp only[Act.put,zpy,zpQ,zp0])
    |(apply DF;(case hw=>rfl);simp only[Act.put,zpy,zpQ,zp0])
    |(apply D8;(case hw=>rfl);(case hy=>(intro wx R;have kk:=Hc.o wx R;go_simp;try exact rfl));simp only[Act.put,zpy,zpQ,zp0])
    |fail)
   refine zfh zj (fun K L=>?_);go_simp;refine(Hn.o _).mono ?_;rintro e W3⟨rfl,ac⟩;have r:=zz (show Bl W0 W3 from(Below.refl _ _).drew.trans ac);refine L.out _ _ r.o ?_;clear L K ac;try simp only[Act.put,zpy,zpQ,zp0]
   repeat(first
    |(apply Dp;(case hw=>rfl);simp only[Act.put,zpy,zpQ,zp0])
    |(apply DF;(case hw=>rfl);simp only[Act.put,zpy,zpQ,zp0])
    |(apply D8;(case hw=>rfl);(case hy=>(intro wx R;have kk:=Hc.o wx R;go_simp;try exact rfl));simp only[Act.put,zpy,zpQ,zp0])
    |fail)
   refine zfh zj (fun K L=>?_);go_simp;refine(zid _ _).mono ?_;rintro e W4⟨rfl,rfl⟩;refine L.out _ _ r.o ?_;clear L K;try simp only[Act.put,zpy,zpQ,zp0]
   repeat(first
    |(apply Dp;(case hw=>rfl);simp only[Act.put,zpy,zpQ,zp0])
    |(apply DF;(case hw=>rfl);simp only[Act.put,zpy,zpQ,zp0])
    |(apply D8;(case hw=>rfl);(case hy=>(intro wx R;have kk:=Hc.o wx R;go_simp;try exact rfl));simp only[Act.put,zpy,zpQ,zp0])
    |fail)
   refine zh4 ?_;have L:=zz (HX.o.in r.o);have af:=zz (Hr.o.below L.o);have kk:=Hc.o _ r.o;have HC:=zz (zhc W4 A ab O aa.o af.o ⟨w.heap.size+1,0,none⟩ fun k Y W I=>
    zgi W k _ d zd (Hc.o W (r.o.trans (I.mono r.o.size))).2.2.2.2.2.2 (by have h1:=HX.o.size;have h2:=r.o.size;have h3:=I.size;show w.heap.size+1<W.heap.size;omega) fun W' ac=>
     IH.o k W' ((Ex.qB.mem Hk.o k Y).below (L.o.trans ((I.trans (ac.mono I.size)).mono L.o.size))) (ae.o k Y))
   rw[HN.o]at HC
   go_wp2_with (go_at_call 254;refine HC.o.mono ?_;rintro e w1⟨rfl,X⟩)
   go_returns;exact⟨rfl,L.o.trans (X.mono L.o.size)⟩
theorem zlD(w:World)(t:Tm)(h:t.ok):Calls prog 213 #[.agg t.cells.toArray] w fun e q=>e=.returned (.bool false)/\Bl w q:=by
 have r:=zz (fun W=>zbs W t h);clear h;obtain⟨v,k,n,s⟩:=t;simp only[Tm.cells]at r ⊢;go_enter func213,ntmps213
 go_wp2_with (go_at_call 214;refine(r.o _).mono ?_;rintro e I⟨rfl,q⟩)
 go_returns;exact⟨rfl,Uw q⟩
theorem Tm.xF(t:Tm):t.cells.length=3+1:=rfl
theorem zfC(w:World)(A:Option Addr)(cap:Nat)(l:List Tm)(U:l.length*48<=140737488351232)(h:zY Tm.cells w A l)(r:∀t∈l,t.ok):
 Calls prog 250 #[.slice A l.length cap,.func (.func 213) #[] #[]] w fun e q=>e=.returned (.int .i64 (-1))/\Bl w q:=by
 have R:=zz h;have O:=zz r;clear h r;obtain⟨n,q⟩:∃n,l.length=n:=⟨_,rfl⟩;rw[q]at U ⊢;have V:=zz q;clear q;go_enter func250,ntmps250;go_wp2
 go_loopg[8] n (fun gk q I=>∃i:Nat,i<=n/\gk=n-i/\q=.int .i64 (i:Int)/\Bl w I)
 case atStart=>exact⟨0,zo5 _,rfl,rfl,Below.refl _ _⟩
 case round=>
  obtain⟨i,hi,rfl,rfl,L⟩:=hrel
  by_cases N:i<n
  ·have q:i<l.length:=by rw[V.o];exact N
   obtain⟨b,o,rfl,Y,h⟩:=(R.o.below L).at Tm.xF i q;have I:=zlD wr l[i] (O.o _ (zo3 q));generalize l[i]=t at h I;obtain⟨v,k,m,s⟩:=t;simp only[Tm.cells]at h I
   replace h:wr.rangeAt b (o+i*4) _:=h
   obtain⟨Z,c1,c2,c3⟩:=four h;have W:=zz I;clear h I
   go_wp2_with (go_at_call 213;refine W.o.mono ?_;rintro e X⟨rfl,I⟩)
   go_roundg (n-(i+1))
   case measure=>omega
   case rel=>exact⟨i+1,zd,rfl,ze,L.trans (I.mono L.size)⟩
  ·obtain rfl:i=n:=zd;go_wp2;go_returns;exact⟨rfl,L⟩
theorem zhf(w:World)(A:Option Addr)(cap:Nat)(l:List Tm)(I:l.length*48<=140737488351232)(r:zY Tm.cells w A l)(h:∀t∈l,t.ok):
 Calls prog 212 #[.slice A l.length cap,.func (.func 213) #[] #[]] w fun e q=>e=.returned (.bool false)/\Bl w q:=by
 have H:=zz (zfC w A cap l I r h);clear r h;go_enter func212,ntmps212
 go_wp2_with (go_at_call 250;refine H.o.mono ?_;rintro e L⟨rfl,q⟩)
 go_returns;exact⟨rfl,q⟩
theorem zcA(w:World)(a:At)(Z:a.zO w)(h:a.ok):Calls prog 149 #[.agg a.cells.toArray] w fun e q=>e=.returned (.int .i64 0)/\Bl w q:=by
 obtain⟨p,A,L,l⟩:=a;obtain⟨I,X,O⟩:=h;obtain⟨r,q⟩:=Z;simp only at I X O r q;have Hn:=zz (fun W=>zbP W p I);have Y:=zz (fun W (R:Bl w W)=>zhf W A L l q (r.below R) O);clear I O r;simp only[At.cells];generalize l.length=N at X q Y ⊢;obtain⟨W0,r,O⟩:=Vm w #[.string p,.slice A N L] 38;have V:=zz O;have R:=zz r;clear O r;go_enter func149,ntmps149
 go_wp2_with (first
  |(go_at_call 110;refine(Hn.o _).mono ?_;rintro e w1⟨rfl,r⟩;rw[R.o]at r;have k1:=V.o.at r 1)
  |(go_at_call 212;refine(Y.o _ (V.o.in r)).mono ?_;rintro e w2⟨rfl,O⟩)
  |(go_at_call 113;refine(Jt _).mono ?_;rintro e w3⟨rfl,U⟩))
 go_returns;have I:=V.o.in r;exact⟨rfl,I.trans ((O.trans (U.mono O.size)).mono I.size)⟩
theorem DI(w:World)(e:Ex)(O:e.zO w)(h:e.ok 8):Calls prog 177 #[.agg e.cells.toArray] w fun e r=>e=.returned (.int .i64 0)/\Bl w r:=by
 have N:=zz (fun W (r:Bl w W)=>zcb 8 (zoZ _) e W (O.below r) h);clear O h;obtain⟨q,⟨v,k,n,s⟩,A,U,R⟩:=e;simp only[Ex.cells,Tm.cells]at N ⊢;go_enter func177,ntmps177
 go_wp2_with (first
  |(go_at_call 222;refine(N.o _ (xo _ _)).mono ?_;rintro e V⟨rfl,r⟩)
  |(go_at_call 113;refine(Jt _).mono ?_;rintro e X⟨rfl,I⟩))
 go_returns;have L:=Uw r;exact⟨rfl,L.trans (I.mono L.size)⟩
def Ar.ok(a:Ar):Prop:=(a.g=0/\a.t.UY)\/(a.g=1/\a.t.none)\/((a.g=2\/a.g=3\/a.g=4)/\a.t.v.toList≠[]/\a.t.UY)
theorem zg6(w:World)(a:Ar)(h:a.ok):Calls prog 111 #[.agg a.cells.toArray] w fun e q=>e=.returned (.bool true)/\Bl w q:=by
 obtain⟨g,t⟩:=a
 rcases h with⟨rfl,h⟩ |⟨rfl,h⟩ |⟨N,L,h⟩
 ·have r:=zz (fun W=>Da W t h);clear h;obtain⟨v,k,n,s⟩:=t;simp only[Ar.cells,Tm.cells]at r ⊢;go_enter func111,ntmps111
  go_wp2_with (go_at_call 174;refine(r.o _).mono ?_;rintro e I⟨rfl,q⟩)
  go_returns;exact⟨rfl,Uw q⟩
 ·have r:=zz (fun W=>zar W t h);clear h;obtain⟨v,k,n,s⟩:=t;simp only[Ar.cells,Tm.cells]at r ⊢;go_enter func111,ntmps111
  go_wp2_with (go_at_call 175;refine(r.o _).mono ?_;rintro e I⟨rfl,q⟩)
  go_returns;exact⟨rfl,Uw q⟩
 ·have r:=zz (fun W=>Da W t h);have O:(t.v.toList==([]:List UInt8))=false:=by simp[L]
  clear h L;obtain⟨v,k,n,s⟩:=t;simp only[Ar.cells,Tm.cells]at r N O ⊢
  rcases N with rfl|rfl|rfl
  all_goals
   go_enter func111,ntmps111
   go_wp2_with (go_at_call 174;refine(r.o _).mono ?_;rintro e I⟨rfl,q⟩)
   go_returns;exact⟨rfl,Uw q⟩
theorem zfV(w:World)(x:Li)(hl:x.zO w)(h:x.ok):Calls prog 112 #[.agg x.cells.toArray] w fun e q=>e=.returned (.int .i64 0)/\Bl w q:=by
 obtain⟨k,⟨p,A,aj,ai⟩,rl,l,r⟩:=x;obtain⟨ha,aa,Z⟩:=hl;simp only at ha aa Z
 rcases h with⟨hk,am,ag,ah,ae⟩ |⟨hk,hp,X,ak,al,af,ac⟩
 ·simp only at hk am ag ah ae;subst am;have Hl:=zz (fun W=>zea W l ag);have Hr:=zz (fun W=>zea W r ah);have Ha:=zz (fun W (hB:Bl w W)=>zcA W _ (ha.below hB) ae);clear ha aa Z ag ah ae;obtain⟨q1,⟨v1,k1,n1,s1⟩,A1,U,O⟩:=l;obtain⟨q2,⟨v2,k2,n2,s2⟩,A2,V,L⟩:=r;simp only[Li.cells,Ex.cells,Tm.cells,At.cells,zpc,zpa]at Hl Hr Ha ⊢;generalize ai.length=N at Ha ⊢;generalize O.length=N1 at Hl ⊢;generalize L.length=N2 at Hr ⊢;obtain⟨W0,R,hX⟩:=Vm w #[.int .i8 k,.string p,.slice A N aj,.int .i8 0,.int .i8 q1,.string v1,.int .i8 k1,.int .i64 n1,.string s1,.slice A1 N1 U,.int .i8 q2,.string v2,.int .i8 k2,.int .i64 n2,.string s2,.slice A2 N2 V] 50;have I:=zz hX;have ad:=zz R;clear hX R
  rcases hk with rfl|rfl
  all_goals
   go_enter func112,ntmps112
   go_wp2_with (first
    |(go_at_call 149;refine(Ha.o _ (I.o.in (q.trans (Y.mono q.size)))).mono ?_;rintro e w3⟨rfl,aq⟩)
    |(go_at_call 176;refine(Hr.o w1).mono ?_;rintro e w2⟨rfl,Y⟩;have ab:=q.trans (Y.mono q.size);have k1:=I.o.at ab 1;have k2:=I.o.at ab 2)
    |(go_at_call 176;refine(Hl.o _).mono ?_;rintro e w1⟨rfl,q⟩;rw[ad.o]at q;have ZF:=I.o.at q 10;have ap:=I.o.at q 11;have Y7:=I.o.at q 12;have Zj:=I.o.at q 13;have an:=I.o.at q 14;have ao:=I.o.at q 15))
   go_returns;have h1:=I.o.in (q.trans (Y.mono q.size));exact⟨rfl,h1.trans (aq.mono h1.size)⟩
 ·simp only at hk hp X ak al af ac;subst hk hp X;have Hl:=zz (fun W (hB:Bl w W)=>DI W l (aa.below hB) af);have Hr:=zz (fun W (hB:Bl w W)=>DI W r (Z.below hB) ac);clear ha aa Z af ac;obtain⟨q1,⟨v1,k1,n1,s1⟩,A1,U,O⟩:=l;obtain⟨q2,⟨v2,k2,n2,s2⟩,A2,V,L⟩:=r;simp only[Li.cells,Ex.cells,Tm.cells,zpc,zpa,zpF]at Hl Hr ⊢;generalize O.length=N1 at Hl ⊢;generalize L.length=N2 at Hr ⊢;obtain⟨W0,R,hX⟩:=Vm w #[.int .i8 3,.string ⟨#[]⟩,.slice A (0:Nat) aj,.int .i8 rl,.int .i8 q1,.string v1,.int .i8 k1,.int .i64 n1,.string s1,.slice A1 N1 U,.int .i8 q2,.string v2,.int .i8 k2,.int .i64 n2,.string s2,.slice A2 N2 V] 50;have I:=zz hX;have ad:=zz R;clear hX R;go_enter func112,ntmps112
  go_wp2_with (first
   |(go_at_call 177;refine(Hr.o _ (I.o.in q)).mono ?_;rintro e w2⟨rfl,Y⟩)
   |(go_at_call 177;refine(Hl.o _ (xo _ _)).mono ?_;rintro e w1⟨rfl,q⟩;rw[ad.o]at q;have ZF:=I.o.at q 10;have ap:=I.o.at q 11;have Y7:=I.o.at q 12;have Zj:=I.o.at q 13;have an:=I.o.at q 14;have ao:=I.o.at q 15))
  go_returns;have h1:=I.o.in (q.trans (Y.mono q.size));exact⟨rfl,h1⟩
end
