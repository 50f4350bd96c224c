/-
  A region that draws its order: walked once, in an order that
-/
import Derived.Test.YtfdickkdlcgicaaGreatDoorQ99
import Derived.OrdersHeld
import Derived.Deep.RegionHeld3
import Derived.WalkKit
import Derived.Below
import Derived.Deep.MidRow
import Derived.Laws.MakeOwn
import Derived.Laws.OwnMore
import Derived.Maps.AppendAt
import Derived.Deep.Draws
import Derived.Test.YtfdickkdlcgicaaGreatDoorChecked
import Derived.KernelRfl
import Derived.Lib.Hide
import Derived.Handy
import Derived.WalkSpells
import Derived.Deep.LoopGhost
import Derived.Laws.IdiomStrings
import Derived.Laws.Tables
set_option maxRecDepth 100000
set_option maxHeartbeats 8000000
set_option linter.all false
namespace Go.Proofs.YtfdickkdlcgicaaGreatDoor
open Go.Proofs.Tryz Go Go.RowKit Go.Maps Go.WideMaps
variable {B b o:Nat}{I l xs:List Value}{a:Act}{rest:List (Bool×Oper)}{w w':World}
section
section
variable {P:Program}{ops:Array Oper}{md:Region.Mode}{Q:Exit->Act->World->Prop}{S:World->Prop}
def Yh(P:Program)(ops:Array Oper)(Q:Exit->Act->World->Prop)(S:World->Prop):List (Bool×Oper)->Act->World->Prop
 |[],a,w=>Q .normal a w
 |(false,o)::h,a,w=>∃v,YieldsIf P ops S o v a/\Yh P ops Q S h (a.put o.dst v) w
 |(true,o)::h,a,w=>if Region.wanted o (yielded ops a.tmps)=true then o.wp P a w (fun I q=>S q/\Yh P ops Q S h I q) Q else Yh P ops Q S h (a.put o.dst undef) w
def Ui(md:Region.Mode)(ops:Array Oper):List (Nat×Bool)->Array Bool->Bool
 |[],h=>(Region.ready md ops h).isEmpty
 |(i,false)::q,h=>(Region.ready md ops h).contains i&&Region.free md ops h i&&Ui md ops q (h.setIfInBounds i true)
 |(i,true)::q,h=>Region.ready md ops h==[i]&&Ui md ops q (h.setIfInBounds i true)
def VA(ops:Array Oper)(h:List (Nat×Bool)):List (Bool×Oper):=h.filterMap fun p=>(ops[p.1]?).map fun o=>(p.2,o)
theorem zdX{i:Nat}{listed:Array Bool}(h:i∈Region.ready md ops listed):∃o,ops[i]? = some o:=by
 obtain⟨_,I,q,_⟩:=mem_ready.1 h;exact⟨I,q⟩
theorem GK(V:Region.noSelect ops=true)(W:∀c a d v w,Q (.panic c) (a.put d v) w->Q (.panic c) a w):∀(I:List (Nat×Bool))(q:Array Bool)(a:Act)(w:World),Ui md ops I q=true->S w->Yh P ops Q S (VA ops I) a w->wpAnyH P md ops Q S I.length q a w
 |[],q,a,w,N,_,h=>wpAnyH_done (by simpa[Ui]using N) h _
 |(i,false)::I,q,a,w,N,R,h=>by
  simp only[Ui,zqu]at N;obtain⟨⟨L,X⟩,U⟩:=N;obtain⟨o,O⟩:=zdX (md:=md) (listed:=q) (i:=i) (by simpa using L);have Z:VA ops ((i,false)::I)=(false,o)::VA ops I:=by simp[VA,O]
  rw[Z]at h;obtain⟨v,Y,hr⟩:=h;exact wpAnyH_take O V X L (fun c a w h=>W _ _ _ _ _ h) Y R (GK V W I _ _ _ U R hr)
 |(i,true)::I,q,a,w,N,R,h=>by
  simp only[Ui,zqu]at N;obtain⟨L,U⟩:=N;have L:Region.ready md ops q=[i]:=by simpa using L
  obtain⟨o,O⟩:=zdX (md:=md) (listed:=q) (i:=i) (by rw[L];simp);have Z:VA ops ((i,true)::I)=(true,o)::VA ops I:=by simp[VA,O]
  rw[Z]at h;refine wpAnyH_all L zp (fun j hj=>?_);obtain rfl:=zpy.1 hj;unfold wpOp;simp only[O];unfold Yh at h;split
  ·rename_i Y;rw[if_pos Y]at h;exact .inl (Oper.wp_mono (fun a' w' X=>⟨X.1,GK V W I _ _ _ U X.1 X.2⟩) h)
  ·rename_i Y;rw[if_neg Y]at h;exact⟨R,GK V W I _ _ _ U R h⟩
theorem zjO{id:Nat}(q:List (Nat×Bool))(S:World->Prop)(N:P.follows .mixedOrders=true)(R:Region.noSelect ops=true)(L:q.length=ops.size)(I:Ui .any ops q (Array.replicate ops.size false)=true)(O:S w.drew)(h:Yh P ops (NoPanic Q) S (VA ops q) a w.drew):(Code.region id ops true).wp P Q a w:=
 wp_region_noPanic (wp_region_held (S:=S) N (by rw[<-L];rw[<-L]at I;exact GK R (fun _ _ _ _ _ h=>(h:False).elim) q _ a _ I O h))
theorem zav{o:Oper}{v:Value}(hw:Region.wanted o (yielded ops a.tmps)=true)(hy:∀w,S w->(execOp a.eval o).run P w=.ok (.value v) w)(h:Yh P ops Q S rest (a.put o.dst v) w):
 Yh P ops Q S ((false,o)::rest) a w:=⟨v,.inl ⟨hw,hy⟩,h⟩
theorem zfT{o:Oper}(hw:Region.wanted o (yielded ops a.tmps)=true)(h:∀K:Act->World->Prop,Shut (∀a w,S w->Yh P ops Q S rest a w->K a w)->o.wp P a w K Q):Yh P ops Q S ((true,o)::rest) a w:=by
 unfold Yh;rw[if_pos hw];exact h _ (fun a w q h=>⟨q,h⟩)
theorem ziC(h:Q .normal a w):Yh P ops (NoPanic Q) S [] a w:=h
end
end
section
theorem yB(h:w.rangeAt b o I)(N:Below B w w')(q:b<B):w'.rangeAt b o I:=fun j v L=>by
 rw[World.cell?_of_block (w:=w) (N.block b q)];exact h j v L
theorem Ub(h:w.rangeAt b o I)(k m:Nat):w.rangeAt b (o+k) ((I.drop k).take m):=fun j v q=>by
 rw[List.getElem?_take]at q;split at q
 ·rw[List.getElem?_drop]at q;rw[zqO];exact h _ _ q
 ·cases q
theorem zdl(h:w.rangeAt b o (xs++I)):w.rangeAt b o xs:=fun j v q=>h j v (by rw[zq1 (zp9.1 q).1];exact q)
theorem Gw{q:List Value}(h:w.rangeAt b o (xs++q)):w.rangeAt b (o+xs.length) q:=fun j v I=>by
 rw[zqO];exact h _ _ (by rw[zqL zd,zq9];exact I)
theorem zcL(h:w.rangeAt b o xs)(k:w.rangeAt b (o+xs.length) I):w.rangeAt b o (xs++I):=fun j v q=>by
 rw[List.getElem?_append]at q;split at q
 ·exact h _ _ q
 ·have:=k _ _ q;rw[zqO,show xs.length+(j-xs.length)=j from zd]at this;exact this
theorem JM(b:Nat):∀(h:List Value)(o:Nat)(w:World),(w.setCells b o h).heap.size=w.heap.size
 |[],_,_=>rfl
 |_::h,o,w=>by
  rw[World.setCells,JM b h];simp[World.setCell]
def Rd(w:World)(A:Option Addr)(xs:List Value):Prop:=xs≠[]->∃b o,A=some ⟨b,o,none⟩/\b<w.heap.size/\w.rangeAt b o xs
theorem Rd.below{A:Option Addr}(h:Rd w A xs)(L:Below B w w')(O:w.heap.size<=B):Rd w' A xs:=fun I=>by
 obtain⟨b,o,e,q,N⟩:=h I;exact⟨b,o,e,zpz q L.size,yB N L zd⟩
theorem ZK(w:World)(h:List Value)(t:TypeId):(w.alloc (.cells h.toArray t)).rangeAt w.heap.size 0 h:=fun j v q=>by
 rw[zp6,cell_of_row _ _ _ _ _ _ (heap_alloc_new w _),zpL];exact q
theorem xq(w:World)(o:Obj):Bl w (w.alloc o):=(Below.refl _ _).alloc (zpx _) o
theorem zaq{c:Nat}:∀{rows:List (List Value)},(∀r∈rows,r.length=c)->rows.flatten.length=rows.length*c
 |[],_=>zp
 |r::rows,h=>by
  rw[List.flatten_cons,zpA,h r zpP,zaq (fun r q=>h r (zpQ _ q)),zpV,Nat.add_mul];omega
theorem D9{c:Nat}:∀{rows:List (List Value)},(∀r∈rows,r.length=c)->∀j (I:j<rows.length),(rows.flatten.drop (j*c)).take c=rows[j]
 |r::rows,h,0,_=>by
  rw[zqX,zrm,List.flatten_cons,zqx (by rw[h r zpP];omega),zpT (by rw[h r zpP];omega)];rfl
 |r::rows,h,j+1,I=>by
  have q:=h r zpP;rw[List.flatten_cons,Nat.add_mul,zry,Nat.add_comm (j*c) c,List.drop_append,zqc zd,zpI,q,zq9,
   D9 (fun r q=>h r (zpQ _ q)) j (by simpa using I)]
  rfl
theorem zbJ(h:l.length=6):∃q L O N I R,l=[q,L,O,N,I,R]:=by
 match l,h with
 |[q,L,O,N,I,R],_=>exact⟨q,L,O,N,I,R,rfl⟩
theorem zhb(h:l.length=16):∃U Y x2 Z V x5 X x7 W x9 q L I R N O,l=[U,Y,x2,Z,V,x5,X,x7,W,x9,q,L,I,R,N,O]:=by
 match l,h with
 |[U,Y,x2,Z,V,x5,X,x7,W,x9,q,L,I,R,N,O],_=>exact⟨U,Y,x2,Z,V,x5,X,x7,W,x9,q,L,I,R,N,O,rfl⟩
end
end Go.Proofs.YtfdickkdlcgicaaGreatDoor
namespace Go.Proofs.YtfdickkdlcgicaaGreatDoor.C
open Go.Proofs.Tryz Go Go.RowKit Go.Maps Go.WideMaps
variable {A:Option Addr}{I L N a0 q:Value}{P:Program}{Q:Exit->Act->World->Prop}{W w w1:World}{a:Act}{b o:Nat}{c1 c2 h:Array Value}{p:Prop}{rest:List Oper}{t:TypeId}{α:Type}
section
theorem xy{q:Array Oper}{o:Oper}(I:TypeId)(x y:Operand)(_:o.op=.store I x y)(h:wpList P q Q (o::rest) a w):wpList P q Q (o::rest) a w:=h
theorem xW{q:Array Oper}{o:Oper}(I:TypeId)(x:Operand)(_:o.op=.load I x)(h:wpList P q Q (o::rest) a w):wpList P q Q (o::rest) a w:=h
open Classical in
noncomputable def tf(p:Prop):Bool:=decide p
open Classical in
theorem qs(h:p):tf p=true:=by unfold tf;exact decide_eq_true h
open Classical in
theorem qu(h:¬p):tf p=false:=by unfold tf;exact decide_eq_false h
structure Vl where
 k:Int
 n:Int
 s:ByteArray
structure Tm where
 v:ByteArray
 x:Vl
inductive Ex where
 |mk (q:Int) (t:Tm) (A:Option Addr) (cap:Nat) (kids:List Ex)
structure At where
 p:ByteArray
 A:Option Addr
 cap:Nat
 args:List Tm
structure Li where
 k:Int
 a:At
 rl:Int
 l:Ex
 r:Ex
structure Ar where
 g:Int
 t:Tm
structure Ru where
 p:ByteArray
 A:Option Addr
 cap:Nat
 head:List Ar
 B:Option Addr
 zM:Nat
 body:List Li
structure Fa where
 p:ByteArray
 A:Option Addr
 cap:Nat
 args:List Vl
abbrev Vl.cells(x:Vl):List Value:=[.int .i8 x.k,.int .i64 x.n,.string x.s]
abbrev Tm.cells(t:Tm):List Value:=[.string t.v,.int .i8 t.x.k,.int .i64 t.x.n,.string t.x.s]
def Ex.cells:Ex->List Value
 |.mk q t A I h=>[.int .i8 q,.string t.v,.int .i8 t.x.k,.int .i64 t.x.n,.string t.x.s,.slice A h.length I]
abbrev At.cells(a:At):List Value:=[.string a.p,.slice a.A a.args.length a.cap]
def Li.cells(x:Li):List Value:=[.int .i8 x.k,.string x.a.p,.slice x.a.A x.a.args.length x.a.cap,.int .i8 x.rl]++(x.l.cells++x.r.cells)
abbrev Ar.cells(x:Ar):List Value:=[.int .i8 x.g,.string x.t.v,.int .i8 x.t.x.k,.int .i64 x.t.x.n,.string x.t.x.s]
abbrev Ru.cells(x:Ru):List Value:=[.string x.p,.slice x.A x.head.length x.cap,.slice x.B x.body.length x.zM]
abbrev Fa.cells(x:Fa):List Value:=[.string x.p,.slice x.A x.args.length x.cap]
theorem Ex.xG:∀e:Ex,e.cells.length=6
 |.mk ..=>rfl
theorem Li.xG(x:Li):x.cells.length=16:=by simp[Li.cells,Ex.xG]
theorem two(h:w.rangeAt b o [a0,q]):w.cell? ⟨b,o,none⟩=some a0/\w.cell? ⟨b,o+1,none⟩=some q:=⟨h 0 _ rfl,h 1 _ rfl⟩
theorem three(h:w.rangeAt b o [a0,q,I]):w.cell? ⟨b,o,none⟩=some a0/\w.cell? ⟨b,o+1,none⟩=some q/\w.cell? ⟨b,o+2,none⟩=some I:=⟨h 0 _ rfl,h 1 _ rfl,h 2 _ rfl⟩
theorem four(h:w.rangeAt b o [a0,q,I,L]):w.cell? ⟨b,o,none⟩=some a0/\w.cell? ⟨b,o+1,none⟩=some q/\w.cell? ⟨b,o+2,none⟩=some I/\w.cell? ⟨b,o+3,none⟩=some L:=⟨h 0 _ rfl,h 1 _ rfl,h 2 _ rfl,h 3 _ rfl⟩
theorem ZY(h:w.rangeAt b o [a0,I,L,N,q]):w.cell? ⟨b,o,none⟩=some a0/\w.cell? ⟨b,o+1,none⟩=some I/\w.cell? ⟨b,o+2,none⟩=some L/\w.cell? ⟨b,o+3,none⟩=some N/\w.cell? ⟨b,o+4,none⟩=some q:=⟨h 0 _ rfl,h 1 _ rfl,h 2 _ rfl,h 3 _ rfl,h 4 _ rfl⟩
theorem JW{O:Value}(h:w.rangeAt b o [a0,I,L,N,q,O]):w.cell? ⟨b,o,none⟩=some a0/\w.cell? ⟨b,o+1,none⟩=some I/\w.cell? ⟨b,o+2,none⟩=some L/\w.cell? ⟨b,o+3,none⟩=some N/\w.cell? ⟨b,o+4,none⟩=some q/\w.cell? ⟨b,o+5,none⟩=some O:=⟨h 0 _ rfl,h 1 _ rfl,h 2 _ rfl,h 3 _ rfl,h 4 _ rfl,h 5 _ rfl⟩
theorem boxed(q:Below (w.alloc (.cells h t)).heap.size (w.alloc (.cells h t)) w1)(i:Nat):w1.cell? ⟨w.heap.size,i,none⟩=h[i]?:=by
 rw[World.cell?_of_block (w:=w.alloc (.cells h t)) (q.block w.heap.size zp)];exact cell_of_row _ _ i h t (0,0) (heap_alloc_new w _)
theorem UK(q:Below (w.alloc (.cells h t)).heap.size (w.alloc (.cells h t)) w1):Bl w w1:=(xq w _).trans (q.mono zp)
structure Jp (w:World) (c1:Array Value) (W0:World):Prop where
 below:Bl w W0
 size:W0.heap.size=w.heap.size+1
 one:∀i,W0.cell? ⟨w.heap.size,i,none⟩=c1[i]?
structure Um (w:World) (c1 c2:Array Value) (W0:World):Prop where
 below:Bl w W0
 size:W0.heap.size=w.heap.size+2
 one:∀i,W0.cell? ⟨w.heap.size,i,none⟩=c1[i]?
 two:∀i,W0.cell? ⟨w.heap.size+1,i,none⟩=c2[i]?
theorem Vx(w:World)(c1:Array Value)(q:TypeId):∃h,w.alloc (.cells c1 q)=h/\Jp w c1 h:=
 ⟨_,rfl,xq w _,zp,fun i=>cell_of_row _ _ i c1 q (0,0) (heap_alloc_new w _)⟩
theorem zdu(w:World)(c1 c2:Array Value)(I q:TypeId):∃h,(w.alloc (.cells c1 I)).alloc (.cells c2 q)=h/\Um w c1 c2 h:=by
 refine⟨_,rfl,(xq w _).trans ((xq _ _).mono zp),zp,boxed (xq _ _),fun i=>?_⟩;simp
theorem Jp.at{q:World}(h:Jp w c1 q)(I:Bl q w1)(i:Nat):w1.cell? ⟨w.heap.size,i,none⟩=c1[i]?:=
 (World.cell?_of_block (w:=q) (I.block w.heap.size (by have:=h.size;omega))).trans (h.one i)
theorem Um.UD{q:World}(h:Um w c1 c2 q)(I:Bl q w1)(i:Nat):w1.cell? ⟨w.heap.size,i,none⟩=c1[i]?:=
 (World.cell?_of_block (w:=q) (I.block w.heap.size (by have:=h.size;omega))).trans (h.one i)
theorem Um.at2{q:World}(h:Um w c1 c2 q)(I:Bl q w1)(i:Nat):w1.cell? ⟨w.heap.size+1,i,none⟩=c2[i]?:=
 (World.cell?_of_block (w:=q) (I.block (w.heap.size+1) (by have:=h.size;omega))).trans (h.two i)
theorem Jp.in{q:World}(h:Jp w c1 q)(I:Bl q w1):Bl w w1:=h.below.trans (I.mono (by have:=h.size;omega))
theorem Um.in{q:World}(h:Um w c1 c2 q)(I:Bl q w1):Bl w w1:=h.below.trans (I.mono (by have:=h.size;omega))
def zZ{α:Type}(f:α->List Value)(w:World)(A:Option Addr)(xs:List α):Prop:=Rd w A (xs.flatMap f)
theorem zZ.below{f:α->List Value}{xs:List α}(h:zZ f w A xs)(q:Bl w W):zZ f W A xs:=Rd.below h q (zpx _)
theorem zZ.at{f:α->List Value}{c:Nat}{xs:List α}(O:∀x,(f x).length=c+1)(h:zZ f w A xs)(i:Nat)(hi:i<xs.length):
 ∃b o,A=some ⟨b,o,none⟩/\b<w.heap.size/\w.rangeAt b (o+i*(c+1)) (f xs[i]):=by
 have L:∀r∈xs.map f,r.length=c+1:=fun r I=>by
  obtain⟨x,_,rfl⟩:=zp8.1 I;exact O x
 unfold zZ at h;rw[zrs]at h;have q:(xs.map f).flatten≠[]:=by
  intro e;have N:=zaq L;rw[e,zpO,zqd]at N;have:0<xs.length*(c+1):=Nat.mul_pos zd (zd);omega
 obtain⟨b,o,rfl,N,I⟩:=h q;refine⟨b,o,rfl,N,?_⟩;have:=Ub I (i*(c+1)) (c+1);rw[D9 L i (by rw[zpO];exact hi),zqz]at this;exact this
mutual
def Ex.zN(w:World):Ex->Prop
 |.mk _ _ A _ h=>zZ Ex.cells w A h/\h.length*80<=140737488351232/\Ex.qG w h
def Ex.qG (w:World):List Ex->Prop
 |[]=>True
 |e::h=>Ex.zN w e/\Ex.qG w h
end
mutual
theorem Ex.zN.below{w W:World}(q:Bl w W):∀{e:Ex},e.zN w->e.zN W
 |.mk _ _ A _ I,h=>by
  unfold Ex.zN at h ⊢;exact⟨h.1.below q,h.2.1,Ex.qG.below q h.2.2⟩
theorem Ex.qG.below {w W:World} (q:Bl w W):∀{l:List Ex},Ex.qG w l->Ex.qG W l
 |[],_=>by unfold Ex.qG;trivial
 |e::I,h=>by
  unfold Ex.qG at h ⊢;exact⟨Ex.zN.below q h.1,Ex.qG.below q h.2⟩
end
theorem Ex.qG.mem{w:World}:∀{l:List Ex},Ex.qG w l->∀e∈l,e.zN w
 |e::I,h,x,q=>by
  unfold Ex.qG at h
  rcases zpU.1 q with rfl|q
  ·exact h.1
  ·exact Ex.qG.mem h.2 x q
theorem Ex.qG.of{w:World}:∀{l:List Ex},(∀e∈l,e.zN w)->Ex.qG w l
 |[],_=>by unfold Ex.qG;trivial
 |e::I,h=>by
  unfold Ex.qG;exact⟨h e zpP,Ex.qG.of fun x q=>h x (zpQ _ q)⟩
structure At.zN (x:At) (w:World):Prop where
 rd:zZ Tm.cells w x.A x.args
 len:x.args.length*48<=140737488351232
structure Li.zN (x:Li) (w:World):Prop where
 a:x.a.zN w
 l:x.l.zN w
 r:x.r.zN w
structure Ru.zN (x:Ru) (w:World):Prop where
 head:zZ Ar.cells w x.A x.head
 XY:x.head.length*56<=140737488351232
 rd:zZ Li.cells w x.B x.body
 y8:x.body.length*216<=140737488351232
 body:∀y∈x.body,y.zN w
structure Fa.zN (x:Fa) (w:World):Prop where
 rd:zZ Vl.cells w x.A x.args
 len:x.args.length*32<=140737488351232
theorem At.zN.below{x:At}(h:x.zN w)(q:Bl w W):x.zN W:=⟨h.rd.below q,h.len⟩
theorem Li.zN.below{x:Li}(h:x.zN w)(q:Bl w W):x.zN W:=⟨h.a.below q,h.l.below q,h.r.below q⟩
theorem Ru.zN.below{x:Ru}(h:x.zN w)(q:Bl w W):x.zN W:=⟨h.head.below q,h.XY,h.rd.below q,h.y8,fun y I=>(h.body y I).below q⟩
theorem Fa.zN.below{x:Fa}(h:x.zN w)(q:Bl w W):x.zN W:=⟨h.rd.below q,h.len⟩
def Ug(c:Nat):Prop:=(97<=c/\c<=122)\/(65<=c/\c<=90)\/(48<=c/\c<=57)\/c=95
structure Wd (s:ByteArray) (a b:Nat):Prop where
 pos:0<s.size
 le:s.size<=120
 fst:a<=s[0].toNat/\s[0].toNat<=b
 all:∀i (h:i<s.size),Ug s[i].toNat
def kept:List (List UInt8):=[[110,111,116],[99,111,117,110,116],[115,117,109],[109,105,110],[109,97,120],[108,101,110],[99,104,97,114,115],[98,97,99,107]]
def Nm(s:ByteArray):Prop:=s.toList∉kept/\Wd s 97 122
def Vr(s:ByteArray):Prop:=Wd s 65 90
def Vl.ok(x:Vl):Prop:=(x.k=1/\x.s=⟨#[]⟩)\/(x.k=2/\x.n=0/\x.s.size<=200)
def Vl.none(x:Vl):Prop:=x.k=0/\x.n=0/\x.s=⟨#[]⟩
def Tm.ok(t:Tm):Prop:=(t.v=⟨#[]⟩/\t.x.ok)\/(t.x.none/\(t.v=⟨#[95]⟩\/(t.v.toList≠[]/\t.v.toList≠[95]/\Vr t.v)))
def Tm.Jg(t:Tm):Prop:=t.v.toList≠[95]/\t.ok
def Tm.none(t:Tm):Prop:=t.v=⟨#[]⟩/\t.x.none
def arity(q:Int):Int:=if q=1\/q=8\/q=9\/q=10 then 1 else if 2<=q/\q<=7 then 2 else -1
def Ex.ok:Nat->Ex->Prop
 |0,_=>False
 |d+1,.mk q t _ _ h=>(q=0/\h=[]/\t.Jg)\/(q≠0/\t.none/\(h.length:Int)=arity q/\∀k∈h,Ex.ok d k)
def At.ok(a:At):Prop:=Nm a.p/\a.args.length<=24/\∀t∈a.args,t.ok
def Ex.empty:Ex->Prop
 |.mk q t _ _ h=>q=0/\t.none/\h=[]
def Li.ok(x:Li):Prop:=((x.k=1\/x.k=2)/\x.rl=0/\x.l.empty/\x.r.empty/\x.a.ok)\/(x.k=3/\x.a.p=⟨#[]⟩/\x.a.args=[]/\1<=x.rl/\x.rl<=6/\x.l.ok 8/\x.r.ok 8)
theorem znn(w:World)(s:ByteArray):∃(q:Nat) (W:World),(convert 9 368 (.string s)).run prog w=.ok (.slice (some ⟨w.heap.size,0,none⟩) s.size q) W/\Bl w W/\w.heap.size<W.heap.size/\
 ∀i (h:i<s.size),W.cell? ⟨w.heap.size,i,none⟩=some (.int .u8 (s[i].toNat:Int)):=by
 refine⟨_,_,run_bytes_of_string w 9 368 5 s underlying9 underlying368 underlying5,(Below.refl _ _).drew.trans (xq w.drew _),zp,fun i h=>?_⟩;generalize grownCap w s.size 0 5=q;have I:=heap_alloc_new w.drew (.cells (bytesRow s q) 5 ((bytesRow s q).size,(bytesRow s q).size+1));rw[show w.drew.heap.size=w.heap.size from rfl]at I;unfold World.cell?;simp only[I];unfold bytesRow;have q:i<(s.data.map fun b=>Value.int .u8 b.toNat).size:=by simpa using h
 rw[Array.getElem?_append_left q,Array.getElem?_map,zqD (by simpa using h)];rfl
theorem zdv(w:World)(s:ByteArray)(a b:Nat)(h:Wd s a b):
 Calls prog 173 #[.string s,.int .u8 (a:Int),.int .u8 (b:Int)] w fun e q=>e=.returned (.bool true)/\Bl w q:=by
 obtain⟨U,aa,⟨h2,h3⟩,N⟩:=h;obtain⟨Y,W,R,V,I,q⟩:=znn w s;have X:=zz V;have L:=zz q;have O:=zz N;clear V I q N;have V:((s.size:Int)==0)=false:=beq_eq_false_iff_ne.2 zd;have ab:decide ((120:Int)<(s.size:Int))=false:=zb;have Z:decide (s[0].toNat<a)=false:=zb;have ac:decide (b<s[0].toNat)=false:=zb;go_enter func173,ntmps173;go_wp2
 go_loopg[8,32] s.size (fun gk _ q N=>∃i:Nat,i<=s.size/\gk=s.size-i/\q=.int .i64 (i:Int)/\N=W)
 case atStart=>exact⟨0,zpD _,rfl,rfl,rfl⟩
 case round=>
  obtain⟨i,hi,rfl,rfl,rfl⟩:=hrel
  by_cases I:i<s.size
  ·have N:=L.o i I;have q:=O.o i I;generalize s[i].toNat=c at N q;unfold Ug at q
   rcases q with h|h|h|h
   all_goals
    go_wp2
    go_roundg (s.size-(i+1))
    case measure=>omega
    case rel=>exact⟨i+1,zd,rfl,ze,rfl⟩
  ·obtain rfl:i=s.size:=zd;go_wp2;go_returns;exact⟨rfl,X.o⟩
theorem zco(w:World)(s:ByteArray)(h:Nm s):Calls prog 110 #[.string s] w fun e q=>e=.returned (.bool true)/\Bl w q:=by
 obtain⟨R,I⟩:=h;simp only[kept,zpU,zqY,or_false,not_or]at R;obtain⟨O,q,X,N,Y,U,V,L⟩:=R;have b0:(s.toList==([110,111,116]:List UInt8))=false:=by simp[O]
 have Z:(s.toList==([99,111,117,110,116]:List UInt8))=false:=by simp[q]
 have b2:(s.toList==([115,117,109]:List UInt8))=false:=by simp[X]
 have b3:(s.toList==([109,105,110]:List UInt8))=false:=by simp[N]
 have b4:(s.toList==([109,97,120]:List UInt8))=false:=by simp[Y]
 have b5:(s.toList==([108,101,110]:List UInt8))=false:=by simp[U]
 have b6:(s.toList==([99,104,97,114,115]:List UInt8))=false:=by simp[V]
 have b7:(s.toList==([98,97,99,107]:List UInt8))=false:=by simp[L]
 have R:=zz (zdv w s 97 122 I);clear I O q X N Y U V L;go_enter func110,ntmps110
 go_wp2_with (go_at_call 173;refine R.o.mono ?_;rintro e W⟨rfl,q⟩)
 go_returns;exact⟨rfl,q⟩
theorem VP(w:World)(x:Vl)(h:x.ok):Calls prog 32 #[.agg x.cells.toArray] w fun e q=>e=.returned (.int .i64 0)/\Bl w q:=by
 obtain⟨k,n,s⟩:=x
 rcases h with⟨I,q⟩ |⟨I,q,L⟩
 ·simp only at I q;subst I q;go_enter func32,ntmps32;go_wp2;go_returns;exact⟨rfl,xq w _⟩
 ·simp only at I q L;subst I q;go_enter func32,ntmps32;go_wp2;go_returns;exact⟨rfl,xq w _⟩
theorem JJ(w:World):Calls prog 113 #[.bool true] w fun e h=>e=.returned (.int .i64 0)/\Bl w h:=by
 go_enter func113,ntmps113;go_wp2;go_returns;exact⟨rfl,Below.refl _ _⟩
theorem zbV(w:World)(t:Tm)(h:t.ok):Calls prog 214 #[.agg t.cells.toArray] w fun e q=>e=.returned (.int .i64 0)/\Bl w q:=by
 obtain⟨v,k,n,s⟩:=t
 rcases h with⟨O,N⟩ |⟨⟨O,N,U⟩,L⟩
 ·simp only at O N;subst O;have R:=zz (fun W=>VP W ⟨k,n,s⟩ N);clear N;go_enter func214,ntmps214
  go_wp2_with (first
   |(go_at_call 32;refine(R.o _).mono ?_;rintro e Y⟨rfl,I⟩)
   |(go_at_call 113;refine(JJ _).mono ?_;rintro e X⟨rfl,q⟩))
  go_returns;exact⟨rfl,(xq w _).trans ((I.mono zp).trans (q.mono (by have:=I.size;simp at this;omega)))⟩
 ·simp only at O N U L;subst O N U
  rcases L with L |⟨L,R,V⟩
  ·subst L;go_enter func214,ntmps214
   go_wp2_with (go_at_call 113;refine(JJ _).mono ?_;rintro e X⟨rfl,q⟩)
   go_returns;exact⟨rfl,(xq w _).trans (q.mono zp)⟩
  ·have b0:(v.toList==([]:List UInt8))=false:=by simp[L]
   have b1:(v.toList==([95]:List UInt8))=false:=by simp[R]
   have Z:=zz (fun W=>zdv W v 65 90 V);clear L R V;go_enter func214,ntmps214
   go_wp2_with (first
    |(go_at_call 173;refine(Z.o _).mono ?_;rintro e Y⟨rfl,I⟩)
    |(go_at_call 113;refine(JJ _).mono ?_;rintro e X⟨rfl,q⟩))
   go_returns;exact⟨rfl,(xq w _).trans ((I.mono zp).trans (q.mono (by have:=I.size;simp at this;omega)))⟩
theorem Dx(w:World)(t:Tm)(h:t.Jg):Calls prog 174 #[.agg t.cells.toArray] w fun e q=>e=.returned (.bool true)/\Bl w q:=by
 obtain⟨L,q⟩:=h;have N:(t.v.toList==([95]:List UInt8))=false:=by simp[L]
 have I:=zz (fun W=>zbV W t q);clear L q;obtain⟨v,k,n,s⟩:=t;simp only[Tm.cells]at N I ⊢;go_enter func174,ntmps174
 go_wp2_with (go_at_call 214;refine(I.o _).mono ?_;rintro e L⟨rfl,q⟩)
 go_returns;exact⟨rfl,(xq w _).trans (q.mono zp)⟩
theorem zaO(w:World)(t:Tm)(h:t.none):Calls prog 175 #[.agg t.cells.toArray] w fun e q=>e=.returned (.bool true)/\Bl w q:=by
 obtain⟨v,k,n,s⟩:=t;obtain⟨rfl,I,q,L⟩:=h;simp only at I q L;subst I q L;go_enter func175,ntmps175;go_wp2;go_returns;exact⟨rfl,xq w _⟩
theorem zeM(w:World)(e:Ex)(h:e.empty):Calls prog 176 #[.agg e.cells.toArray] w fun e I=>e=.returned (.bool true)/\Bl w I:=by
 obtain⟨q,⟨v,k,n,s⟩,A,O,L⟩:=e;obtain⟨rfl,I,rfl⟩:=h;have N:=zz (fun W=>zaO W _ I);clear I;simp only[Ex.cells,Tm.cells,zqd]at N ⊢;go_enter func176,ntmps176
 go_wp2_with (go_at_call 175;refine(N.o _).mono ?_;rintro e R⟨rfl,I⟩;have U:=boxed I 5)
 go_returns;exact⟨rfl,UK I⟩
theorem ziL(w:World)(q:Int):Calls prog 253 #[.int .i8 q] w fun e h=>e=.returned (.int .i64 (arity q))/\h=w:=by
 unfold arity;go_enter func253,ntmps253;go_wp2
 all_goals
  go_returns;refine⟨?_,rfl⟩
  simp_all<;>omega
theorem zlB(w:World)(A:Option Addr)(cap:Nat)(h:List Ex)(Y:h.length*80<=140737488351232)(I:zZ Ex.cells w A h)(p:Addr)(V:∀k∈h,∀W,Bl w W->Calls prog 255 #[.agg k.cells.toArray,.pointer (some p)] W fun e L=>e=.returned (.bool false)/\Bl W L):
 Calls prog 281 #[.slice A h.length cap,.func (.func 255) #[] #[.pointer (some p)]] w fun e L=>e=.returned (.int .i64 (-1))/\Bl w L:=by
 have X:=zz I;have Hf:=zz V;clear I V;obtain⟨n,L⟩:∃n,h.length=n:=⟨_,rfl⟩;rw[L]at Y ⊢;have Z:=zz L;clear L;go_enter func281,ntmps281;go_wp2
 go_loopg[8] n (fun gk L N=>∃i:Nat,i<=n/\gk=n-i/\L=.int .i64 (i:Int)/\Bl w N)
 case atStart=>exact⟨0,zpD _,rfl,rfl,Below.refl _ _⟩
 case round=>
  obtain⟨i,hi,rfl,rfl,N⟩:=hrel
  by_cases R:i<n
  ·have L:i<h.length:=by rw[Z.o];exact R
   obtain⟨b,o,rfl,hb,I⟩:=(X.o.below N).at Ex.xG i L;have O:=Hf.o h[i] (zpB L) wr N;generalize h[i]=e at I O;obtain⟨q,⟨v,k,m,s⟩,A',U,ks⟩:=e;simp only[Ex.cells]at I O
   replace I:wr.rangeAt b (o+i*6) _:=I
   obtain⟨c0,c1,c2,c3,c4,c5⟩:=JW I;have Hk:=zz O;clear I O
   go_wp2_with (go_at_call 255;refine Hk.o.mono ?_;rintro e w1⟨rfl,O⟩)
   go_roundg (n-(i+1))
   case measure=>omega
   case rel=>exact⟨i+1,zd,rfl,ze,N.trans (O.mono N.size)⟩
  ·obtain rfl:i=n:=zd;go_wp2;go_returns;exact⟨rfl,N⟩
theorem zhN(w:World)(A:Option Addr)(cap:Nat)(h:List Ex)(N:h.length*80<=140737488351232)(L:zZ Ex.cells w A h)(p:Addr)(I:∀k∈h,∀W,Bl w W->Calls prog 255 #[.agg k.cells.toArray,.pointer (some p)] W fun e q=>e=.returned (.bool false)/\Bl W q):
 Calls prog 254 #[.slice A h.length cap,.func (.func 255) #[] #[.pointer (some p)]] w fun e q=>e=.returned (.bool false)/\Bl w q:=by
 have H:=zz (zlB w A cap h N L p I);clear L I;go_enter func254,ntmps254
 go_wp2_with (go_at_call 281;refine H.o.mono ?_;rintro e O⟨rfl,q⟩)
 go_returns;exact⟨rfl,q⟩
theorem zgS(w:World)(e:Ex)(p:Addr)(d:Nat)(V:d<=8)(R:w.cell? p=some (.int .i64 ((d:Int)+1)))(N:p.block<w.heap.size)(h:∀W,Bl w W->Calls prog 222 #[.agg e.cells.toArray,.int .i64 (d:Int)] W fun e I=>e=.returned (.bool true)/\Bl W I):
 Calls prog 255 #[.agg e.cells.toArray,.pointer (some p)] w fun e I=>e=.returned (.bool false)/\Bl w I:=by
 have I:∀o,(w.alloc o).cell? p=some (.int .i64 ((d:Int)+1)):=fun o=>(World.cell?_of_block (w:=w) (Below.heap_alloc w o p.block N)).trans R
 obtain⟨q,⟨v,k,n,s⟩,A,O,L⟩:=e;have H:=zz h;clear h R;simp only[Ex.cells,Tm.cells]at H ⊢;have U:=I (.cells #[.int .i8 q,.string v,.int .i8 k,.int .i64 n,.string s,.slice A L.length O] 48);clear I;go_enter func255,ntmps255
 go_wp2_with (go_at_call 222;refine(H.o _ ((Below.refl _ _).alloc (zpx _) _)).mono ?_;rintro e X⟨rfl,I⟩)
 go_returns;exact⟨rfl,UK I⟩
theorem zcJ:∀(d:Nat)(L:d<=8)(e:Ex)(w:World)(I:e.zN w)(h:e.ok d),Calls prog 222 #[.agg e.cells.toArray,.int .i64 (d:Int)] w fun e O=>e=.returned (.bool true)/\Bl w O
 |0,_,_,_,_,h=>by unfold Ex.ok at h;exact h.elim
 |d+1,L,.mk q ⟨v,k,n,s⟩ A ab R,w,I,h=>by
  have IH:=zz (fun e W I h=>zcJ d zd e W I h);unfold Ex.zN at I;obtain⟨hr,V,Z⟩:=I;unfold Ex.ok at h
  rcases h with⟨rfl,rfl,ht⟩ |⟨hq,ht,hn,X⟩
  ·have I:=zz (fun W=>Dx W _ ht);clear ht IH hr Z;simp only[Ex.cells,Tm.cells,zqd]at I ⊢;have h0:((d:Int)+1==0)=false:=beq_eq_false_iff_ne.2 zd;go_enter func222,ntmps222
   go_wp2_with (go_at_call 174;refine(I.o _).mono ?_;rintro e w1⟨rfl,Y⟩)
   go_returns;exact⟨rfl,(xq w _).trans ((xq _ _).trans (Y.mono zp) |>.mono zp)⟩
  ·have Hn:=zz (fun W=>zaO W _ ht);have aa:=zz V;have Hr:=zz hr;have Hk:=zz Z;have ae:=zz X;have ad:((R.length:Int) != arity q)=false:=by simp[hn]
   have ag:(q==0)=false:=beq_eq_false_iff_ne.2 hq;clear ht hr Z X V hn hq;simp only[Ex.cells,Tm.cells]at Hn ⊢;generalize I:R.length=N at ad ⊢;have HN:=zz I;clear I;have h0:((d:Int)+1==0)=false:=beq_eq_false_iff_ne.2 zd;go_enter func222,ntmps222;go_wp2;obtain⟨W0,O,I⟩:=zdu w #[.int .i8 q,.string v,.int .i8 k,.int .i64 n,.string s,.slice A N ab] #[.int .i64 ((d:Int)+1)] 48 3;rw[O];have HX:=zz I;have Hc:Kz (∀W,Bl W0 W->_):=fun W L=>zpG (I.UD L 0) (zpG (I.UD L 1) (zpG (I.UD L 2) (zpG (I.UD L 3) (zpG (I.UD L 4) (zpG (I.UD L 5) (I.at2 L 0))))))
   clear O I;refine zjO [(0,false),(1,false),(2,true),(3,false),(4,false),(5,false),(6,false),(7,false),(8,false),(9,false),(10,true),(11,false),(12,false)] (fun W=>Bl W0 W) zo (zo) rfl zo (Below.refl _ _).drew ?_;simp only[VA,List.filterMap_cons,List.filterMap_nil,zpL,zpM,zpH,zqh];try simp only[Act.put,zp4,zqm,zqv]
   repeat(first
    |(apply DF;(case hw=>rfl);simp only[Act.put,zp4,zqm,zqv])
    |(apply DZ;(case hw=>rfl);simp only[Act.put,zp4,zqm,zqv])
    |(apply zav;(case hw=>rfl);(case hy=>(intro wx U;have kk:=Hc.o wx U;go_simp;try exact rfl));simp only[Act.put,zp4,zqm,zqv])
    |fail)
   refine zfT zj (fun K O=>?_);go_simp;refine(Hn.o _).mono ?_;rintro e W3⟨rfl,ac⟩;have I:=zz (show Bl W0 W3 from(Below.refl _ _).drew.trans ac);refine O.out _ _ I.o ?_;clear O K ac;try simp only[Act.put,zp4,zqm,zqv]
   repeat(first
    |(apply DF;(case hw=>rfl);simp only[Act.put,zp4,zqm,zqv])
    |(apply DZ;(case hw=>rfl);simp only[Act.put,zp4,zqm,zqv])
    |(apply zav;(case hw=>rfl);(case hy=>(intro wx U;have kk:=Hc.o wx U;go_simp;try exact rfl));simp only[Act.put,zp4,zqm,zqv])
    |fail)
   refine zfT zj (fun K O=>?_);go_simp;refine(ziL _ _).mono ?_;rintro e W4⟨rfl,rfl⟩;refine O.out _ _ I.o ?_;clear O K;try simp only[Act.put,zp4,zqm,zqv]
   repeat(first
    |(apply DF;(case hw=>rfl);simp only[Act.put,zp4,zqm,zqv])
    |(apply DZ;(case hw=>rfl);simp only[Act.put,zp4,zqm,zqv])
    |(apply zav;(case hw=>rfl);(case hy=>(intro wx U;have kk:=Hc.o wx U;go_simp;try exact rfl));simp only[Act.put,zp4,zqm,zqv])
    |fail)
   refine ziC ?_;have O:=zz (HX.o.in I.o);have af:=zz (Hr.o.below O.o);have kk:=Hc.o _ I.o;have HC:=zz (zhN W4 A ab R aa.o af.o ⟨w.heap.size+1,0,none⟩ fun k Z W L=>
    zgS W k _ d zd (Hc.o W (I.o.trans (L.mono I.o.size))).2.2.2.2.2.2 (by have h1:=HX.o.size;have h2:=I.o.size;have h3:=L.size;show w.heap.size+1<W.heap.size;omega) fun W' ac=>
     IH.o k W' ((Ex.qG.mem Hk.o k Z).below (O.o.trans ((L.trans (ac.mono L.size)).mono O.o.size))) (ae.o k Z))
   rw[HN.o]at HC
   go_wp2_with (go_at_call 254;refine HC.o.mono ?_;rintro e w1⟨rfl,Y⟩)
   go_returns;exact⟨rfl,O.o.trans (Y.mono O.o.size)⟩
theorem zmb(w:World)(t:Tm)(h:t.ok):Calls prog 213 #[.agg t.cells.toArray] w fun e q=>e=.returned (.bool false)/\Bl w q:=by
 have I:=zz (fun W=>zbV W t h);clear h;obtain⟨v,k,n,s⟩:=t;simp only[Tm.cells]at I ⊢;go_enter func213,ntmps213
 go_wp2_with (go_at_call 214;refine(I.o _).mono ?_;rintro e L⟨rfl,q⟩)
 go_returns;exact⟨rfl,UK q⟩
theorem Tm.xG(t:Tm):t.cells.length=3+1:=rfl
theorem zgd(w:World)(A:Option Addr)(cap:Nat)(l:List Tm)(V:l.length*48<=140737488351232)(h:zZ Tm.cells w A l)(I:∀t∈l,t.ok):
 Calls prog 250 #[.slice A l.length cap,.func (.func 213) #[] #[]] w fun e q=>e=.returned (.int .i64 (-1))/\Bl w q:=by
 have U:=zz h;have R:=zz I;clear h I;obtain⟨n,q⟩:∃n,l.length=n:=⟨_,rfl⟩;rw[q]at V ⊢;have W:=zz q;clear q;go_enter func250,ntmps250;go_wp2
 go_loopg[8] n (fun gk q L=>∃i:Nat,i<=n/\gk=n-i/\q=.int .i64 (i:Int)/\Bl w L)
 case atStart=>exact⟨0,zpD _,rfl,rfl,Below.refl _ _⟩
 case round=>
  obtain⟨i,hi,rfl,rfl,N⟩:=hrel
  by_cases O:i<n
  ·have q:i<l.length:=by rw[W.o];exact O
   obtain⟨b,o,rfl,Z,h⟩:=(U.o.below N).at Tm.xG i q;have L:=zmb wr l[i] (R.o _ (zpB q));generalize l[i]=t at h L;obtain⟨v,k,m,s⟩:=t;simp only[Tm.cells]at h L
   replace h:wr.rangeAt b (o+i*4) _:=h
   obtain⟨c0,c1,c2,c3⟩:=four h;have X:=zz L;clear h L
   go_wp2_with (go_at_call 213;refine X.o.mono ?_;rintro e Y⟨rfl,L⟩)
   go_roundg (n-(i+1))
   case measure=>omega
   case rel=>exact⟨i+1,zd,rfl,ze,N.trans (L.mono N.size)⟩
  ·obtain rfl:i=n:=zd;go_wp2;go_returns;exact⟨rfl,N⟩
theorem zhQ(w:World)(A:Option Addr)(cap:Nat)(l:List Tm)(L:l.length*48<=140737488351232)(I:zZ Tm.cells w A l)(h:∀t∈l,t.ok):
 Calls prog 212 #[.slice A l.length cap,.func (.func 213) #[] #[]] w fun e q=>e=.returned (.bool false)/\Bl w q:=by
 have H:=zz (zgd w A cap l L I h);clear I h;go_enter func212,ntmps212
 go_wp2_with (go_at_call 250;refine H.o.mono ?_;rintro e N⟨rfl,q⟩)
 go_returns;exact⟨rfl,q⟩
theorem zdb(w:World)(a:At)(hl:a.zN w)(h:a.ok):Calls prog 149 #[.agg a.cells.toArray] w fun e q=>e=.returned (.int .i64 0)/\Bl w q:=by
 obtain⟨p,A,O,l⟩:=a;obtain⟨L,Y,R⟩:=h;obtain⟨I,q⟩:=hl;simp only at L Y R I q;have Hn:=zz (fun W=>zco W p L);have Z:=zz (fun W (U:Bl w W)=>zhQ W A O l q (I.below U) R);clear L R I;simp only[At.cells];generalize l.length=N at Y q Z ⊢;obtain⟨W0,I,R⟩:=Vx w #[.string p,.slice A N O] 38;have X:=zz R;have U:=zz I;clear R I;go_enter func149,ntmps149
 go_wp2_with (first
  |(go_at_call 110;refine(Hn.o _).mono ?_;rintro e w1⟨rfl,I⟩;rw[U.o]at I;have k1:=X.o.at I 1)
  |(go_at_call 212;refine(Z.o _ (X.o.in I)).mono ?_;rintro e w2⟨rfl,R⟩)
  |(go_at_call 113;refine(JJ _).mono ?_;rintro e w3⟨rfl,V⟩))
 go_returns;have L:=X.o.in I;exact⟨rfl,L.trans ((R.trans (V.mono R.size)).mono L.size)⟩
theorem D8(w:World)(e:Ex)(R:e.zN w)(h:e.ok 8):Calls prog 177 #[.agg e.cells.toArray] w fun e I=>e=.returned (.int .i64 0)/\Bl w I:=by
 have O:=zz (fun W (I:Bl w W)=>zcJ 8 (zpx _) e W (R.below I) h);clear R h;obtain⟨q,⟨v,k,n,s⟩,A,V,U⟩:=e;simp only[Ex.cells,Tm.cells]at O ⊢;go_enter func177,ntmps177
 go_wp2_with (first
  |(go_at_call 222;refine(O.o _ (xq _ _)).mono ?_;rintro e X⟨rfl,I⟩)
  |(go_at_call 113;refine(JJ _).mono ?_;rintro e Y⟨rfl,L⟩))
 go_returns;have N:=UK I;exact⟨rfl,N.trans (L.mono N.size)⟩
def Ar.ok(a:Ar):Prop:=(a.g=0/\a.t.Jg)\/(a.g=1/\a.t.none)\/((a.g=2\/a.g=3\/a.g=4)/\a.t.v.toList≠[]/\a.t.Jg)
theorem zhG(w:World)(a:Ar)(h:a.ok):Calls prog 111 #[.agg a.cells.toArray] w fun e q=>e=.returned (.bool true)/\Bl w q:=by
 obtain⟨g,t⟩:=a
 rcases h with⟨rfl,h⟩ |⟨rfl,h⟩ |⟨O,N,h⟩
 ·have I:=zz (fun W=>Dx W t h);clear h;obtain⟨v,k,n,s⟩:=t;simp only[Ar.cells,Tm.cells]at I ⊢;go_enter func111,ntmps111
  go_wp2_with (go_at_call 174;refine(I.o _).mono ?_;rintro e L⟨rfl,q⟩)
  go_returns;exact⟨rfl,UK q⟩
 ·have I:=zz (fun W=>zaO W t h);clear h;obtain⟨v,k,n,s⟩:=t;simp only[Ar.cells,Tm.cells]at I ⊢;go_enter func111,ntmps111
  go_wp2_with (go_at_call 175;refine(I.o _).mono ?_;rintro e L⟨rfl,q⟩)
  go_returns;exact⟨rfl,UK q⟩
 ·have I:=zz (fun W=>Dx W t h);have R:(t.v.toList==([]:List UInt8))=false:=by simp[N]
  clear h N;obtain⟨v,k,n,s⟩:=t;simp only[Ar.cells,Tm.cells]at I O R ⊢
  rcases O with rfl|rfl|rfl
  all_goals
   go_enter func111,ntmps111
   go_wp2_with (go_at_call 174;refine(I.o _).mono ?_;rintro e L⟨rfl,q⟩)
   go_returns;exact⟨rfl,UK q⟩
theorem zgw(w:World)(x:Li)(hl:x.zN w)(h:x.ok):Calls prog 112 #[.agg x.cells.toArray] w fun e q=>e=.returned (.int .i64 0)/\Bl w q:=by
 obtain⟨k,⟨p,A,aj,ai⟩,rl,l,r⟩:=x;obtain⟨ha,aa,Z⟩:=hl;simp only at ha aa Z
 rcases h with⟨hk,am,ag,ah,ae⟩ |⟨hk,hp,X,ak,al,af,ac⟩
 ·simp only at hk am ag ah ae;subst am;have Hl:=zz (fun W=>zeM W l ag);have Hr:=zz (fun W=>zeM W r ah);have Ha:=zz (fun W (hB:Bl w W)=>zdb W _ (ha.below hB) ae);clear ha aa Z ag ah ae;obtain⟨q1,⟨v1,k1,n1,s1⟩,A1,U,O⟩:=l;obtain⟨q2,⟨v2,k2,n2,s2⟩,A2,V,L⟩:=r;simp only[Li.cells,Ex.cells,Tm.cells,At.cells,zpJ,zpI]at Hl Hr Ha ⊢;generalize ai.length=N at Ha ⊢;generalize O.length=N1 at Hl ⊢;generalize L.length=N2 at Hr ⊢;obtain⟨W0,R,hX⟩:=Vx w #[.int .i8 k,.string p,.slice A N aj,.int .i8 0,.int .i8 q1,.string v1,.int .i8 k1,.int .i64 n1,.string s1,.slice A1 N1 U,.int .i8 q2,.string v2,.int .i8 k2,.int .i64 n2,.string s2,.slice A2 N2 V] 50;have I:=zz hX;have ad:=zz R;clear hX R
  rcases hk with rfl|rfl
  all_goals
   go_enter func112,ntmps112
   go_wp2_with (first
    |(go_at_call 149;refine(Ha.o _ (I.o.in (q.trans (Y.mono q.size)))).mono ?_;rintro e w3⟨rfl,aq⟩)
    |(go_at_call 176;refine(Hr.o w1).mono ?_;rintro e w2⟨rfl,Y⟩;have ab:=q.trans (Y.mono q.size);have k1:=I.o.at ab 1;have k2:=I.o.at ab 2)
    |(go_at_call 176;refine(Hl.o _).mono ?_;rintro e w1⟨rfl,q⟩;rw[ad.o]at q;have ZO:=I.o.at q 10;have ap:=I.o.at q 11;have Zf:=I.o.at q 12;have Zs:=I.o.at q 13;have an:=I.o.at q 14;have ao:=I.o.at q 15))
   go_returns;have h1:=I.o.in (q.trans (Y.mono q.size));exact⟨rfl,h1.trans (aq.mono h1.size)⟩
 ·simp only at hk hp X ak al af ac;subst hk hp X;have Hl:=zz (fun W (hB:Bl w W)=>D8 W l (aa.below hB) af);have Hr:=zz (fun W (hB:Bl w W)=>D8 W r (Z.below hB) ac);clear ha aa Z af ac;obtain⟨q1,⟨v1,k1,n1,s1⟩,A1,U,O⟩:=l;obtain⟨q2,⟨v2,k2,n2,s2⟩,A2,V,L⟩:=r;simp only[Li.cells,Ex.cells,Tm.cells,zpJ,zpI,zqd]at Hl Hr ⊢;generalize O.length=N1 at Hl ⊢;generalize L.length=N2 at Hr ⊢;obtain⟨W0,R,hX⟩:=Vx w #[.int .i8 3,.string ⟨#[]⟩,.slice A (0:Nat) aj,.int .i8 rl,.int .i8 q1,.string v1,.int .i8 k1,.int .i64 n1,.string s1,.slice A1 N1 U,.int .i8 q2,.string v2,.int .i8 k2,.int .i64 n2,.string s2,.slice A2 N2 V] 50;have I:=zz hX;have ad:=zz R;clear hX R;go_enter func112,ntmps112
  go_wp2_with (first
   |(go_at_call 177;refine(Hr.o _ (I.o.in q)).mono ?_;rintro e w2⟨rfl,Y⟩)
   |(go_at_call 177;refine(Hl.o _ (xq _ _)).mono ?_;rintro e w1⟨rfl,q⟩;rw[ad.o]at q;have ZO:=I.o.at q 10;have ap:=I.o.at q 11;have Zf:=I.o.at q 12;have Zs:=I.o.at q 13;have an:=I.o.at q 14;have ao:=I.o.at q 15))
  go_returns;have h1:=I.o.in (q.trans (Y.mono q.size));exact⟨rfl,h1⟩
end
