/-
  Plain words: the variables of terms; those that a body limit
-/
import Derived.Test.YtfdickkdlcgicaaGreatDoorP00
import Derived.WideShapes
import Derived.BigGuardPart
import Derived.Laws.StructEq
import Derived.Deep.QuietTactic
import Derived.BigQuiet
import Derived.Maps.OwnSet
import Derived.Laws.Rows
import Derived.Deep.AppendLies
set_option maxRecDepth 100000
set_option maxHeartbeats 8000000
set_option linter.all false
namespace Go.Proofs.YtfdickkdlcgicaaGreatDoor.C
open Go.Proofs.Tryz Go Go.RowKit Go.Maps Go.WideMaps
variable {B N g i n:Nat}{K vs:List ByteArray}{P:Prop}{Q:Exit->Act->World->Prop}{S S':Nat->Prop}{a c r w w' w1:World}{b:Bool}{k:Int}{l:List UInt8}{left:List Nat}{o:Oper}{p:Addr}{rest:List Oper}{s u v:ByteArray}{x z:Value}{xs:List Value}
section
theorem UO{a b:ByteArray}(h:a.toList=b.toList):a=b:=by
 rw[ByteArray.toList_eq,ByteArray.toList_eq]at h
 cases a;cases b
 simp only at h;rw[Array.toList_inj.1 h]
theorem bytes_beq(a b:ByteArray):(a.toList==b.toList)=tf (a=b):=by
 by_cases h:a=b
 ·subst h;rw[qs rfl];simp
 ·rw[qt h];exact beq_eq_false_iff_ne.2 fun e=>h (UO e)
theorem zk5(a b:ByteArray):(a.toList != b.toList)=!tf (a=b):=by
 rw[<-bytes_beq];rfl
theorem Zf{p:Prop}:tf p=true↔p:=by
 by_cases h:p
 ·exact⟨fun _=>h,fun _=>qs h⟩
 ·exact⟨fun e=>(by rw[qt h]at e;cases e),fun q=>(h q).elim⟩
theorem JY{p:Prop}:tf p=false↔¬p:=by
 by_cases h:p
 ·exact⟨fun e=>(by rw[qs h]at e;cases e),fun q=>(q h).elim⟩
 ·exact⟨fun _=>h,fun _=>qt h⟩
def isVar(s:ByteArray):Prop:=s.toList≠[]/\s.toList≠[95]
open Classical in
noncomputable def addVar(vs:List ByteArray)(v:ByteArray):List ByteArray:=if isVar v/\v∉vs then vs++[v]else vs
noncomputable def varsOf(vs:List ByteArray)(h:List Tm):List ByteArray:=h.foldl (fun l t=>addVar l t.v) vs
theorem zme:u∈addVar vs v↔u∈vs\/(u=v/\isVar v):=by
 unfold addVar;split
 ·rename_i h;simp[h.1]
 ·rename_i h;constructor
  ·exact .inl
  ·rintro(r |⟨rfl,q⟩)
   ·exact r
   ·exact zpP fun I=>h ⟨q,I⟩
theorem zgj(h:vs.Nodup):(addVar vs v).Nodup:=by
 unfold addVar;split
 ·rename_i r;refine zqH.2 ⟨h,zp,fun a q b I=>?_⟩;obtain rfl:=zo2.1 I;rintro rfl;exact r.2 q
 ·exact h
theorem zch(vs:List ByteArray)(v:ByteArray):vs.length<=(addVar vs v).length/\(addVar vs v).length<=vs.length+1:=by
 unfold addVar;split<;>simp
theorem VL(vs:List ByteArray)(t:Tm)(h:List Tm):varsOf vs (t::h)=varsOf (addVar vs t.v) h:=rfl
theorem Uc(vs:List ByteArray)(a b:List Tm):varsOf vs (a++b)=varsOf (varsOf vs a) b:=zqi
theorem zdP:∀{r:List Tm}{q:List ByteArray}{u:ByteArray},u∈varsOf q r↔u∈q\/(isVar u/\∃t∈r,t.v=u)
 |[],q,u=>by simp[varsOf]
 |t::r,q,u=>by
  rw[VL,zdP,zme];constructor
  ·rintro((h |⟨rfl,h⟩) |⟨r,I,q,L⟩)
   ·exact .inl h
   ·exact .inr ⟨h,t,zpi,rfl⟩
   ·exact .inr ⟨r,I,zpj _ q,L⟩
  ·rintro(h |⟨r,I,q,rfl⟩)
   ·exact .inl (.inl h)
   ·rcases zpp.1 q with rfl|q
    ·exact .inl (.inr ⟨rfl,r⟩)
    ·exact .inr ⟨r,I,q,rfl⟩
theorem zdf:∀{r:List Tm}{q:List ByteArray},q.Nodup->(varsOf q r).Nodup
 |[],_,h=>h
 |t::r,q,h=>by rw[VL];exact zdf (zgj h)
theorem Uk:∀(q:List Tm)(h:List ByteArray),(varsOf h q).length<=h.length+q.length
 |[],h=>by simp[varsOf]
 |t::q,h=>by
  rw[VL,zpn];have:=Uk q (addVar h t.v);have:=(zch h t.v).2;omega
mutual
def Ex.zN:Ex->List Tm
 |.mk _ t _ _ h=>t::Ex.qp h
def Ex.qp:List Ex->List Tm
 |[]=>[]
 |e::h=>e.zN++Ex.qp h
end
theorem Ex.Gq:∀(a b:List Ex),Ex.qp (a++b)=Ex.qp a++Ex.qp b
 |[],b=>by simp[Ex.qp]
 |e::h,b=>by rw[zpc,Ex.qp,Ex.Gq h b,Ex.qp,zpo]
def Ex.q:Ex->Int
 |.mk q _ _ _ _=>q
def Ex.t:Ex->Tm
 |.mk _ t _ _ _=>t
def Li.zN(x:Li):List Tm:=x.a.args++(x.l.zN++x.r.zN)
def Ru.zN(r:Ru):List Tm:=r.head.map (·.t)++r.body.flatMap Li.zN
noncomputable def Ex.vars(e:Ex):List ByteArray:=varsOf [] e.zN
noncomputable def At.vars(a:At):List ByteArray:=varsOf [] a.args
noncomputable def Li.vars(x:Li):List ByteArray:=varsOf [] x.zN
noncomputable def Ru.vars(r:Ru):List ByteArray:=varsOf [] r.zN
theorem qJ{h:List Tm}:u∈varsOf [] h↔isVar u/\∃t∈h,t.v=u:=by simp[zdP]
theorem Ex.qJ{e:Ex}:u∈e.vars↔isVar u/\∃t∈e.zN,t.v=u:=C.qJ
theorem At.qJ{e:At}:u∈e.vars↔isVar u/\∃t∈e.args,t.v=u:=C.qJ
theorem Li.qJ{x:Li}:u∈x.vars↔u∈x.a.vars\/u∈x.l.vars\/u∈x.r.vars:=by
 unfold Li.vars Li.zN;rw[C.qJ,At.qJ,Ex.qJ,Ex.qJ];simp only[zo7];constructor
 ·rintro⟨h,t,q|q|q,I⟩
  ·exact .inl ⟨h,t,q,I⟩
  ·exact .inr (.inl ⟨h,t,q,I⟩)
  ·exact .inr (.inr ⟨h,t,q,I⟩)
 ·rintro(⟨h,t,q,I⟩ |⟨h,t,q,I⟩ |⟨h,t,q,I⟩)
  ·exact⟨h,t,.inl q,I⟩
  ·exact⟨h,t,.inr (.inl q),I⟩
  ·exact⟨h,t,.inr (.inr q),I⟩
theorem Ru.qJ{r:Ru}{x:Li}(N:x∈r.body)(h:u∈x.vars):u∈r.vars:=by
 obtain⟨I,t,q,L⟩:=C.qJ.1 h;exact C.qJ.2 ⟨I,t,zpk _ (zqg.2 ⟨x,N,q⟩),L⟩
theorem Li.zbK(x:Li):x.vars.Nodup:=zdf List.nodup_nil
def Ex.lone:Ex->ByteArray->Prop
 |.mk q t _ _ h,v=>q=0/\h=[]/\t.v=v/\isVar v
inductive yl (body:List Li):ByteArray->Prop
 |atom {x:Li} {v:ByteArray}:x∈body->x.k=1->v∈x.a.vars->yl body v
 |left {x:Li} {v:ByteArray}:x∈body->x.k=3->x.rl=1->x.l.lone v->(∀u∈x.r.vars,yl body u)->yl body v
 |right {x:Li} {v:ByteArray}:x∈body->x.k=3->x.rl=1->x.r.lone v->(∀u∈x.l.vars,yl body u)->yl body v
theorem Ex.V9{e:Ex}(h:e.lone v):u∈e.vars↔u=v:=by
 obtain⟨q,t,A,I,r⟩:=e;obtain⟨_,rfl,rfl,h⟩:=h;rw[Ex.qJ];simp only[Ex.zN,Ex.qp,zo2];constructor
 ·rintro⟨_,L,rfl,rfl⟩;rfl
 ·rintro rfl;exact⟨h,t,rfl,rfl⟩
structure Sp where
 k:Int
 lit:Nat
 known:Nat
 gives:List ByteArray
open Classical in
noncomputable def ql(K:List ByteArray):Nat->List Tm->Nat
 |_,[]=>0
 |i,t::h=>(if t.v.toList=[]\/t.v∈K then 2 ^ i else 0)+ql K (i+1) h
noncomputable def qz(K:List ByteArray)(x:Li):List ByteArray:=x.vars.filter fun v=>!tf (v∈K)
def UC(x:Li)(v:ByteArray):Prop:=(x.l.q=0/\x.l.t.v=v/\v∉x.r.vars)\/(x.r.q=0/\x.r.t.v=v/\v∉x.l.vars)
open Classical in
noncomputable def stepOf(K:List ByteArray)(i:Nat)(x:Li):Option Sp:=
 if x.k=1 then some ⟨if ql K 0 x.a.args=2 ^ x.a.args.length-1 then 3 else if ql K 0 x.a.args=0 then 1 else 2,i,ql K 0 x.a.args,qz K x⟩
 else if x.k=2 then(if qz K x=[]then some ⟨4,i,ql K 0 x.a.args,[]⟩else none)
 else if qz K x=[]then some ⟨5,i,0,[]⟩
 else if ∃v,qz K x=[v]/\x.rl=1/\UC x v then some ⟨6,i,0,qz K x⟩
 else none
theorem UT{x:Li}:u∈qz K x↔u∈x.vars/\u∉K:=by
 unfold qz;rw[zqJ,Bool.not_eq_true',JY]
theorem Y6{x:Li}{s:Sp}(h:stepOf K i x=some s):s.lit=i/\(s.gives=qz K x):=by
 unfold stepOf at h;split at h
 ·injection h with h;subst h;exact⟨rfl,rfl⟩
 split at h
 ·split at h
  ·rename_i q;injection h with h;subst h;exact⟨rfl,q.symm⟩
  ·cases h
 split at h
 ·rename_i q;injection h with h;subst h;exact⟨rfl,q.symm⟩
 split at h
 ·injection h with h;subst h;exact⟨rfl,rfl⟩
 ·cases h
inductive yu (body:List Li):List ByteArray->List Nat->List Sp->Prop
 |nil {K:List ByteArray}:yu body K [] []
 |cons {K:List ByteArray} {left:List Nat} {i:Nat} {s:Sp} {rest:List Sp} (hi:i∈left) (hb:i<body.length) (hs:stepOf K i body[i]=some s) (hr:yu body (K++s.gives) (left.erase i) rest):yu body K left (s::rest)
noncomputable def ZY(body:List Li)(K:List ByteArray)(left:List Nat):Option Nat:=
 (left.find? fun i=>match body[i]? with|some x=>tf (x.k≠1/\(stepOf K i x).isSome=true)|none=>false).or
  (left.find? fun i=>match body[i]? with|some x=>tf (x.k=1)|none=>false)
theorem zgJ{body:List Li}(h:ZY body K left=some i):i∈left/\∃x,body[i]? = some x/\(stepOf K i x).isSome=true:=by
 unfold ZY at h
 rcases h1:left.find? fun i=>match body[i]? with|some x=>tf (x.k≠1/\(stepOf K i x).isSome=true)|none=>false with _|j
 ·rw[h1,Option.none_or]at h;refine⟨List.mem_of_find?_eq_some h,?_⟩;have:=List.find?_some h;split at this
  ·rename_i x q;refine⟨x,q,?_⟩;have r:=Zf.1 this;unfold stepOf;rw[if_pos r];rfl
  ·cases this
 ·rw[h1,Option.some_or]at h;injection h with h
  subst h;refine⟨List.mem_of_find?_eq_some h1,?_⟩;have:=List.find?_some h1;split at this
  ·rename_i x q;exact⟨x,q,(Zf.1 this).2⟩
  ·cases this
theorem filter_one{l:List ByteArray}{p:ByteArray->Bool}(V:l.Nodup)(R:v∈l)(O:p v=true)(h:∀u∈l,p u=true->u=v):l.filter p=[v]:=by
 have I:(l.filter p).Nodup:=V.filter _;have L:v∈l.filter p:=zqJ.2 ⟨R,O⟩;have q:∀u∈l.filter p,u=v:=fun u N=>h u (zqJ.1 N).1 (zqJ.1 N).2
 match hl:l.filter p with
 |[]=>rw[hl]at L;cases L
 |[u]=>rw[hl]at q;rw[q u zpi]
 |a::b::r=>
  rw[hl]at q I;have N:=q a zpi;have U:=q b (zpj _ zpi);rw[N,U]at I;simp at I
theorem znU{body:List Li}(ah:∀x∈body,x.ok)(aa:∀x∈body,∀v∈x.vars,yl body v)(ae:left≠[])(ad:∀i∈left,i<body.length)(hK:∀i (h:i<body.length),i∉left->∀v∈body[i].vars,v∈K):∃i,ZY body K left=some i:=by
 refine zpP fun I=>?_
 have L:ZY body K left=none:=by
  rcases L:ZY body K left with _|i
  ·rfl
  ·exact(I ⟨i,L⟩).elim
 clear I;unfold ZY at L;rw[Option.or_eq_none_iff]at L;obtain⟨h1,Z⟩:=L;rw[List.find?_eq_none]at h1 Z;have L:∀i (h:i<body.length),i∈left->body[i].k≠1:=fun i h N W=>by
  have:=Z i N;rw[zo6 h]at this;exact this (qs W)
 have I:∀i (h:i<body.length),i∈left->stepOf K i body[i]=none:=fun i h N=>by
  have:=h1 i N;rw[zo6 h]at this
  rcases hs:stepOf K i body[i]with _|s
  ·rfl
  ·exact(this (qs ⟨L i h N,by rw[hs];rfl⟩)).elim
 have ac:∀{x:Li},x∈body->x.k=3->x.a.vars=[]:=fun {x} V W=>by
  rcases ah x V with⟨h,_⟩ |⟨_,_,h,_⟩
  ·omega
  ·unfold At.vars;rw[h];rfl
 have ag:∀v,yl body v->v∈K:=fun v U=>by
  induction U with
  |@atom x v V W U=>
   obtain⟨i,N,rfl⟩:=zpl.1 V;exact hK i N (fun O=>L i N O W) v (Li.qJ.2 (.inl U))
  |@left x v V W hr O _ ih=>
   obtain⟨i,N,rfl⟩:=zpl.1 V;refine zpP fun U=>?_
   have hm:v∈body[i].vars:=Li.qJ.2 (.inr (.inl ((Ex.V9 O).2 rfl)));have Y:i∈left:=zpP fun h=>U (hK i N h v hm)
   have X:qz K body[i]=[v]:=filter_one (Li.zbK _) hm (by rw[qt U];rfl) fun u hu hp=>by
    rw[Bool.not_eq_true',JY]at hp
    rcases Li.qJ.1 hu with h|h|h
    ·rw[ac V W]at h;cases h
    ·exact(Ex.V9 O).1 h
    ·exact(hp (ih u h)).elim
   have:=I i N Y;unfold stepOf at this;have R:body[i].l.q=0/\body[i].l.t.v=v:=by
    generalize body[i].l=e at O;obtain⟨q,t,A,af,ab⟩:=e;exact⟨O.1,O.2.2.1⟩
   rw[if_neg zd,if_neg zd,if_neg (by rw[X];simp),if_pos ⟨v,X,hr,.inl ⟨R.1,R.2,fun h=>U (ih v h)⟩⟩]at this
   cases this
  |@right x v V W hr O _ ih=>
   obtain⟨i,N,rfl⟩:=zpl.1 V;refine zpP fun U=>?_
   have hm:v∈body[i].vars:=Li.qJ.2 (.inr (.inr ((Ex.V9 O).2 rfl)));have Y:i∈left:=zpP fun h=>U (hK i N h v hm)
   have X:qz K body[i]=[v]:=filter_one (Li.zbK _) hm (by rw[qt U];rfl) fun u hu hp=>by
    rw[Bool.not_eq_true',JY]at hp
    rcases Li.qJ.1 hu with h|h|h
    ·rw[ac V W]at h;cases h
    ·exact(hp (ih u h)).elim
    ·exact(Ex.V9 O).1 h
   have:=I i N Y;unfold stepOf at this;have R:body[i].r.q=0/\body[i].r.t.v=v:=by
    generalize body[i].r=e at O;obtain⟨q,t,A,af,ab⟩:=e;exact⟨O.1,O.2.2.1⟩
   rw[if_neg zd,if_neg zd,if_neg (by rw[X];simp),if_pos ⟨v,X,hr,.inr ⟨R.1,R.2,fun h=>U (ih v h)⟩⟩]at this
   cases this
 obtain⟨i,N⟩:=List.exists_mem_of_ne_nil _ ae;have O:=ad i N;have X:qz K body[i]=[]:=List.filter_eq_nil_iff.2 fun u hu=>by
  rw[Bool.not_eq_true',JY];exact fun h=>h (ag u (aa _ (zo3 O) u hu))
 have:=I i O N;unfold stepOf at this;rw[if_neg (L i O N),X]at this
 by_cases Z:body[i].k=2
 ·rw[if_pos Z,if_pos rfl]at this;cases this
 ·rw[if_neg Z,if_pos rfl]at this;cases this
def xY(P:Prop)(w:World)(e:Ending)(w':World):Prop:=∃b,e=.returned (.bool b)/\(b=true->P)/\Bl w w'
theorem xY.no(q:Bl w w'):xY P w (.returned (.bool false)) w':=⟨false,rfl,fun h=>(by cases h),q⟩
theorem xY.yes(h:P)(q:Bl w w'):xY P w (.returned (.bool true)) w':=⟨true,rfl,fun _=>h,q⟩
theorem xY.may(h:b=true->P)(q:Bl w w'):xY P w (.returned (.bool b)) w':=⟨b,rfl,h,q⟩
def Tb(P:Prop)(w:World)(e:Ending)(w':World):Prop:=∃b,e=.returned (.bool b)/\(b=true->P)/\w'=w
theorem Tb.may(h:b=true->P):Tb P w (.returned (.bool b)) w:=⟨b,rfl,h,rfl⟩
theorem X8{a:Bool}(h:a=b):Ending.returned (.bool a)=.returned (.bool b):=by rw[h]
theorem zab{k:IntKind}{a b:Int}(h:a=b):Ending.returned (.int k a)=.returned (.int k b):=by rw[h]
theorem Gz(h:s.toList=l):s=⟨l.toArray⟩:=UO (by rw[h,ByteArray.toList_eq])
theorem zbN(h:s.toList.isEmpty=true):s=⟨#[]⟩:=Gz (List.isEmpty_iff.1 h)
theorem zeq{W:World}(q:Bl W w1):(∀b o,b<W.heap.size->w1.cell? ⟨b,o,none⟩=W.cell? ⟨b,o,none⟩)/\(∀b o,b<W.heap.size->w1.frozen? ⟨b,o,none⟩=W.frozen? ⟨b,o,none⟩):=
 ⟨fun b o h=>q.cell (p:=⟨b,o,none⟩) h,fun b o h=>q.frozen (p:=⟨b,o,none⟩) h⟩
theorem q6{o:Obj}(h:Below (w.alloc o).heap.size (w.alloc o) w1):Bl w w1:=(xo w _).trans (h.mono zp)
theorem zu{b:World}(h:Bl a b)(k:Bl b c):Bl a c:=h.trans (k.mono h.size)
theorem Z1(w:World)(n:Nat):Bl w (w.drewN n):=⟨rfl,rfl,rfl,zoZ _,fun _ _=>rfl⟩
theorem ne_nil(h:l.isEmpty=false):l≠[]:=by rintro rfl;cases h
theorem eq_of_beq{a b:Int}(h:(a==b)=true):a=b:=by simpa using h
theorem zlj(w:World)(c:Nat):Calls prog 242 #[.int .u8 (c:Int)] w (Tb (V4 c) w):=by
 go_enter func242,ntmps242;go_wp2
 all_goals
  go_returns;exact Tb.may (fun h=>by unfold V4;simp at h;omega)
theorem zfb(w:World)(s:ByteArray)(a b:Nat)(hs:s.size<=maxLen)(I:∀c,a<=c->c<=b->V4 c):Calls prog 196 #[.string s,.int .u8 (a:Int),.int .u8 (b:Int)] w (xY (Wd s a b) w):=by
 have L:=zz I;clear I;unfold maxLen at hs
 by_cases V:0<s.size
 ·have Z:decide ((s.size:Int)<1)=false:=zb;go_enter func196,ntmps196;go_wp2
  ·go_returns;exact xY.no (Below.refl _ _)
  ·go_returns;exact xY.no (Below.refl _ _)
  ·go_returns;exact xY.no (Below.refl _ _)
  ·rename_i ha aa _ _ ab
   go_loopg[7] (s.size-1) (fun gk q r=>∃i:Nat,1<=i/\i<=s.size/\gk=s.size-i/\q=.int .i64 (i:Int)/\r=w/\∀j,1<=j->(h:j<i)->(h':j<s.size)->V4 s[j].toNat)
   case atStart=>exact⟨1,zoZ _,V,rfl,rfl,rfl,fun j W q=>zd⟩
   case round=>
    obtain⟨i,X,hi,rfl,rfl,rfl,q⟩:=hrel;have r:=zz q;clear q
    by_cases Y:i<s.size
    ·have q:=zlj wr s[i].toNat;have Hl:=zz q;clear q
     go_wp2_with (go_at_call 242;refine Hl.o.mono ?_;rintro e w1⟨U,rfl,W,rfl⟩)
     ·go_returns;exact xY.no (Below.refl _ _)
     ·have R:U=true:=by simpa using ‹(!U)=false›
      go_roundg (s.size-(i+1))
      case measure=>omega
      case rel=>exact⟨i+1,zd,zd,rfl,ze,rfl,fun j q O N=>by
       by_cases e:j=i
       ·subst e;exact W R
       ·exact r.o j q zd N⟩
    ·obtain rfl:i=s.size:=zd;go_wp2;go_returns;exact xY.yes ⟨V,zd,⟨zd,zd⟩,fun j O=>by
      rcases Nat.eq_zero_or_pos j with rfl|q
      ·exact L.o _ zd (zd)
      ·exact r.o j q O O⟩ (Below.refl _ _)
 ·have Z:decide ((s.size:Int)<1)=true:=zb;go_enter func196,ntmps196;go_wp2;go_returns;exact xY.no (Below.refl _ _)
theorem zkh(w:World)(s:ByteArray):Calls prog 197 #[.string s] w fun e h=>e=.returned (.bool (decide (s.toList∈kept)))/\h=w:=by
 go_enter func197,ntmps197;go_wp2
 all_goals
  go_returns;exact⟨X8 (by rw[Bool.eq_iff_iff];simp[kept, *]),rfl⟩
theorem DU(w:World)(s:ByteArray)(I:s.size<=maxLen):Calls prog 136 #[.string s] w (xY (Nm s) w):=by
 have L:=zz (zfb w s 97 122 I (fun c r q=>.inl ⟨r,q⟩));have N:=zz (fun W=>zkh W s);clear I;go_enter func136,ntmps136
 go_wp2_with (first
  |(go_at_call 196;refine L.o.mono ?_;rintro e O⟨R,rfl,r,q⟩)
  |(go_at_call 197;refine(N.o _).mono ?_;rintro e U⟨rfl,rfl⟩))
 all_goals
  go_returns;exact xY.may (fun h=>⟨by simp_all,by simp_all⟩) q
theorem zns(w:World)(s:ByteArray)(r:s.size<=maxLen):Calls prog 283 #[.string s] w (xY (Vr s) w):=by
 have I:=zz (zfb w s 65 90 r (fun c q h=>.inr (.inl ⟨q,h⟩)));clear r;go_enter func283,ntmps283
 go_wp2_with (go_at_call 196;refine I.o.mono ?_;rintro e L⟨N,rfl,q,h⟩)
 go_returns;exact xY.may q h
def XY(P:Prop)(w:World)(e:Ending)(w':World):Prop:=∃c:Int,e=.returned (.int .i64 c)/\(c=0->P)/\Bl w w'
theorem XY.no{c:Int}(h:c≠0)(q:Bl w w'):XY P w (.returned (.int .i64 c)) w':=⟨c,rfl,fun e=>(h e).elim,q⟩
theorem XY.may{c:Int}(h:c=0->P)(q:Bl w w'):XY P w (.returned (.int .i64 c)) w':=⟨c,rfl,h,q⟩
theorem zcY(w:World)(x:Vl):Calls prog 79 #[.agg x.cells.toArray] w (XY x.ok w):=by
 obtain⟨k,n,s⟩:=x;simp only[Vl.cells];go_enter func79,ntmps79;go_wp2
 all_goals
  go_returns
  first
   |exact XY.no zr (xo w _)
   |exact XY.may (fun _=>.inl ⟨za,zbN za⟩) (xo w _)
   |exact XY.may (fun _=>.inr ⟨za,za,by simp only;omega⟩) (xo w _)
noncomputable def Zn(a b:Vl):Bool:=tf (a=b)
noncomputable def Uo(a b:Tm):Bool:=tf (a=b)
theorem Vq{a b:Vl}:Zn a b=true↔a=b:=Zf
theorem zcJ{a b:Tm}:Uo a b=true↔a=b:=Zf
theorem zap(r N I O:Int)(s1 L:ByteArray):((r==I)&&(N==O)&&(s1.toList==L.toList))=Zn ⟨r,N,s1⟩ ⟨I,O,L⟩:=by
 rw[Bool.eq_iff_iff,Vq];simp only[zpZ,beq_iff_eq,Vl.mk.injEq];constructor
 ·rintro⟨⟨q,h⟩,R⟩;exact⟨q,h,UO R⟩
 ·rintro⟨q,h,rfl⟩;exact⟨⟨q,h⟩,rfl⟩
theorem zbE(O N:ByteArray)(q L r R:Int)(s1 I:ByteArray):((O.toList==N.toList)&&((q==r)&&(L==R)&&(s1.toList==I.toList)))=Uo ⟨O,q,L,s1⟩ ⟨N,r,R,I⟩:=by
 rw[zap,Bool.eq_iff_iff,zcJ];simp only[zpZ,beq_iff_eq,Vq,Tm.mk.injEq];constructor
 ·rintro⟨U,h⟩;exact⟨UO U,h⟩
 ·rintro⟨rfl,h⟩;exact⟨rfl,h⟩
@[go_sem high] theorem zn2(h I q L:Int)(s1 r:ByteArray)(w:World):
 (binOp .eql 43 (.agg #[.int .i8 h,.int .i64 I,.string s1]) (.agg #[.int .i8 q,.int .i64 L,.string r])).run prog w=.ok (.bool (Zn ⟨h,I,s1⟩ ⟨q,L,r⟩)) w:=by
 rw[<-zap];simp only[binOp];simp[Op.equal,Op.maxDepth,underlying43,underlying41,underlying2,underlying9,go_sem]
 by_cases O:h=q<;>by_cases N:I=L<;>by_cases R:s1.toList=r.toList<;>simp[O,N,R]
@[go_sem high] theorem zoU(h I q L:Int)(s1 r:ByteArray)(w:World):
 (binOp .neq 43 (.agg #[.int .i8 h,.int .i64 I,.string s1]) (.agg #[.int .i8 q,.int .i64 L,.string r])).run prog w=.ok (.bool (!Zn ⟨h,I,s1⟩ ⟨q,L,r⟩)) w:=by
 rw[<-zap];simp only[binOp];simp[Op.equal,Op.maxDepth,underlying43,underlying41,underlying2,underlying9,go_sem]
 by_cases O:h=q<;>by_cases N:I=L<;>by_cases R:s1.toList=r.toList<;>simp[O,N,R]
@[go_sem high] theorem zoz(N L:ByteArray)(h I q O:Int)(s1 r:ByteArray)(w:World):
 (binOp .eql 45 (.agg #[.string N,.int .i8 h,.int .i64 I,.string s1]) (.agg #[.string L,.int .i8 q,.int .i64 O,.string r])).run prog w=.ok (.bool (Uo ⟨N,h,I,s1⟩ ⟨L,q,O,r⟩)) w:=by
 rw[<-zbE];simp only[binOp];simp[Op.equal,Op.maxDepth,underlying45,underlying43,underlying41,underlying2,underlying9,go_sem]
 by_cases V:N.toList=L.toList<;>by_cases U:h=q<;>by_cases R:I=O<;>by_cases W:s1.toList=r.toList<;>simp[V,U,R,W]
@[go_sem high] theorem zox(N L:ByteArray)(h I q O:Int)(s1 r:ByteArray)(w:World):
 (binOp .neq 45 (.agg #[.string N,.int .i8 h,.int .i64 I,.string s1]) (.agg #[.string L,.int .i8 q,.int .i64 O,.string r])).run prog w=.ok (.bool (!Uo ⟨N,h,I,s1⟩ ⟨L,q,O,r⟩)) w:=by
 rw[<-zbE];simp only[binOp];simp[Op.equal,Op.maxDepth,underlying45,underlying43,underlying41,underlying2,underlying9,go_sem]
 by_cases V:N.toList=L.toList<;>by_cases U:h=q<;>by_cases R:I=O<;>by_cases W:s1.toList=r.toList<;>simp[V,U,R,W]
theorem zel{n:Int}(h:Zn ⟨k,n,s⟩ ⟨0,0,⟨#[]⟩⟩=true):(⟨k,n,s⟩:Vl).none:=by
 have:=Vq.1 h;injection this with r q I
 exact⟨r,q,I⟩
theorem zaY{n:Int}(h:Uo ⟨v,k,n,s⟩ ⟨⟨#[]⟩,0,0,⟨#[]⟩⟩=true):(⟨v,k,n,s⟩:Tm).none:=by
 have:=zcJ.1 h;injection this with I q
 injection q with q L r
 exact⟨I,q,L,r⟩
theorem zak:∀{l:List Ex}{e:Ex}{t:Tm},e∈l->t∈e.zN->t∈Ex.qp l
 |x::l,e,t,h,q=>by
  unfold Ex.qp
  rcases zpp.1 h with rfl|h
  ·exact zpu _ q
  ·exact zpk _ (zak h q)
theorem zau(w:World)(t:Tm)(O:t.v.size<=maxLen):Calls prog 260 #[.agg t.cells.toArray] w (xY t.ok w):=by
 obtain⟨v,k,n,s⟩:=t;have U:=zz (fun W=>zns W v O);have N:=zz (fun W=>zcY W ⟨k,n,s⟩);clear O;simp only[Tm.cells,Vl.cells]at N ⊢
 by_cases L:v.toList=[]
 ·go_enter func260,ntmps260
  go_wp2_with (go_at_call 79;refine(N.o _).mono ?_;rintro e R⟨c1,rfl,r,q⟩)
  go_returns;exact xY.may (fun h=>.inl ⟨Gz L,r (by simpa using h)⟩) (q6 (q6 q))
 by_cases I:v.toList=[95]
 ·go_enter func260,ntmps260;go_wp2;go_returns;exact xY.may (fun h=>.inr ⟨zel h,.inl (Gz I)⟩) (q6 (xo _ _))
 ·have Z:(v.toList==([]:List UInt8))=false:=by simp[L]
  have Y:(v.toList==([95]:List UInt8))=false:=by simp[I]
  go_enter func260,ntmps260
  go_wp2_with (go_at_call 283;refine(U.o _).mono ?_;rintro e R⟨q1,rfl,r,q⟩;obtain⟨X,V⟩:=zeq q)
  all_goals
   go_returns
   first
    |exact xY.may (fun h=>.inr ⟨zel h,.inr ⟨L,I,r za⟩⟩) (q6 (q6 q))
    |exact xY.no (q6 (q6 q))
theorem zix(w:World)(q:Int):Calls prog 284 #[.int .i8 q] w fun e h=>e=.returned (.int .i64 (arity q))/\h=w:=by
 unfold arity;go_enter func284,ntmps284;go_wp2
 all_goals
  go_returns;refine⟨zab ?_,rfl⟩
  simp_all<;>omega
theorem zbR(w:World)(e:Ex):Calls prog 262 #[.agg e.cells.toArray] w (xY e.empty w):=by
 obtain⟨q,⟨v,k,n,s⟩,A,L,r⟩:=e;simp only[Ex.cells];obtain⟨N,I⟩:∃N,r.length=N:=⟨_,rfl⟩;rw[I];have O:=zz I;clear I;go_enter func262,ntmps262;go_wp2
 all_goals
  go_returns
  first
   |exact xY.may (fun h=>⟨za,zaY za,zpI (by rw[O.o];simpa using h)⟩) (q6 (xo _ _))
   |exact xY.no (q6 (xo _ _))
theorem zmy(w:World)(a:Ar)(L:a.t.v.size<=maxLen):Calls prog 237 #[.agg a.cells.toArray] w (xY a.ok w):=by
 obtain⟨g,⟨v,k,n,s⟩⟩:=a;have I:=zz (fun W=>zau W ⟨v,k,n,s⟩ L);clear L;simp only[Ar.cells,Tm.cells]at I ⊢;go_enter func237,ntmps237
 go_wp2_with (go_at_call 260;refine(I.o _).mono ?_;rintro e R⟨U,rfl,r,q⟩;obtain⟨O,N⟩:=zeq q)
 all_goals
  go_returns
  first
   |exact xY.no (q6 (xo _ _))
   |exact xY.no (q6 (q6 q))
   |exact xY.may (fun h=>.inl ⟨by simpa using ‹(g==0)=true›,za,r h⟩) (q6 (q6 q))
   |exact xY.may (fun h=>.inr (.inl ⟨by simpa using ‹(g==1)=true›,zaY h⟩)) (q6 (xo _ _))
   |exact xY.may (fun h=>.inr (.inr ⟨by first|exact .inl (eq_of_beq ‹(g==2)=true›)|exact .inr (.inl (eq_of_beq ‹(g==3)=true›))|exact .inr (.inr (eq_of_beq ‹(g==4)=true›)),ne_nil ‹v.toList.isEmpty=false›,za,r h⟩)) (q6 (q6 q))
theorem zkL(w:World)(a:At)(hl:a.zO w)(hs:a.p.size<=maxLen)(U:∀t∈a.args,t.v.size<=maxLen):Calls prog 261 #[.agg a.cells.toArray] w (xY a.ok w):=by
 obtain⟨p,A,af,q⟩:=a;obtain⟨I,L⟩:=hl;simp only at I L hs U;have Hn:=zz (fun W=>DU W p hs);have Hr:=zz I;have ac:=zz U;clear hs I U;simp only[At.cells];obtain⟨N,r⟩:∃N,q.length=N:=⟨_,rfl⟩;rw[r]at L ⊢;have HN:=zz r;clear r;obtain⟨W0,r,O⟩:=Vm w #[.string p,.slice A N af] 38;have X:=zz O;have ae:=zz r;clear O r;go_enter func261,ntmps261
 go_wp2_with (go_at_call 136;refine(Hn.o _).mono ?_;rintro e w1⟨q1,rfl,k1,r⟩;rw[ae.o]at r;have c1:=X.o.at r 1)
 ·go_returns;exact xY.no (X.o.in r)
 ·go_returns;exact xY.no (X.o.in r)
 ·obtain rfl:=‹q1=true›;have aa:=k1 rfl;have Z:N<=24:=zd;clear c1 k1
  go_loopg[3] N (fun gk R O=>∃i:Nat,i<=N/\gk=N-i/\R=.int .i64 (i:Int)/\Bl W0 O/\∀j (h:j<q.length),j<i->q[j].ok)
  case atStart=>exact⟨0,zo5 _,rfl,rfl,r,fun j _ h=>zd⟩
  case round=>
   obtain⟨i,hi,rfl,rfl,V,R⟩:=hrel;have O:=zz R;clear R;have c1:=X.o.at V 1
   by_cases ab:i<N
   ·have R:i<q.length:=by rw[HN.o];exact ab
    obtain⟨b,o,rfl,hb,I⟩:=(Hr.o.below (X.o.in V)).at Tm.xF i R;have hk:=fun W=>zau W q[i] (ac.o _ (zo3 R))
    have ag:∀x:Prop,(q[i].ok->x)->(q[i].ok->x):=fun _ h=>h
    generalize Y:q[i]=t at I hk;have ad:=zz Y;clear Y ag;obtain⟨v,k,m,s⟩:=t;simp only[Tm.cells]at I hk
    replace I:wr.rangeAt b (o+i*4) _:=I
    obtain⟨d0,d1,d2,d3⟩:=four I;have Hk:=zz hk;clear I hk
    go_wp2_with (go_at_call 260;refine(Hk.o _).mono ?_;rintro e w2⟨q2,rfl,k2,I⟩)
    ·go_returns;exact xY.no (X.o.in (V.trans (I.mono V.size)))
    ·have ag:q2=true:=by simpa using ‹(!q2)=false›
     go_roundg (N-(i+1))
     case measure=>omega
     case rel=>exact⟨i+1,zd,rfl,ze,V.trans (I.mono V.size),fun j Y ah=>by
      by_cases e:j=i
      ·subst e;rw[ad.o];exact k2 ag
      ·exact O.o j Y zd⟩
   ·obtain rfl:i=N:=zd;go_wp2;go_returns;exact xY.yes ⟨aa,by rw[HN.o];exact Z,fun t I=>by
     obtain⟨j,Y,rfl⟩:=zpl.1 I;exact O.o j Y (by rw[<-HN.o];exact Y)⟩ (X.o.in V)
theorem zaf:∀(d:Nat)(L:d<=8)(e:Ex)(w:World)(O:e.zO w)(I:∀t∈e.zN,t.v.size<=maxLen),Calls prog 263 #[.agg e.cells.toArray,.int .i64 (d:Int)] w (xY (e.ok d) w)
 |0,L,.mk q ⟨v,k,n,s⟩ A Z r,w,O,I=>by
  clear O I L;simp only[Ex.cells];generalize r.length=N;go_enter func263,ntmps263;go_wp2;go_returns;exact xY.no (xo w _)
 |d+1,L,.mk q ⟨v,k,n,s⟩ A Z r,w,O,I=>by
  have IH:=zz (fun e W O I=>zaf d zd e W O I);unfold Ex.zO at O;obtain⟨L,Y,X⟩:=O;have Ht:=zz (fun W=>zau W ⟨v,k,n,s⟩ (I _ (by unfold Ex.zN;exact zpi)));have ab:Kz (∀e∈r,∀t∈e.zN,t.v.size<=maxLen):=fun e R t O=>I t (by unfold Ex.zN;exact zpj _ (zak R O))
  have Hr:=zz L;have Hk:=zz X;clear I L X;simp only[Ex.cells,Tm.cells]at Ht ⊢;obtain⟨N,I⟩:∃N,r.length=N:=⟨_,rfl⟩;rw[I]at Y ⊢;have HN:=zz I;clear I;have h0:((d:Int)+1==0)=false:=beq_eq_false_iff_ne.2 zd;rw[show((d+1:Nat):Int)=(d:Int)+1 from zd]
  by_cases hq:q=0
  ·subst hq;go_enter func263,ntmps263
   go_wp2_with (go_at_call 260;refine(Ht.o _).mono ?_;rintro e U⟨V,rfl,R,I⟩)
   all_goals
    go_returns
    first
     |exact xY.no (xo w _)
     |exact xY.may (fun h=>by unfold Ex.ok;exact .inl ⟨rfl,zpI (by rw[HN.o];omega),za,R h⟩) (q6 I)
  ·have ak:(q==0)=false:=beq_eq_false_iff_ne.2 hq;obtain⟨W0,R,U⟩:=zcV w #[.int .i8 q,.string v,.int .i8 k,.int .i64 n,.string s,.slice A N Z] #[.string ⟨#[]⟩,.int .i8 0,.int .i64 0,.string ⟨#[]⟩] 48 45;have I:=zz U;have ah:=zz R;clear U R;go_enter func263,ntmps263;go_wp2;rw[ah.o];have x0:=I.o.one 0;have x1:=I.o.one 1;have x2:=I.o.one 2;have x3:=I.o.one 3;have x4:=I.o.one 4;have x5:=I.o.one 5;have y0:=I.o.two 0;have y1:=I.o.two 1;have y2:=I.o.two 2;have y3:=I.o.two 3;have ka:=fun W=>zix W q
   by_cases O:Uo ⟨v,k,n,s⟩ ⟨⟨#[]⟩,0,0,⟨#[]⟩⟩=true
   ·go_quiet ((go_at_call 284;exact Calls.quiet_of_same (ka _)))
    go_wp2
    ·go_returns;exact xY.no (I.o.in (Z1 W0 nq))
    ·have R:(N:Int)=arity q:=by simpa using ‹((N:Int) != arity q)=false›
     have af:=zz R;rw[‹((N:Int) != arity q)=false›];have ac:=zz (zaY O);clear R ka x0 x1 x2 x3 x4 x5 y0 y1 y2 y3 O
     go_loopg[6] N (fun gk U R=>∃i:Nat,i<=N/\gk=N-i/\U=.int .i64 (i:Int)/\Bl W0 R/\∀j (h:j<r.length),j<i->r[j].ok d)
     case atStart=>exact⟨0,zo5 _,rfl,rfl,Z1 W0 nq,fun j _ h=>zd⟩
     case round=>
      obtain⟨i,hi,rfl,rfl,V,U⟩:=hrel;have R:=zz U;clear U;have c5:=I.o.Up V 5
      by_cases ad:i<N
      ·have U:i<r.length:=by rw[HN.o];exact ad
       obtain⟨b,o,rfl,hb,L⟩:=(Hr.o.below (I.o.in V)).at Ex.xF i U;have X:=fun W (aa:Bl w W)=>IH.o r[i] W ((Ex.qB.mem Hk.o _ (zo3 U)).below aa) (ab.o _ (zo3 U))
       generalize aa:r[i]=t at L X;have ae:=zz aa;clear aa;obtain⟨q2,⟨v2,k2,m2,s2⟩,A2,aj,aa⟩:=t;simp only[Ex.cells]at L X
       replace L:wr.rangeAt b (o+i*6) _:=L
       obtain⟨d0,d1,d2,d3,d4,d5⟩:=JI L;have ai:=zz (X wr (I.o.in V));clear L X
       go_wp2_with (go_at_call 263;refine ai.o.mono ?_;rintro e w2⟨q2,rfl,k2,L⟩)
       ·go_returns;exact xY.no (I.o.in (V.trans (L.mono V.size)))
       ·have ag:q2=true:=by simpa using ‹(!q2)=false›
        go_roundg (N-(i+1))
        case measure=>omega
        case rel=>exact⟨i+1,zd,rfl,ze,V.trans (L.mono V.size),fun j X al=>by
         by_cases e:j=i
         ·subst e;rw[ae.o];exact k2 ag
         ·exact R.o j X zd⟩
      ·obtain rfl:i=N:=zd;go_wp2;go_returns;exact xY.yes (by
        unfold Ex.ok;exact .inr ⟨hq,ac.o,by rw[HN.o];exact af.o,fun t O=>by
         obtain⟨j,X,rfl⟩:=zpl.1 O;exact R.o j X (by rw[<-HN.o];exact X)⟩) (I.o.in V)
   ·have L:Uo ⟨v,k,n,s⟩ ⟨⟨#[]⟩,0,0,⟨#[]⟩⟩=false:=by simpa using O
    clear O
    go_quiet ((go_at_call 284;exact Calls.quiet_of_same (ka _)))
    go_wp2;go_returns;exact xY.no (I.o.in (Z1 W0 nq))
end
section
open Go Go.RowKit Go.Maps Go.ChangeMaps
structure Yj (P:Program) (k:TypeId) (es:List MapEntry) (f:Value->Option Value):Prop where
 keys:∀e∈es,∃l,keyOf P k e.key=some l
 apart:es.Pairwise fun a b=>a.key≠b.key
 has:∀e∈es,f e.key=some e.val
 only:∀x v,f x=some v->∃e∈es,e.key=x
def xv(P:Program)(k:TypeId)(w:World)(b:Nat)(f:Value->Option Value):Prop:=∃q h,w.heap[b]? = some (.map q h)/\Yj P k q.toList f/\MapKept.Stamped q h
section
variable {P:Program}{k t e:TypeId}{w:World}{b:Nat}{f:Value->Option Value}
theorem xv.lt(h:xv P k w b f):b<w.heap.size:=by
 obtain⟨I,q,r,_⟩:=h;exact(zpb.1 r).1
theorem xv.same(h:xv P k w b f)(N:w'.heap[b]? = w.heap[b]?):xv P k w' b f:=by
 obtain⟨L,q,I,r⟩:=h;exact⟨L,q,N.trans I,r⟩
theorem Yj.none_:Yj P k [] fun _=>none:=⟨fun _ h=>by simp at h,List.Pairwise.nil,fun _ h=>(by simp at h),fun _ _ h=>by simp at h⟩
theorem Yj.find{es:List MapEntry}(h:Yj P k es f)(K:Keyed P k)(w:World){l:Lit}(O:keyOf P k x=some l):
 ((Instr.findKey k x es).run P w=.ok none w/\f x=none/\∀e∈es,e.key≠x)\/∃j e,(Instr.findKey k x es).run P w=.ok (some (j,e.val)) w/\es[j]? = some e/\e.key=x/\f x=some e.val:=by
 rcases K.find w O es h.keys with⟨r,q⟩ |⟨j,e,r,q,I⟩
 ·refine .inl ⟨r,?_,q⟩
  rcases hf:f x with _|v
  ·rfl
  ·obtain⟨e,N,L⟩:=h.only x v hf;exact(q e N L).elim
 ·exact .inr ⟨j,e,r,q,I,I▸h.has e (zp8 q)⟩
theorem xv.look(h:xv P k w b f)(K:Keyed P k)(N:P.underlying t=some (.map k e))(V:(zeroValue e).run P w=.ok z w){l:Lit}(q:keyOf P k x=some l)(c:Bool):
 (Instr.lookup t (.map (some b)) x c).run P w=.ok (if c then .tuple #[(f x).getD z,.bool (f x).isSome]else(f x).getD z) w:=by
 obtain⟨X,L,O,U,R⟩:=h
 rcases U.find K w q with⟨I,r,_⟩ |⟨j,W,I,_,_,r⟩
 ·simp[Instr.lookup,run_underlying N,MapKept.run_getObj_map O,K.check w _ q,I,r,V,Result.andThen]
 ·simp[Instr.lookup,run_underlying N,MapKept.run_getObj_map O,K.check w _ q,I,r,Result.andThen]
theorem xv.put(h:xv P k w b f)(K:Keyed P k)(ht:P.underlying t=some (.map k e)){l:Lit}(hx:keyOf P k x=some l)(v:Value):
 ∃q,(Instr.mapUpdate t (.map (some b)) x v).run P w=.ok () q/\xv P k q b (fun y=>open Classical in if y=x then some v else f y)/\w.mapTurned q b:=by
 obtain⟨N,r,Y,O,ab⟩:=h
 rcases O.find K w hx with⟨U,X,h3⟩ |⟨j,e0,U,hj,V,X⟩
 ·refine⟨_,(by simp[Instr.mapUpdate,run_underlying ht,MapKept.run_getObj_map Y,K.check w false hx,U,MapKept.run_setObj_map _ Y,Result.andThen];rfl),⟨N.push ⟨x,v,r⟩,r+1,heap_setBlock_same Y _,?_,MapKept.stamped_push ab h3⟩,⟨N,r,_,_,Y,rfl⟩⟩;simp only[Array.toList_push];refine⟨fun e q=>?_,?_,fun e q=>?_,fun y u hy=>?_⟩
  ·rcases zo7.1 q with q|q
   ·exact O.keys e q
   ·obtain rfl:=zo2.1 q;exact⟨l,hx⟩
  ·exact List.pairwise_append.2 ⟨O.apart,List.pairwise_singleton _ _,fun a ha c W=>by obtain rfl:=zo2.1 W;exact h3 a ha⟩
  ·rcases zo7.1 q with q|q
   ·rw[if_neg (h3 e q)];exact O.has e q
   ·obtain rfl:=zo2.1 q;rw[if_pos rfl]
  ·split at hy
   ·rename_i e1;exact⟨_,zpk _ (zo2.2 rfl),e1.symm⟩
   ·obtain⟨e,q,V⟩:=O.only y u hy;exact⟨e,zpu _ q,V⟩
 ·have I:=(zpB.1 hj).1;obtain⟨i0,R⟩:=zpB.1 hj;refine⟨_,(by simp[Instr.mapUpdate,run_underlying ht,MapKept.run_getObj_map Y,K.check w false hx,U,MapKept.run_setObj_map _ Y,Result.andThen,show N[j]? = some e0 from by simpa using hj,V,K.stays w hx];rfl),⟨N.modify j fun e=>{ e with key:=x,val:=v },r,heap_setBlock_same Y _,?_,MapKept.stamped_modify ab j _ (fun _ _=>rfl) (fun e q h=>by
   have L:N[j]? = some e0:=by simpa using hj
   rw[L]at h;injection h with h
   subst h;exact V.symm)⟩,⟨N,r,_,_,Y,rfl⟩⟩
  have hl:(N.modify j fun e=>{ e with key:=x,val:=v }).toList=N.toList.set j { e0 with key:=x,val:=v }:=by
   rw[Array.toList_modify];apply List.ext_getElem?;intro i;rw[List.getElem?_modify,List.getElem?_set]
   by_cases L:j=i
   ·subst L;rw[hj];simpa using I
   ·simp[L]
  rw[hl];have Z:∀a∈N.toList.set j { e0 with key:=x,val:=v },(a.key=x/\a.val=v)\/(a∈N.toList/\a.key≠x):=fun a ha=>by
   obtain⟨i,hi,rfl⟩:=zpl.1 ha;rw[zqW];split
   ·exact .inl ⟨rfl,rfl⟩
   ·rename_i L;rw[zpG]at hi;refine .inr ⟨zo3 _,fun q=>?_⟩
    rcases Nat.lt_or_gt_of_ne L with W|W
    ·exact zpH.1 O.apart j i I hi W (by rw[R,V,q])
    ·exact zpH.1 O.apart i j hi I W (by rw[R,V,q])
  refine⟨fun e q=>?_,?_,fun e q=>?_,fun y u hy=>?_⟩
  ·rcases Z e q with⟨h,_⟩ |⟨h,_⟩
   ·exact⟨l,by rw[h];exact hx⟩
   ·exact O.keys e h
  ·rw[zpH];intro a c ha W aa;rw[zqW,zqW];rw[zpG]at ha W;have hp:=zpH.1 O.apart;split<;>split
   ·omega
   ·rename_i U X;subst U;have:=hp j c I W aa;rw[R,V]at this;exact this
   ·rename_i U X;subst X;have:=hp a j ha I aa;rw[R,V]at this;exact this
   ·exact hp a c ha W aa
  ·rcases Z e q with⟨U,X⟩ |⟨U,X⟩
   ·rw[if_pos U,X]
   ·rw[if_neg X];exact O.has e U
  ·split at hy
   ·rename_i e1;refine⟨{ e0 with key:=x,val:=v },zpl.2 ⟨j,by simpa using I,zp⟩,e1.symm⟩
   ·rename_i e1;obtain⟨e,q,W⟩:=O.only y u hy;obtain⟨i,hi,rfl⟩:=zpl.1 q;have L:j≠i:=by rintro rfl;exact e1 (by rw[<-W,R,V])
    exact⟨N.toList[i],zpl.2 ⟨i,by simpa using hi,by rw[zqK L]⟩,W⟩
theorem xv.drop(h:xv P k w b f)(K:Keyed P k)(ht:P.underlying t=some (.map k e)){l:Lit}(hx:keyOf P k x=some l)(ty:TypeId):
 ∃q,(Builtin.delete_ #[t,k] ty #[.map (some b),x]).run P w=.ok (.tuple #[]) q/\xv P k q b (fun y=>open Classical in if y=x then none else f y)/\w.mapTurned q b:=by
 obtain⟨O,q,R,L,X⟩:=h
 rcases L.find K w hx with⟨h1,h2,h3⟩ |⟨j,e0,h1,hj,hk,h2⟩
 ·refine⟨_,(by simp[Builtin.delete_,run_underlying ht,MapKept.run_getObj_map R,K.check w _ hx,h1,MapKept.run_setObj_map _ R,Result.andThen];rfl),⟨O,q,heap_setBlock_same R _,⟨L.keys,L.apart,fun e r=>?_,fun y u U=>?_⟩,X⟩,⟨O,q,_,_,R,rfl⟩⟩
  ·rw[if_neg (h3 e r)];exact L.has e r
  ·split at U
   ·cases U
   ·exact L.only y u U
 ·have W:=(zpB.1 hj).1;obtain⟨i0,V⟩:=zpB.1 hj;refine⟨_,(by simp[Builtin.delete_,run_underlying ht,MapKept.run_getObj_map R,K.check w _ hx,h1,MapKept.run_setObj_map _ R,Result.andThen];rfl),⟨O.eraseIdxIfInBounds j,q,heap_setBlock_same R _,?_,MapKept.stamped_erase X j⟩,⟨O,q,_,_,R,rfl⟩⟩;have hl:(O.eraseIdxIfInBounds j).toList=O.toList.eraseIdx j:=zp;rw[hl];have I:=List.eraseIdx_sublist O.toList j;have aa:∀a∈O.toList.eraseIdx j,a.key≠x:=fun a N r=>by
   obtain⟨i,Z,rfl⟩:=zpl.1 N;rw[List.getElem_eraseIdx]at r;rw[List.length_eraseIdx]at Z;have Y:=zpH.1 L.apart;split at r
   ·rename_i N;exact Y i j zd W N (by rw[r,V,hk])
   ·rename_i N;exact Y j (i+1) W (by split at Z<;>omega) zd (by rw[r,V,hk])
  refine⟨fun e r=>L.keys e (I.mem r),L.apart.sublist I,fun e r=>?_,fun y u U=>?_⟩
  ·rw[if_neg (aa e r)];exact L.has e (I.mem r)
  ·split at U
   ·cases U
   ·rename_i e1;obtain⟨e,r,Y⟩:=L.only y u U;obtain⟨i,Z,rfl⟩:=zpl.1 r;have N:i≠j:=by rintro rfl;exact e1 (by rw[<-Y,V,hk])
    refine⟨O.toList[i],List.mem_eraseIdx_iff_getElem.2 ⟨i,Z,N,rfl⟩,Y⟩
end
end
section
def zD(w:World)(g:Nat)(t:TypeId)(cs:Array Value):Prop:=w.heap[g]? = some (.cells cs t (0,0))
section
variable {w w':World}{g:Nat}{t:TypeId}{cs:Array Value}
theorem zD.lt(h:zD w g t cs):g<w.heap.size:=by
 rcases zq2 g w.heap.size with r|q
 ·exact r
 ·unfold zD at h;rw[zqL q]at h;cases h
theorem zD.cell(h:zD w g t cs)(i:Nat):w.cell? ⟨g,i,none⟩=cs[i]?:=cell_of_row w g i cs t (0,0) h
theorem zD.frozen(h:zD w g t cs)(i:Nat):w.frozen? ⟨g,i,none⟩=false:=by
 unfold zD at h;simp[World.frozen?,h]
theorem zD.new(w:World)(t:TypeId)(cs:Array Value):zD (w.alloc (.cells cs t)) w.heap.size t cs:=heap_alloc_new w _
theorem zD.drew(h:zD w g t cs):zD w.drew g t cs:=h
theorem zD.alloc(h:zD w g t cs)(o:Obj):zD (w.alloc o) g t cs:=(Below.heap_alloc w o g h.lt).trans h
theorem zD.qE(h:zD w g t cs)(i:Nat)(u:Value):zD (w.setCell ⟨g,i,none⟩ u) g t (cs.setIfInBounds i u):=by
 unfold zD at h ⊢;simp[World.setCell,Array.getElem?_modify,h]
theorem zD.XQ(h:zD w g t cs)(q:g≠p.block)(u:Value):zD (w.setCell p u) g t cs:=(Below.heap_setCell w p u g q).trans h
theorem zD.yD{L:TypeId}{I:Array Value}(h:zD w g t cs)(q:zD w N L I)(r:t≠L):g≠N:=by
 rintro rfl;unfold zD at h q;rw[h]at q;injection q with q
 injection q with _ O
 exact r O
theorem zD.same(h:zD w g t cs)(q:w'.heap[g]? = w.heap[g]?):zD w' g t cs:=q.trans h
end
theorem Gm{w w':World}{q:Nat}{e:TypeId}{size:Nat}{v:Value}{xs:List Value}(h:w.ownsRow q e size v n xs)(R:∀g,v.ownBlock=some g->w'.heap[g]? = w.heap[g]?):w'.ownsRow q e size v n xs:=by
 obtain⟨O,L⟩:=h;refine⟨O,?_⟩
 rcases L with L |⟨g,cap,I,rfl,U,N,r⟩
 ·exact .inl L
 ·exact .inr ⟨g,cap,I,rfl,U,(R g rfl).trans N,r⟩
def Own{α:Type}(f:α->List Value)(e:TypeId)(size:Nat)(w:World)(A:Option Addr)(cap:Nat)(xs:List α):Prop:=w.ownsRow 0 e size (.slice A xs.length cap) xs.length (xs.flatMap f)
def zw(A:Option Addr):List Nat:=(A.map (·.block)).toList
section
variable {α:Type}{f:α->List Value}{e:TypeId}{size:Nat}{w w':World}{A:Option Addr}{cap:Nat}{xs:List α}
theorem Own.qC(w:World):Own f e size w none 0 []:=World.ownsRow_nil w 0 _ _
theorem Own.form(h:Own f e size w A cap xs):(A=none/\cap=0/\xs=[])\/∃g,A=some ⟨g,0,none⟩/\g<w.heap.size/\xs.length<=cap/\cap<=maxLen:=by
 obtain⟨R,r⟩:=h
 rcases r with⟨e,L⟩ |⟨g,c,q,e,_,I,O,N,V,U⟩
 ·injection e with e1 e2 e3
  exact .inl ⟨e1,e3,zpI L⟩
 ·injection e with e1 e2 e3
  subst e3;exact .inr ⟨g,e1,(zpb.1 I).1,O,N⟩
theorem Own.same(h:Own f e size w A cap xs)(q:∀g∈zw A,w'.heap[g]? = w.heap[g]?):Own f e size w' A cap xs:=
 Gm h (fun g r=>q g (by cases A<;>simp_all[Value.ownBlock,zw]))
theorem Own.lt(h:Own f e size w A cap xs):∀g∈zw A,g<w.heap.size:=by
 rcases h.form with⟨rfl,_⟩ |⟨g,rfl,q,_⟩
 ·simp[zw]
 ·simpa[zw]using q
theorem Own.xI(h:Own f e size w A cap xs):zY f w A xs:=by
 intro q
 rcases h.form with⟨_,_,rfl⟩ |⟨g,rfl,I,_⟩
 ·exact(q rfl).elim
 ·exact⟨g,0,rfl,I,fun j v r=>by
   have:=World.ownsRow.cellAt h j (by have:=(zpB.1 r).1;rwa [h.1]at this);simpa using this.trans r⟩
theorem Own.push{P:Program}(h:Own f e size w A cap xs)(x:α)(t Z:TypeId)(i:TypeInfo)(z:Value)(bytes:Nat)(ht:P.underlying t=some (.slice e))(hi:P.info? e=some i)(hz:i.zero=some z)(I:i.size=size)(W:i.bytes=bytes)(X:z.cells.size=size)(V:0<size)(R O:Nat)(c:Nat)(hl:(f x).length=size)(L:w.rangeAt R O (f x))(h1:∀u∈f x,u.oneCell'=true)(U:xs.length+1<=maxLen)(r:(xs.length+1)*bytes<=140737488355328):
 ∃g q w',(Builtin.append_ #[t,t] Z #[.slice A xs.length cap,.slice (some ⟨R,O,none⟩) 1 c]).run P w=.ok (.slice (some ⟨g,0,none⟩) (xs.length+1) q) w'/\Own f e size w' (some ⟨g,0,none⟩) q (xs++[x])/\w.grownBy w' (zw A).head?/\(g∈zw A\/g=w.heap.size):=by
 obtain⟨v',w',hr,Y,h3,h4,N⟩:=run_append_own_at (P:=P) (w:=w) 0 t Z e i z size bytes ht hi hz I W X V _ xs.length (xs.flatMap f) h ⟨R,O,none⟩ 1 c (f x) zd (fun j u hj=>by have:=L j u hj;cases j<;>simpa[Addr.add]using this) h1 U r (zo5 _);obtain⟨g,q,rfl⟩:∃g q,v'=.slice (some ⟨g,0,none⟩) (xs.length+1) q:=by
  obtain⟨g,q,hv,_⟩:=Y.form zd;exact⟨g,q,hv⟩
 refine⟨g,q,w',hr,?_,?_,?_⟩
 ·unfold Own;rw[zo1,zpD,zpq,zqx];exact Y
 ·have e0:(Value.slice A xs.length cap).ownBlock=(zw A).head?:=by cases A<;>rfl
  rw[<-e0];exact h3
 ·rcases N with N|N
  ·left
   cases A with
   |none=>cases N
   |some a=>simpa[Value.ownBlock,zw]using N
  ·right;simpa[Value.ownBlock]using N
end
end
section
structure zh (S:Nat->Prop) (w w':World):Prop where
 os:w'.os=w.os
 tape:w'.tape=w.tape
 output:w'.output=w.output
 size:w.heap.size<=w'.heap.size
 block:∀k,k<w.heap.size->¬S k->w'.heap[k]? = w.heap[k]?
theorem zh.refl(S:Nat->Prop)(w:World):zh S w w:=⟨rfl,rfl,rfl,zoZ _,fun _ _ _=>rfl⟩
theorem zh.trans{b:World}(h:zh S a b)(k:zh S' b c)(L:∀x,S' x->x<a.heap.size->S x):zh S a c:=
 ⟨k.os.trans h.os,k.tape.trans h.tape,k.output.trans h.output,zpd h.size k.size,fun i q r=>
  (k.block i (zo0 q h.size) (fun I=>r (L i I q))).trans (h.block i q r)⟩
theorem zh.mono{w w':World}(h:zh S w w')(I:∀x,S x->x<w.heap.size->S' x):zh S' w w':=
 ⟨h.os,h.tape,h.output,h.size,fun k q L=>h.block k q (fun r=>L (I k r q))⟩
theorem zh.xi{w w':World}(S:Nat->Prop)(h:Bl w w'):zh S w w':=⟨h.os,h.tape,h.output,h.size,fun k q _=>h.block k q⟩
theorem zh.below{w w':World}(h:zh S w w')(L:B<=w.heap.size)(r:∀x,S x->B<=x):Below B w w':=
 ⟨h.os,h.tape,h.output,h.size,fun k I=>h.block k zd (fun q=>by have:=r k q;omega)⟩
theorem zh.drew{w:World}(h:zh S a w):zh S a w.drew:=⟨h.os,h.tape,h.output,h.size,h.block⟩
theorem zh.alloc{w:World}(h:zh S a w)(o:Obj):zh S a (w.alloc o):=
 ⟨h.os,h.tape,h.output,by have:=h.size;simp;omega,fun k q r=>(Below.heap_alloc _ _ _ (by have:=h.size;omega)).trans (h.block k q r)⟩
theorem zh.setCell{w:World}(h:zh S a w)(I:p.block<a.heap.size->S p.block)(u:Value):zh S a (w.setCell p u):=
 ⟨h.os,h.tape,h.output,by have:=h.size;simpa[World.setCell]using this,fun k q r=>
  (Below.heap_setCell _ _ _ _ (by rintro rfl;exact r (I q))).trans (h.block k q r)⟩
theorem zh.grown{w w':World}{row:Option Nat}(h:zh S a w)(q:w.grownBy w' row)(L:∀k,row=some k->k<a.heap.size->S k):zh S a w':=
 ⟨q.os.trans h.os,q.tape.trans h.tape,q.output.trans h.output,zpd h.size q.size,fun k r I=>
  (q.block k (by have:=h.size;omega) (fun e=>I (L k e.symm r))).trans (h.block k r I)⟩
theorem zh.yi{w w':World}{b:Nat}(h:zh S a w)(r:w.mapTurned w' b)(I:b<a.heap.size->S b):zh S a w':=
 h.grown r.grown fun k q=>by obtain rfl:=zqn q;exact I
theorem zh.cell{w w':World}(h:zh S w w')(q:p.block<w.heap.size)(r:¬S p.block):w'.cell? p=w.cell? p:=World.cell?_of_block (w:=w) (h.block p.block q r)
theorem TS{P:Program}{k e:TypeId}{size b:Nat}{w:World}{f:Value->Option Value}{v:Value}(R:xv P k w b f)(h:w.ownsRow 0 e size v n xs):v.ownBlock≠some b:=by
 obtain⟨U,q,L,_⟩:=R
 rcases h.2 with⟨rfl,_⟩ |⟨g,N,O,rfl,_,r,_⟩
 ·simp[Value.ownBlock]
 ·intro I;simp only[Value.ownBlock,zpV]at I;subst I;rw[L]at r;cases r
theorem Jb{e:TypeId}{size:Nat}{w w':World}{v:Value}(h:w.ownsRow 0 e size v n xs)(q:∀g,v.ownBlock=some g->w'.heap[g]? = w.heap[g]?):w'.ownsRow 0 e size v n xs:=Gm h q
structure Xc (P:Program) (k e:TypeId) (size:Nat) (w:World) (b:Nat) (f:Value->Option Value) (G:Value->List (List Value)):Prop where
 map:xv P k w b f
 none_:∀x,f x=none->G x=[]
 some_:∀x v,f x=some v->w.ownsRow 0 e size v (G x).length (G x).flatten/\∃A cap,v=.slice A (G x).length cap
 apart:∀x y u v g,f x=some u->f y=some v->u.ownBlock=some g->v.ownBlock=some g->x=y
def xZ(b:Nat)(f:Value->Option Value)(g:Nat):Prop:=g=b\/∃x v,f x=some v/\v.ownBlock=some g
section
variable {P:Program}{k e t st:TypeId}{size:Nat}{w w':World}{b:Nat}{f:Value->Option Value}{G:Value->List (List Value)}
theorem Xc.lt(h:Xc P k e size w b f G):∀g,xZ b f g->g<w.heap.size:=by
 rintro g (rfl |⟨x,v,q,r⟩)
 ·exact h.map.lt
 ·exact(World.ownsRow.lt (h.some_ x v q).1 g r).2
theorem Xc.same(h:Xc P k e size w b f G)(r:∀g,xZ b f g->w'.heap[g]? = w.heap[g]?):Xc P k e size w' b f G:=
 ⟨h.map.same (r b (.inl rfl)),h.none_,fun x v q=>⟨Jb (h.some_ x v q).1 fun g I=>r g (.inr ⟨x,v,q,I⟩),(h.some_ x v q).2⟩,h.apart⟩
theorem Xc.zcM(h:xv P k w b fun _=>none):Xc P k e size w b (fun _=>none) (fun _=>[]):=
 ⟨h,fun _ _=>rfl,(fun _ _ q=>by cases q),(fun _ _ _ _ _ q=>by cases q)⟩
theorem Xc.VT(h:Xc P k e size w b f G)(x:Value):∃A q,(f x).getD (.slice none 0 0)=.slice A (G x).length q/\w.ownsRow 0 e size (.slice A (G x).length q) (G x).length (G x).flatten:=by
 rcases hf:f x with _|v
 ·refine⟨none,0,?_,?_⟩
  ·rw[h.none_ x hf];rfl
  ·rw[h.none_ x hf];exact World.ownsRow_nil w 0 e size
 ·obtain⟨r,A,q,rfl⟩:=h.some_ x v hf;exact⟨A,q,rfl,r⟩
open Classical in
theorem Xc.push(h:Xc P k e size w b f G)(x:Value)(i:TypeInfo)(z:Value)(bytes:Nat)(aj:P.underlying st=some (.slice e))(hi:P.info? e=some i)(hz:i.zero=some z)(ac:i.size=size)(ap:i.bytes=bytes)(aq:z.cells.size=size)(an:0<size)(ty:TypeId)(a:Addr)(c:Nat)(r:List Value)(hl:r.length=size)(af:∀j u,r[j]? = some u->w.cell? (a.add j)=some u)(h1:∀u∈r,u.oneCell'=true)(am:(G x).length+1<=maxLen)(aa:((G x).length+1)*bytes<=140737488355328):
 ∃v' W,(Builtin.append_ #[st,st] ty #[(f x).getD (.slice none 0 0),.slice (some a) 1 c]).run P w=.ok v' W/\W.heap[b]? = w.heap[b]?/\zh (xZ b f) w W/\
  ∀w2,xv P k w2 b (fun y=>if y=x then some v' else f y)->W.mapTurned w2 b->Xc P k e size w2 b (fun y=>if y=x then some v' else f y) (fun y=>if y=x then G x++[r]else G y)/\zh (xZ b f) w w2/\
   (∀g,xZ b (fun y=>if y=x then some v' else f y) g->xZ b f g\/w.heap.size<=g):=by
 obtain⟨A,Y,I,xT⟩:=h.VT x;rw[I];obtain⟨v',W,hr,h2,h3,h4,h5⟩:=run_append_own_at (P:=P) w 0 st ty e i z size bytes aj hi hz ac ap aq an _ _ _ xT a 1 c r zd af h1 am aa (zo5 _);obtain⟨g,N,rfl⟩:∃g N,v'=.slice (some ⟨g,0,none⟩) ((G x).length+1) N:=by
  obtain⟨g,N,hv,_⟩:=h2.form zd;exact⟨g,N,hv⟩
 have ag:(Value.slice A (G x).length Y).ownBlock≠some b:=TS h.map xT;have ao:W.heap[b]? = w.heap[b]?:=h3.block b h.map.lt (fun e=>ag e.symm);have R:some g=(Value.slice A (G x).length Y).ownBlock\/g=w.heap.size:=by
  rcases h5 with h5|h5
  ·exact .inl h5
  ·right;simpa[Value.ownBlock]using h5
 have ar:g≠b:=by
  rintro rfl
  rcases R with e|e
  ·exact ag e.symm
  ·have:=h.map.lt;omega
 have ab:∀g0,(Value.slice A (G x).length Y).ownBlock=some g0->xZ b f g0:=by
  intro g0 L
  rcases hf:f x with _|v
  ·rw[hf]at I;injection I with e1;subst e1;cases L
  ·rw[hf]at I;simp only[zpT]at I;exact .inr ⟨x,v,hf,by rw[I];exact L⟩
 have ai:zh (xZ b f) w W:=(zh.refl _ w).grown h3 fun q V _=>ab q V
 refine⟨_,W,hr,ao,ai,fun w2 al ad=>?_⟩;have ae:∀q,q<w.heap.size->q≠b->some q≠(Value.slice A (G x).length Y).ownBlock->w2.heap[q]? = w.heap[q]?:=fun q V O L=>
  (ad.grown.block q (by have:=h3.size;omega) (by simpa using O)).trans (h3.block q V L)
 refine⟨⟨al,fun y L=>?_,fun y v L=>?_,fun y y' u v q L U Z X=>?_⟩,?_,?_⟩
 all_goals try simp only at *
 ·split at L
  ·cases L
  ·rename_i O;rw[if_neg O];exact h.none_ y L
 ·split at L
  ·rename_i e1;injection L with L
   subst L;rw[if_pos e1];refine⟨?_,some ⟨g,0,none⟩,N,by rw[zo1,zpD]⟩;rw[zo1,zpD,List.flatten_append];have:[r].flatten=r:=zp;rw[this];exact Jb h2 fun q V=>by
    simp only[Value.ownBlock,zpV]at V;subst V;exact ad.grown.block g (World.ownsRow.lt h2 g rfl).2 (by simpa using ar)
  ·rename_i e1;rw[if_neg e1];obtain⟨ho,hs⟩:=h.some_ y v L;refine⟨Jb ho fun q V=>?_,hs⟩;have O:=(World.ownsRow.lt ho q V).2;refine ae q O ?_ ?_
   ·rintro rfl;exact TS h.map ho V
   ·intro he
    rcases hf:f x with _|v0
    ·rw[hf]at I;injection I with e2;subst e2;cases he
    ·rw[hf]at I;simp only[zpT]at I;exact e1 (h.apart y x v v0 q L hf V (by rw[I];exact he.symm))
 ·have O:∀y v,y≠x->f y=some v->v.ownBlock≠some g:=fun y v ak ah he=>by
   rcases R with e2|e2
   ·rcases hf:f x with _|v0
    ·rw[hf]at I;injection I with e3;subst e3;cases e2
    ·rw[hf]at I;simp only[zpT]at I;exact ak (h.apart y x v v0 g ah hf he (by rw[I];exact e2.symm))
   ·have:=(World.ownsRow.lt (h.some_ y v ah).1 g he).2;omega
  split at L<;>split at U
  ·rename_i e1 e2;rw[e1,e2]
  ·rename_i e1 e2;injection L with L;subst L
   simp only[Value.ownBlock,zpV]at Z;subst Z;exact(O y' v e2 U X).elim
  ·rename_i e1 e2;injection U with U;subst U
   simp only[Value.ownBlock,zpV]at X;subst X;exact(O y u e1 L Z).elim
  ·exact h.apart y y' u v q L U Z X
 ·exact ai.trans ((zh.refl _ W).yi (S:=(·=b)) ad fun _=>rfl) fun q V _=>.inl V
 ·rintro q (rfl |⟨y,v,L,hv⟩)
  ·exact .inl (.inl rfl)
  ·simp only at L;split at L
   ·injection L with L;subst L
    simp only[Value.ownBlock,zpV]at hv;subst hv
    rcases R with e1|e1
    ·exact .inl (ab _ e1.symm)
    ·right;omega
   ·exact .inl (.inr ⟨y,v,L,hv⟩)
end
end
section
abbrev xC(s:ByteArray):List Value:=[.string s]
structure qy (P:Program) (t e:TypeId) (size bytes:Nat):Prop where
 ht:P.underlying t=some (.slice e)
 ex:∃i z,P.info? e=some i/\i.zero=some z/\i.size=size/\i.bytes=bytes/\z.cells.size=size
 pos:0<size
theorem qy.of{P:Program}{t e:TypeId}{size bytes:Nat}(N:P.underlying t=some (.slice e))(hi:(P.info? e).map (fun i=>(i.zero,i.size,i.bytes))=some (some z,size,bytes))(O:z.cells.size=size)(L:0<size):qy P t e size bytes:=by
 obtain⟨I,hi,q,r,h⟩:=info_parts hi;exact⟨N,⟨I,z,hi,q,r,h,O⟩,L⟩
section
variable {α:Type}{f:α->List Value}{t e:TypeId}{size bytes:Nat}{A:Option Addr}{cap n:Nat}{xs:List α}{P:Program}{w:World}
theorem Own.GC(h:Own f e size w A cap xs)(E:qy P t e size bytes)(hn:xs.length=n)(x:α)(V:TypeId)(O N c:Nat)(hl:(f x).length=size)(r:w.rangeAt O N (f x))(Z:∀u∈f x,u.oneCell'=true)(hb:n<=4194304)(R:bytes<=4096):
 ∃g q I,(Builtin.append_ #[t,t] V #[.slice A n cap,.slice (some ⟨O,N,none⟩) 1 c]).run P w=.ok (.slice (some ⟨g,0,none⟩) (n+1) q) I/\Own f e size I (some ⟨g,0,none⟩) q (xs++[x])/\zh (·∈zw A) w I/\(g∈zw A\/w.heap.size<=g):=by
 subst hn;obtain⟨W,⟨i,z,hi,hz,h3,Y,h5⟩,hp⟩:=E;have hm:(xs.length+1)*bytes<=140737488355328:=by
  have:(xs.length+1)*bytes<=4194305*4096:=zq0 zd R;omega
 obtain⟨g,q,I,hr,ho,X,L⟩:=h.push (P:=P) x t V i z bytes W hi hz h3 Y h5 hp O N c hl r Z (by unfold maxLen;omega) hm;refine⟨g,q,I,hr,ho,(zh.refl _ w).grown X fun k U _=>?_,?_⟩
 ·cases A with
  |none=>cases U
  |some a=>simpa[zw]using U.symm
 ·rcases L with h|h
  ·exact .inl h
  ·right;omega
theorem X0{L:Array Oper}{a:Act}(N:o.guard=none)(s y:Operand)(ho:o.op=.call { callee:=.builtin .append,args:=#[s,y],argTypes:=#[t,t]})(E:qy P t e size bytes)(h:Own f e size w A cap xs)(hn:xs.length=n)(x:α)(R O c:Nat)(hs:a.eval s=.slice A n cap)(hy:a.eval y=.slice (some ⟨R,O,none⟩) 1 c)(hl:(f x).length=size)(r:w.rangeAt R O (f x))(h1:∀u∈f x,u.oneCell'=true)(W:n<=4194304)(U:bytes<=4096)(X:∀g q I,Own f e size I (some ⟨g,0,none⟩) q (xs++[x])->zh (·∈zw A) w I->(g∈zw A\/w.heap.size<=g)->wpList P L Q rest (a.put o.dst (.slice (some ⟨g,0,none⟩) (n+1) q)) I):
 wpList P L Q (o::rest) a w:=by
 refine wpList_plain N fun K Z=>?_
 obtain⟨g,q,I,hr,V,h3,Y⟩:=h.GC (P:=P) E hn x o.type R O c hl r h1 W U;unfold Oper.wp execOp;simp only[ho,resolve,invoke,builtin,Sem.run_bind,Sem.run_pure,Result.andThen_ok,zqh,zpM,zqG,hs,hy,hr];exact Z _ _ (X g q I V h3 Y)
theorem ZG{r:Array Oper}{a:Act}(E:qy P t e size bytes)(h:Own f e size w A cap xs)(Z:xs.length=n)(x:α){s y:Operand}{L c:Nat}(U:∀g q I,Own f e size I (some ⟨g,0,none⟩) q (xs++[x])->zh (·∈zw A) w I->(g∈zw A\/w.heap.size<=g)->wpList P r Q rest (a.put o.dst (.slice (some ⟨g,0,none⟩) (n+1) q)) I)(I:o.guard=none:=by rfl)(W:o.op=.call { callee:=.builtin .append,args:=#[s,y],argTypes:=#[t,t]}:=by rfl)(Y:a.eval s=.slice A n cap:=by rfl)(hy:a.eval y=.slice (some ⟨N,L,none⟩) 1 c:=by rfl)(X:(f x).length=size:=by rfl)(q:w.rangeAt N L (f x):=by exact yp _ _ _ rfl)(V:∀u∈f x,u.oneCell'=true:=by simp[Value.oneCell'])(R:n<=4194304:=by omega)(O:bytes<=4096:=by decide):
 wpList P r Q (o::rest) a w:=X0 I s y W E h Z x N L c Y hy X q V R O U
end
theorem Own.alloc{α:Type}{f:α->List Value}{e:TypeId}{size:Nat}{w:World}{A:Option Addr}{cap:Nat}{xs:List α}(h:Own f e size w A cap xs)(o:Obj):Own f e size (w.alloc o) A cap xs:=h.same fun g q=>Below.heap_alloc w o g (h.lt g q)
theorem Own.below{α:Type}{f:α->List Value}{e:TypeId}{size:Nat}{w:World}{A:Option Addr}{cap:Nat}{xs:List α}(h:Own f e size w A cap xs)(q:Bl w w'):Own f e size w' A cap xs:=h.same fun g r=>q.block g (h.lt g r)
theorem yp(w:World)(h:List Value)(t:TypeId)(q:g=w.heap.size):(w.alloc (.cells h.toArray t)).rangeAt g 0 h:=by subst q;exact ZB w h t
theorem xW{Q:Nat->Prop}(h:Q g):∀x∈zw (some ⟨g,0,none⟩),Q x:=fun x q=>by
 simp only[zw,zpK,zqo,zo2]at q;subst q;exact h
section
variable {α:Type}{f:α->List Value}{t e:TypeId}{size bytes:Nat}{A:Option Addr}{cap n:Nat}{xs:List α}{P:Program}{w:World}
theorem Zv{a:Act}{K:Act->World->Prop}(s y:Operand)(Y:o.op=.call { callee:=.builtin .append,args:=#[s,y],argTypes:=#[t,t]})(E:qy P t e size bytes)(h:Own f e size w A cap xs)(hn:xs.length=n)(x:α)(N L c:Nat)(hs:a.eval s=.slice A n cap)(hy:a.eval y=.slice (some ⟨N,L,none⟩) 1 c)(Z:(f x).length=size)(r:w.rangeAt N L (f x))(W:∀u∈f x,u.oneCell'=true)(U:n<=4194304)(O:bytes<=4096)(X:∀g q I,Own f e size I (some ⟨g,0,none⟩) q (xs++[x])->zh (·∈zw A) w I->(g∈zw A\/w.heap.size<=g)->K (a.put o.dst (.slice (some ⟨g,0,none⟩) (n+1) q)) I):Oper.wp P o a w K Q:=by
 obtain⟨g,q,I,hr,R,h3,V⟩:=h.GC (P:=P) E hn x o.type N L c Z r W U O;unfold Oper.wp execOp;simp only[Y,resolve,invoke,builtin,Sem.run_bind,Sem.run_pure,Result.andThen_ok,zqh,zpM,zqG,hs,hy,hr];exact X g q I R h3 V
end
structure Dd (w:World) (t1:TypeId) (c1:Array Value) (W:World):Prop where
 below:Bl w W
 size:W.heap.size=w.heap.size+1
 b0:zD W w.heap.size t1 c1
structure Bx2 (w:World) (t1 t2:TypeId) (c1 c2:Array Value) (W:World):Prop where
 below:Bl w W
 size:W.heap.size=w.heap.size+1+1
 b0:zD W w.heap.size t1 c1
 b1:zD W (w.heap.size+1) t2 c2
structure Bx3 (w:World) (t1 t2 t3:TypeId) (c1 c2 c3:Array Value) (W:World):Prop where
 below:Bl w W
 size:W.heap.size=w.heap.size+1+1+1
 b0:zD W w.heap.size t1 c1
 b1:zD W (w.heap.size+1) t2 c2
 b2:zD W (w.heap.size+1+1) t3 c3
theorem xj(w:World)(h:TypeId)(c1:Array Value):∃W,w.alloc (.cells c1 h)=W/\Dd w h c1 W:=⟨_,rfl,xo w _,zp,zD.new w _ _⟩
theorem ya(w:World)(I r:TypeId)(c1 c2:Array Value):∃W,(w.alloc (.cells c1 I)).alloc (.cells c2 r)=W/\Bx2 w I r c1 c2 W:=by
 obtain⟨N,e,h⟩:=xj w I c1;obtain⟨O,e2,q⟩:=xj N r c2;have L:=h.size;refine⟨O,by rw[e,e2],h.below.trans (q.below.mono zd),by rw[q.size,L],h.b0.same (q.below.block _ zd),?_⟩;rw[<-L];exact q.b0
theorem Va(w:World)(L r I:TypeId)(c1 c2 c3:Array Value):∃W,((w.alloc (.cells c1 L)).alloc (.cells c2 r)).alloc (.cells c3 I)=W/\Bx3 w L r I c1 c2 c3 W:=by
 obtain⟨O,e,h⟩:=ya w L r c1 c2;obtain⟨R,e2,q⟩:=xj O I c3;have N:=h.size;refine⟨R,by rw[e,e2],h.below.trans (q.below.mono zd),by rw[q.size,N],h.b0.same (q.below.block _ zd),h.b1.same (q.below.block _ zd),?_⟩;rw[<-N];exact q.b0
theorem zD.zC{w:World}{t:TypeId}{q:Array Value}(h:zD w g t q)(r:zh S w w')(I:¬S g):zD w' g t q:=h.same (r.block g h.lt I)
theorem zD.below{w:World}{t:TypeId}{q:Array Value}(h:zD w g t q)(r:Bl w w'):zD w' g t q:=h.same (r.block g h.lt)
theorem Own.zC{α:Type}{f:α->List Value}{e:TypeId}{size:Nat}{w:World}{A:Option Addr}{cap:Nat}{xs:List α}(h:Own f e size w A cap xs)(r:zh S w w')(I:∀g∈zw A,¬S g):Own f e size w' A cap xs:=h.same fun g q=>r.block g (h.lt g q) (I g q)
theorem Uq{w:World}{b o:Nat}{q:List Value}(h:w.rangeAt b o q)(I:b<w.heap.size)(L:zh S w w')(N:¬S b):w'.rangeAt b o q:=fun j v r=>by
 rw[L.cell (p:=⟨b,o+j,none⟩) I N];exact h j v r
theorem zD.setCells{g:Nat}{t:TypeId}:∀(I:List Value)(o:Nat)(w:World)(q:Array Value),zD w g t q->o+I.length<=q.size->zD (w.setCells g o I) g t (q.toList.take o++I++q.toList.drop (o+I.length)).toArray
 |[],o,w,q,h,_=>by
  rw[World.setCells,zpw,zpF,zpO,zpL];simpa using h
 |v::r,o,w,q,h,L=>by
  rw[zpn]at L;have:=zD.setCells r (o+1) _ _ (h.qE o v) zb;rw[World.setCells];have e:(q.setIfInBounds o v).toList.take (o+1)++r++(q.setIfInBounds o v).toList.drop (o+1+r.length)=q.toList.take o++v::r++q.toList.drop (o+(v::r).length):=by
   have I:o<q.toList.length:=zb;rw[Array.toList_setIfInBounds,zo4 (by rw[zpG];exact I),List.take_set_of_le (zoZ _),zqj,List.drop_set_of_lt zd,zpn,zpo,zpo,zpo];rw[show o+1+r.length=o+(r.length+1) from zd];rfl
  rw[e]at this;exact this
theorem Below.setCells{B g:Nat}{a:World}(q:B<=g):∀(I:List Value)(o:Nat)(w:World),Below B a w->Below B a (w.setCells g o I)
 |[],_,_,h=>h
 |v::r,o,w,h=>Below.setCells q r (o+1) _ (h.setCell (by exact q) v)
theorem XE{P:Program}{N:Array Oper}{a:Act}(O:o.guard=none)(L:TypeId)(x y:Operand)(Y:o.op=.store L x y)(I:Array Value)(q:List Value)(Z:a.eval x=.pointer (some ⟨r.heap.size,0,none⟩))(hy:a.eval y=.agg q.toArray)(V:I.size=q.length)(hi:(P.info? L).map (·.size)=some q.length)(X:∀v∈q,v.oneCell'=true)(h:∀W,Dd r L q.toArray W->wpList P N Q rest (a.put o.dst undef) W):wpList P N Q (o::rest) a (r.alloc (.cells I L)):=by
 have R:zD (r.alloc (.cells I L)) r.heap.size L I:=zD.new r _ _;refine wpList_store_mid O L x y Y r.heap.size 0 q.toArray Z hy (fun j U=>?_) (by simpa using hi) (all_oneCell_toArray X) (h _ ⟨?_,?_,?_⟩)
 ·have U:j<I.size:=by simpa[V]using U
  rw[zpx];exact⟨by rw[R.cell];simp[U],R.frozen j⟩
 ·exact Below.setCells (zoZ _) _ _ _ (xo r _)
 ·rw[Jz];simp
 ·have:=zD.setCells q 0 _ I R zd;have e:I.toList.drop (0+q.length)=[]:=List.drop_eq_nil_of_le (by simp[V]);rw[e,zpr,zpa,zpw]at this;exact this
def Acc{α:Type}(f:α->List Value)(e:TypeId)(size:Nat)(A:Option Addr)(xs:List α)(w:World)(x:Ending)(w':World):Prop:=
 ∃q h n,x=.returned (.slice q n h)/\xs.length=n/\Own f e size w' q h xs/\zh (·∈zw A) w w'/\(∀g∈zw q,g∈zw A\/w.heap.size<=g)
def Xo{α:Type}(f:α->List Value)(e:TypeId)(size:Nat)(xs:List α)(w:World)(x:Ending)(w':World):Prop:=
 ∃q h n,x=.returned (.slice q n h)/\xs.length=n/\Own f e size w' q h xs/\Bl w w'/\(∀g∈zw q,w.heap.size<=g)
theorem Acc.gives{α:Type}{f:α->List Value}{e:TypeId}{size:Nat}{xs:List α}{w:World}{x:Ending}(h:Acc f e size none xs w x w'):Xo f e size xs w x w':=by
 obtain⟨O,q,n,N,U,I,R,L⟩:=h;exact⟨O,q,n,N,U,I,R.below (zoZ _) (fun g r=>by simp[zw]at r),fun g r=>by rcases L g r with h|h;simp[zw]at h;exact h⟩
theorem zh.qq{b:World}(h:zh S b c)(q:Below B a b)(I:B<=a.heap.size)(r:∀x,S x->B<=x):Below B a c:=
 q.trans (h.below (by have:=q.size;omega) r)
theorem DK{w q:World}{A:Option Addr}{c1:Array Value}(h:U9 w c1 q)(N:∀g∈zw A,g<w.heap.size)(L:zh (·∈zw A) q r)(i:Nat):r.cell? ⟨w.heap.size,i,none⟩=c1[i]?:=
 (L.cell (p:=⟨w.heap.size,i,none⟩) (by have:=h.size;show w.heap.size<_;omega) (fun I=>by have:=N _ I;simp at this)).trans (h.one i)
end
