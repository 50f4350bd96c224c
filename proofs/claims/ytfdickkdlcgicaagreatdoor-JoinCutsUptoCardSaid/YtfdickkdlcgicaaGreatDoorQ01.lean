/-
  Plain words: the variables of terms; those that a body limit
-/
import Derived.Test.YtfdickkdlcgicaaGreatDoorQ00
import Derived.WideShapes
import Derived.BigGuardPart
import Derived.Laws.StructEq
import Derived.Deep.QuietTactic
import Derived.BigQuiet
import Derived.Maps.OwnSet
import Derived.Laws.Rows
import Derived.Deep.AppendLies
set_option maxRecDepth 100000
set_option maxHeartbeats 8000000
set_option linter.all false
namespace Go.Proofs.YtfdickkdlcgicaaGreatDoor.C
open Go.Proofs.Tryz Go Go.RowKit Go.Maps Go.WideMaps
variable {B O g i n:Nat}{I a c w w' w1:World}{K vs:List ByteArray}{P:Prop}{Q:Exit->Act->World->Prop}{S S':Nat->Prop}{b:Bool}{k:Int}{l:List UInt8}{left:List Nat}{o:Oper}{p:Addr}{rest:List Oper}{s u v:ByteArray}{x z:Value}{xs:List Value}
section
theorem U7{a b:ByteArray}(h:a.toList=b.toList):a=b:=by
 rw[ByteArray.toList_eq,ByteArray.toList_eq]at h
 cases a;cases b
 simp only at h;rw[Array.toList_inj.1 h]
theorem bytes_beq(a b:ByteArray):(a.toList==b.toList)=tf (a=b):=by
 by_cases h:a=b
 ·subst h;rw[qs rfl];simp
 ·rw[qu h];exact beq_eq_false_iff_ne.2 fun e=>h (U7 e)
theorem zlD(a b:ByteArray):(a.toList != b.toList)=!tf (a=b):=by
 rw[<-bytes_beq];rfl
theorem Zn{p:Prop}:tf p=true↔p:=by
 by_cases h:p
 ·exact⟨fun _=>h,fun _=>qs h⟩
 ·exact⟨fun e=>(by rw[qu h]at e;cases e),fun q=>(h q).elim⟩
theorem Gc{p:Prop}:tf p=false↔¬p:=by
 by_cases h:p
 ·exact⟨fun e=>(by rw[qs h]at e;cases e),fun q=>(q h).elim⟩
 ·exact⟨fun _=>h,fun _=>qu h⟩
def isVar(s:ByteArray):Prop:=s.toList≠[]/\s.toList≠[95]
open Classical in
noncomputable def addVar(vs:List ByteArray)(v:ByteArray):List ByteArray:=if isVar v/\v∉vs then vs++[v]else vs
noncomputable def varsOf(vs:List ByteArray)(h:List Tm):List ByteArray:=h.foldl (fun l t=>addVar l t.v) vs
theorem zmM:u∈addVar vs v↔u∈vs\/(u=v/\isVar v):=by
 unfold addVar;split
 ·rename_i h;simp[h.1]
 ·rename_i h;constructor
  ·exact .inl
  ·rintro(I |⟨rfl,q⟩)
   ·exact I
   ·exact zql fun L=>h ⟨q,L⟩
theorem zgT(h:vs.Nodup):(addVar vs v).Nodup:=by
 unfold addVar;split
 ·rename_i I;refine zrc.2 ⟨h,zp,fun a q b L=>?_⟩;obtain rfl:=zpy.1 L;rintro rfl;exact I.2 q
 ·exact h
theorem zcS(vs:List ByteArray)(v:ByteArray):vs.length<=(addVar vs v).length/\(addVar vs v).length<=vs.length+1:=by
 unfold addVar;split<;>simp
theorem VX(vs:List ByteArray)(t:Tm)(h:List Tm):varsOf vs (t::h)=varsOf (addVar vs t.v) h:=rfl
theorem Uo(vs:List ByteArray)(a b:List Tm):varsOf vs (a++b)=varsOf (varsOf vs a) b:=zqQ
theorem zep:∀{q:List Tm}{vs:List ByteArray}{u:ByteArray},u∈varsOf vs q↔u∈vs\/(isVar u/\∃t∈q,t.v=u)
 |[],vs,u=>by simp[varsOf]
 |t::q,vs,u=>by
  rw[VX,zep,zmM];constructor
  ·rintro((h |⟨rfl,h⟩) |⟨I,L,q,N⟩)
   ·exact .inl h
   ·exact .inr ⟨h,t,zpP,rfl⟩
   ·exact .inr ⟨I,L,zpQ _ q,N⟩
  ·rintro(h |⟨I,L,q,rfl⟩)
   ·exact .inl (.inl h)
   ·rcases zpU.1 q with rfl|q
    ·exact .inl (.inr ⟨rfl,I⟩)
    ·exact .inr ⟨I,L,q,rfl⟩
theorem zdP:∀{q:List Tm}{vs:List ByteArray},vs.Nodup->(varsOf vs q).Nodup
 |[],_,h=>h
 |t::q,vs,h=>by rw[VX];exact zdP (zgT h)
theorem Ux:∀(q:List Tm)(h:List ByteArray),(varsOf h q).length<=h.length+q.length
 |[],h=>by simp[varsOf]
 |t::q,h=>by
  rw[VX,zpV];have:=Ux q (addVar h t.v);have:=(zcS h t.v).2;omega
mutual
def Ex.zO:Ex->List Tm
 |.mk _ t _ _ h=>t::Ex.qq h
def Ex.qq:List Ex->List Tm
 |[]=>[]
 |e::h=>e.zO++Ex.qq h
end
theorem Ex.GI:∀(a b:List Ex),Ex.qq (a++b)=Ex.qq a++Ex.qq b
 |[],b=>by simp[Ex.qq]
 |e::h,b=>by rw[zpJ,Ex.qq,Ex.GI h b,Ex.qq,zpX]
def Ex.q:Ex->Int
 |.mk q _ _ _ _=>q
def Ex.t:Ex->Tm
 |.mk _ t _ _ _=>t
def Li.zO(x:Li):List Tm:=x.a.args++(x.l.zO++x.r.zO)
def Ru.zO(r:Ru):List Tm:=r.head.map (·.t)++r.body.flatMap Li.zO
noncomputable def Ex.vars(e:Ex):List ByteArray:=varsOf [] e.zO
noncomputable def At.vars(a:At):List ByteArray:=varsOf [] a.args
noncomputable def Li.vars(x:Li):List ByteArray:=varsOf [] x.zO
noncomputable def Ru.vars(r:Ru):List ByteArray:=varsOf [] r.zO
theorem qJ{h:List Tm}:u∈varsOf [] h↔isVar u/\∃t∈h,t.v=u:=by simp[zep]
theorem Ex.qJ{e:Ex}:u∈e.vars↔isVar u/\∃t∈e.zO,t.v=u:=C.qJ
theorem At.qJ{e:At}:u∈e.vars↔isVar u/\∃t∈e.args,t.v=u:=C.qJ
theorem Li.qJ{x:Li}:u∈x.vars↔u∈x.a.vars\/u∈x.l.vars\/u∈x.r.vars:=by
 unfold Li.vars Li.zO;rw[C.qJ,At.qJ,Ex.qJ,Ex.qJ];simp only[zpE];constructor
 ·rintro⟨h,t,q|q|q,I⟩
  ·exact .inl ⟨h,t,q,I⟩
  ·exact .inr (.inl ⟨h,t,q,I⟩)
  ·exact .inr (.inr ⟨h,t,q,I⟩)
 ·rintro(⟨h,t,q,I⟩ |⟨h,t,q,I⟩ |⟨h,t,q,I⟩)
  ·exact⟨h,t,.inl q,I⟩
  ·exact⟨h,t,.inr (.inl q),I⟩
  ·exact⟨h,t,.inr (.inr q),I⟩
theorem Ru.qJ{r:Ru}{x:Li}(N:x∈r.body)(h:u∈x.vars):u∈r.vars:=by
 obtain⟨I,t,q,L⟩:=C.qJ.1 h;exact C.qJ.2 ⟨I,t,zpR _ (zqP.2 ⟨x,N,q⟩),L⟩
theorem Li.zci(x:Li):x.vars.Nodup:=zdP List.nodup_nil
def Ex.lone:Ex->ByteArray->Prop
 |.mk q t _ _ h,v=>q=0/\h=[]/\t.v=v/\isVar v
inductive yo (body:List Li):ByteArray->Prop
 |atom {x:Li} {v:ByteArray}:x∈body->x.k=1->v∈x.a.vars->yo body v
 |left {x:Li} {v:ByteArray}:x∈body->x.k=3->x.rl=1->x.l.lone v->(∀u∈x.r.vars,yo body u)->yo body v
 |right {x:Li} {v:ByteArray}:x∈body->x.k=3->x.rl=1->x.r.lone v->(∀u∈x.l.vars,yo body u)->yo body v
theorem Ex.Ul{e:Ex}(h:e.lone v):u∈e.vars↔u=v:=by
 obtain⟨q,t,A,L,I⟩:=e;obtain⟨_,rfl,rfl,h⟩:=h;rw[Ex.qJ];simp only[Ex.zO,Ex.qq,zpy];constructor
 ·rintro⟨_,N,rfl,rfl⟩;rfl
 ·rintro rfl;exact⟨h,t,rfl,rfl⟩
structure Sp where
 k:Int
 lit:Nat
 known:Nat
 gives:List ByteArray
open Classical in
noncomputable def qm(K:List ByteArray):Nat->List Tm->Nat
 |_,[]=>0
 |i,t::h=>(if t.v.toList=[]\/t.v∈K then 2 ^ i else 0)+qm K (i+1) h
noncomputable def qF(K:List ByteArray)(x:Li):List ByteArray:=x.vars.filter fun v=>!tf (v∈K)
def UQ(x:Li)(v:ByteArray):Prop:=(x.l.q=0/\x.l.t.v=v/\v∉x.r.vars)\/(x.r.q=0/\x.r.t.v=v/\v∉x.l.vars)
open Classical in
noncomputable def stepOf(K:List ByteArray)(i:Nat)(x:Li):Option Sp:=
 if x.k=1 then some ⟨if qm K 0 x.a.args=2 ^ x.a.args.length-1 then 3 else if qm K 0 x.a.args=0 then 1 else 2,i,qm K 0 x.a.args,qF K x⟩
 else if x.k=2 then(if qF K x=[]then some ⟨4,i,qm K 0 x.a.args,[]⟩else none)
 else if qF K x=[]then some ⟨5,i,0,[]⟩
 else if ∃v,qF K x=[v]/\x.rl=1/\UQ x v then some ⟨6,i,0,qF K x⟩
 else none
theorem Uq{x:Li}:u∈qF K x↔u∈x.vars/\u∉K:=by
 unfold qF;rw[zrd,Bool.not_eq_true',Gc]
theorem YQ{x:Li}{s:Sp}(h:stepOf K i x=some s):s.lit=i/\(s.gives=qF K x):=by
 unfold stepOf at h;split at h
 ·injection h with h;subst h;exact⟨rfl,rfl⟩
 split at h
 ·split at h
  ·rename_i q;injection h with h;subst h;exact⟨rfl,q.symm⟩
  ·cases h
 split at h
 ·rename_i q;injection h with h;subst h;exact⟨rfl,q.symm⟩
 split at h
 ·injection h with h;subst h;exact⟨rfl,rfl⟩
 ·cases h
inductive yi (body:List Li):List ByteArray->List Nat->List Sp->Prop
 |nil {K:List ByteArray}:yi body K [] []
 |cons {K:List ByteArray} {left:List Nat} {i:Nat} {s:Sp} {rest:List Sp} (hi:i∈left) (hb:i<body.length) (hs:stepOf K i body[i]=some s) (hr:yi body (K++s.gives) (left.erase i) rest):yi body K left (s::rest)
noncomputable def Va(body:List Li)(K:List ByteArray)(left:List Nat):Option Nat:=
 (left.find? fun i=>match body[i]? with|some x=>tf (x.k≠1/\(stepOf K i x).isSome=true)|none=>false).or
  (left.find? fun i=>match body[i]? with|some x=>tf (x.k=1)|none=>false)
theorem zb6{body:List Li}(h:Va body K left=some i):i∈left/\∃x,body[i]? = some x/\(stepOf K i x).isSome=true:=by
 unfold Va at h
 rcases h1:left.find? fun i=>match body[i]? with|some x=>tf (x.k≠1/\(stepOf K i x).isSome=true)|none=>false with _|j
 ·rw[h1,Option.none_or]at h;refine⟨List.mem_of_find?_eq_some h,?_⟩;have:=List.find?_some h;split at this
  ·rename_i x q;refine⟨x,q,?_⟩;have I:=Zn.1 this;unfold stepOf;rw[if_pos I];rfl
  ·cases this
 ·rw[h1,Option.some_or]at h;injection h with h
  subst h;refine⟨List.mem_of_find?_eq_some h1,?_⟩;have:=List.find?_some h1;split at this
  ·rename_i x q;exact⟨x,q,(Zn.1 this).2⟩
  ·cases this
theorem filter_one{l:List ByteArray}{p:ByteArray->Bool}(V:l.Nodup)(R:v∈l)(O:p v=true)(h:∀u∈l,p u=true->u=v):l.filter p=[v]:=by
 have I:(l.filter p).Nodup:=V.filter _;have L:v∈l.filter p:=zrd.2 ⟨R,O⟩;have q:∀u∈l.filter p,u=v:=fun u N=>h u (zrd.1 N).1 (zrd.1 N).2
 match hl:l.filter p with
 |[]=>rw[hl]at L;cases L
 |[u]=>rw[hl]at q;rw[q u zpP]
 |a::b::r=>
  rw[hl]at q I;have N:=q a zpP;have U:=q b (zpQ _ zpP);rw[N,U]at I;simp at I
theorem zos{body:List Li}(ah:∀x∈body,x.ok)(aa:∀x∈body,∀v∈x.vars,yo body v)(ae:left≠[])(ad:∀i∈left,i<body.length)(hK:∀i (h:i<body.length),i∉left->∀v∈body[i].vars,v∈K):∃i,Va body K left=some i:=by
 refine zql fun I=>?_
 have L:Va body K left=none:=by
  rcases L:Va body K left with _|i
  ·rfl
  ·exact(I ⟨i,L⟩).elim
 clear I;unfold Va at L;rw[Option.or_eq_none_iff]at L;obtain⟨h1,Z⟩:=L;rw[List.find?_eq_none]at h1 Z;have L:∀i (h:i<body.length),i∈left->body[i].k≠1:=fun i h N W=>by
  have:=Z i N;rw[zpF h]at this;exact this (qs W)
 have I:∀i (h:i<body.length),i∈left->stepOf K i body[i]=none:=fun i h N=>by
  have:=h1 i N;rw[zpF h]at this
  rcases hs:stepOf K i body[i]with _|s
  ·rfl
  ·exact(this (qs ⟨L i h N,by rw[hs];rfl⟩)).elim
 have ac:∀{x:Li},x∈body->x.k=3->x.a.vars=[]:=fun {x} V W=>by
  rcases ah x V with⟨h,_⟩ |⟨_,_,h,_⟩
  ·omega
  ·unfold At.vars;rw[h];rfl
 have ag:∀v,yo body v->v∈K:=fun v U=>by
  induction U with
  |@atom x v V W U=>
   obtain⟨i,N,rfl⟩:=zpS.1 V;exact hK i N (fun O=>L i N O W) v (Li.qJ.2 (.inl U))
  |@left x v V W hr O _ ih=>
   obtain⟨i,N,rfl⟩:=zpS.1 V;refine zql fun U=>?_
   have hm:v∈body[i].vars:=Li.qJ.2 (.inr (.inl ((Ex.Ul O).2 rfl)));have Y:i∈left:=zql fun h=>U (hK i N h v hm)
   have X:qF K body[i]=[v]:=filter_one (Li.zci _) hm (by rw[qu U];rfl) fun u hu hp=>by
    rw[Bool.not_eq_true',Gc]at hp
    rcases Li.qJ.1 hu with h|h|h
    ·rw[ac V W]at h;cases h
    ·exact(Ex.Ul O).1 h
    ·exact(hp (ih u h)).elim
   have:=I i N Y;unfold stepOf at this;have R:body[i].l.q=0/\body[i].l.t.v=v:=by
    generalize body[i].l=e at O;obtain⟨q,t,A,af,ab⟩:=e;exact⟨O.1,O.2.2.1⟩
   rw[if_neg zd,if_neg zd,if_neg (by rw[X];simp),if_pos ⟨v,X,hr,.inl ⟨R.1,R.2,fun h=>U (ih v h)⟩⟩]at this
   cases this
  |@right x v V W hr O _ ih=>
   obtain⟨i,N,rfl⟩:=zpS.1 V;refine zql fun U=>?_
   have hm:v∈body[i].vars:=Li.qJ.2 (.inr (.inr ((Ex.Ul O).2 rfl)));have Y:i∈left:=zql fun h=>U (hK i N h v hm)
   have X:qF K body[i]=[v]:=filter_one (Li.zci _) hm (by rw[qu U];rfl) fun u hu hp=>by
    rw[Bool.not_eq_true',Gc]at hp
    rcases Li.qJ.1 hu with h|h|h
    ·rw[ac V W]at h;cases h
    ·exact(hp (ih u h)).elim
    ·exact(Ex.Ul O).1 h
   have:=I i N Y;unfold stepOf at this;have R:body[i].r.q=0/\body[i].r.t.v=v:=by
    generalize body[i].r=e at O;obtain⟨q,t,A,af,ab⟩:=e;exact⟨O.1,O.2.2.1⟩
   rw[if_neg zd,if_neg zd,if_neg (by rw[X];simp),if_pos ⟨v,X,hr,.inr ⟨R.1,R.2,fun h=>U (ih v h)⟩⟩]at this
   cases this
 obtain⟨i,N⟩:=List.exists_mem_of_ne_nil _ ae;have O:=ad i N;have X:qF K body[i]=[]:=zri.2 fun u hu=>by
  rw[Bool.not_eq_true',Gc];exact fun h=>h (ag u (aa _ (zpB O) u hu))
 have:=I i O N;unfold stepOf at this;rw[if_neg (L i O N),X]at this
 by_cases Z:body[i].k=2
 ·rw[if_pos Z,if_pos rfl]at this;cases this
 ·rw[if_neg Z,if_pos rfl]at this;cases this
def xZ(P:Prop)(w:World)(e:Ending)(w':World):Prop:=∃b,e=.returned (.bool b)/\(b=true->P)/\Bl w w'
theorem xZ.no(q:Bl w w'):xZ P w (.returned (.bool false)) w':=⟨false,rfl,fun h=>(by cases h),q⟩
theorem xZ.yes(h:P)(q:Bl w w'):xZ P w (.returned (.bool true)) w':=⟨true,rfl,fun _=>h,q⟩
theorem xZ.may(h:b=true->P)(q:Bl w w'):xZ P w (.returned (.bool b)) w':=⟨b,rfl,h,q⟩
def Ty(P:Prop)(w:World)(e:Ending)(w':World):Prop:=∃b,e=.returned (.bool b)/\(b=true->P)/\w'=w
theorem Ty.may(h:b=true->P):Ty P w (.returned (.bool b)) w:=⟨b,rfl,h,rfl⟩
theorem Ym{a:Bool}(h:a=b):Ending.returned (.bool a)=.returned (.bool b):=by rw[h]
theorem zay{k:IntKind}{a b:Int}(h:a=b):Ending.returned (.int k a)=.returned (.int k b):=by rw[h]
theorem GQ(h:s.toList=l):s=⟨l.toArray⟩:=U7 (by rw[h,ByteArray.toList_eq])
theorem zcm(h:s.toList.isEmpty=true):s=⟨#[]⟩:=GQ (List.isEmpty_iff.1 h)
theorem ze2{W:World}(q:Bl W w1):(∀b o,b<W.heap.size->w1.cell? ⟨b,o,none⟩=W.cell? ⟨b,o,none⟩)/\(∀b o,b<W.heap.size->w1.frozen? ⟨b,o,none⟩=W.frozen? ⟨b,o,none⟩):=
 ⟨fun b o h=>q.cell (p:=⟨b,o,none⟩) h,fun b o h=>q.frozen (p:=⟨b,o,none⟩) h⟩
theorem yf{o:Obj}(h:Below (w.alloc o).heap.size (w.alloc o) w1):Bl w w1:=(xq w _).trans (h.mono zp)
theorem zl{b:World}(h:Bl a b)(k:Bl b c):Bl a c:=h.trans (k.mono h.size)
theorem Vc(w:World)(n:Nat):Bl w (w.drewN n):=⟨rfl,rfl,rfl,zpx _,fun _ _=>rfl⟩
theorem ne_nil(h:l.isEmpty=false):l≠[]:=by rintro rfl;cases h
theorem eq_of_beq{a b:Int}(h:(a==b)=true):a=b:=by simpa using h
theorem zlQ(w:World)(c:Nat):Calls prog 242 #[.int .u8 (c:Int)] w (Ty (Ug c) w):=by
 go_enter func242,ntmps242;go_wp2
 all_goals
  go_returns;exact Ty.may (fun h=>by unfold Ug;simp at h;omega)
theorem zfN(w:World)(s:ByteArray)(a b:Nat)(hs:s.size<=maxLen)(L:∀c,a<=c->c<=b->Ug c):Calls prog 196 #[.string s,.int .u8 (a:Int),.int .u8 (b:Int)] w (xZ (Wd s a b) w):=by
 have N:=zz L;clear L;unfold maxLen at hs
 by_cases W:0<s.size
 ·have hb:decide ((s.size:Int)<1)=false:=zb;go_enter func196,ntmps196;go_wp2
  ·go_returns;exact xZ.no (Below.refl _ _)
  ·go_returns;exact xZ.no (Below.refl _ _)
  ·go_returns;exact xZ.no (Below.refl _ _)
  ·rename_i ha aa _ _ ab
   go_loopg[7] (s.size-1) (fun gk q I=>∃i:Nat,1<=i/\i<=s.size/\gk=s.size-i/\q=.int .i64 (i:Int)/\I=w/\∀j,1<=j->(h:j<i)->(h':j<s.size)->Ug s[j].toNat)
   case atStart=>exact⟨1,zpx _,W,rfl,rfl,rfl,fun j X q=>zd⟩
   case round=>
    obtain⟨i,Y,hi,rfl,rfl,rfl,q⟩:=hrel;have I:=zz q;clear q
    by_cases Z:i<s.size
    ·have q:=zlQ wr s[i].toNat;have Hl:=zz q;clear q
     go_wp2_with (go_at_call 242;refine Hl.o.mono ?_;rintro e w1⟨V,rfl,X,rfl⟩)
     ·go_returns;exact xZ.no (Below.refl _ _)
     ·have U:V=true:=by simpa using ‹(!V)=false›
      go_roundg (s.size-(i+1))
      case measure=>omega
      case rel=>exact⟨i+1,zd,zd,rfl,ze,rfl,fun j q R O=>by
       by_cases e:j=i
       ·subst e;exact X U
       ·exact I.o j q zd O⟩
    ·obtain rfl:i=s.size:=zd;go_wp2;go_returns;exact xZ.yes ⟨W,zd,⟨zd,zd⟩,fun j R=>by
      rcases Nat.eq_zero_or_pos j with rfl|q
      ·exact N.o _ zd (zd)
      ·exact I.o j q R R⟩ (Below.refl _ _)
 ·have hb:decide ((s.size:Int)<1)=true:=zb;go_enter func196,ntmps196;go_wp2;go_returns;exact xZ.no (Below.refl _ _)
theorem zkP(w:World)(s:ByteArray):Calls prog 197 #[.string s] w fun e h=>e=.returned (.bool (decide (s.toList∈kept)))/\h=w:=by
 go_enter func197,ntmps197;go_wp2
 all_goals
  go_returns;exact⟨Ym (by rw[Bool.eq_iff_iff];simp[kept, *]),rfl⟩
theorem zan(w:World)(s:ByteArray)(L:s.size<=maxLen):Calls prog 136 #[.string s] w (xZ (Nm s) w):=by
 have N:=zz (zfN w s 97 122 L (fun c I q=>.inl ⟨I,q⟩));have O:=zz (fun W=>zkP W s);clear L;go_enter func136,ntmps136
 go_wp2_with (first
  |(go_at_call 196;refine N.o.mono ?_;rintro e R⟨U,rfl,I,q⟩)
  |(go_at_call 197;refine(O.o _).mono ?_;rintro e V⟨rfl,rfl⟩))
 all_goals
  go_returns;exact xZ.may (fun h=>⟨by simp_all,by simp_all⟩) q
theorem zn0(w:World)(s:ByteArray)(I:s.size<=maxLen):Calls prog 283 #[.string s] w (xZ (Vr s) w):=by
 have L:=zz (zfN w s 65 90 I (fun c q h=>.inr (.inl ⟨q,h⟩)));clear I;go_enter func283,ntmps283
 go_wp2_with (go_at_call 196;refine L.o.mono ?_;rintro e N⟨O,rfl,q,h⟩)
 go_returns;exact xZ.may q h
def Yf(P:Prop)(w:World)(e:Ending)(w':World):Prop:=∃c:Int,e=.returned (.int .i64 c)/\(c=0->P)/\Bl w w'
theorem Yf.no{c:Int}(h:c≠0)(q:Bl w w'):Yf P w (.returned (.int .i64 c)) w':=⟨c,rfl,fun e=>(h e).elim,q⟩
theorem Yf.may{c:Int}(h:c=0->P)(q:Bl w w'):Yf P w (.returned (.int .i64 c)) w':=⟨c,rfl,h,q⟩
theorem zdx(w:World)(x:Vl):Calls prog 79 #[.agg x.cells.toArray] w (Yf x.ok w):=by
 obtain⟨k,n,s⟩:=x;simp only[Vl.cells];go_enter func79,ntmps79;go_wp2
 all_goals
  go_returns
  first
   |exact Yf.no zr (xq w _)
   |exact Yf.may (fun _=>.inl ⟨za,zcm za⟩) (xq w _)
   |exact Yf.may (fun _=>.inr ⟨za,za,by simp only;omega⟩) (xq w _)
noncomputable def Zw(a b:Vl):Bool:=tf (a=b)
noncomputable def UB(a b:Tm):Bool:=tf (a=b)
theorem VB{a b:Vl}:Zw a b=true↔a=b:=Zn
theorem zdk{a b:Tm}:UB a b=true↔a=b:=Zn
theorem zaM(I O L R:Int)(s1 N:ByteArray):((I==L)&&(O==R)&&(s1.toList==N.toList))=Zw ⟨I,O,s1⟩ ⟨L,R,N⟩:=by
 rw[Bool.eq_iff_iff,VB];simp only[zqu,beq_iff_eq,Vl.mk.injEq];constructor
 ·rintro⟨⟨q,h⟩,U⟩;exact⟨q,h,U7 U⟩
 ·rintro⟨q,h,rfl⟩;exact⟨⟨q,h⟩,rfl⟩
theorem zb9(R O:ByteArray)(q N I U:Int)(s1 L:ByteArray):((R.toList==O.toList)&&((q==I)&&(N==U)&&(s1.toList==L.toList)))=UB ⟨R,q,N,s1⟩ ⟨O,I,U,L⟩:=by
 rw[zaM,Bool.eq_iff_iff,zdk];simp only[zqu,beq_iff_eq,VB,Tm.mk.injEq];constructor
 ·rintro⟨V,h⟩;exact⟨U7 V,h⟩
 ·rintro⟨rfl,h⟩;exact⟨rfl,h⟩
@[go_sem high] theorem zoA(h L q N:Int)(s1 I:ByteArray)(w:World):
 (binOp .eql 43 (.agg #[.int .i8 h,.int .i64 L,.string s1]) (.agg #[.int .i8 q,.int .i64 N,.string I])).run prog w=.ok (.bool (Zw ⟨h,L,s1⟩ ⟨q,N,I⟩)) w:=by
 rw[<-zaM];simp only[binOp];simp[Op.equal,Op.maxDepth,underlying43,underlying41,underlying2,underlying9,go_sem]
 by_cases R:h=q<;>by_cases O:L=N<;>by_cases U:s1.toList=I.toList<;>simp[R,O,U]
@[go_sem high] theorem zps(h L q N:Int)(s1 I:ByteArray)(w:World):
 (binOp .neq 43 (.agg #[.int .i8 h,.int .i64 L,.string s1]) (.agg #[.int .i8 q,.int .i64 N,.string I])).run prog w=.ok (.bool (!Zw ⟨h,L,s1⟩ ⟨q,N,I⟩)) w:=by
 rw[<-zaM];simp only[binOp];simp[Op.equal,Op.maxDepth,underlying43,underlying41,underlying2,underlying9,go_sem]
 by_cases R:h=q<;>by_cases O:L=N<;>by_cases U:s1.toList=I.toList<;>simp[R,O,U]
@[go_sem high] theorem zo8(O N:ByteArray)(h L q R:Int)(s1 I:ByteArray)(w:World):
 (binOp .eql 45 (.agg #[.string O,.int .i8 h,.int .i64 L,.string s1]) (.agg #[.string N,.int .i8 q,.int .i64 R,.string I])).run prog w=.ok (.bool (UB ⟨O,h,L,s1⟩ ⟨N,q,R,I⟩)) w:=by
 rw[<-zb9];simp only[binOp];simp[Op.equal,Op.maxDepth,underlying45,underlying43,underlying41,underlying2,underlying9,go_sem]
 by_cases W:O.toList=N.toList<;>by_cases V:h=q<;>by_cases U:L=R<;>by_cases X:s1.toList=I.toList<;>simp[W,V,U,X]
@[go_sem high] theorem zo6(O N:ByteArray)(h L q R:Int)(s1 I:ByteArray)(w:World):
 (binOp .neq 45 (.agg #[.string O,.int .i8 h,.int .i64 L,.string s1]) (.agg #[.string N,.int .i8 q,.int .i64 R,.string I])).run prog w=.ok (.bool (!UB ⟨O,h,L,s1⟩ ⟨N,q,R,I⟩)) w:=by
 rw[<-zb9];simp only[binOp];simp[Op.equal,Op.maxDepth,underlying45,underlying43,underlying41,underlying2,underlying9,go_sem]
 by_cases W:O.toList=N.toList<;>by_cases V:h=q<;>by_cases U:L=R<;>by_cases X:s1.toList=I.toList<;>simp[W,V,U,X]
theorem zeX{n:Int}(h:Zw ⟨k,n,s⟩ ⟨0,0,⟨#[]⟩⟩=true):(⟨k,n,s⟩:Vl).none:=by
 have:=VB.1 h;injection this with I q L
 exact⟨I,q,L⟩
theorem zbr{n:Int}(h:UB ⟨v,k,n,s⟩ ⟨⟨#[]⟩,0,0,⟨#[]⟩⟩=true):(⟨v,k,n,s⟩:Tm).none:=by
 have:=zdk.1 h;injection this with L q
 injection q with q N I
 exact⟨L,q,N,I⟩
theorem zaH:∀{l:List Ex}{e:Ex}{t:Tm},e∈l->t∈e.zO->t∈Ex.qq l
 |x::l,e,t,h,q=>by
  unfold Ex.qq
  rcases zpU.1 h with rfl|h
  ·exact zp0 _ q
  ·exact zpR _ (zaH h q)
theorem zaR(w:World)(t:Tm)(R:t.v.size<=maxLen):Calls prog 260 #[.agg t.cells.toArray] w (xZ t.ok w):=by
 obtain⟨v,k,n,s⟩:=t;have V:=zz (fun W=>zn0 W v R);have O:=zz (fun W=>zdx W ⟨k,n,s⟩);clear R;simp only[Tm.cells,Vl.cells]at O ⊢
 by_cases N:v.toList=[]
 ·go_enter func260,ntmps260
  go_wp2_with (go_at_call 79;refine(O.o _).mono ?_;rintro e U⟨c1,rfl,I,q⟩)
  go_returns;exact xZ.may (fun h=>.inl ⟨GQ N,I (by simpa using h)⟩) (yf (yf q))
 by_cases L:v.toList=[95]
 ·go_enter func260,ntmps260;go_wp2;go_returns;exact xZ.may (fun h=>.inr ⟨zeX h,.inl (GQ L)⟩) (yf (xq _ _))
 ·have b0:(v.toList==([]:List UInt8))=false:=by simp[N]
  have Z:(v.toList==([95]:List UInt8))=false:=by simp[L]
  go_enter func260,ntmps260
  go_wp2_with (go_at_call 283;refine(V.o _).mono ?_;rintro e U⟨q1,rfl,I,q⟩;obtain⟨Y,X⟩:=ze2 q)
  all_goals
   go_returns
   first
    |exact xZ.may (fun h=>.inr ⟨zeX h,.inr ⟨N,L,I za⟩⟩) (yf (yf q))
    |exact xZ.no (yf (yf q))
theorem zi3(w:World)(q:Int):Calls prog 284 #[.int .i8 q] w fun e h=>e=.returned (.int .i64 (arity q))/\h=w:=by
 unfold arity;go_enter func284,ntmps284;go_wp2
 all_goals
  go_returns;refine⟨zay ?_,rfl⟩
  simp_all<;>omega
theorem zcq(w:World)(e:Ex):Calls prog 262 #[.agg e.cells.toArray] w (xZ e.empty w):=by
 obtain⟨q,⟨v,k,n,s⟩,A,O,I⟩:=e;simp only[Ex.cells];obtain⟨N,L⟩:∃N,I.length=N:=⟨_,rfl⟩;rw[L];have R:=zz L;clear L;go_enter func262,ntmps262;go_wp2
 all_goals
  go_returns
  first
   |exact xZ.may (fun h=>⟨za,zbr za,zqg (by rw[R.o];simpa using h)⟩) (yf (xq _ _))
   |exact xZ.no (yf (xq _ _))
theorem zm6(w:World)(a:Ar)(N:a.t.v.size<=maxLen):Calls prog 237 #[.agg a.cells.toArray] w (xZ a.ok w):=by
 obtain⟨g,⟨v,k,n,s⟩⟩:=a;have L:=zz (fun W=>zaR W ⟨v,k,n,s⟩ N);clear N;simp only[Ar.cells,Tm.cells]at L ⊢;go_enter func237,ntmps237
 go_wp2_with (go_at_call 260;refine(L.o _).mono ?_;rintro e U⟨V,rfl,I,q⟩;obtain⟨R,O⟩:=ze2 q)
 all_goals
  go_returns
  first
   |exact xZ.no (yf (xq _ _))
   |exact xZ.no (yf (yf q))
   |exact xZ.may (fun h=>.inl ⟨by simpa using ‹(g==0)=true›,za,I h⟩) (yf (yf q))
   |exact xZ.may (fun h=>.inr (.inl ⟨by simpa using ‹(g==1)=true›,zbr h⟩)) (yf (xq _ _))
   |exact xZ.may (fun h=>.inr (.inr ⟨by first|exact .inl (eq_of_beq ‹(g==2)=true›)|exact .inr (.inl (eq_of_beq ‹(g==3)=true›))|exact .inr (.inr (eq_of_beq ‹(g==4)=true›)),ne_nil ‹v.toList.isEmpty=false›,za,I h⟩)) (yf (yf q))
theorem zlk(w:World)(a:At)(hl:a.zN w)(hs:a.p.size<=maxLen)(V:∀t∈a.args,t.v.size<=maxLen):Calls prog 261 #[.agg a.cells.toArray] w (xZ a.ok w):=by
 obtain⟨p,A,ag,q⟩:=a;obtain⟨L,O⟩:=hl;simp only at L O hs V;have Hn:=zz (fun W=>zan W p hs);have Hr:=zz L;have ad:=zz V;clear hs L V;simp only[At.cells];obtain⟨N,I⟩:∃N,q.length=N:=⟨_,rfl⟩;rw[I]at O ⊢;have HN:=zz I;clear I;obtain⟨W0,I,R⟩:=Vx w #[.string p,.slice A N ag] 38;have Y:=zz R;have af:=zz I;clear R I;go_enter func261,ntmps261
 go_wp2_with (go_at_call 136;refine(Hn.o _).mono ?_;rintro e w1⟨q1,rfl,k1,I⟩;rw[af.o]at I;have c1:=Y.o.at I 1)
 ·go_returns;exact xZ.no (Y.o.in I)
 ·go_returns;exact xZ.no (Y.o.in I)
 ·obtain rfl:=‹q1=true›;have ab:=k1 rfl;have aa:N<=24:=zd;clear c1 k1
  go_loopg[3] N (fun gk U R=>∃i:Nat,i<=N/\gk=N-i/\U=.int .i64 (i:Int)/\Bl W0 R/\∀j (h:j<q.length),j<i->q[j].ok)
  case atStart=>exact⟨0,zpD _,rfl,rfl,I,fun j _ h=>zd⟩
  case round=>
   obtain⟨i,hi,rfl,rfl,X,U⟩:=hrel;have R:=zz U;clear U;have c1:=Y.o.at X 1
   by_cases ac:i<N
   ·have U:i<q.length:=by rw[HN.o];exact ac
    obtain⟨b,o,rfl,hb,L⟩:=(Hr.o.below (Y.o.in X)).at Tm.xG i U;have hk:=fun W=>zaR W q[i] (ad.o _ (zpB U))
    have ah:∀x:Prop,(q[i].ok->x)->(q[i].ok->x):=fun _ h=>h
    generalize Z:q[i]=t at L hk;have ae:=zz Z;clear Z ah;obtain⟨v,k,m,s⟩:=t;simp only[Tm.cells]at L hk
    replace L:wr.rangeAt b (o+i*4) _:=L
    obtain⟨d0,d1,d2,d3⟩:=four L;have Hk:=zz hk;clear L hk
    go_wp2_with (go_at_call 260;refine(Hk.o _).mono ?_;rintro e w2⟨q2,rfl,k2,L⟩)
    ·go_returns;exact xZ.no (Y.o.in (X.trans (L.mono X.size)))
    ·have ah:q2=true:=by simpa using ‹(!q2)=false›
     go_roundg (N-(i+1))
     case measure=>omega
     case rel=>exact⟨i+1,zd,rfl,ze,X.trans (L.mono X.size),fun j Z ai=>by
      by_cases e:j=i
      ·subst e;rw[ae.o];exact k2 ah
      ·exact R.o j Z zd⟩
   ·obtain rfl:i=N:=zd;go_wp2;go_returns;exact xZ.yes ⟨ab,by rw[HN.o];exact aa,fun t L=>by
     obtain⟨j,Z,rfl⟩:=zpS.1 L;exact R.o j Z (by rw[<-HN.o];exact Z)⟩ (Y.o.in X)
theorem zaC:∀(d:Nat)(O:d<=8)(e:Ex)(w:World)(R:e.zN w)(L:∀t∈e.zO,t.v.size<=maxLen),Calls prog 263 #[.agg e.cells.toArray,.int .i64 (d:Int)] w (xZ (e.ok d) w)
 |0,O,.mk q ⟨v,k,n,s⟩ A aa I,w,R,L=>by
  clear R L O;simp only[Ex.cells];generalize I.length=N;go_enter func263,ntmps263;go_wp2;go_returns;exact xZ.no (xq w _)
 |d+1,O,.mk q ⟨v,k,n,s⟩ A aa I,w,R,L=>by
  have IH:=zz (fun e W R L=>zaC d zd e W R L);unfold Ex.zN at R;obtain⟨O,Z,Y⟩:=R;have Ht:=zz (fun W=>zaR W ⟨v,k,n,s⟩ (L _ (by unfold Ex.zO;exact zpP)));have ac:Kz (∀e∈I,∀t∈e.zO,t.v.size<=maxLen):=fun e U t R=>L t (by unfold Ex.zO;exact zpQ _ (zaH U R))
  have Hr:=zz O;have Hk:=zz Y;clear L O Y;simp only[Ex.cells,Tm.cells]at Ht ⊢;obtain⟨N,L⟩:∃N,I.length=N:=⟨_,rfl⟩;rw[L]at Z ⊢;have HN:=zz L;clear L;have h0:((d:Int)+1==0)=false:=beq_eq_false_iff_ne.2 zd;rw[show((d+1:Nat):Int)=(d:Int)+1 from zd]
  by_cases hq:q=0
  ·subst hq;go_enter func263,ntmps263
   go_wp2_with (go_at_call 260;refine(Ht.o _).mono ?_;rintro e V⟨X,rfl,U,L⟩)
   all_goals
    go_returns
    first
     |exact xZ.no (xq w _)
     |exact xZ.may (fun h=>by unfold Ex.ok;exact .inl ⟨rfl,zqg (by rw[HN.o];omega),za,U h⟩) (yf L)
  ·have al:(q==0)=false:=beq_eq_false_iff_ne.2 hq;obtain⟨W0,U,V⟩:=zdu w #[.int .i8 q,.string v,.int .i8 k,.int .i64 n,.string s,.slice A N aa] #[.string ⟨#[]⟩,.int .i8 0,.int .i64 0,.string ⟨#[]⟩] 48 45;have L:=zz V;have ai:=zz U;clear V U;go_enter func263,ntmps263;go_wp2;rw[ai.o];have x0:=L.o.one 0;have x1:=L.o.one 1;have x2:=L.o.one 2;have x3:=L.o.one 3;have x4:=L.o.one 4;have x5:=L.o.one 5;have y0:=L.o.two 0;have y1:=L.o.two 1;have y2:=L.o.two 2;have y3:=L.o.two 3;have ka:=fun W=>zi3 W q
   by_cases R:UB ⟨v,k,n,s⟩ ⟨⟨#[]⟩,0,0,⟨#[]⟩⟩=true
   ·go_quiet ((go_at_call 284;exact Calls.quiet_of_same (ka _)))
    go_wp2
    ·go_returns;exact xZ.no (L.o.in (Vc W0 nq))
    ·have U:(N:Int)=arity q:=by simpa using ‹((N:Int) != arity q)=false›
     have ag:=zz U;rw[‹((N:Int) != arity q)=false›];have ad:=zz (zbr R);clear U ka x0 x1 x2 x3 x4 x5 y0 y1 y2 y3 R
     go_loopg[6] N (fun gk V U=>∃i:Nat,i<=N/\gk=N-i/\V=.int .i64 (i:Int)/\Bl W0 U/\∀j (h:j<I.length),j<i->I[j].ok d)
     case atStart=>exact⟨0,zpD _,rfl,rfl,Vc W0 nq,fun j _ h=>zd⟩
     case round=>
      obtain⟨i,hi,rfl,rfl,X,V⟩:=hrel;have U:=zz V;clear V;have c5:=L.o.UD X 5
      by_cases ae:i<N
      ·have V:i<I.length:=by rw[HN.o];exact ae
       obtain⟨b,o,rfl,hb,O⟩:=(Hr.o.below (L.o.in X)).at Ex.xG i V;have Y:=fun W (ab:Bl w W)=>IH.o I[i] W ((Ex.qG.mem Hk.o _ (zpB V)).below ab) (ac.o _ (zpB V))
       generalize ab:I[i]=t at O Y;have af:=zz ab;clear ab;obtain⟨q2,⟨v2,k2,m2,s2⟩,A2,ak,ab⟩:=t;simp only[Ex.cells]at O Y
       replace O:wr.rangeAt b (o+i*6) _:=O
       obtain⟨d0,d1,d2,d3,d4,d5⟩:=JW O;have aj:=zz (Y wr (L.o.in X));clear O Y
       go_wp2_with (go_at_call 263;refine aj.o.mono ?_;rintro e w2⟨q2,rfl,k2,O⟩)
       ·go_returns;exact xZ.no (L.o.in (X.trans (O.mono X.size)))
       ·have ah:q2=true:=by simpa using ‹(!q2)=false›
        go_roundg (N-(i+1))
        case measure=>omega
        case rel=>exact⟨i+1,zd,rfl,ze,X.trans (O.mono X.size),fun j Y am=>by
         by_cases e:j=i
         ·subst e;rw[af.o];exact k2 ah
         ·exact U.o j Y zd⟩
      ·obtain rfl:i=N:=zd;go_wp2;go_returns;exact xZ.yes (by
        unfold Ex.ok;exact .inr ⟨hq,ad.o,by rw[HN.o];exact ag.o,fun t R=>by
         obtain⟨j,Y,rfl⟩:=zpS.1 R;exact U.o j Y (by rw[<-HN.o];exact Y)⟩) (L.o.in X)
   ·have O:UB ⟨v,k,n,s⟩ ⟨⟨#[]⟩,0,0,⟨#[]⟩⟩=false:=by simpa using R
    clear R
    go_quiet ((go_at_call 284;exact Calls.quiet_of_same (ka _)))
    go_wp2;go_returns;exact xZ.no (L.o.in (Vc W0 nq))
end
section
open Go Go.RowKit Go.Maps Go.ChangeMaps
structure Yu (P:Program) (k:TypeId) (es:List MapEntry) (f:Value->Option Value):Prop where
 keys:∀e∈es,∃l,keyOf P k e.key=some l
 apart:es.Pairwise fun a b=>a.key≠b.key
 has:∀e∈es,f e.key=some e.val
 only:∀x v,f x=some v->∃e∈es,e.key=x
def xv(P:Program)(k:TypeId)(w:World)(b:Nat)(f:Value->Option Value):Prop:=∃q h,w.heap[b]? = some (.map q h)/\Yu P k q.toList f/\MapKept.Stamped q h
section
variable {P:Program}{k t e:TypeId}{w:World}{b:Nat}{f:Value->Option Value}
theorem xv.lt(h:xv P k w b f):b<w.heap.size:=by
 obtain⟨L,q,I,_⟩:=h;exact(zpN.1 I).1
theorem xv.same(h:xv P k w b f)(O:w'.heap[b]? = w.heap[b]?):xv P k w' b f:=by
 obtain⟨N,q,L,I⟩:=h;exact⟨N,q,O.trans L,I⟩
theorem Yu.none_:Yu P k [] fun _=>none:=⟨fun _ h=>by simp at h,List.Pairwise.nil,fun _ h=>(by simp at h),fun _ _ h=>by simp at h⟩
theorem Yu.find{es:List MapEntry}(h:Yu P k es f)(K:Keyed P k)(w:World){l:Lit}(R:keyOf P k x=some l):
 ((Instr.findKey k x es).run P w=.ok none w/\f x=none/\∀e∈es,e.key≠x)\/∃j e,(Instr.findKey k x es).run P w=.ok (some (j,e.val)) w/\es[j]? = some e/\e.key=x/\f x=some e.val:=by
 rcases K.find w R es h.keys with⟨I,q⟩ |⟨j,e,I,q,L⟩
 ·refine .inl ⟨I,?_,q⟩
  rcases hf:f x with _|v
  ·rfl
  ·obtain⟨e,O,N⟩:=h.only x v hf;exact(q e O N).elim
 ·exact .inr ⟨j,e,I,q,L,L▸h.has e (zqE q)⟩
theorem xv.look(h:xv P k w b f)(K:Keyed P k)(O:P.underlying t=some (.map k e))(W:(zeroValue e).run P w=.ok z w){l:Lit}(q:keyOf P k x=some l)(c:Bool):
 (Instr.lookup t (.map (some b)) x c).run P w=.ok (if c then .tuple #[(f x).getD z,.bool (f x).isSome]else(f x).getD z) w:=by
 obtain⟨Y,N,R,V,U⟩:=h
 rcases V.find K w q with⟨L,I,_⟩ |⟨j,X,L,_,_,I⟩
 ·simp[Instr.lookup,run_underlying O,MapKept.run_getObj_map R,K.check w _ q,L,I,W,Result.andThen]
 ·simp[Instr.lookup,run_underlying O,MapKept.run_getObj_map R,K.check w _ q,L,I,Result.andThen]
theorem xv.put(h:xv P k w b f)(K:Keyed P k)(ht:P.underlying t=some (.map k e)){l:Lit}(hx:keyOf P k x=some l)(v:Value):
 ∃q,(Instr.mapUpdate t (.map (some b)) x v).run P w=.ok () q/\xv P k q b (fun y=>open Classical in if y=x then some v else f y)/\w.mapTurned q b:=by
 obtain⟨O,I,Z,R,ac⟩:=h
 rcases R.find K w hx with⟨V,Y,h3⟩ |⟨j,e0,V,hj,W,Y⟩
 ·refine⟨_,(by simp[Instr.mapUpdate,run_underlying ht,MapKept.run_getObj_map Z,K.check w false hx,V,MapKept.run_setObj_map _ Z,Result.andThen];rfl),⟨O.push ⟨x,v,I⟩,I+1,heap_setBlock_same Z _,?_,MapKept.stamped_push ac h3⟩,⟨O,I,_,_,Z,rfl⟩⟩;simp only[Array.toList_push];refine⟨fun e q=>?_,?_,fun e q=>?_,fun y u hy=>?_⟩
  ·rcases zpE.1 q with q|q
   ·exact R.keys e q
   ·obtain rfl:=zpy.1 q;exact⟨l,hx⟩
  ·exact List.pairwise_append.2 ⟨R.apart,List.pairwise_singleton _ _,fun a ha c X=>by obtain rfl:=zpy.1 X;exact h3 a ha⟩
  ·rcases zpE.1 q with q|q
   ·rw[if_neg (h3 e q)];exact R.has e q
   ·obtain rfl:=zpy.1 q;rw[if_pos rfl]
  ·split at hy
   ·rename_i e1;exact⟨_,zpR _ (zpy.2 rfl),e1.symm⟩
   ·obtain⟨e,q,W⟩:=R.only y u hy;exact⟨e,zp0 _ q,W⟩
 ·have L:=(zp9.1 hj).1;obtain⟨i0,U⟩:=zp9.1 hj;refine⟨_,(by simp[Instr.mapUpdate,run_underlying ht,MapKept.run_getObj_map Z,K.check w false hx,V,MapKept.run_setObj_map _ Z,Result.andThen,show O[j]? = some e0 from by simpa using hj,W,K.stays w hx];rfl),⟨O.modify j fun e=>{ e with key:=x,val:=v },I,heap_setBlock_same Z _,?_,MapKept.stamped_modify ac j _ (fun _ _=>rfl) (fun e q h=>by
   have N:O[j]? = some e0:=by simpa using hj
   rw[N]at h;injection h with h
   subst h;exact W.symm)⟩,⟨O,I,_,_,Z,rfl⟩⟩
  have hl:(O.modify j fun e=>{ e with key:=x,val:=v }).toList=O.toList.set j { e0 with key:=x,val:=v }:=by
   rw[Array.toList_modify];apply List.ext_getElem?;intro i;rw[List.getElem?_modify,List.getElem?_set]
   by_cases N:j=i
   ·subst N;rw[hj];simpa using L
   ·simp[N]
  rw[hl];have aa:∀a∈O.toList.set j { e0 with key:=x,val:=v },(a.key=x/\a.val=v)\/(a∈O.toList/\a.key≠x):=fun a ha=>by
   obtain⟨i,hi,rfl⟩:=zpS.1 ha;rw[zrt];split
   ·exact .inl ⟨rfl,rfl⟩
   ·rename_i N;rw[zqe]at hi;refine .inr ⟨zpB _,fun q=>?_⟩
    rcases Nat.lt_or_gt_of_ne N with X|X
    ·exact zqf.1 R.apart j i L hi X (by rw[U,W,q])
    ·exact zqf.1 R.apart i j hi L X (by rw[U,W,q])
  refine⟨fun e q=>?_,?_,fun e q=>?_,fun y u hy=>?_⟩
  ·rcases aa e q with⟨h,_⟩ |⟨h,_⟩
   ·exact⟨l,by rw[h];exact hx⟩
   ·exact R.keys e h
  ·rw[zqf];intro a c ha X ab;rw[zrt,zrt];rw[zqe]at ha X;have hp:=zqf.1 R.apart;split<;>split
   ·omega
   ·rename_i V Y;subst V;have:=hp j c L X ab;rw[U,W]at this;exact this
   ·rename_i V Y;subst Y;have:=hp a j ha L ab;rw[U,W]at this;exact this
   ·exact hp a c ha X ab
  ·rcases aa e q with⟨V,Y⟩ |⟨V,Y⟩
   ·rw[if_pos V,Y]
   ·rw[if_neg Y];exact R.has e V
  ·split at hy
   ·rename_i e1;refine⟨{ e0 with key:=x,val:=v },zpS.2 ⟨j,by simpa using L,zp⟩,e1.symm⟩
   ·rename_i e1;obtain⟨e,q,X⟩:=R.only y u hy;obtain⟨i,hi,rfl⟩:=zpS.1 q;have N:j≠i:=by rintro rfl;exact e1 (by rw[<-X,U,W])
    exact⟨O.toList[i],zpS.2 ⟨i,by simpa using hi,by rw[zre N]⟩,X⟩
theorem xv.drop(h:xv P k w b f)(K:Keyed P k)(ht:P.underlying t=some (.map k e)){l:Lit}(hx:keyOf P k x=some l)(ty:TypeId):
 ∃q,(Builtin.delete_ #[t,k] ty #[.map (some b),x]).run P w=.ok (.tuple #[]) q/\xv P k q b (fun y=>open Classical in if y=x then none else f y)/\w.mapTurned q b:=by
 obtain⟨R,q,U,N,Y⟩:=h
 rcases N.find K w hx with⟨h1,h2,h3⟩ |⟨j,e0,h1,hj,hk,h2⟩
 ·refine⟨_,(by simp[Builtin.delete_,run_underlying ht,MapKept.run_getObj_map U,K.check w _ hx,h1,MapKept.run_setObj_map _ U,Result.andThen];rfl),⟨R,q,heap_setBlock_same U _,⟨N.keys,N.apart,fun e I=>?_,fun y u V=>?_⟩,Y⟩,⟨R,q,_,_,U,rfl⟩⟩
  ·rw[if_neg (h3 e I)];exact N.has e I
  ·split at V
   ·cases V
   ·exact N.only y u V
 ·have X:=(zp9.1 hj).1;obtain⟨i0,W⟩:=zp9.1 hj;refine⟨_,(by simp[Builtin.delete_,run_underlying ht,MapKept.run_getObj_map U,K.check w _ hx,h1,MapKept.run_setObj_map _ U,Result.andThen];rfl),⟨R.eraseIdxIfInBounds j,q,heap_setBlock_same U _,?_,MapKept.stamped_erase Y j⟩,⟨R,q,_,_,U,rfl⟩⟩;have hl:(R.eraseIdxIfInBounds j).toList=R.toList.eraseIdx j:=zp;rw[hl];have L:=List.eraseIdx_sublist R.toList j;have aa:∀a∈R.toList.eraseIdx j,a.key≠x:=fun a O I=>by
   obtain⟨i,hi,rfl⟩:=zpS.1 O;rw[List.getElem_eraseIdx]at I;rw[List.length_eraseIdx]at hi;have Z:=zqf.1 N.apart;split at I
   ·rename_i O;exact Z i j zd X O (by rw[I,W,hk])
   ·rename_i O;exact Z j (i+1) X (by split at hi<;>omega) zd (by rw[I,W,hk])
  refine⟨fun e I=>N.keys e (L.mem I),N.apart.sublist L,fun e I=>?_,fun y u V=>?_⟩
  ·rw[if_neg (aa e I)];exact N.has e (L.mem I)
  ·split at V
   ·cases V
   ·rename_i e1;obtain⟨e,I,Z⟩:=N.only y u V;obtain⟨i,hi,rfl⟩:=zpS.1 I;have O:i≠j:=by rintro rfl;exact e1 (by rw[<-Z,W,hk])
    refine⟨R.toList[i],List.mem_eraseIdx_iff_getElem.2 ⟨i,hi,O,rfl⟩,Z⟩
end
end
section
def zD(w:World)(g:Nat)(t:TypeId)(cs:Array Value):Prop:=w.heap[g]? = some (.cells cs t (0,0))
section
variable {w w':World}{g:Nat}{t:TypeId}{cs:Array Value}
theorem zD.lt(h:zD w g t cs):g<w.heap.size:=by
 rcases zrz g w.heap.size with I|q
 ·exact I
 ·unfold zD at h;rw[zqN q]at h;cases h
theorem zD.cell(h:zD w g t cs)(i:Nat):w.cell? ⟨g,i,none⟩=cs[i]?:=cell_of_row w g i cs t (0,0) h
theorem zD.frozen(h:zD w g t cs)(i:Nat):w.frozen? ⟨g,i,none⟩=false:=by
 unfold zD at h;simp[World.frozen?,h]
theorem zD.new(w:World)(t:TypeId)(cs:Array Value):zD (w.alloc (.cells cs t)) w.heap.size t cs:=heap_alloc_new w _
theorem zD.drew(h:zD w g t cs):zD w.drew g t cs:=h
theorem zD.alloc(h:zD w g t cs)(o:Obj):zD (w.alloc o) g t cs:=(Below.heap_alloc w o g h.lt).trans h
theorem zD.qI(h:zD w g t cs)(i:Nat)(u:Value):zD (w.setCell ⟨g,i,none⟩ u) g t (cs.setIfInBounds i u):=by
 unfold zD at h ⊢;simp[World.setCell,Array.getElem?_modify,h]
theorem zD.X4(h:zD w g t cs)(q:g≠p.block)(u:Value):zD (w.setCell p u) g t cs:=(Below.heap_setCell w p u g q).trans h
theorem zD.yK{N:TypeId}{L:Array Value}(h:zD w g t cs)(q:zD w O N L)(I:t≠N):g≠O:=by
 rintro rfl;unfold zD at h q;rw[h]at q;injection q with q
 injection q with _ R
 exact I R
theorem zD.same(h:zD w g t cs)(q:w'.heap[g]? = w.heap[g]?):zD w' g t cs:=q.trans h
end
theorem GF{w w':World}{q:Nat}{e:TypeId}{size:Nat}{v:Value}{xs:List Value}(h:w.ownsRow q e size v n xs)(R:∀g,v.ownBlock=some g->w'.heap[g]? = w.heap[g]?):w'.ownsRow q e size v n xs:=by
 obtain⟨O,L⟩:=h;refine⟨O,?_⟩
 rcases L with L |⟨g,cap,I,rfl,U,N,r⟩
 ·exact .inl L
 ·exact .inr ⟨g,cap,I,rfl,U,(R g rfl).trans N,r⟩
def Own{α:Type}(f:α->List Value)(e:TypeId)(size:Nat)(w:World)(A:Option Addr)(cap:Nat)(xs:List α):Prop:=w.ownsRow 0 e size (.slice A xs.length cap) xs.length (xs.flatMap f)
def zw(A:Option Addr):List Nat:=(A.map (·.block)).toList
section
variable {α:Type}{f:α->List Value}{e:TypeId}{size:Nat}{w w':World}{A:Option Addr}{cap:Nat}{xs:List α}
theorem Own.qz(w:World):Own f e size w none 0 []:=World.ownsRow_nil w 0 _ _
theorem Own.form(h:Own f e size w A cap xs):(A=none/\cap=0/\xs=[])\/∃g,A=some ⟨g,0,none⟩/\g<w.heap.size/\xs.length<=cap/\cap<=maxLen:=by
 obtain⟨U,I⟩:=h
 rcases I with⟨e,N⟩ |⟨g,c,q,e,_,L,R,O,W,V⟩
 ·injection e with e1 e2 e3
  exact .inl ⟨e1,e3,zqg N⟩
 ·injection e with e1 e2 e3
  subst e3;exact .inr ⟨g,e1,(zpN.1 L).1,R,O⟩
theorem Own.same(h:Own f e size w A cap xs)(q:∀g∈zw A,w'.heap[g]? = w.heap[g]?):Own f e size w' A cap xs:=
 GF h (fun g I=>q g (by cases A<;>simp_all[Value.ownBlock,zw]))
theorem Own.lt(h:Own f e size w A cap xs):∀g∈zw A,g<w.heap.size:=by
 rcases h.form with⟨rfl,_⟩ |⟨g,rfl,q,_⟩
 ·simp[zw]
 ·simpa[zw]using q
theorem Own.xI(h:Own f e size w A cap xs):zZ f w A xs:=by
 intro q
 rcases h.form with⟨_,_,rfl⟩ |⟨g,rfl,L,_⟩
 ·exact(q rfl).elim
 ·exact⟨g,0,rfl,L,fun j v I=>by
   have:=World.ownsRow.cellAt h j (by have:=(zp9.1 I).1;rwa [h.1]at this);simpa using this.trans I⟩
theorem Own.push{P:Program}(h:Own f e size w A cap xs)(x:α)(t ty:TypeId)(i:TypeInfo)(z:Value)(bytes:Nat)(ht:P.underlying t=some (.slice e))(hi:P.info? e=some i)(hz:i.zero=some z)(L:i.size=size)(X:i.bytes=bytes)(Y:z.cells.size=size)(W:0<size)(U R:Nat)(c:Nat)(hl:(f x).length=size)(N:w.rangeAt U R (f x))(h1:∀u∈f x,u.oneCell'=true)(V:xs.length+1<=maxLen)(I:(xs.length+1)*bytes<=140737488355328):
 ∃g q w',(Builtin.append_ #[t,t] ty #[.slice A xs.length cap,.slice (some ⟨U,R,none⟩) 1 c]).run P w=.ok (.slice (some ⟨g,0,none⟩) (xs.length+1) q) w'/\Own f e size w' (some ⟨g,0,none⟩) q (xs++[x])/\w.grownBy w' (zw A).head?/\(g∈zw A\/g=w.heap.size):=by
 obtain⟨v',w',hr,Z,h3,h4,O⟩:=run_append_own_at (P:=P) (w:=w) 0 t ty e i z size bytes ht hi hz L X Y W _ xs.length (xs.flatMap f) h ⟨U,R,none⟩ 1 c (f x) zd (fun j u hj=>by have:=N j u hj;cases j<;>simpa[Addr.add]using this) h1 V I (zpD _);obtain⟨g,q,rfl⟩:∃g q,v'=.slice (some ⟨g,0,none⟩) (xs.length+1) q:=by
  obtain⟨g,q,hv,_⟩:=Z.form zd;exact⟨g,q,hv⟩
 refine⟨g,q,w',hr,?_,?_,?_⟩
 ·unfold Own;rw[zpA,zqs,zp2,List.flatMap_singleton];exact Z
 ·have e0:(Value.slice A xs.length cap).ownBlock=(zw A).head?:=by cases A<;>rfl
  rw[<-e0];exact h3
 ·rcases O with O|O
  ·left
   cases A with
   |none=>cases O
   |some a=>simpa[Value.ownBlock,zw]using O
  ·right;simpa[Value.ownBlock]using O
end
end
section
structure zh (S:Nat->Prop) (w w':World):Prop where
 os:w'.os=w.os
 tape:w'.tape=w.tape
 output:w'.output=w.output
 size:w.heap.size<=w'.heap.size
 block:∀k,k<w.heap.size->¬S k->w'.heap[k]? = w.heap[k]?
theorem zh.refl(S:Nat->Prop)(w:World):zh S w w:=⟨rfl,rfl,rfl,zpx _,fun _ _ _=>rfl⟩
theorem zh.trans{b:World}(h:zh S a b)(k:zh S' b c)(N:∀x,S' x->x<a.heap.size->S x):zh S a c:=
 ⟨k.os.trans h.os,k.tape.trans h.tape,k.output.trans h.output,zpK h.size k.size,fun i q I=>
  (k.block i (zpz q h.size) (fun L=>I (N i L q))).trans (h.block i q I)⟩
theorem zh.mono{w w':World}(h:zh S w w')(L:∀x,S x->x<w.heap.size->S' x):zh S' w w':=
 ⟨h.os,h.tape,h.output,h.size,fun k q N=>h.block k q (fun I=>N (L k I q))⟩
theorem zh.xj{w w':World}(S:Nat->Prop)(h:Bl w w'):zh S w w':=⟨h.os,h.tape,h.output,h.size,fun k q _=>h.block k q⟩
theorem zh.below{w w':World}(h:zh S w w')(N:B<=w.heap.size)(I:∀x,S x->B<=x):Below B w w':=
 ⟨h.os,h.tape,h.output,h.size,fun k L=>h.block k zd (fun q=>by have:=I k q;omega)⟩
theorem zh.drew{w:World}(h:zh S a w):zh S a w.drew:=⟨h.os,h.tape,h.output,h.size,h.block⟩
theorem zh.alloc{w:World}(h:zh S a w)(o:Obj):zh S a (w.alloc o):=
 ⟨h.os,h.tape,h.output,by have:=h.size;simp;omega,fun k q I=>(Below.heap_alloc _ _ _ (by have:=h.size;omega)).trans (h.block k q I)⟩
theorem zh.setCell{w:World}(h:zh S a w)(L:p.block<a.heap.size->S p.block)(u:Value):zh S a (w.setCell p u):=
 ⟨h.os,h.tape,h.output,by have:=h.size;simpa[World.setCell]using this,fun k q I=>
  (Below.heap_setCell _ _ _ _ (by rintro rfl;exact I (L q))).trans (h.block k q I)⟩
theorem zh.grown{w w':World}{row:Option Nat}(h:zh S a w)(q:w.grownBy w' row)(N:∀k,row=some k->k<a.heap.size->S k):zh S a w':=
 ⟨q.os.trans h.os,q.tape.trans h.tape,q.output.trans h.output,zpK h.size q.size,fun k I L=>
  (q.block k (by have:=h.size;omega) (fun e=>L (N k e.symm I))).trans (h.block k I L)⟩
theorem zh.yu{w w':World}{b:Nat}(h:zh S a w)(I:w.mapTurned w' b)(L:b<a.heap.size->S b):zh S a w':=
 h.grown I.grown fun k q=>by obtain rfl:=zqB q;exact L
theorem zh.cell{w w':World}(h:zh S w w')(q:p.block<w.heap.size)(I:¬S p.block):w'.cell? p=w.cell? p:=World.cell?_of_block (w:=w) (h.block p.block q I)
theorem De{P:Program}{k e:TypeId}{size b:Nat}{w:World}{f:Value->Option Value}{v:Value}(U:xv P k w b f)(h:w.ownsRow 0 e size v n xs):v.ownBlock≠some b:=by
 obtain⟨V,q,N,_⟩:=U
 rcases h.2 with⟨rfl,_⟩ |⟨g,O,R,rfl,_,I,_⟩
 ·simp[Value.ownBlock]
 ·intro L;simp only[Value.ownBlock,zqn]at L;subst L;rw[N]at I;cases I
theorem Jr{e:TypeId}{size:Nat}{w w':World}{v:Value}(h:w.ownsRow 0 e size v n xs)(q:∀g,v.ownBlock=some g->w'.heap[g]? = w.heap[g]?):w'.ownsRow 0 e size v n xs:=GF h q
structure Xo (P:Program) (k e:TypeId) (size:Nat) (w:World) (b:Nat) (f:Value->Option Value) (G:Value->List (List Value)):Prop where
 map:xv P k w b f
 none_:∀x,f x=none->G x=[]
 some_:∀x v,f x=some v->w.ownsRow 0 e size v (G x).length (G x).flatten/\∃A cap,v=.slice A (G x).length cap
 apart:∀x y u v g,f x=some u->f y=some v->u.ownBlock=some g->v.ownBlock=some g->x=y
def qh(b:Nat)(f:Value->Option Value)(g:Nat):Prop:=g=b\/∃x v,f x=some v/\v.ownBlock=some g
section
variable {P:Program}{k e t st:TypeId}{size:Nat}{w w':World}{b:Nat}{f:Value->Option Value}{G:Value->List (List Value)}
theorem Xo.lt(h:Xo P k e size w b f G):∀g,qh b f g->g<w.heap.size:=by
 rintro g (rfl |⟨x,v,q,I⟩)
 ·exact h.map.lt
 ·exact(World.ownsRow.lt (h.some_ x v q).1 g I).2
theorem Xo.same(h:Xo P k e size w b f G)(I:∀g,qh b f g->w'.heap[g]? = w.heap[g]?):Xo P k e size w' b f G:=
 ⟨h.map.same (I b (.inl rfl)),h.none_,fun x v q=>⟨Jr (h.some_ x v q).1 fun g L=>I g (.inr ⟨x,v,q,L⟩),(h.some_ x v q).2⟩,h.apart⟩
theorem Xo.zdn(h:xv P k w b fun _=>none):Xo P k e size w b (fun _=>none) (fun _=>[]):=
 ⟨h,fun _ _=>rfl,(fun _ _ q=>by cases q),(fun _ _ _ _ _ q=>by cases q)⟩
theorem Xo.V4(h:Xo P k e size w b f G)(x:Value):∃A q,(f x).getD (.slice none 0 0)=.slice A (G x).length q/\w.ownsRow 0 e size (.slice A (G x).length q) (G x).length (G x).flatten:=by
 rcases hf:f x with _|v
 ·refine⟨none,0,?_,?_⟩
  ·rw[h.none_ x hf];rfl
  ·rw[h.none_ x hf];exact World.ownsRow_nil w 0 e size
 ·obtain⟨I,A,q,rfl⟩:=h.some_ x v hf;exact⟨A,q,rfl,I⟩
open Classical in
theorem Xo.push(h:Xo P k e size w b f G)(x:Value)(i:TypeInfo)(z:Value)(bytes:Nat)(aj:P.underlying st=some (.slice e))(hi:P.info? e=some i)(hz:i.zero=some z)(ac:i.size=size)(ap:i.bytes=bytes)(aq:z.cells.size=size)(an:0<size)(ty:TypeId)(a:Addr)(c:Nat)(r:List Value)(hl:r.length=size)(af:∀j u,r[j]? = some u->w.cell? (a.add j)=some u)(h1:∀u∈r,u.oneCell'=true)(am:(G x).length+1<=maxLen)(aa:((G x).length+1)*bytes<=140737488355328):
 ∃v' W,(Builtin.append_ #[st,st] ty #[(f x).getD (.slice none 0 0),.slice (some a) 1 c]).run P w=.ok v' W/\W.heap[b]? = w.heap[b]?/\zh (qh b f) w W/\
  ∀w2,xv P k w2 b (fun y=>if y=x then some v' else f y)->W.mapTurned w2 b->Xo P k e size w2 b (fun y=>if y=x then some v' else f y) (fun y=>if y=x then G x++[r]else G y)/\zh (qh b f) w w2/\
   (∀g,qh b (fun y=>if y=x then some v' else f y) g->qh b f g\/w.heap.size<=g):=by
 obtain⟨A,Y,I,xV⟩:=h.V4 x;rw[I];obtain⟨v',W,hr,h2,h3,h4,h5⟩:=run_append_own_at (P:=P) w 0 st ty e i z size bytes aj hi hz ac ap aq an _ _ _ xV a 1 c r zd af h1 am aa (zpD _);obtain⟨g,N,rfl⟩:∃g N,v'=.slice (some ⟨g,0,none⟩) ((G x).length+1) N:=by
  obtain⟨g,N,hv,_⟩:=h2.form zd;exact⟨g,N,hv⟩
 have ag:(Value.slice A (G x).length Y).ownBlock≠some b:=De h.map xV;have ao:W.heap[b]? = w.heap[b]?:=h3.block b h.map.lt (fun e=>ag e.symm);have R:some g=(Value.slice A (G x).length Y).ownBlock\/g=w.heap.size:=by
  rcases h5 with h5|h5
  ·exact .inl h5
  ·right;simpa[Value.ownBlock]using h5
 have ar:g≠b:=by
  rintro rfl
  rcases R with e|e
  ·exact ag e.symm
  ·have:=h.map.lt;omega
 have ab:∀g0,(Value.slice A (G x).length Y).ownBlock=some g0->qh b f g0:=by
  intro g0 L
  rcases hf:f x with _|v
  ·rw[hf]at I;injection I with e1;subst e1;cases L
  ·rw[hf]at I;simp only[zqr]at I;exact .inr ⟨x,v,hf,by rw[I];exact L⟩
 have ai:zh (qh b f) w W:=(zh.refl _ w).grown h3 fun q V _=>ab q V
 refine⟨_,W,hr,ao,ai,fun w2 al ad=>?_⟩;have ae:∀q,q<w.heap.size->q≠b->some q≠(Value.slice A (G x).length Y).ownBlock->w2.heap[q]? = w.heap[q]?:=fun q V O L=>
  (ad.grown.block q (by have:=h3.size;omega) (by simpa using O)).trans (h3.block q V L)
 refine⟨⟨al,fun y L=>?_,fun y v L=>?_,fun y y' u v q L U Z X=>?_⟩,?_,?_⟩
 all_goals try simp only at *
 ·split at L
  ·cases L
  ·rename_i O;rw[if_neg O];exact h.none_ y L
 ·split at L
  ·rename_i e1;injection L with L
   subst L;rw[if_pos e1];refine⟨?_,some ⟨g,0,none⟩,N,by rw[zpA,zqs]⟩;rw[zpA,zqs,List.flatten_append];have:[r].flatten=r:=zp;rw[this];exact Jr h2 fun q V=>by
    simp only[Value.ownBlock,zqn]at V;subst V;exact ad.grown.block g (World.ownsRow.lt h2 g rfl).2 (by simpa using ar)
  ·rename_i e1;rw[if_neg e1];obtain⟨ho,hs⟩:=h.some_ y v L;refine⟨Jr ho fun q V=>?_,hs⟩;have O:=(World.ownsRow.lt ho q V).2;refine ae q O ?_ ?_
   ·rintro rfl;exact De h.map ho V
   ·intro he
    rcases hf:f x with _|v0
    ·rw[hf]at I;injection I with e2;subst e2;cases he
    ·rw[hf]at I;simp only[zqr]at I;exact e1 (h.apart y x v v0 q L hf V (by rw[I];exact he.symm))
 ·have O:∀y v,y≠x->f y=some v->v.ownBlock≠some g:=fun y v ak ah he=>by
   rcases R with e2|e2
   ·rcases hf:f x with _|v0
    ·rw[hf]at I;injection I with e3;subst e3;cases e2
    ·rw[hf]at I;simp only[zqr]at I;exact ak (h.apart y x v v0 g ah hf he (by rw[I];exact e2.symm))
   ·have:=(World.ownsRow.lt (h.some_ y v ah).1 g he).2;omega
  split at L<;>split at U
  ·rename_i e1 e2;rw[e1,e2]
  ·rename_i e1 e2;injection L with L;subst L
   simp only[Value.ownBlock,zqn]at Z;subst Z;exact(O y' v e2 U X).elim
  ·rename_i e1 e2;injection U with U;subst U
   simp only[Value.ownBlock,zqn]at X;subst X;exact(O y u e1 L Z).elim
  ·exact h.apart y y' u v q L U Z X
 ·exact ai.trans ((zh.refl _ W).yu (S:=(·=b)) ad fun _=>rfl) fun q V _=>.inl V
 ·rintro q (rfl |⟨y,v,L,hv⟩)
  ·exact .inl (.inl rfl)
  ·simp only at L;split at L
   ·injection L with L;subst L
    simp only[Value.ownBlock,zqn]at hv;subst hv
    rcases R with e1|e1
    ·exact .inl (ab _ e1.symm)
    ·right;omega
   ·exact .inl (.inr ⟨y,v,L,hv⟩)
end
end
section
abbrev xD(s:ByteArray):List Value:=[.string s]
structure qB (P:Program) (t e:TypeId) (size bytes:Nat):Prop where
 ht:P.underlying t=some (.slice e)
 ex:∃i z,P.info? e=some i/\i.zero=some z/\i.size=size/\i.bytes=bytes/\z.cells.size=size
 pos:0<size
theorem qB.of{P:Program}{t e:TypeId}{size bytes:Nat}(O:P.underlying t=some (.slice e))(hi:(P.info? e).map (fun i=>(i.zero,i.size,i.bytes))=some (some z,size,bytes))(R:z.cells.size=size)(N:0<size):qB P t e size bytes:=by
 obtain⟨L,hi,q,I,h⟩:=info_parts hi;exact⟨O,⟨L,z,hi,q,I,h,R⟩,N⟩
section
variable {α:Type}{f:α->List Value}{t e:TypeId}{size bytes:Nat}{A:Option Addr}{cap n:Nat}{xs:List α}{P:Program}{w:World}
theorem Own.GV(h:Own f e size w A cap xs)(E:qB P t e size bytes)(hn:xs.length=n)(x:α)(W:TypeId)(R O c:Nat)(hl:(f x).length=size)(I:w.rangeAt R O (f x))(h1:∀u∈f x,u.oneCell'=true)(hb:n<=4194304)(U:bytes<=4096):
 ∃g q L,(Builtin.append_ #[t,t] W #[.slice A n cap,.slice (some ⟨R,O,none⟩) 1 c]).run P w=.ok (.slice (some ⟨g,0,none⟩) (n+1) q) L/\Own f e size L (some ⟨g,0,none⟩) q (xs++[x])/\zh (·∈zw A) w L/\(g∈zw A\/w.heap.size<=g):=by
 subst hn;obtain⟨X,⟨i,z,hi,hz,h3,Z,h5⟩,hp⟩:=E;have hm:(xs.length+1)*bytes<=140737488355328:=by
  have:(xs.length+1)*bytes<=4194305*4096:=zrx zd U;omega
 obtain⟨g,q,L,hr,ho,Y,N⟩:=h.push (P:=P) x t W i z bytes X hi hz h3 Z h5 hp R O c hl I h1 (by unfold maxLen;omega) hm;refine⟨g,q,L,hr,ho,(zh.refl _ w).grown Y fun k V _=>?_,?_⟩
 ·cases A with
  |none=>cases V
  |some a=>simpa[zw]using V.symm
 ·rcases N with h|h
  ·exact .inl h
  ·right;omega
theorem X9{N:Array Oper}{a:Act}(O:o.guard=none)(s y:Operand)(ho:o.op=.call { callee:=.builtin .append,args:=#[s,y],argTypes:=#[t,t]})(E:qB P t e size bytes)(h:Own f e size w A cap xs)(hn:xs.length=n)(x:α)(U R c:Nat)(hs:a.eval s=.slice A n cap)(hy:a.eval y=.slice (some ⟨U,R,none⟩) 1 c)(hl:(f x).length=size)(I:w.rangeAt U R (f x))(h1:∀u∈f x,u.oneCell'=true)(X:n<=4194304)(V:bytes<=4096)(Y:∀g q L,Own f e size L (some ⟨g,0,none⟩) q (xs++[x])->zh (·∈zw A) w L->(g∈zw A\/w.heap.size<=g)->wpList P N Q rest (a.put o.dst (.slice (some ⟨g,0,none⟩) (n+1) q)) L):
 wpList P N Q (o::rest) a w:=by
 refine wpList_plain O fun K hK=>?_
 obtain⟨g,q,L,hr,W,h3,Z⟩:=h.GV (P:=P) E hn x o.type U R c hl I h1 X V;unfold Oper.wp execOp;simp only[ho,resolve,invoke,builtin,Sem.run_bind,Sem.run_pure,Result.andThen_ok,zqJ,zqb,zq3,hs,hy,hr];exact hK _ _ (Y g q L W h3 Z)
theorem ZP{I:Array Oper}{a:Act}(E:qB P t e size bytes)(h:Own f e size w A cap xs)(hn:xs.length=n)(x:α){s y:Operand}{N c:Nat}(V:∀g q L,Own f e size L (some ⟨g,0,none⟩) q (xs++[x])->zh (·∈zw A) w L->(g∈zw A\/w.heap.size<=g)->wpList P I Q rest (a.put o.dst (.slice (some ⟨g,0,none⟩) (n+1) q)) L)(L:o.guard=none:=by rfl)(X:o.op=.call { callee:=.builtin .append,args:=#[s,y],argTypes:=#[t,t]}:=by rfl)(Z:a.eval s=.slice A n cap:=by rfl)(hy:a.eval y=.slice (some ⟨O,N,none⟩) 1 c:=by rfl)(Y:(f x).length=size:=by rfl)(q:w.rangeAt O N (f x):=by exact yt _ _ _ rfl)(W:∀u∈f x,u.oneCell'=true:=by simp[Value.oneCell'])(U:n<=4194304:=by omega)(R:bytes<=4096:=by decide):
 wpList P I Q (o::rest) a w:=X9 L s y X E h hn x O N c Z hy Y q W U R V
end
theorem Own.alloc{α:Type}{f:α->List Value}{e:TypeId}{size:Nat}{w:World}{A:Option Addr}{cap:Nat}{xs:List α}(h:Own f e size w A cap xs)(o:Obj):Own f e size (w.alloc o) A cap xs:=h.same fun g q=>Below.heap_alloc w o g (h.lt g q)
theorem Own.below{α:Type}{f:α->List Value}{e:TypeId}{size:Nat}{w:World}{A:Option Addr}{cap:Nat}{xs:List α}(h:Own f e size w A cap xs)(q:Bl w w'):Own f e size w' A cap xs:=h.same fun g I=>q.block g (h.lt g I)
theorem yt(w:World)(h:List Value)(t:TypeId)(q:g=w.heap.size):(w.alloc (.cells h.toArray t)).rangeAt g 0 h:=by subst q;exact ZK w h t
theorem xY{Q:Nat->Prop}(h:Q g):∀x∈zw (some ⟨g,0,none⟩),Q x:=fun x q=>by
 simp only[zw,zqh,zqU,zpy]at q;subst q;exact h
section
variable {α:Type}{f:α->List Value}{t e:TypeId}{size bytes:Nat}{A:Option Addr}{cap n:Nat}{xs:List α}{P:Program}{w:World}
theorem ZE{a:Act}{K:Act->World->Prop}(s y:Operand)(Z:o.op=.call { callee:=.builtin .append,args:=#[s,y],argTypes:=#[t,t]})(E:qB P t e size bytes)(h:Own f e size w A cap xs)(hn:xs.length=n)(x:α)(O N c:Nat)(hs:a.eval s=.slice A n cap)(hy:a.eval y=.slice (some ⟨O,N,none⟩) 1 c)(hl:(f x).length=size)(I:w.rangeAt O N (f x))(X:∀u∈f x,u.oneCell'=true)(V:n<=4194304)(R:bytes<=4096)(Y:∀g q L,Own f e size L (some ⟨g,0,none⟩) q (xs++[x])->zh (·∈zw A) w L->(g∈zw A\/w.heap.size<=g)->K (a.put o.dst (.slice (some ⟨g,0,none⟩) (n+1) q)) L):Oper.wp P o a w K Q:=by
 obtain⟨g,q,L,hr,U,h3,W⟩:=h.GV (P:=P) E hn x o.type O N c hl I X V R;unfold Oper.wp execOp;simp only[Z,resolve,invoke,builtin,Sem.run_bind,Sem.run_pure,Result.andThen_ok,zqJ,zqb,zq3,hs,hy,hr];exact Y g q L U h3 W
end
structure G2 (w:World) (t1:TypeId) (c1:Array Value) (W:World):Prop where
 below:Bl w W
 size:W.heap.size=w.heap.size+1
 b0:zD W w.heap.size t1 c1
structure Bx2 (w:World) (t1 t2:TypeId) (c1 c2:Array Value) (W:World):Prop where
 below:Bl w W
 size:W.heap.size=w.heap.size+1+1
 b0:zD W w.heap.size t1 c1
 b1:zD W (w.heap.size+1) t2 c2
structure Bx3 (w:World) (t1 t2 t3:TypeId) (c1 c2 c3:Array Value) (W:World):Prop where
 below:Bl w W
 size:W.heap.size=w.heap.size+1+1+1
 b0:zD W w.heap.size t1 c1
 b1:zD W (w.heap.size+1) t2 c2
 b2:zD W (w.heap.size+1+1) t3 c3
theorem xi(w:World)(h:TypeId)(c1:Array Value):∃W,w.alloc (.cells c1 h)=W/\G2 w h c1 W:=⟨_,rfl,xq w _,zp,zD.new w _ _⟩
theorem yb(w:World)(L I:TypeId)(c1 c2:Array Value):∃W,(w.alloc (.cells c1 L)).alloc (.cells c2 I)=W/\Bx2 w L I c1 c2 W:=by
 obtain⟨O,e,h⟩:=xi w L c1;obtain⟨R,e2,q⟩:=xi O I c2;have N:=h.size;refine⟨R,by rw[e,e2],h.below.trans (q.below.mono zd),by rw[q.size,N],h.b0.same (q.below.block _ zd),?_⟩;rw[<-N];exact q.b0
theorem Vj(w:World)(N I L:TypeId)(c1 c2 c3:Array Value):∃W,((w.alloc (.cells c1 N)).alloc (.cells c2 I)).alloc (.cells c3 L)=W/\Bx3 w N I L c1 c2 c3 W:=by
 obtain⟨R,e,h⟩:=yb w N I c1 c2;obtain⟨U,e2,q⟩:=xi R L c3;have O:=h.size;refine⟨U,by rw[e,e2],h.below.trans (q.below.mono zd),by rw[q.size,O],h.b0.same (q.below.block _ zd),h.b1.same (q.below.block _ zd),?_⟩;rw[<-O];exact q.b0
theorem zD.zC{w:World}{t:TypeId}{q:Array Value}(h:zD w g t q)(I:zh S w w')(L:¬S g):zD w' g t q:=h.same (I.block g h.lt L)
theorem zD.below{w:World}{t:TypeId}{q:Array Value}(h:zD w g t q)(I:Bl w w'):zD w' g t q:=h.same (I.block g h.lt)
theorem Own.zC{α:Type}{f:α->List Value}{e:TypeId}{size:Nat}{w:World}{A:Option Addr}{cap:Nat}{xs:List α}(h:Own f e size w A cap xs)(I:zh S w w')(L:∀g∈zw A,¬S g):Own f e size w' A cap xs:=h.same fun g q=>I.block g (h.lt g q) (L g q)
theorem UE{w:World}{b o:Nat}{q:List Value}(h:w.rangeAt b o q)(L:b<w.heap.size)(N:zh S w w')(O:¬S b):w'.rangeAt b o q:=fun j v I=>by
 rw[N.cell (p:=⟨b,o+j,none⟩) L O];exact h j v I
theorem zD.setCells{g:Nat}{t:TypeId}:∀(I:List Value)(o:Nat)(w:World)(q:Array Value),zD w g t q->o+I.length<=q.size->zD (w.setCells g o I) g t (q.toList.take o++I++q.toList.drop (o+I.length)).toArray
 |[],o,w,q,h,_=>by
  rw[World.setCells,zp7,zqd,zqk,zqi];simpa using h
 |v::r,o,w,q,h,L=>by
  rw[zpV]at L;have:=zD.setCells r (o+1) _ _ (h.qI o v) zb;rw[World.setCells];have e:(q.setIfInBounds o v).toList.take (o+1)++r++(q.setIfInBounds o v).toList.drop (o+1+r.length)=q.toList.take o++v::r++q.toList.drop (o+(v::r).length):=by
   have I:o<q.toList.length:=zb;rw[Array.toList_setIfInBounds,zpC (by rw[zqe];exact I),List.take_set_of_le (zpx _),zqR,List.drop_set_of_lt zd,zpV,zpX,zpX,zpX];rw[show o+1+r.length=o+(r.length+1) from zd];rfl
  rw[e]at this;exact this
theorem Below.setCells{B g:Nat}{a:World}(q:B<=g):∀(I:List Value)(o:Nat)(w:World),Below B a w->Below B a (w.setCells g o I)
 |[],_,_,h=>h
 |v::r,o,w,h=>Below.setCells q r (o+1) _ (h.setCell (by exact q) v)
theorem XP{P:Program}{O:Array Oper}{a:Act}(R:o.guard=none)(N:TypeId)(x y:Operand)(Z:o.op=.store N x y)(L:Array Value)(q:List Value)(hx:a.eval x=.pointer (some ⟨I.heap.size,0,none⟩))(hy:a.eval y=.agg q.toArray)(X:L.size=q.length)(hi:(P.info? N).map (·.size)=some q.length)(Y:∀v∈q,v.oneCell'=true)(h:∀W,G2 I N q.toArray W->wpList P O Q rest (a.put o.dst undef) W):wpList P O Q (o::rest) a (I.alloc (.cells L N)):=by
 have U:zD (I.alloc (.cells L N)) I.heap.size N L:=zD.new I _ _;refine wpList_store_mid R N x y Z I.heap.size 0 q.toArray hx hy (fun j V=>?_) (by simpa using hi) (all_oneCell_toArray Y) (h _ ⟨?_,?_,?_⟩)
 ·have V:j<L.size:=by simpa[X]using V
  rw[zp6];exact⟨by rw[U.cell];simp[V],U.frozen j⟩
 ·exact Below.setCells (zpx _) _ _ _ (xq I _)
 ·rw[JM];simp
 ·have:=zD.setCells q 0 _ L U zd;have e:L.toList.drop (0+q.length)=[]:=List.drop_eq_nil_of_le (by simp[X]);rw[e,zpY,zpI,zp7]at this;exact this
def Acc{α:Type}(f:α->List Value)(e:TypeId)(size:Nat)(A:Option Addr)(xs:List α)(w:World)(x:Ending)(w':World):Prop:=
 ∃q h n,x=.returned (.slice q n h)/\xs.length=n/\Own f e size w' q h xs/\zh (·∈zw A) w w'/\(∀g∈zw q,g∈zw A\/w.heap.size<=g)
def XA{α:Type}(f:α->List Value)(e:TypeId)(size:Nat)(xs:List α)(w:World)(x:Ending)(w':World):Prop:=
 ∃q h n,x=.returned (.slice q n h)/\xs.length=n/\Own f e size w' q h xs/\Bl w w'/\(∀g∈zw q,w.heap.size<=g)
theorem Acc.gives{α:Type}{f:α->List Value}{e:TypeId}{size:Nat}{xs:List α}{w:World}{x:Ending}(h:Acc f e size none xs w x w'):XA f e size xs w x w':=by
 obtain⟨R,q,n,O,V,L,U,N⟩:=h;exact⟨R,q,n,O,V,L,U.below (zpx _) (fun g I=>by simp[zw]at I),fun g I=>by rcases N g I with h|h;simp[zw]at h;exact h⟩
theorem zh.qt{b:World}(h:zh S b c)(q:Below B a b)(L:B<=a.heap.size)(I:∀x,S x->B<=x):Below B a c:=
 q.trans (h.below (by have:=q.size;omega) I)
theorem zaa{w q:World}{A:Option Addr}{c1:Array Value}(h:Jp w c1 q)(O:∀g∈zw A,g<w.heap.size)(N:zh (·∈zw A) q I)(i:Nat):I.cell? ⟨w.heap.size,i,none⟩=c1[i]?:=
 (N.cell (p:=⟨w.heap.size,i,none⟩) (by have:=h.size;show w.heap.size<_;omega) (fun L=>by have:=O _ L;simp at this)).trans (h.one i)
end
