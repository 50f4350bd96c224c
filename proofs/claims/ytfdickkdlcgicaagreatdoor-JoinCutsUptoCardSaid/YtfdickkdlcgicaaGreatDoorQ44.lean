/-
  What came in, opened: a rule, facts, numbers: how they lie a
-/
import Derived.ChangeArms
import Derived.Deep.Slices
import Derived.Deep.Strs
import Derived.SizedLaws
import Derived.RowKit
import Derived.ProofKit
import Derived.LaidMore
import Derived.MakeChecks
import Derived.Lib.LaidTab
import Derived.OpenShut
import Derived.Stop.Joined
import Derived.SevenTiedAt
import Derived.Test.YtfdickkdlcgicaaGreatDoorQ43
import Derived.Deep.DeepHandedRow
import Derived.Deep.DeepWitnessRowRef
import Derived.ChangeOld
set_option maxRecDepth 100000
set_option maxHeartbeats 8000000
set_option linter.all false
namespace Go.Proofs.YtfdickkdlcgicaaGreatDoor.C
open Go.Proofs.Tryz Go Go.RowKit Go.Maps Go.WideMaps
variable {A:Option Addr}{B α:Type}{I L:List Value}{W:World}{cap fuel:Nat}{e t:TypeId}{n:Int}{v:Value}
section
open Go Go.ChangeShapes Go.WideShapes Go.ChangeAt Go.RowKit Go.Deep
theorem zbO(a:Addr)(n:Nat)(h:a.spot=none):a.add n=⟨a.block,a.off+n,none⟩:=by
 unfold Addr.add;split
 ·rename_i q;subst q;cases a;simp_all
 ·rfl
theorem ziJ(a:Addr)(h:a.spot=none):a=⟨a.block,a.off,none⟩:=by cases a;simp at h;subst h;rfl
theorem ze8{α:Type}{Q:Nat->α->Prop}:∀n:Nat,(∀i,i<n->∃u,Q i u)->∃q:List α,q.length=n/\∀i (h:i<q.length),Q i q[i]
 |0,_=>⟨[],rfl,fun i h=>by simp at h⟩
 |n+1,h=>by
  obtain⟨q,L,O⟩:=ze8 n (fun i I=>h i zd);obtain⟨u,R⟩:=h n zd;refine⟨q++[u],by simp[L],fun i I=>?_⟩;rw[zpA]at I
  by_cases N:i<q.length
  ·simp only[zq6 N];exact O i N
  ·obtain rfl:i=q.length:=by simp at I;omega
   simp only[List.getElem_append_right (zpx _),zrp,List.getElem_singleton];rw[L];exact R
theorem XV(l:List Value)(k m j:Nat)(h:k+m=j):l.drop k=(l.drop k).take m++l.drop j:=by
 subst h;rw[<-List.drop_drop,zqi]
theorem TI:∀{xs:List B},xs.length=2->∃h q,xs=[h,q]
 |[h,q],_=>⟨h,q,rfl⟩
theorem zad:∀{xs:List B},xs.length=3->∃h q I,xs=[h,q,I]
 |[h,q,I],_=>⟨h,q,I,rfl⟩
theorem zgj:∀{xs:List B},xs.length=5->∃h L N I q,xs=[h,L,N,I,q]
 |[h,L,N,I,q],_=>⟨h,L,N,I,q,rfl⟩
def sumOf{α:Type}(M:α->Nat):List α->Nat
 |[]=>0
 |x::l=>M x+sumOf M l
theorem Uz{α:Type}{M:α->Nat}{x:α}:∀{l:List α},x∈l->M x<=sumOf M l
 |y::l,h=>by
  unfold sumOf
  rcases zpU.1 h with rfl|h
  ·omega
  ·have:=Uz (M:=M) h;omega
theorem Y5{α:Type}{M:α->Nat}:∀{l:List α},(∀x∈l,1<=M x)->l.length<=sumOf M l
 |[],_=>zpD _
 |y::l,h=>by
  have L:=h y zpP;have I:=Y5 (M:=M) fun x q=>h x (zpQ _ q)
  rw[zpV];unfold sumOf;omega
theorem zfM{α β:Type}{M:α->Nat}{g:α->List β}:∀{l:List α},(∀x∈l,(g x).length<=M x)->(l.flatMap g).length<=sumOf M l
 |[],_=>zpD _
 |y::l,h=>by
  have L:=h y zpP;have I:=zfM (M:=M) (g:=g) fun x q=>h x (zpQ _ q)
  rw[zpZ,zpA];unfold sumOf;omega
def Vl.xr(x:Vl):Nat:=x.s.size+1
def Tm.xr(t:Tm):Nat:=t.v.size+t.x.xr
mutual
def Ex.xr:Ex->Nat
 |.mk _ t _ _ h=>t.xr+Ex.ZN h
def Ex.ZN:List Ex->Nat
 |[]=>0
 |e::h=>e.xr+Ex.ZN h
end
def At.xr(a:At):Nat:=a.p.size+sumOf Tm.xr a.args
def Li.xr(x:Li):Nat:=x.a.xr+(x.l.xr+x.r.xr)
def Ar.xr(a:Ar):Nat:=a.t.xr
def Ru.xr(r:Ru):Nat:=r.p.size+(sumOf Ar.xr r.head+sumOf Li.xr r.body)
def Fa.xr(f:Fa):Nat:=f.p.size+(sumOf Vl.xr f.args+1)
theorem Ex.zaV:∀l:List Ex,Ex.ZN l=sumOf Ex.xr l
 |[]=>by rw[Ex.ZN];rfl
 |e::h=>by rw[Ex.ZN,Ex.zaV h];rfl
theorem Tm.Yv(t:Tm):1<=t.xr:=by unfold Tm.xr Vl.xr;omega
theorem Ex.Yv:∀e:Ex,1<=e.xr
 |.mk _ t _ _ _=>by rw[Ex.xr];have:=t.Yv;omega
theorem Li.Yv(x:Li):2<=x.xr:=by unfold Li.xr;have:=x.l.Yv;have:=x.r.Yv;omega
mutual
theorem Ex.Gu:∀e:Ex,e.zO.length<=e.xr
 |.mk _ t _ _ h=>by
  rw[Ex.zO,Ex.xr,zpV];have:=t.Yv;have:=Ex.ze6 h;omega
theorem Ex.ze6:∀l:List Ex,(Ex.qq l).length<=Ex.ZN l
 |[]=>by rw[Ex.qq];exact zpD _
 |e::h=>by
  rw[Ex.qq,Ex.ZN,zpA];have:=Ex.Gu e;have:=Ex.ze6 h;omega
end
mutual
theorem Ex.Ge:∀(e:Ex)(t:Tm),t∈e.zO->t.xr<=e.xr
 |.mk _ I _ _ q,t,h=>by
  rw[Ex.zO]at h;rw[Ex.xr]
  rcases zpU.1 h with rfl|h
  ·omega
  ·have:=Ex.zeY q t h;omega
theorem Ex.zeY:∀(l:List Ex)(t:Tm),t∈Ex.qq l->t.xr<=Ex.ZN l
 |[],t,h=>by rw[Ex.qq]at h;cases h
 |e::q,t,h=>by
  rw[Ex.qq]at h;rw[Ex.ZN]
  rcases zpE.1 h with h|h
  ·have:=Ex.Ge e t h;omega
  ·have:=Ex.zeY q t h;omega
end
theorem Li.Gu(x:Li):x.zO.length<=x.xr:=by
 unfold Li.zO Li.xr At.xr;rw[zpA,zpA];have:=Y5 (M:=Tm.xr) (l:=x.a.args) fun t _=>t.Yv
 have:=x.l.Gu;have:=x.r.Gu;omega
theorem Li.Ge{x:Li}{t:Tm}(h:t∈x.zO):t.xr<=x.xr:=by
 unfold Li.zO at h;unfold Li.xr At.xr
 rcases zpE.1 h with h|h
 ·have:=Uz (M:=Tm.xr) h;omega
 ·rcases zpE.1 h with h|h
  ·have:=Ex.Ge _ _ h;omega
  ·have:=Ex.Ge _ _ h;omega
structure Vl.Xi (x:Vl):Prop where
 k0:-128<=x.k
 k1:x.k<=127
 n0:-9223372036854775808<=x.n
 n1:x.n<=9223372036854775807
theorem Vl.Xi.told{x:Vl}(h:x.Xi)(q:x.xr<=1048576):x.told:=⟨h.k0,h.k1,h.n0,h.n1,by unfold Vl.xr at q;omega⟩
mutual
def Ex.Xi:Ex->Prop
 |.mk q t _ _ h=>(-128<=q/\q<=127)/\t.x.Xi/\Ex.UA h
def Ex.UA:List Ex->Prop
 |[]=>True
 |e::h=>e.Xi/\Ex.UA h
end
theorem Ex.zdF:∀{l:List Ex},(∀e∈l,e.Xi)->Ex.UA l
 |[],_=>by unfold Ex.UA;trivial
 |e::I,h=>by
  unfold Ex.UA;exact⟨h e zpP,Ex.zdF fun x q=>h x (zpQ _ q)⟩
mutual
theorem Ex.DQ:∀(e:Ex),e.Xi->e.xr<=1048576->e.may
 |.mk q t A O I,h,L=>by
  unfold Ex.Xi at h;rw[Ex.xr]at L;unfold Ex.may;have R:=t.Yv;have N:Ex.ZN I<=1048576:=zd;refine⟨h.1.1,h.1.2,h.2.1.told ?_,?_,Ex.zeg I h.2.2 N⟩
  ·unfold Tm.xr at L;omega
  ·rw[Ex.zaV]at N;exact zpK (Y5 (M:=Ex.xr) fun e _=>e.Yv) N
theorem Ex.zeg:∀(l:List Ex),Ex.UA l->Ex.ZN l<=1048576->Ex.Zg l
 |[],_,_=>by unfold Ex.Zg;trivial
 |e::I,h,L=>by
  unfold Ex.UA at h;rw[Ex.ZN]at L;unfold Ex.Zg;exact⟨Ex.DQ e h.1 zd,Ex.zeg I h.2 zd⟩
end
structure Li.Xi (x:Li):Prop where
 a:∀t∈x.a.args,t.x.Xi
 l:x.l.Xi
 r:x.r.Xi
theorem zb8:∀l:List Li,Y8 l<=sumOf Li.xr l
 |[]=>zpD _
 |x::l=>by
  unfold Y8 sumOf;have q:=zb8 l;have h:=Y5 (M:=Tm.xr) (l:=x.a.args) fun t _=>t.Yv
  have I:sumOf Tm.xr x.a.args<=x.xr:=by unfold Li.xr At.xr;omega
  omega
theorem zhY{r:Ru}{fs:List Fa}(V:∀x∈r.body,x.Xi)(hb:r.xr<=1048575)(hf:∀f∈fs,∀v∈f.args,v.Xi)(R:sumOf Fa.xr fs<=1048576):VK r fs:=by
 have Y:r.p.size+(sumOf Ar.xr r.head+sumOf Li.xr r.body)<=1048575:=hb;have h:∀x∈r.body,x.xr<=sumOf Li.xr r.body:=fun x I=>Uz I
 have L:∀t∈r.zO,t.xr<=1048575:=fun t q=>by
  unfold Ru.zO at q
  rcases zpE.1 q with q|q
  ·obtain⟨a,N,rfl⟩:=zp8.1 q;have:=Uz (M:=Ar.xr) N;unfold Ar.xr at this;unfold Ar.xr at Y;omega
  ·obtain⟨x,I,q⟩:=zqP.1 q;have:=Li.Ge q;have:=h x I;omega
 have X:r.head.length<=sumOf Ar.xr r.head:=Y5 fun a _=>a.t.Yv
 have O:r.body.length<=sumOf Li.xr r.body:=Y5 fun x _=>by have:=x.Yv;omega
 have Z:(1048576:Nat)<=maxLen:=zr;refine⟨⟨zd,fun x I=>?_,fun t q=>?_⟩,?_,zd,zd,fun x I=>?_,?_,?_,fun f N=>?_⟩
 ·have:=h x I;have:x.a.p.size<=x.xr:=by unfold Li.xr At.xr;omega
  omega
 ·have:=L t q;have:t.v.size<=t.xr:=by unfold Tm.xr;omega
  omega
 ·unfold Ru.zO;rw[zpA,zpO];have:=zfM (M:=Li.xr) (g:=Li.zO) (l:=r.body) fun x _=>x.Gu
  omega
 ·have U:=h x I;have h2:x.a.p.size+sumOf Tm.xr x.a.args+(x.l.xr+x.r.xr)<=sumOf Li.xr r.body:=U;have h3:=Y5 (M:=Tm.xr) (l:=x.a.args) fun t _=>t.Yv
  exact⟨Ex.DQ _ (V x I).l zd,Ex.DQ _ (V x I).r zd,zd,zd,fun t q=>((V x I).a t q).told (by
   have:=Uz (M:=Tm.xr) q;have:t.x.xr<=t.xr:=by unfold Tm.xr;omega
   omega)⟩
 ·have:=zb8 r.body;omega
 ·exact zpK (Y5 (M:=Fa.xr) fun f _=>by unfold Fa.xr;omega) R
 ·have U:=Uz (M:=Fa.xr) N;have h2:f.p.size+(sumOf Vl.xr f.args+1)<=sumOf Fa.xr fs:=U;have h3:=Y5 (M:=Vl.xr) (l:=f.args) fun v _=>by unfold Vl.xr;omega
  exact⟨zd,zd,fun v hv=>(hf f N v hv).told (by have:=Uz (M:=Vl.xr) hv;omega)⟩
section
variable {H:Type}{enc:TypeId×Value->H}{W:World}
theorem zcv{c b:Nat}:∀{rows:List (List Value)}{o:Nat},(∀r∈rows,r.length=c)->(∀(i:Nat)(r:List Value),rows[i]? = some r->W.rangeAt b (o+i*c) r)->W.rangeAt b o rows.flatten
 |[],_,_,_=>fun j v q=>by simp at q
 |r::rows,o,q,h=>by
  rw[List.flatten_cons];refine zcL (by have:=h 0 r rfl;simpa using this) ?_;rw[q r zpP];refine zcv (fun r L=>q r (zpQ _ L)) fun i I N=>?_
  have:=h (i+1) I (by simpa using N);rw[Nat.add_mul,zry,Nat.add_comm (i*c) c,<-zqO]at this;exact this
theorem znq{f:α->List Value}{xs:List α}{i:Nat}{r:List Value}(h:(xs.map f)[i]? = some r):∃x,xs[i]? = some x/\r=f x:=by
 rw[zqt,Option.map_eq_some_iff]at h;obtain⟨x,I,q⟩:=h;exact⟨x,I,q.symm⟩
theorem zaf{d:DataW H}:∀{l:List (DataW H)},d∈l->Rows.uptoBulk d<=Rows.uptoBulkAll l
 |x::l,h=>by
  rw[Rows.uptoBulkAll]
  rcases zpU.1 h with rfl|h
  ·omega
  ·have:=zaf h;omega
theorem zd6{α:Type}{M:α->Nat}:∀{l:List α}{es:List (DataW H)},es.length=l.length->(∀(i:Nat)(h:i<l.length)(q:i<es.length),M l[i]<=Rows.uptoBulk es[i])->sumOf M l<=Rows.uptoBulkAll es
 |[],_,_,_=>zpD _
 |x::l,[],h,_=>by cases h
 |x::l,d::es,h,I=>by
  rw[Rows.uptoBulkAll];have q:=I 0 zp (zp);have L:=zd6 (l:=l) (es:=es) (M:=M) (by simpa using h) fun i a b=>I (i+1) (by simpa using a) (by simpa using b)
  unfold sumOf;have q:M x<=Rows.uptoBulk d:=q;omega
theorem UI{c:Nat}(I:α->List Value)(Q:α->Prop)(M:α->Nat)(O:∀a,(I a).length=c+1)(ht:prog.underlying t=some (.slice e))(hc:prog.cellsOf e=c+1){cs:List Value}{x:DataW H×List MemPlace}(hf:DataW.trod enc prog W 0 (fun _=>true) true fuel t cs=some x)(hs:Rows.uptoBulk x.1<=1048576)(Y:∀(n:Nat)(L:List Value)(y:DataW H×List MemPlace),n<fuel->DataW.trod enc prog W 0 (fun _=>true) true n e L=some y->Rows.uptoBulk y.1<=1048576->∃a:α,L=I a/\Q a/\M a<=Rows.uptoBulk y.1):
 ∃(A:Option Addr) (R:Nat) (l:List α),cs=[.slice A l.length R]/\zZ I W A l/\(∀a∈l,Q a)/\sumOf M l+1<=Rows.uptoBulk x.1:=by
 rcases DataW.trod_slice ht hf with⟨rfl,hx⟩ |⟨a,ag,R,q,aa,n,rfl,rfl,hx,ak,hl,hm,V,ae,_,_⟩
 ·exact⟨none,0,[],rfl,fun h=>absurd rfl h,zp,by rw[hx];simp[sumOf,Rows.uptoBulk]⟩
 ·have aj:Rows.uptoBulk x.1=Rows.uptoBulkAll (q.map (·.1))+Rows.uptoBulkAll (aa.map (·.1))+1:=by rw[hx,Rows.uptoBulk]
  have ah:∀y∈q,Rows.uptoBulk y.1<=Rows.uptoBulkAll (q.map (·.1)):=fun y N=>zaf (zp8.2 ⟨y,N,rfl⟩)
  obtain⟨l,U,N⟩:=ze8 (Q:=fun i (z:α)=>W.cells? 0 (a.add (i*(c+1))) (c+1)=some (I z)/\Q z/\∀h:i<q.length,M z<=Rows.uptoBulk q[i].1) ag (fun i Z=>by
   have h:=ae i Z;rw[hc,zpF zd]at h;obtain⟨L,ab,ac⟩:=zra.1 h;have ad:=ah _ (zpB (show i<q.length from zd));obtain⟨z,rfl,X,hM⟩:=Y n L _ (Nat.lt_succ_self _) ac zd;exact⟨z,ab,X,fun _=>hM⟩)
  subst U;have hQ:∀z∈l,Q z:=fun z X=>by
   obtain⟨i,Z,rfl⟩:=zpS.1 X;exact(N i Z).2.1
  refine⟨some a,R,l,rfl,?_,hQ,?_⟩
  ·unfold zZ;rw[zrs];intro ac;have h0:0<l.length:=by
    cases l with
    |nil=>simp at ac
    |cons z l=>simp
   obtain⟨_,ai,c0⟩:=World.cells?_some (N 0 h0).1;have L:=c0 0 zd;rw[zpF zd]at L;have U:a.spot=none:=by
    have h:=World.cell?_spot L;rw[zqX]at h;exact h
   rw[Go.Deep.add_add,zbO a _ U]at L;have ab:=World.block_lt_of_cell? _ _ L;refine⟨a.block,a.off,congrArg some (ziJ a U),ab,zcv (c:=c+1) (fun r hr=>?_) fun i r Z=>?_⟩
   ·obtain⟨z,X,rfl⟩:=zp8.1 hr;exact O z
   ·obtain⟨z,X,rfl⟩:=znq Z;obtain⟨ad,rfl⟩:=zp9.1 X;obtain⟨_,al,c1⟩:=World.cells?_some (N i ad).1;intro j v hj;have af:j<c+1:=by
     have:=(zp9.1 hj).1;have:=O l[i];omega
    have h:=c1 j af;rw[hj,Go.Deep.add_add,zbO a _ U,<-zqO]at h;exact h
  ·have:=zd6 (l:=l) (es:=q.map (·.1)) (M:=M) (by rw[zpO,V]) fun i U L=>by
    rw[zqz];exact(N i U).2.2 (by simpa using L)
   omega
theorem GD{s:ByteArray}:Rows.uptoBulk (.lit (.string s.data.toList):DataW H)=s.size+1:=by
 rw[Rows.uptoBulk];show s.data.toList.length+1=_;rw[zrr];rfl
theorem zfO(h:(Lit.int .i8 n).wf=true):-128<=n/\n<=127:=by
 simp[Lit.wf,IntKind.min,IntKind.max,IntKind.signed,IntKind.bits]at h;omega
theorem zf2(h:(Lit.int .i64 n).wf=true):-9223372036854775808<=n/\n<=9223372036854775807:=by
 simp[Lit.wf,IntKind.min,IntKind.max,IntKind.signed,IntKind.bits]at h;omega
theorem zc6{x:DataW H×List MemPlace}(hf:DataW.trod enc prog W 0 (fun _=>true) true fuel 43 I=some x):∃v:Vl,I=v.cells/\v.Xi/\v.xr<=Rows.uptoBulk x.1:=by
 obtain⟨xs,n,_,hx,hl,L,q⟩:=DataW.trod_struct underlying43 hf;have aa:I.length=3:=hl.trans zo;have Z:=q 0 _ rfl;have h1:=q 1 _ rfl;have Y:=q 2 _ rfl;obtain⟨y0,y1,y2,rfl⟩:=zad (show xs.length=3 from L);have t0:DataW.trod enc prog W 0 (fun _=>true) true n 41 ((I.drop 0).take 1)=some y0:=Z;have t1:DataW.trod enc prog W 0 (fun _=>true) true n 2 ((I.drop 1).take 1)=some y1:=h1;have X:DataW.trod enc prog W 0 (fun _=>true) true n 9 ((I.drop 2).take 1)=some y2:=Y;obtain⟨k,U,R,w0⟩:=DataW.trod_int underlying41 t0;obtain⟨m,e1,x1,V⟩:=DataW.trod_int underlying2 t1;obtain⟨s,e2,x2,_⟩:=DataW.trod_string underlying9 X;have O:=zfO w0;have N:=zf2 V;refine⟨⟨k,m,s⟩,?_,⟨O.1,O.2,N.1,N.2⟩,?_⟩
 ·have h:=XV I 0 1 1 rfl;rw[XV I 1 1 2 rfl,XV I 2 1 3 rfl,U,e1,e2,zqc (i:=3) zd]at h;exact h
 ·rw[hx,R,x1,x2];show s.size+1<=Rows.uptoBulk (.agg [.lit (.int .i8 k),.lit (.int .i64 m),.lit (.string s.data.toList)]);rw[Rows.uptoBulk,Rows.uptoBulkAll,Rows.uptoBulkAll,Rows.uptoBulkAll,GD];omega
theorem DV{x:DataW H×List MemPlace}(Y:DataW.trod enc prog W 0 (fun _=>true) true fuel 45 I=some x):∃t:Tm,I=t.cells/\t.x.Xi/\t.xr<=Rows.uptoBulk x.1:=by
 obtain⟨xs,n,_,hx,hl,L,q⟩:=DataW.trod_struct underlying45 Y;have aa:I.length=4:=hl.trans zo;have U:=q 0 _ rfl;have V:=q 1 _ rfl;obtain⟨y0,N,rfl⟩:=TI (show xs.length=2 from L);have X:DataW.trod enc prog W 0 (fun _=>true) true n 9 ((I.drop 0).take 1)=some y0:=U;have Z:DataW.trod enc prog W 0 (fun _=>true) true n 43 ((I.drop 1).take 3)=some N:=V;obtain⟨v,R,O,_⟩:=DataW.trod_string underlying9 X;obtain⟨u,e1,hr,hb⟩:=zc6 Z;refine⟨⟨v,u⟩,?_,hr,?_⟩
 ·have h:=XV I 0 1 1 rfl;rw[XV I 1 3 4 rfl,R,e1,zqc (i:=4) zd]at h;exact h
 ·rw[hx,O];show v.size+u.xr<=Rows.uptoBulk (.agg [.lit (.string v.data.toList),N.1]);rw[Rows.uptoBulk,Rows.uptoBulkAll,Rows.uptoBulkAll,Rows.uptoBulkAll,GD];omega
theorem znZ{x:DataW H×List MemPlace}(Z:DataW.trod enc prog W 0 (fun _=>true) true fuel 102 I=some x):∃a:Ar,I=a.cells/\a.xr<=Rows.uptoBulk x.1:=by
 obtain⟨xs,n,_,hx,hl,L,q⟩:=DataW.trod_struct underlying102 Z;have V:I.length=5:=hl.trans zo;have U:=q 0 _ rfl;have X:=q 1 _ rfl;obtain⟨y0,N,rfl⟩:=TI (show xs.length=2 from L);have Y:DataW.trod enc prog W 0 (fun _=>true) true n 100 ((I.drop 0).take 1)=some y0:=U;have t1:DataW.trod enc prog W 0 (fun _=>true) true n 45 ((I.drop 1).take 4)=some N:=X;obtain⟨g,R,O,_⟩:=DataW.trod_int underlying100 Y;obtain⟨t,e1,_,hb⟩:=DV t1;refine⟨⟨g,t⟩,?_,?_⟩
 ·have h:=XV I 0 1 1 rfl;rw[XV I 1 4 5 rfl,R,e1,zqc (i:=5) zd]at h;exact h
 ·rw[hx,O];show t.xr<=Rows.uptoBulk (.agg [.lit _,N.1]);rw[Rows.uptoBulk,Rows.uptoBulkAll,Rows.uptoBulkAll,Rows.uptoBulkAll];omega
theorem Gm{l:List (DataW H)}{d:DataW H}(h:d∈l):Rows.uptoBulk d<=Rows.uptoBulk (.agg l):=by
 rw[Rows.uptoBulk];have:=zaf h;omega
theorem ze5:∀(I:Nat){O:List Value}{x:DataW H×List MemPlace},DataW.trod enc prog W 0 (fun _=>true) true I 48 O=some x->Rows.uptoBulk x.1<=1048576->∃e:Ex,O=e.cells/\(e.zN W/\e.Xi)/\e.xr<=Rows.uptoBulk x.1:=by
 intro I
 induction I using Nat.strongRecOn with
 |_ I ih=>
  intro O x hf hs;obtain⟨xs,Y,af,hx,hl,U,L⟩:=DataW.trod_struct underlying48 hf;have ae:O.length=6:=hl.trans zo;have h0:=L 0 _ rfl;have h1:=L 1 _ rfl;have h2:=L 2 _ rfl;obtain⟨y0,V,R,rfl⟩:=zad (show xs.length=3 from U);have t0:DataW.trod enc prog W 0 (fun _=>true) true Y 40 ((O.drop 0).take 1)=some y0:=h0;have t1:DataW.trod enc prog W 0 (fun _=>true) true Y 45 ((O.drop 1).take 4)=some V:=h1;have t2:DataW.trod enc prog W 0 (fun _=>true) true Y 46 ((O.drop 5).take 1)=some R:=h2;have X:Rows.uptoBulk x.1=Rows.uptoBulk (.agg [y0.1,V.1,R.1]):=by rw[hx];rfl
  have aa:Rows.uptoBulk R.1<=1048576:=by
   have:=Gm (l:=[y0.1,V.1,R.1]) (d:=R.1) zp;omega
  obtain⟨q,e0,x0,w0⟩:=DataW.trod_int underlying40 t0;obtain⟨t,e1,hr,hb⟩:=DV t1;obtain⟨A,Z,N,e2,ac,hQ,hM⟩:=UI (c:=5) Ex.cells (fun e=>e.zN W/\e.Xi) Ex.xr (fun e=>e.xG) underlying46 zo t2 aa (fun n ad y hn ht ab=>ih n zd ht ab);have ab:N.length<=sumOf Ex.xr N:=Y5 fun e _=>e.Yv
  refine⟨.mk q t A Z N,?_,⟨?_,?_⟩,?_⟩
  ·have h:=XV O 0 1 1 rfl;rw[XV O 1 4 5 rfl,XV O 5 1 6 rfl,e0,e1,e2,zqc (i:=6) zd]at h;exact h
  ·unfold Ex.zN;exact⟨ac,zd,Ex.qG.of fun e he=>(hQ e he).1⟩
  ·unfold Ex.Xi;exact⟨zfO w0,hr,Ex.zdF fun e he=>(hQ e he).2⟩
  ·rw[X,x0,Ex.xr,Ex.zaV,Rows.uptoBulk,Rows.uptoBulkAll,Rows.uptoBulkAll,Rows.uptoBulkAll,Rows.uptoBulkAll];omega
theorem zhv{x:DataW H×List MemPlace}(hf:DataW.trod enc prog W 0 (fun _=>true) true fuel 50 L=some x)(hs:Rows.uptoBulk x.1<=1048576):∃l:Li,L=l.cells/\(l.zN W/\l.Xi)/\l.xr<=Rows.uptoBulk x.1:=by
 obtain⟨xs,V,am,hx,hl,ac,I⟩:=DataW.trod_struct underlying50 hf;have ah:L.length=16:=hl.trans zo;have h0:=I 0 _ rfl;have h1:=I 1 _ rfl;have h2:=I 2 _ rfl;have h3:=I 3 _ rfl;have h4:=I 4 _ rfl;obtain⟨y0,O,y2,Z,y4,rfl⟩:=zgj (show xs.length=5 from ac);have t0:DataW.trod enc prog W 0 (fun _=>true) true V 35 ((L.drop 0).take 1)=some y0:=h0;have t1:DataW.trod enc prog W 0 (fun _=>true) true V 38 ((L.drop 1).take 2)=some O:=h1;have t2:DataW.trod enc prog W 0 (fun _=>true) true V 39 ((L.drop 3).take 1)=some y2:=h2;have t3:DataW.trod enc prog W 0 (fun _=>true) true V 48 ((L.drop 4).take 6)=some Z:=h3;have t4:DataW.trod enc prog W 0 (fun _=>true) true V 48 ((L.drop 10).take 6)=some y4:=h4;have ad:Rows.uptoBulk x.1=Rows.uptoBulk (.agg [y0.1,O.1,y2.1,Z.1,y4.1]):=by rw[hx];rfl
 have R:∀d∈[y0.1,O.1,y2.1,Z.1,y4.1],Rows.uptoBulk d<=1048576:=fun d q=>by have:=Gm q;omega
 obtain⟨k,e0,_,_⟩:=DataW.trod_int underlying35 t0;obtain⟨rl,e2,_,_⟩:=DataW.trod_int underlying39 t2;obtain⟨l,e3,X,al⟩:=ze5 _ t3 (R _ zp);obtain⟨r,e4,Y,ao⟩:=ze5 _ t4 (R _ zp);obtain⟨zs,fv,an,hz,ai,ab,N⟩:=DataW.trod_struct underlying38 t1;have g0:=N 0 _ rfl;have g1:=N 1 _ rfl;obtain⟨z0,U,rfl⟩:=TI (show zs.length=2 from ab);have u0:DataW.trod enc prog W 0 (fun _=>true) true fv 9 ((((L.drop 1).take 2).drop 0).take 1)=some z0:=g0;have u1:DataW.trod enc prog W 0 (fun _=>true) true fv 36 ((((L.drop 1).take 2).drop 1).take 1)=some U:=g1;have ae:Rows.uptoBulk O.1=Rows.uptoBulk (.agg [z0.1,U.1]):=by rw[hz];rfl
 have ap:=R O.1 zp;have aa:Rows.uptoBulk U.1<=1048576:=by
  have:=Gm (l:=[z0.1,U.1]) (d:=U.1) zp;omega
 obtain⟨p,e5,x5,_⟩:=DataW.trod_string underlying9 u0;obtain⟨A,ag,q,e6,af,hQ,hM⟩:=UI (c:=3) Tm.cells (fun t=>t.x.Xi) Tm.xr (fun t=>rfl) underlying36 zo u1 aa (fun n aj y hn ht ak=>DV ht);have aj:q.length<=sumOf Tm.xr q:=Y5 fun t _=>t.Yv
 refine⟨⟨k,⟨p,A,ag,q⟩,rl,l,r⟩,?_,⟨⟨⟨af,by show q.length*48<=_;omega⟩,X.1,Y.1⟩,⟨hQ,X.2,Y.2⟩⟩,?_⟩
 ·have e7:=XV ((L.drop 1).take 2) 0 1 1 rfl;rw[XV ((L.drop 1).take 2) 1 1 2 rfl,e5,e6,zqc (i:=2) (by rw[zp3];omega)]at e7;have h:=XV L 0 1 1 rfl;rw[zrm]at e7;rw[XV L 1 2 3 rfl,XV L 3 1 4 rfl,XV L 4 6 10 rfl,XV L 10 6 16 rfl,e0,e7,e2,e3,e4,zqc (i:=16) zd]at h;rw[zrm]at h;rw[h];simp[Li.cells]
 ·have h1:Rows.uptoBulk O.1=(p.size+1+(Rows.uptoBulk U.1+0))+1:=by rw[ae,x5,Rows.uptoBulk,Rows.uptoBulkAll,Rows.uptoBulkAll,Rows.uptoBulkAll,GD]
  have h2:Rows.uptoBulk x.1=(Rows.uptoBulk y0.1+(Rows.uptoBulk O.1+(Rows.uptoBulk y2.1+(Rows.uptoBulk Z.1+(Rows.uptoBulk y4.1+0)))))+1:=by rw[ad,Rows.uptoBulk,Rows.uptoBulkAll,Rows.uptoBulkAll,Rows.uptoBulkAll,Rows.uptoBulkAll,Rows.uptoBulkAll,Rows.uptoBulkAll]
  show(p.size+sumOf Tm.xr q)+(l.xr+r.xr)<=_;omega
theorem zjC{O:List Value}{x:DataW H×List MemPlace}(hf:DataW.trod enc prog W 0 (fun _=>true) true fuel 25 O=some x)(hs:Rows.uptoBulk x.1<=1048576):∃r:Ru,O=r.cells/\r.zN W/\(∀x∈r.body,x.Xi)/\r.xr+1<=Rows.uptoBulk x.1:=by
 obtain⟨xs,fu,aj,hx,hl,Z,L⟩:=DataW.trod_struct underlying25 hf;have ae:O.length=3:=hl.trans zo;have h0:=L 0 _ rfl;have h1:=L 1 _ rfl;have h2:=L 2 _ rfl;obtain⟨y0,X,Y,rfl⟩:=zad (show xs.length=3 from Z);have t0:DataW.trod enc prog W 0 (fun _=>true) true fu 9 ((O.drop 0).take 1)=some y0:=h0;have t1:DataW.trod enc prog W 0 (fun _=>true) true fu 22 ((O.drop 1).take 1)=some X:=h1;have t2:DataW.trod enc prog W 0 (fun _=>true) true fu 23 ((O.drop 2).take 1)=some Y:=h2;have aa:Rows.uptoBulk x.1=Rows.uptoBulk (.agg [y0.1,X.1,Y.1]):=by rw[hx];rfl
 have N:∀d∈[y0.1,X.1,Y.1],Rows.uptoBulk d<=1048576:=fun d I=>by have:=Gm I;omega
 obtain⟨p,e0,x0,_⟩:=DataW.trod_string underlying9 t0;obtain⟨A,ab,I,e1,V,_,ad⟩:=UI (c:=4) Ar.cells (fun _=>True) Ar.xr (fun a=>rfl) underlying22 zo t1 (N _ zp) (fun n ac y hn ht U=>by
  obtain⟨a,h1,h2⟩:=znZ ht;exact⟨a,h1,trivial,h2⟩)
 obtain⟨B,zM,q,e2,R,hQ,af⟩:=UI (c:=15) Li.cells (fun l=>l.zN W/\l.Xi) Li.xr (fun l=>l.xG) underlying23 zo t2 (N _ zp) (fun n ac y hn ht U=>zhv ht U);have ah:=N X.1 zp;have ag:=N Y.1 zp;have ai:I.length<=sumOf Ar.xr I:=Y5 fun a _=>a.t.Yv
 have ac:q.length<=sumOf Li.xr q:=Y5 fun x _=>by have:=x.Yv;omega
 refine⟨⟨p,A,ab,I,B,zM,q⟩,?_,⟨V,by show I.length*56<=_;omega,R,by show q.length*216<=_;omega,fun y U=>(hQ y U).1⟩,fun y U=>(hQ y U).2,?_⟩
 ·have h:=XV O 0 1 1 rfl;rw[XV O 1 1 2 rfl,XV O 2 1 3 rfl,e0,e1,e2,zqc (i:=3) zd]at h;exact h
 ·show p.size+(sumOf Ar.xr I+sumOf Li.xr q)+1<=_;rw[aa,x0,Rows.uptoBulk,Rows.uptoBulkAll,Rows.uptoBulkAll,Rows.uptoBulkAll,Rows.uptoBulkAll,GD];omega
theorem zhW{x:DataW H×List MemPlace}(hf:DataW.trod enc prog W 0 (fun _=>true) true fuel 71 L=some x)(hs:Rows.uptoBulk x.1<=1048576):∃f:Fa,L=f.cells/\(f.zN W/\∀v∈f.args,v.Xi)/\f.xr<=Rows.uptoBulk x.1:=by
 obtain⟨xs,Z,ad,hx,hl,O,I⟩:=DataW.trod_struct underlying71 hf;have aa:L.length=2:=hl.trans zo;have h0:=I 0 _ rfl;have h1:=I 1 _ rfl;obtain⟨V,N,rfl⟩:=TI (show xs.length=2 from O);have t0:DataW.trod enc prog W 0 (fun _=>true) true Z 9 ((L.drop 0).take 1)=some V:=h0;have t1:DataW.trod enc prog W 0 (fun _=>true) true Z 69 ((L.drop 1).take 1)=some N:=h1;have R:Rows.uptoBulk x.1=Rows.uptoBulk (.agg [V.1,N.1]):=by rw[hx];rfl
 have X:Rows.uptoBulk N.1<=1048576:=by
  have:=Gm (l:=[V.1,N.1]) (d:=N.1) zp;omega
 obtain⟨p,e0,x0,_⟩:=DataW.trod_string underlying9 t0;obtain⟨A,U,q,e1,Y,hQ,hM⟩:=UI (c:=2) Vl.cells (fun v=>v.Xi) Vl.xr (fun a=>rfl) underlying69 zo t1 X (fun n ab y hn ht ac=>zc6 ht);have ab:q.length<=sumOf Vl.xr q:=Y5 fun v _=>by unfold Vl.xr;omega
 refine⟨⟨p,A,U,q⟩,?_,⟨⟨Y,by show q.length*32<=_;omega⟩,hQ⟩,?_⟩
 ·have h:=XV L 0 1 1 rfl;rw[XV L 1 1 2 rfl,e0,e1,zqc (i:=2) zd]at h;exact h
 ·show p.size+(sumOf Vl.xr q+1)<=_;rw[R,x0,Rows.uptoBulk,Rows.uptoBulkAll,Rows.uptoBulkAll,Rows.uptoBulkAll,GD];omega
theorem zmz{q:List Value}{x:DataW H×List MemPlace}(I:DataW.trod enc prog W 0 (fun _=>true) true fuel 26 q=some x)(O:Rows.uptoBulk x.1<=1048576):
 ∃(A:Option Addr) (h:Nat) (l:List Fa),q=[.slice A l.length h]/\zZ Fa.cells W A l/\(∀f∈l,f.zN W/\∀v∈f.args,v.Xi)/\sumOf Fa.xr l+1<=Rows.uptoBulk x.1:=
 UI (c:=1) Fa.cells _ Fa.xr (fun a=>rfl) underlying26 zo I O (fun n L y R N h=>zhW N h)
end
end
section
open Go Go.ChangeShapes Go.WideShapes Go.ChangeAt Go.RowKit Go.Deep
section
variable {W:World}{base:Nat}
theorem zdc{N:Nat}(O:prog.underlying t=some (.slice e))(h:Cell.okWide prog W .any base t (.slice A N cap)):qV (·<W.heap.size) A:=by
 cases A with
 |none=>intro g q;cases q
 |some a=>
  unfold Cell.okWide at h;rw[O]at h;simp only at h;unfold Cell.ok at h;rw[O]at h;simp only at h;obtain⟨_,_,_,_,R,L,I,_⟩:=h;intro g q;simp only[zw,zqh,zqU,zpy]at q;subst q;unfold World.shape? at I
  rcases hb:W.heap[a.block]? with _|o
  ·rw[hb]at I;cases I
  ·exact(zpN.1 hb).1
theorem zjM{q:Nat}(I:prog.underlying t=some (.slice e))(h:Value.okWide prog W .any base t (.slice A q cap)):qV (·<W.heap.size) A:=by
 simp only[Value.okWide,I]at h;exact zdc I h
theorem one_cell{x:Value}(I:prog.underlying t=some (.slice e))(h:Value.okWide prog W .any base t v)(N:v.cells.toList=[x]):v=x:=by
 obtain⟨a,L,q,rfl⟩:=okWide_slice I h;simpa[Value.cells]using N
theorem znP(h:Value.okWide prog W .any base 25 v):∃N,v=.agg N/\∀A L I,N[2]? = some (.slice A L I)->qV (·<W.heap.size) A:=by
 simp only[Value.okWide,underlying25]at h;obtain⟨N,rfl,_,Y,O,_,X⟩:=h;have q:prog.cellTypes prog.depth 25=some [9,22,23]:=zo;obtain rfl:=zqB (q.symm.trans O);refine⟨N,rfl,fun A L I U=>?_⟩;obtain⟨u,V,R⟩:=X 2 _ U;obtain rfl:23=u:=zqB V;exact zdc underlying23 R
end
end
section
open Go Go.ChangeShapes Go.WideShapes Go.ChangeAt Go.RowKit
theorem g32:prog.globalNamed "math/bits.deBruijn32tab"=some 0:=zo
theorem t32:(prog.globals[(0:Nat)]?).map (·.type)=some 365:=zo
theorem zga:prog.globalNamed "internal/strconv.uint64pow10"=some 3:=zo
theorem zkw:(prog.globals[(3:Nat)]?).map (·.type)=some 428:=zo
theorem zeA{P:Program}{w:World}{s:String}{g:Nat}{I:Array Value}(O:P.globalNamed s=some g)(h:w.var? P s=some I):∃t q,w.heap[g]? = some (.cells I t q):=by
 unfold World.var? at h;rw[O]at h;simp only[zrv]at h;split at h
 ·rename_i L t q N;injection h with h
  subst h;exact⟨t,q,N⟩
 ·cases h
theorem zhZ(h:laidMetH prog [("math/bits.deBruijn32tab",Rows.laid_math_bits_deBruijn32tab),("math/bits.deBruijn64tab",Rows.laid_math_bits_deBruijn64tab),("internal/strconv.uint64pow10",Rows.laid_internal_strconv_uint64pow10)] W):Tz W/\Pw W:=by
 rw[MakeChecks.laidMetH_plain _ _ _ zo]at h;obtain⟨ps,⟨g0,t0,q,f0,p0,q0,Y,Z,I,aa,⟨g1,t1,af,f1,p1,q1,ac,ae,ab,ad,⟨g2,t2,R,f2,p2,q2,V,X,U,O,_,_⟩,_⟩,_⟩,_,_⟩:=h;obtain rfl:=zqB (g32.symm.trans Y);obtain rfl:=zqB (t32.symm.trans Z);obtain rfl:=zqB (zga.symm.trans V);obtain rfl:=zqB (zkw.symm.trans X);have L:DataW.trod _ prog W 0 _ _ f0 365 q.toList=some (Lib.tabData .u8 (Lib.deBruijn32tab.map fun n:Nat=>(n:Int)),p0):=aa;have N:DataW.trod _ prog W 0 _ _ f2 428 R.toList=some (Lib.tabData .u64 Lib.pow10Tab,p2):=O;have e0:=Lib.cells_of_tab (n:=32) underlying365 underlying5 zo (zo) L;have e2:=Lib.cells_of_tab (n:=20) underlying428 underlying333 zo (zo) N;obtain⟨u0,r0,b0⟩:=zeA g32 I;obtain⟨u2,r2,b2⟩:=zeA zga U;refine⟨⟨(zpN.1 b0).1,fun j hj=>?_⟩,⟨(zpN.1 b2).1,u2,r2,?_⟩⟩
 ·have h:=World.var?_cell g32 I j;rw[h];have h2:q[j]? = q.toList[j]?:=zp;rw[h2,e0,zqt,zqt];have hl:j<Lib.deBruijn32tab.length:=hj;rw[zpF hl,zpW,zpF hl];rfl
 ·rw[b2,<-e2]
theorem zj9(h:W.ShapedOpen prog):∃q,Tk W q:=by
 have hz:(((begin prog (fun _ _=>0) default).world.heap[(2:Nat)]?).bind Obj.row?)=some (Array.replicate 11 (.int .i8 0),402):=zo;obtain⟨q,Y,Z,V⟩:=h.1 2 _ _ (of_decide_eq_true zo) hz;obtain⟨ts,X,_,I⟩:=V zo;have L:prog.cellTypes prog.depth 402=some (List.replicate 11 34):=zo;obtain rfl:=zqB (L.symm.trans X);have Z:q.size=11:=Z;have O:∀j,j<11->∃n,q[j]? = some (.int .i8 n):=fun j hj=>by
  have N:j<q.size:=zd;obtain⟨u,hu,R⟩:=I j q[j] (zqD N);have U:u=34:=by
   have h:=zqE hu;exact(List.mem_replicate.1 h).2
  subst U;unfold Cell.ok at R;rw[underlying34]at R;rw[zqD N];generalize q[j]=v at R
  cases v<;>simp only at R
  rename_i k n;obtain⟨rfl,_⟩:=R;exact⟨n,rfl⟩
 refine⟨fun j=>match q[j]? with|some (.int _ n)=>n|_=>0,(zpN.1 Y).1,fun j hj=>?_⟩;obtain⟨n,N⟩:=O j hj;rw[N];exact(cell_of_row _ _ j q _ _ Y).trans N
end
end Go.Proofs.YtfdickkdlcgicaaGreatDoor.C
namespace Go.Proofs.YtfdickkdlcgicaaGreatDoor.joinCuts
open Go.Proofs.Tryz Go Go.RowKit Go.Maps Go.WideMaps
variable {v:Value}
section
open Go Go.ChangeShapes Go.WideShapes Go.ChangeAt Go.WideMaps Go.WideElems Go.RowKit
theorem e1:(Rows.joinCutsUptoRow.wf (OpenSpec.ofChange (Rows.OpenSpec.upto Rows.joinCutsSpec).bare))=true:=zo
theorem e2:(laidOutB prog)=true:=zo
theorem e3:(mapsRowed prog)=true:=zo
theorem e4:(Tryz.f3.params.all (prog.readableRec ·))=true:=zo
theorem e5:(namedTie prog Rows.joinCutsUptoRow.named ((Rows.OpenSpec.upto Rows.joinCutsSpec).bare).vars)=true:=zo
theorem e6:(Rows.joinCutsUptoRow.stops==[])=true:=zo
theorem e7:(prog.stops==[])=true:=zo
theorem e8:(Rows.joinCutsUptoRow.knobs==[])=true:=zo
theorem e9:(prog.stopKnobs==[])=true:=zo
theorem e10:(Rows.joinCutsUptoRow.inPlace==prog.inPlace 3)=true:=zo
theorem e11:(Rows.joinCutsUptoRow.unfollowed==prog.unfollowed 3)=true:=zo
theorem e12:(Rows.joinCutsUptoRow.recurses==prog.recurses 3)=true:=zo
theorem e13:(Rows.joinCutsUptoRow.named==prog.varsNamed 3)=true:=zo
theorem e14:(Rows.joinCutsUptoRow.maps==(Tryz.f3.params.toList++((Rows.OpenSpec.upto Rows.joinCutsSpec).bare).plain.varTypes prog).any (prog.mapsRec ·))=true:=zo
theorem JQ:(Rows.joinCutsUptoRow.ifaces==(Tryz.f3.params.toList++((Rows.OpenSpec.upto Rows.joinCutsSpec).bare).plain.varTypes prog).any (prog.ifacesRec ·))=true:=zo
theorem e16:(Rows.joinCutsUptoRow.mapsOut==prog.mapsAmong Tryz.f3.resultTypes.toList)=true:=zo
theorem e17:(Rows.joinCutsUptoRow.loops==(Tryz.f3.params.toList++((Rows.OpenSpec.upto Rows.joinCutsSpec).bare).plain.varTypes prog).any (prog.loopsFrom ·))=true:=zo
theorem e18:(Rows.joinCutsUptoRow.wideKeys==(Tryz.f3.params.toList++((Rows.OpenSpec.upto Rows.joinCutsSpec).bare).plain.varTypes prog++Tryz.f3.resultTypes.toList).any (prog.wideKeysFrom ·))=true:=zo
theorem e19:(((Rows.OpenSpec.upto Rows.joinCutsSpec).bare).vars.all (prog.varReadable ·))=true:=zo
theorem e20:(Tryz.f3.resultTypes.all (fun t=>prog.readableRec t&&decide (t<prog.types.size)))=true:=zo
theorem e21:(Rows.joinCutsUptoRow.ifacesOut==Tryz.f3.resultTypes.toList.any (prog.ifacesRec ·))=true:=zo
theorem e22:(Rows.joinCutsUptoRow.loopsOut==Tryz.f3.resultTypes.toList.any (prog.loopsFrom ·))=true:=zo
theorem e23:(Rows.joinCutsUptoRow.plainKeys==prog.plainKeys)=true:=zo
theorem e24:(Rows.joinCutsUptoRow.shortTexts.isNone)=true:=zo
theorem e25:(prog.stopsHeard)=true:=zo
theorem e26:(prog.mayEnter)=true:=zo
theorem e27:(Rows.joinCutsUptoRow.lifted==prog.liftsFinal)=true:=zo
theorem e28:(prog.make==some Rows.joinCutsUptoRow.make)=true:=zo
theorem e30:(Rows.joinCutsUptoRow.pinned==Rows.joinCutsUptoRow.pinnedBy)=true:=zo
theorem e31:(Rows.joinCutsUptoRow.veiled==(Tryz.f3.params.toList++((Rows.OpenSpec.upto Rows.joinCutsSpec).bare).plain.varTypes prog++Tryz.f3.resultTypes.toList).any (prog.veiledRec ·))=true:=zo
theorem TA:(Rows.joinCutsUptoRow.veiledFits prog Tryz.f3.params.toList (Tryz.f3.params.toList++((Rows.OpenSpec.upto Rows.joinCutsSpec).bare).plain.varTypes prog++Tryz.f3.resultTypes.toList))=true:=zo
theorem closed:joinedFacts prog 3 Tryz.f3 ((Rows.OpenSpec.upto Rows.joinCutsSpec).bare) Rows.joinCutsUptoRow=true:=by
 unfold joinedFacts;rw[e1,e2,e3,e4,e5,e6,e7,e8,e9,e10,e11,e12,e13,e14,JQ,e16,e17,e18,e19,e20,e21,e22,e23,e24,e25,e26,e27,e28,if_pos (show Rows.joinCutsUptoRow.domain.isEmpty=true from rfl),show(Rows.joinCutsUptoRow.kinds==[])=true from rfl,e30,e31,TA];rfl
theorem named:prog.funcNamed "pedigree/pedigreelaw13.JoinCuts"=some 3:=zo
theorem inst:Tryz.f3.isInstance prog Rows.joinCutsUptoRow.origin Rows.joinCutsUptoRow.targs:=of_decide_eq_true zo
theorem wrap:Tryz.f3.isWrapper prog Rows.joinCutsUptoRow.wrapper Rows.joinCutsUptoRow.mainSum:=by
 unfold Func.isWrapper
 first |(rw[if_pos (by decide +kernel)];kernel_rfl) |(rw[if_neg (by decide +kernel)];exact⟨rfl,rfl⟩)
theorem own:ownKnob prog.godebug=none:=zo
theorem c1:Rows.joinCutsUptoRow.wfByText (Rows.OpenSpec.upto Rows.joinCutsSpec)=true:=zo
theorem c3:true=prog.looks []:=zo
theorem c4:([25,26,28].all fun u=>!prog.wantsStandIn u)=true:=zo
theorem c5:false=Rows.joinCutsUptoRow.goesBy prog:=zo
end
section
open Go Go.ChangeShapes Go.WideShapes Go.ChangeAt Go.WideMaps Go.WideElems Go.RowKit Go.Deep
section
variable {W:World}{base:Nat}
theorem zej(h:Cell.okWide prog W .any base 3 v):∃n:Int,v=.int .i64 n:=by
 unfold Cell.okWide at h;rw[underlying3]at h;simp only at h;unfold Cell.ok at h;rw[underlying3]at h
 cases v<;>simp only at h
 exact⟨_,by rw[h.1]⟩
theorem zit(h:Value.okWide prog W .any base 28 v):∃a b:Int,v=.agg #[.int .i64 a,.int .i64 b]:=by
 simp only[Value.okWide,underlying28]at h;obtain⟨I,rfl,Z,ts,O,_,X⟩:=h;have q:prog.cellTypes prog.depth 28=some [3,3]:=zo;obtain rfl:=zqB (q.symm.trans O);have R:prog.cellsOf 28=2:=zo;rw[R]at Z;have V:I[0]? = some (I[0]' zd):=zqD zd;have U:I[1]? = some (I[1]' zd):=zqD zd;obtain⟨u,N,L⟩:=X 0 _ V;obtain rfl:3=u:=zqB N;obtain⟨x,hx⟩:=zej L;obtain⟨u,N,L⟩:=X 1 _ U;obtain rfl:3=u:=zqB N;obtain⟨y,Y⟩:=zej L;refine⟨x,y,congrArg Value.agg (Array.ext_getElem? fun i=>?_)⟩
 match i with
 |0=>rw[V,hx];rfl
 |1=>rw[U,Y];rfl
 |i+2=>rw[zqN zd,zqN zp]
end
theorem zlH(H:Type)(enc:TypeId×Value->H)(W:World)(base:Nat)(args:Array Value)(ds gs:List (DataW H))(N:List MemPlace)(U:∀(j:Nat) t v,Tryz.f3.params[j]? = some t->args[j]? = some v->Value.okWide prog W .any base t v)(hW:DataW.Whole enc prog Tryz.f3.params.toList Rows.joinCutsSpec.vars false W args.toList ds gs N)(hk:Rows.uptoSmall H (ds++gs)=true)(hL:laidMetH prog Rows.joinCutsUptoRow.laid W)(hS:W.ShapedOpen prog):
 Calls prog 3 args W fun e W'=>∃v,e=.returned v/\Rows.joinCutsSpec.post enc prog Tryz.f3 false true false false W args v W':=by
 have ak:=hW;obtain⟨p,q,ah,hV,rfl,an,ao⟩:=hW;have hA:DataW.TrodAll enc prog W 0 (fun _=>true) true Tryz.f3.params.toList args.toList ds p:=ah;have I:=U;rw[params3]at hA I;obtain⟨v0,v1,v2,d0,d1,d2,p0,p1,p2,rfl,rfl,rfl,O,R,L⟩:=trodAll_three hA;obtain⟨rfl,rfl⟩:=trodVars_none hV;have k0:=O;have k1:=R;have k2:=L;have ae:∀x∈p0,x.block<W.heap.size:=by obtain⟨m,Z⟩:=k0;exact DataW.trod_lt m _ _ _ Z
 have ag:∀x∈p1,x.block<W.heap.size:=by obtain⟨m,Z⟩:=k1;exact DataW.trod_lt m _ _ _ Z
 have am:∀x∈p2,x.block<W.heap.size:=by obtain⟨m,Z⟩:=k2;exact DataW.trod_lt m _ _ _ Z
 have hb:Rows.uptoBulk d0+(Rows.uptoBulk d1+(Rows.uptoBulk d2+0))<=1048576:=by
  have:=of_decide_eq_true hk;simpa only[zpJ,zpI,Rows.uptoBulkAll]using this
 obtain⟨f0,t0⟩:=O;obtain⟨f1,t1⟩:=R;obtain⟨f2,t2⟩:=L;obtain⟨cs,rfl,ab⟩:=C.znP (I 0 25 v0 rfl rfl);obtain⟨r,hr,ai,aa,ad⟩:=C.zjC t0 (show Rows.uptoBulk d0<=1048576 from zd);have L:cs=r.cells.toArray:=by
  have:cs.toList=r.cells:=hr;rw[<-this,Array.toArray_toList]
 subst L;obtain⟨F,O,V,hF,al,X,Y⟩:=C.zmz t1 (show Rows.uptoBulk d1<=1048576 from zd);obtain⟨li,ct,rfl⟩:=zit (I 2 28 v2 rfl rfl);obtain rfl:v1=.slice F V.length O:=C.one_cell underlying26 (I 1 26 v1 rfl rfl) hF;have ad:r.xr+1<=Rows.uptoBulk d0:=ad;have Y:C.sumOf C.Fa.xr V+1<=Rows.uptoBulk d1:=Y;have g:C.VK r V:=C.zhY aa zd (fun f L=>(X f L).2) zd;obtain⟨tk,ac⟩:=C.zj9 hS;obtain⟨af,aj⟩:=C.zhZ hL;have R:C.UT W r F V tk:=⟨ai,ab _ _ _ rfl,⟨al,fun f L=>⟨(X f L).1.rd,(g.facts f L).1,(g.facts f L).2.1,(g.facts f L).2.2⟩⟩,C.zjM underlying26 (I 1 26 _ rfl rfl),aj,af,ac,ac.lt⟩;refine(C.zm7 (fun W tk _ _ h=>C.zjz W tk h) W r F V tk g R O V.length rfl li ct).mono fun e W' ⟨he,L⟩=>?_
 subst he;exact⟨_,rfl,_,_,_,[],_,[],ak,trodAll_mk1 (shut_bool underlying4 _),trodAll_mk3 (Below.trod e2 zo (of_decide_eq_true zo) k0 L ae) (Below.trod e2 zo (of_decide_eq_true zo) k1 L ag) (Below.trod e2 zo (of_decide_eq_true zo) k2 L am),rfl,L.frame _,fun h=>by cases h⟩
end
