/-
  What came in, opened: a rule, facts, numbers: how they lie a
-/
import Derived.ChangeArms
import Derived.Deep.Slices
import Derived.Deep.Strs
import Derived.SizedLaws
import Derived.RowKit
import Derived.ProofKit
import Derived.LaidMore
import Derived.MakeChecks
import Derived.Lib.LaidTab
import Derived.OpenShut
import Derived.Stop.Joined
import Derived.SevenTiedAt
import Derived.Test.YtfdickkdlcgicaaGreatDoorP40
import Derived.Test.YtfdickkdlcgicaaGreatDoorP42
import Derived.Deep.DeepHandedRow
import Derived.Deep.DeepWitnessRowRef
import Derived.ChangeOld
set_option maxRecDepth 100000
set_option maxHeartbeats 8000000
set_option linter.all false
namespace Go.Proofs.YtfdickkdlcgicaaGreatDoor.C
open Go.Proofs.Tryz Go Go.RowKit Go.Maps Go.WideMaps
variable {A:Option Addr}{B α:Type}{W:World}{cap fuel:Nat}{e t:TypeId}{n:Int}{q r:List Value}{v:Value}
section
open Go Go.ChangeShapes Go.WideShapes Go.ChangeAt Go.RowKit Go.Deep
theorem zbl(a:Addr)(n:Nat)(h:a.spot=none):a.add n=⟨a.block,a.off+n,none⟩:=by
 unfold Addr.add;split
 ·rename_i q;subst q;cases a;simp_all
 ·rfl
theorem zib(a:Addr)(h:a.spot=none):a=⟨a.block,a.off,none⟩:=by cases a;simp at h;subst h;rfl
theorem zew{α:Type}{Q:Nat->α->Prop}:∀n:Nat,(∀i,i<n->∃u,Q i u)->∃q:List α,q.length=n/\∀i (h:i<q.length),Q i q[i]
 |0,_=>⟨[],rfl,fun i h=>by simp at h⟩
 |n+1,h=>by
  obtain⟨q,I,N⟩:=zew n (fun i r=>h i zd);obtain⟨u,O⟩:=h n zd;refine⟨q++[u],by simp[I],fun i r=>?_⟩;rw[zo1]at r
  by_cases L:i<q.length
  ·simp only[zqD L];exact N i L
  ·obtain rfl:i=q.length:=by simp at r;omega
   simp only[List.getElem_append_right (zoZ _),zqw,List.getElem_singleton];rw[I];exact O
theorem XJ(l:List Value)(k m j:Nat)(h:k+m=j):l.drop k=(l.drop k).take m++l.drop j:=by
 subst h;rw[<-List.drop_drop,zpL]
theorem Tj:∀{xs:List B},xs.length=2->∃h q,xs=[h,q]
 |[h,q],_=>⟨h,q,rfl⟩
theorem DM:∀{xs:List B},xs.length=3->∃h q r,xs=[h,q,r]
 |[h,q,r],_=>⟨h,q,r,rfl⟩
theorem zfI:∀{xs:List B},xs.length=5->∃h I L r q,xs=[h,I,L,r,q]
 |[h,I,L,r,q],_=>⟨h,I,L,r,q,rfl⟩
def sumOf{α:Type}(M:α->Nat):List α->Nat
 |[]=>0
 |x::l=>M x+sumOf M l
theorem Um{α:Type}{M:α->Nat}{x:α}:∀{l:List α},x∈l->M x<=sumOf M l
 |y::l,h=>by
  unfold sumOf
  rcases zpp.1 h with rfl|h
  ·omega
  ·have:=Um (M:=M) h;omega
theorem YS{α:Type}{M:α->Nat}:∀{l:List α},(∀x∈l,1<=M x)->l.length<=sumOf M l
 |[],_=>zo5 _
 |y::l,h=>by
  have I:=h y zpi;have r:=YS (M:=M) fun x q=>h x (zpj _ q)
  rw[zpn];unfold sumOf;omega
theorem zfa{α β:Type}{M:α->Nat}{g:α->List β}:∀{l:List α},(∀x∈l,(g x).length<=M x)->(l.flatMap g).length<=sumOf M l
 |[],_=>zo5 _
 |y::l,h=>by
  have I:=h y zpi;have r:=zfa (M:=M) (g:=g) fun x q=>h x (zpj _ q)
  rw[zps,zo1];unfold sumOf;omega
def Vl.xr(x:Vl):Nat:=x.s.size+1
def Tm.xr(t:Tm):Nat:=t.v.size+t.x.xr
mutual
def Ex.xr:Ex->Nat
 |.mk _ t _ _ h=>t.xr+Ex.ZE h
def Ex.ZE:List Ex->Nat
 |[]=>0
 |e::h=>e.xr+Ex.ZE h
end
def At.xr(a:At):Nat:=a.p.size+sumOf Tm.xr a.args
def Li.xr(x:Li):Nat:=x.a.xr+(x.l.xr+x.r.xr)
def Ar.xr(a:Ar):Nat:=a.t.xr
def Ru.xr(r:Ru):Nat:=r.p.size+(sumOf Ar.xr r.head+sumOf Li.xr r.body)
def Fa.xr(f:Fa):Nat:=f.p.size+(sumOf Vl.xr f.args+1)
theorem Ex.zay:∀l:List Ex,Ex.ZE l=sumOf Ex.xr l
 |[]=>by rw[Ex.ZE];rfl
 |e::h=>by rw[Ex.ZE,Ex.zay h];rfl
theorem Tm.Yl(t:Tm):1<=t.xr:=by unfold Tm.xr Vl.xr;omega
theorem Ex.Yl:∀e:Ex,1<=e.xr
 |.mk _ t _ _ _=>by rw[Ex.xr];have:=t.Yl;omega
theorem Li.Yl(x:Li):2<=x.xr:=by unfold Li.xr;have:=x.l.Yl;have:=x.r.Yl;omega
mutual
theorem Ex.Ge:∀e:Ex,e.zN.length<=e.xr
 |.mk _ t _ _ h=>by
  rw[Ex.zN,Ex.xr,zpn];have:=t.Yl;have:=Ex.zeu h;omega
theorem Ex.zeu:∀l:List Ex,(Ex.qp l).length<=Ex.ZE l
 |[]=>by rw[Ex.qp];exact zo5 _
 |e::h=>by
  rw[Ex.qp,Ex.ZE,zo1];have:=Ex.Ge e;have:=Ex.zeu h;omega
end
mutual
theorem Ex.J0:∀(e:Ex)(t:Tm),t∈e.zN->t.xr<=e.xr
 |.mk _ r _ _ q,t,h=>by
  rw[Ex.zN]at h;rw[Ex.xr]
  rcases zpp.1 h with rfl|h
  ·omega
  ·have:=Ex.zem q t h;omega
theorem Ex.zem:∀(l:List Ex)(t:Tm),t∈Ex.qp l->t.xr<=Ex.ZE l
 |[],t,h=>by rw[Ex.qp]at h;cases h
 |e::q,t,h=>by
  rw[Ex.qp]at h;rw[Ex.ZE]
  rcases zo7.1 h with h|h
  ·have:=Ex.J0 e t h;omega
  ·have:=Ex.zem q t h;omega
end
theorem Li.Ge(x:Li):x.zN.length<=x.xr:=by
 unfold Li.zN Li.xr At.xr;rw[zo1,zo1];have:=YS (M:=Tm.xr) (l:=x.a.args) fun t _=>t.Yl
 have:=x.l.Ge;have:=x.r.Ge;omega
theorem Li.J0{x:Li}{t:Tm}(h:t∈x.zN):t.xr<=x.xr:=by
 unfold Li.zN at h;unfold Li.xr At.xr
 rcases zo7.1 h with h|h
 ·have:=Um (M:=Tm.xr) h;omega
 ·rcases zo7.1 h with h|h
  ·have:=Ex.J0 _ _ h;omega
  ·have:=Ex.J0 _ _ h;omega
structure Vl.y9 (x:Vl):Prop where
 k0:-128<=x.k
 k1:x.k<=127
 n0:-9223372036854775808<=x.n
 n1:x.n<=9223372036854775807
theorem Vl.y9.told{x:Vl}(h:x.y9)(q:x.xr<=1048576):x.told:=⟨h.k0,h.k1,h.n0,h.n1,by unfold Vl.xr at q;omega⟩
mutual
def Ex.y9:Ex->Prop
 |.mk q t _ _ h=>(-128<=q/\q<=127)/\t.x.y9/\Ex.Un h
def Ex.Un:List Ex->Prop
 |[]=>True
 |e::h=>e.y9/\Ex.Un h
end
theorem Ex.zc5:∀{l:List Ex},(∀e∈l,e.y9)->Ex.Un l
 |[],_=>by unfold Ex.Un;trivial
 |e::r,h=>by
  unfold Ex.Un;exact⟨h e zpi,Ex.zc5 fun x q=>h x (zpj _ q)⟩
mutual
theorem Ex.DA:∀(e:Ex),e.y9->e.xr<=1048576->e.may
 |.mk q t A N r,h,I=>by
  unfold Ex.y9 at h;rw[Ex.xr]at I;unfold Ex.may;have O:=t.Yl;have L:Ex.ZE r<=1048576:=zd;refine⟨h.1.1,h.1.2,h.2.1.told ?_,?_,Ex.zdI r h.2.2 L⟩
  ·unfold Tm.xr at I;omega
  ·rw[Ex.zay]at L;exact zpd (YS (M:=Ex.xr) fun e _=>e.Yl) L
theorem Ex.zdI:∀(l:List Ex),Ex.Un l->Ex.ZE l<=1048576->Ex.Y8 l
 |[],_,_=>by unfold Ex.Y8;trivial
 |e::r,h,I=>by
  unfold Ex.Un at h;rw[Ex.ZE]at I;unfold Ex.Y8;exact⟨Ex.DA e h.1 zd,Ex.zdI r h.2 zd⟩
end
structure Li.y9 (x:Li):Prop where
 a:∀t∈x.a.args,t.x.y9
 l:x.l.y9
 r:x.r.y9
theorem zbD:∀l:List Li,YV l<=sumOf Li.xr l
 |[]=>zo5 _
 |x::l=>by
  unfold YV sumOf;have q:=zbD l;have h:=YS (M:=Tm.xr) (l:=x.a.args) fun t _=>t.Yl
  have r:sumOf Tm.xr x.a.args<=x.xr:=by unfold Li.xr At.xr;omega
  omega
theorem zhn{r:Ru}{fs:List Fa}(V:∀x∈r.body,x.y9)(hb:r.xr<=1048575)(hf:∀f∈fs,∀v∈f.args,v.y9)(R:sumOf Fa.xr fs<=1048576):Jm r fs:=by
 have Y:r.p.size+(sumOf Ar.xr r.head+sumOf Li.xr r.body)<=1048575:=hb;have h:∀x∈r.body,x.xr<=sumOf Li.xr r.body:=fun x I=>Um I
 have L:∀t∈r.zN,t.xr<=1048575:=fun t q=>by
  unfold Ru.zN at q
  rcases zo7.1 q with q|q
  ·obtain⟨a,N,rfl⟩:=zpA.1 q;have:=Um (M:=Ar.xr) N;unfold Ar.xr at this;unfold Ar.xr at Y;omega
  ·obtain⟨x,I,q⟩:=zqg.1 q;have:=Li.J0 q;have:=h x I;omega
 have X:r.head.length<=sumOf Ar.xr r.head:=YS fun a _=>a.t.Yl
 have O:r.body.length<=sumOf Li.xr r.body:=YS fun x _=>by have:=x.Yl;omega
 have Z:(1048576:Nat)<=maxLen:=zr;refine⟨⟨zd,fun x I=>?_,fun t q=>?_⟩,?_,zd,zd,fun x I=>?_,?_,?_,fun f N=>?_⟩
 ·have:=h x I;have:x.a.p.size<=x.xr:=by unfold Li.xr At.xr;omega
  omega
 ·have:=L t q;have:t.v.size<=t.xr:=by unfold Tm.xr;omega
  omega
 ·unfold Ru.zN;rw[zo1,zph];have:=zfa (M:=Li.xr) (g:=Li.zN) (l:=r.body) fun x _=>x.Ge
  omega
 ·have U:=h x I;have h2:x.a.p.size+sumOf Tm.xr x.a.args+(x.l.xr+x.r.xr)<=sumOf Li.xr r.body:=U;have h3:=YS (M:=Tm.xr) (l:=x.a.args) fun t _=>t.Yl
  exact⟨Ex.DA _ (V x I).l zd,Ex.DA _ (V x I).r zd,zd,zd,fun t q=>((V x I).a t q).told (by
   have:=Um (M:=Tm.xr) q;have:t.x.xr<=t.xr:=by unfold Tm.xr;omega
   omega)⟩
 ·have:=zbD r.body;omega
 ·exact zpd (YS (M:=Fa.xr) fun f _=>by unfold Fa.xr;omega) R
 ·have U:=Um (M:=Fa.xr) N;have h2:f.p.size+(sumOf Vl.xr f.args+1)<=sumOf Fa.xr fs:=U;have h3:=YS (M:=Vl.xr) (l:=f.args) fun v _=>by unfold Vl.xr;omega
  exact⟨zd,zd,fun v hv=>(hf f N v hv).told (by have:=Um (M:=Vl.xr) hv;omega)⟩
section
variable {H:Type}{enc:TypeId×Value->H}{W:World}
theorem zbX{c b:Nat}:∀{rows:List (List Value)}{o:Nat},(∀r∈rows,r.length=c)->(∀(i:Nat)(r:List Value),rows[i]? = some r->W.rangeAt b (o+i*c) r)->W.rangeAt b o rows.flatten
 |[],_,_,_=>fun j v q=>by simp at q
 |r::rows,o,q,h=>by
  rw[List.flatten_cons];refine zcd (by have:=h 0 r rfl;simpa using this) ?_;rw[q r zpi];refine zbX (fun r L=>q r (zpj _ L)) fun i I N=>?_
  have:=h (i+1) I (by simpa using N);rw[Nat.add_mul,zq1,Nat.add_comm (i*c) c,<-zqd]at this;exact this
theorem zmS{f:α->List Value}{xs:List α}{i:Nat}(h:(xs.map f)[i]? = some r):∃x,xs[i]? = some x/\r=f x:=by
 rw[zpX,Option.map_eq_some_iff]at h;obtain⟨x,I,q⟩:=h;exact⟨x,I,q.symm⟩
theorem DO{d:DataW H}:∀{l:List (DataW H)},d∈l->Rows.uptoBulk d<=Rows.uptoBulkAll l
 |x::l,h=>by
  rw[Rows.uptoBulkAll]
  rcases zpp.1 h with rfl|h
  ·omega
  ·have:=DO h;omega
theorem zdz{α:Type}{M:α->Nat}:∀{l:List α}{es:List (DataW H)},es.length=l.length->(∀(i:Nat)(h:i<l.length)(q:i<es.length),M l[i]<=Rows.uptoBulk es[i])->sumOf M l<=Rows.uptoBulkAll es
 |[],_,_,_=>zo5 _
 |x::l,[],h,_=>by cases h
 |x::l,d::es,h,r=>by
  rw[Rows.uptoBulkAll];have q:=r 0 zp (zp);have I:=zdz (l:=l) (es:=es) (M:=M) (by simpa using h) fun i a b=>r (i+1) (by simpa using a) (by simpa using b)
  unfold sumOf;have q:M x<=Rows.uptoBulk d:=q;omega
theorem Uu{c:Nat}(I:α->List Value)(Q:α->Prop)(M:α->Nat)(O:∀a,(I a).length=c+1)(ht:prog.underlying t=some (.slice e))(hc:prog.cellsOf e=c+1){cs:List Value}{x:DataW H×List MemPlace}(hf:DataW.trod enc prog W 0 (fun _=>true) true fuel t cs=some x)(hs:Rows.uptoBulk x.1<=1048576)(Y:∀(n:Nat)(L:List Value)(y:DataW H×List MemPlace),n<fuel->DataW.trod enc prog W 0 (fun _=>true) true n e L=some y->Rows.uptoBulk y.1<=1048576->∃a:α,L=I a/\Q a/\M a<=Rows.uptoBulk y.1):
 ∃(A:Option Addr) (R:Nat) (l:List α),cs=[.slice A l.length R]/\zY I W A l/\(∀a∈l,Q a)/\sumOf M l+1<=Rows.uptoBulk x.1:=by
 rcases DataW.trod_slice ht hf with⟨rfl,hx⟩ |⟨a,ag,R,q,aa,n,rfl,rfl,hx,ak,hl,hm,V,ae,_,_⟩
 ·exact⟨none,0,[],rfl,fun h=>absurd rfl h,zp,by rw[hx];simp[sumOf,Rows.uptoBulk]⟩
 ·have aj:Rows.uptoBulk x.1=Rows.uptoBulkAll (q.map (·.1))+Rows.uptoBulkAll (aa.map (·.1))+1:=by rw[hx,Rows.uptoBulk]
  have ah:∀y∈q,Rows.uptoBulk y.1<=Rows.uptoBulkAll (q.map (·.1)):=fun y N=>DO (zpA.2 ⟨y,N,rfl⟩)
  obtain⟨l,U,N⟩:=zew (Q:=fun i (z:α)=>W.cells? 0 (a.add (i*(c+1))) (c+1)=some (I z)/\Q z/\∀h:i<q.length,M z<=Rows.uptoBulk q[i].1) ag (fun i Z=>by
   have h:=ae i Z;rw[hc,zo6 zd]at h;obtain⟨L,ab,ac⟩:=zqF.1 h;have ad:=ah _ (zo3 (show i<q.length from zd));obtain⟨z,rfl,X,hM⟩:=Y n L _ (Nat.lt_succ_self _) ac zd;exact⟨z,ab,X,fun _=>hM⟩)
  subst U;have hQ:∀z∈l,Q z:=fun z X=>by
   obtain⟨i,Z,rfl⟩:=zpl.1 X;exact(N i Z).2.1
  refine⟨some a,R,l,rfl,?_,hQ,?_⟩
  ·unfold zY;rw[zqV];intro ac;have h0:0<l.length:=by
    cases l with
    |nil=>simp at ac
    |cons z l=>simp
   obtain⟨_,ai,c0⟩:=World.cells?_some (N 0 h0).1;have L:=c0 0 zd;rw[zo6 zd]at L;have U:a.spot=none:=by
    have h:=World.cell?_spot L;rw[zqu]at h;exact h
   rw[Go.Deep.add_add,zbl a _ U]at L;have ab:=World.block_lt_of_cell? _ _ L;refine⟨a.block,a.off,congrArg some (zib a U),ab,zbX (c:=c+1) (fun r hr=>?_) fun i r Z=>?_⟩
   ·obtain⟨z,X,rfl⟩:=zpA.1 hr;exact O z
   ·obtain⟨z,X,rfl⟩:=zmS Z;obtain⟨ad,rfl⟩:=zpB.1 X;obtain⟨_,al,c1⟩:=World.cells?_some (N i ad).1;intro j v hj;have af:j<c+1:=by
     have:=(zpB.1 hj).1;have:=O l[i];omega
    have h:=c1 j af;rw[hj,Go.Deep.add_add,zbl a _ U,<-zqd]at h;exact h
  ·have:=zdz (l:=l) (es:=q.map (·.1)) (M:=M) (by rw[zph,V]) fun i U L=>by
    rw[zp4];exact(N i U).2.2 (by simpa using L)
   omega
theorem Gl{s:ByteArray}:Rows.uptoBulk (.lit (.string s.data.toList):DataW H)=s.size+1:=by
 rw[Rows.uptoBulk];show s.data.toList.length+1=_;rw[zqT];rfl
theorem zfc(h:(Lit.int .i8 n).wf=true):-128<=n/\n<=127:=by
 simp[Lit.wf,IntKind.min,IntKind.max,IntKind.signed,IntKind.bits]at h;omega
theorem zfr(h:(Lit.int .i64 n).wf=true):-9223372036854775808<=n/\n<=9223372036854775807:=by
 simp[Lit.wf,IntKind.min,IntKind.max,IntKind.signed,IntKind.bits]at h;omega
theorem zcv{x:DataW H×List MemPlace}(hf:DataW.trod enc prog W 0 (fun _=>true) true fuel 43 r=some x):∃v:Vl,r=v.cells/\v.y9/\v.xr<=Rows.uptoBulk x.1:=by
 obtain⟨xs,n,_,hx,hl,I,q⟩:=DataW.trod_struct underlying43 hf;have aa:r.length=3:=hl.trans zo;have Y:=q 0 _ rfl;have h1:=q 1 _ rfl;have X:=q 2 _ rfl;obtain⟨y0,Z,y2,rfl⟩:=DM (show xs.length=3 from I);have t0:DataW.trod enc prog W 0 (fun _=>true) true n 41 ((r.drop 0).take 1)=some y0:=Y;have t1:DataW.trod enc prog W 0 (fun _=>true) true n 2 ((r.drop 1).take 1)=some Z:=h1;have V:DataW.trod enc prog W 0 (fun _=>true) true n 9 ((r.drop 2).take 1)=some y2:=X;obtain⟨k,R,O,w0⟩:=DataW.trod_int underlying41 t0;obtain⟨m,e1,x1,U⟩:=DataW.trod_int underlying2 t1;obtain⟨s,e2,x2,_⟩:=DataW.trod_string underlying9 V;have N:=zfc w0;have L:=zfr U;refine⟨⟨k,m,s⟩,?_,⟨N.1,N.2,L.1,L.2⟩,?_⟩
 ·have h:=XJ r 0 1 1 rfl;rw[XJ r 1 1 2 rfl,XJ r 2 1 3 rfl,R,e1,e2,zpE (i:=3) zd]at h;exact h
 ·rw[hx,O,x1,x2];show s.size+1<=Rows.uptoBulk (.agg [.lit (.int .i8 k),.lit (.int .i64 m),.lit (.string s.data.toList)]);rw[Rows.uptoBulk,Rows.uptoBulkAll,Rows.uptoBulkAll,Rows.uptoBulkAll,Gl];omega
theorem DB{x:DataW H×List MemPlace}(X:DataW.trod enc prog W 0 (fun _=>true) true fuel 45 r=some x):∃t:Tm,r=t.cells/\t.x.y9/\t.xr<=Rows.uptoBulk x.1:=by
 obtain⟨xs,n,_,hx,hl,I,q⟩:=DataW.trod_struct underlying45 X;have Z:r.length=4:=hl.trans zo;have R:=q 0 _ rfl;have U:=q 1 _ rfl;obtain⟨y0,L,rfl⟩:=Tj (show xs.length=2 from I);have V:DataW.trod enc prog W 0 (fun _=>true) true n 9 ((r.drop 0).take 1)=some y0:=R;have Y:DataW.trod enc prog W 0 (fun _=>true) true n 43 ((r.drop 1).take 3)=some L:=U;obtain⟨v,O,N,_⟩:=DataW.trod_string underlying9 V;obtain⟨u,e1,hr,hb⟩:=zcv Y;refine⟨⟨v,u⟩,?_,hr,?_⟩
 ·have h:=XJ r 0 1 1 rfl;rw[XJ r 1 3 4 rfl,O,e1,zpE (i:=4) zd]at h;exact h
 ·rw[hx,N];show v.size+u.xr<=Rows.uptoBulk (.agg [.lit (.string v.data.toList),L.1]);rw[Rows.uptoBulk,Rows.uptoBulkAll,Rows.uptoBulkAll,Rows.uptoBulkAll,Gl];omega
theorem znr{x:DataW H×List MemPlace}(Y:DataW.trod enc prog W 0 (fun _=>true) true fuel 102 r=some x):∃a:Ar,r=a.cells/\a.xr<=Rows.uptoBulk x.1:=by
 obtain⟨xs,n,_,hx,hl,I,q⟩:=DataW.trod_struct underlying102 Y;have U:r.length=5:=hl.trans zo;have R:=q 0 _ rfl;have V:=q 1 _ rfl;obtain⟨y0,L,rfl⟩:=Tj (show xs.length=2 from I);have X:DataW.trod enc prog W 0 (fun _=>true) true n 100 ((r.drop 0).take 1)=some y0:=R;have Z:DataW.trod enc prog W 0 (fun _=>true) true n 45 ((r.drop 1).take 4)=some L:=V;obtain⟨g,O,N,_⟩:=DataW.trod_int underlying100 X;obtain⟨t,e1,_,hb⟩:=DB Z;refine⟨⟨g,t⟩,?_,?_⟩
 ·have h:=XJ r 0 1 1 rfl;rw[XJ r 1 4 5 rfl,O,e1,zpE (i:=5) zd]at h;exact h
 ·rw[hx,N];show t.xr<=Rows.uptoBulk (.agg [.lit _,L.1]);rw[Rows.uptoBulk,Rows.uptoBulkAll,Rows.uptoBulkAll,Rows.uptoBulkAll];omega
theorem J7{l:List (DataW H)}{d:DataW H}(h:d∈l):Rows.uptoBulk d<=Rows.uptoBulk (.agg l):=by
 rw[Rows.uptoBulk];have:=DO h;omega
theorem zet:∀(r:Nat){N:List Value}{x:DataW H×List MemPlace},DataW.trod enc prog W 0 (fun _=>true) true r 48 N=some x->Rows.uptoBulk x.1<=1048576->∃e:Ex,N=e.cells/\(e.zO W/\e.y9)/\e.xr<=Rows.uptoBulk x.1:=by
 intro r
 induction r using Nat.strongRecOn with
 |_ r ih=>
  intro N x hf hs;obtain⟨xs,X,ae,hx,hl,R,I⟩:=DataW.trod_struct underlying48 hf;have ad:N.length=6:=hl.trans zo;have h0:=I 0 _ rfl;have h1:=I 1 _ rfl;have h2:=I 2 _ rfl;obtain⟨y0,U,O,rfl⟩:=DM (show xs.length=3 from R);have t0:DataW.trod enc prog W 0 (fun _=>true) true X 40 ((N.drop 0).take 1)=some y0:=h0;have t1:DataW.trod enc prog W 0 (fun _=>true) true X 45 ((N.drop 1).take 4)=some U:=h1;have t2:DataW.trod enc prog W 0 (fun _=>true) true X 46 ((N.drop 5).take 1)=some O:=h2;have V:Rows.uptoBulk x.1=Rows.uptoBulk (.agg [y0.1,U.1,O.1]):=by rw[hx];rfl
  have Z:Rows.uptoBulk O.1<=1048576:=by
   have:=J7 (l:=[y0.1,U.1,O.1]) (d:=O.1) zp;omega
  obtain⟨q,e0,x0,w0⟩:=DataW.trod_int underlying40 t0;obtain⟨t,e1,hr,hb⟩:=DB t1;obtain⟨A,Y,L,e2,ab,hQ,hM⟩:=Uu (c:=5) Ex.cells (fun e=>e.zO W/\e.y9) Ex.xr (fun e=>e.xF) underlying46 zo t2 Z (fun n ac y hn ht aa=>ih n zd ht aa);have aa:L.length<=sumOf Ex.xr L:=YS fun e _=>e.Yl
  refine⟨.mk q t A Y L,?_,⟨?_,?_⟩,?_⟩
  ·have h:=XJ N 0 1 1 rfl;rw[XJ N 1 4 5 rfl,XJ N 5 1 6 rfl,e0,e1,e2,zpE (i:=6) zd]at h;exact h
  ·unfold Ex.zO;exact⟨ab,zd,Ex.qB.of fun e he=>(hQ e he).1⟩
  ·unfold Ex.y9;exact⟨zfc w0,hr,Ex.zc5 fun e he=>(hQ e he).2⟩
  ·rw[V,x0,Ex.xr,Ex.zay,Rows.uptoBulk,Rows.uptoBulkAll,Rows.uptoBulkAll,Rows.uptoBulkAll,Rows.uptoBulkAll];omega
theorem zgV{L:List Value}{x:DataW H×List MemPlace}(hf:DataW.trod enc prog W 0 (fun _=>true) true fuel 50 L=some x)(hs:Rows.uptoBulk x.1<=1048576):∃l:Li,L=l.cells/\(l.zO W/\l.y9)/\l.xr<=Rows.uptoBulk x.1:=by
 obtain⟨xs,V,am,hx,hl,ac,I⟩:=DataW.trod_struct underlying50 hf;have ah:L.length=16:=hl.trans zo;have h0:=I 0 _ rfl;have h1:=I 1 _ rfl;have h2:=I 2 _ rfl;have h3:=I 3 _ rfl;have h4:=I 4 _ rfl;obtain⟨y0,O,y2,Z,y4,rfl⟩:=zfI (show xs.length=5 from ac);have t0:DataW.trod enc prog W 0 (fun _=>true) true V 35 ((L.drop 0).take 1)=some y0:=h0;have t1:DataW.trod enc prog W 0 (fun _=>true) true V 38 ((L.drop 1).take 2)=some O:=h1;have t2:DataW.trod enc prog W 0 (fun _=>true) true V 39 ((L.drop 3).take 1)=some y2:=h2;have t3:DataW.trod enc prog W 0 (fun _=>true) true V 48 ((L.drop 4).take 6)=some Z:=h3;have t4:DataW.trod enc prog W 0 (fun _=>true) true V 48 ((L.drop 10).take 6)=some y4:=h4;have ad:Rows.uptoBulk x.1=Rows.uptoBulk (.agg [y0.1,O.1,y2.1,Z.1,y4.1]):=by rw[hx];rfl
 have R:∀d∈[y0.1,O.1,y2.1,Z.1,y4.1],Rows.uptoBulk d<=1048576:=fun d q=>by have:=J7 q;omega
 obtain⟨k,e0,_,_⟩:=DataW.trod_int underlying35 t0;obtain⟨rl,e2,_,_⟩:=DataW.trod_int underlying39 t2;obtain⟨l,e3,X,al⟩:=zet _ t3 (R _ zp);obtain⟨r,e4,Y,ao⟩:=zet _ t4 (R _ zp);obtain⟨zs,fv,an,hz,ai,ab,N⟩:=DataW.trod_struct underlying38 t1;have g0:=N 0 _ rfl;have g1:=N 1 _ rfl;obtain⟨z0,U,rfl⟩:=Tj (show zs.length=2 from ab);have u0:DataW.trod enc prog W 0 (fun _=>true) true fv 9 ((((L.drop 1).take 2).drop 0).take 1)=some z0:=g0;have u1:DataW.trod enc prog W 0 (fun _=>true) true fv 36 ((((L.drop 1).take 2).drop 1).take 1)=some U:=g1;have ae:Rows.uptoBulk O.1=Rows.uptoBulk (.agg [z0.1,U.1]):=by rw[hz];rfl
 have ap:=R O.1 zp;have aa:Rows.uptoBulk U.1<=1048576:=by
  have:=J7 (l:=[z0.1,U.1]) (d:=U.1) zp;omega
 obtain⟨p,e5,x5,_⟩:=DataW.trod_string underlying9 u0;obtain⟨A,ag,q,e6,af,hQ,hM⟩:=Uu (c:=3) Tm.cells (fun t=>t.x.y9) Tm.xr (fun t=>rfl) underlying36 zo u1 aa (fun n aj y hn ht ak=>DB ht);have aj:q.length<=sumOf Tm.xr q:=YS fun t _=>t.Yl
 refine⟨⟨k,⟨p,A,ag,q⟩,rl,l,r⟩,?_,⟨⟨⟨af,by show q.length*48<=_;omega⟩,X.1,Y.1⟩,⟨hQ,X.2,Y.2⟩⟩,?_⟩
 ·have e7:=XJ ((L.drop 1).take 2) 0 1 1 rfl;rw[XJ ((L.drop 1).take 2) 1 1 2 rfl,e5,e6,zpE (i:=2) (by rw[zpv];omega)]at e7;have h:=XJ L 0 1 1 rfl;rw[zqP]at e7;rw[XJ L 1 2 3 rfl,XJ L 3 1 4 rfl,XJ L 4 6 10 rfl,XJ L 10 6 16 rfl,e0,e7,e2,e3,e4,zpE (i:=16) zd]at h;rw[zqP]at h;rw[h];simp[Li.cells]
 ·have h1:Rows.uptoBulk O.1=(p.size+1+(Rows.uptoBulk U.1+0))+1:=by rw[ae,x5,Rows.uptoBulk,Rows.uptoBulkAll,Rows.uptoBulkAll,Rows.uptoBulkAll,Gl]
  have h2:Rows.uptoBulk x.1=(Rows.uptoBulk y0.1+(Rows.uptoBulk O.1+(Rows.uptoBulk y2.1+(Rows.uptoBulk Z.1+(Rows.uptoBulk y4.1+0)))))+1:=by rw[ad,Rows.uptoBulk,Rows.uptoBulkAll,Rows.uptoBulkAll,Rows.uptoBulkAll,Rows.uptoBulkAll,Rows.uptoBulkAll,Rows.uptoBulkAll]
  show(p.size+sumOf Tm.xr q)+(l.xr+r.xr)<=_;omega
theorem zi7{O:List Value}{x:DataW H×List MemPlace}(hf:DataW.trod enc prog W 0 (fun _=>true) true fuel 25 O=some x)(hs:Rows.uptoBulk x.1<=1048576):∃r:Ru,O=r.cells/\r.zO W/\(∀x∈r.body,x.y9)/\r.xr+1<=Rows.uptoBulk x.1:=by
 obtain⟨xs,fu,aj,hx,hl,Z,L⟩:=DataW.trod_struct underlying25 hf;have ae:O.length=3:=hl.trans zo;have h0:=L 0 _ rfl;have h1:=L 1 _ rfl;have h2:=L 2 _ rfl;obtain⟨y0,X,Y,rfl⟩:=DM (show xs.length=3 from Z);have t0:DataW.trod enc prog W 0 (fun _=>true) true fu 9 ((O.drop 0).take 1)=some y0:=h0;have t1:DataW.trod enc prog W 0 (fun _=>true) true fu 22 ((O.drop 1).take 1)=some X:=h1;have t2:DataW.trod enc prog W 0 (fun _=>true) true fu 23 ((O.drop 2).take 1)=some Y:=h2;have aa:Rows.uptoBulk x.1=Rows.uptoBulk (.agg [y0.1,X.1,Y.1]):=by rw[hx];rfl
 have N:∀d∈[y0.1,X.1,Y.1],Rows.uptoBulk d<=1048576:=fun d I=>by have:=J7 I;omega
 obtain⟨p,e0,x0,_⟩:=DataW.trod_string underlying9 t0;obtain⟨A,ab,I,e1,V,_,ad⟩:=Uu (c:=4) Ar.cells (fun _=>True) Ar.xr (fun a=>rfl) underlying22 zo t1 (N _ zp) (fun n ac y hn ht U=>by
  obtain⟨a,h1,h2⟩:=znr ht;exact⟨a,h1,trivial,h2⟩)
 obtain⟨B,zM,q,e2,R,hQ,af⟩:=Uu (c:=15) Li.cells (fun l=>l.zO W/\l.y9) Li.xr (fun l=>l.xF) underlying23 zo t2 (N _ zp) (fun n ac y hn ht U=>zgV ht U);have ah:=N X.1 zp;have ag:=N Y.1 zp;have ai:I.length<=sumOf Ar.xr I:=YS fun a _=>a.t.Yl
 have ac:q.length<=sumOf Li.xr q:=YS fun x _=>by have:=x.Yl;omega
 refine⟨⟨p,A,ab,I,B,zM,q⟩,?_,⟨V,by show I.length*56<=_;omega,R,by show q.length*216<=_;omega,fun y U=>(hQ y U).1⟩,fun y U=>(hQ y U).2,?_⟩
 ·have h:=XJ O 0 1 1 rfl;rw[XJ O 1 1 2 rfl,XJ O 2 1 3 rfl,e0,e1,e2,zpE (i:=3) zd]at h;exact h
 ·show p.size+(sumOf Ar.xr I+sumOf Li.xr q)+1<=_;rw[aa,x0,Rows.uptoBulk,Rows.uptoBulkAll,Rows.uptoBulkAll,Rows.uptoBulkAll,Rows.uptoBulkAll,Gl];omega
theorem zhl{I:List Value}{x:DataW H×List MemPlace}(hf:DataW.trod enc prog W 0 (fun _=>true) true fuel 71 I=some x)(hs:Rows.uptoBulk x.1<=1048576):∃f:Fa,I=f.cells/\(f.zO W/\∀v∈f.args,v.y9)/\f.xr<=Rows.uptoBulk x.1:=by
 obtain⟨xs,Y,ad,hx,hl,N,r⟩:=DataW.trod_struct underlying71 hf;have aa:I.length=2:=hl.trans zo;have h0:=r 0 _ rfl;have h1:=r 1 _ rfl;obtain⟨U,L,rfl⟩:=Tj (show xs.length=2 from N);have t0:DataW.trod enc prog W 0 (fun _=>true) true Y 9 ((I.drop 0).take 1)=some U:=h0;have t1:DataW.trod enc prog W 0 (fun _=>true) true Y 69 ((I.drop 1).take 1)=some L:=h1;have O:Rows.uptoBulk x.1=Rows.uptoBulk (.agg [U.1,L.1]):=by rw[hx];rfl
 have V:Rows.uptoBulk L.1<=1048576:=by
  have:=J7 (l:=[U.1,L.1]) (d:=L.1) zp;omega
 obtain⟨p,e0,Z,_⟩:=DataW.trod_string underlying9 t0;obtain⟨A,R,q,e1,X,hQ,hM⟩:=Uu (c:=2) Vl.cells (fun v=>v.y9) Vl.xr (fun a=>rfl) underlying69 zo t1 V (fun n ab y hn ht ac=>zcv ht);have ab:q.length<=sumOf Vl.xr q:=YS fun v _=>by unfold Vl.xr;omega
 refine⟨⟨p,A,R,q⟩,?_,⟨⟨X,by show q.length*32<=_;omega⟩,hQ⟩,?_⟩
 ·have h:=XJ I 0 1 1 rfl;rw[XJ I 1 1 2 rfl,e0,e1,zpE (i:=2) zd]at h;exact h
 ·show p.size+(sumOf Vl.xr q+1)<=_;rw[O,Z,Rows.uptoBulk,Rows.uptoBulkAll,Rows.uptoBulkAll,Rows.uptoBulkAll,Gl];omega
theorem zl1{x:DataW H×List MemPlace}(r:DataW.trod enc prog W 0 (fun _=>true) true fuel 26 q=some x)(N:Rows.uptoBulk x.1<=1048576):
 ∃(A:Option Addr) (h:Nat) (l:List Fa),q=[.slice A l.length h]/\zY Fa.cells W A l/\(∀f∈l,f.zO W/\∀v∈f.args,v.y9)/\sumOf Fa.xr l+1<=Rows.uptoBulk x.1:=
 Uu (c:=1) Fa.cells _ Fa.xr (fun a=>rfl) underlying26 zo r N (fun n I y O L h=>zhl L h)
theorem zif{x:DataW H×List MemPlace}(N:DataW.trod enc prog W 0 (fun _=>true) true fuel 65 q=some x)(V:Rows.uptoBulk x.1<=1048576):
 ∃(A:Option Addr) (h:Nat) (l:List Int),q=[.slice A l.length h]/\zY (fun c:Int=>[.int .i64 c]) W A l/\∀c∈l,-9223372036854775808<=c/\c<=9223372036854775807:=by
 obtain⟨A,h,l,L,r,U,_⟩:=Uu (c:=0) (fun c:Int=>[.int .i64 c]) (fun c=>-9223372036854775808<=c/\c<=9223372036854775807) (fun _=>0) (fun a=>rfl) underlying65 zo N V (fun n O y X I R=>by
  obtain⟨m,e,_,w⟩:=DataW.trod_int underlying3 I;exact⟨m,e,zfr w,zo5 _⟩)
 exact⟨A,h,l,L,r,U⟩
end
end
section
open Go Go.ChangeShapes Go.WideShapes Go.ChangeAt Go.RowKit Go.Deep
section
variable {W:World}{base:Nat}
theorem zcB{L:Nat}(N:prog.underlying t=some (.slice e))(h:Cell.okWide prog W .any base t (.slice A L cap)):qU (·<W.heap.size) A:=by
 cases A with
 |none=>intro g q;cases q
 |some a=>
  unfold Cell.okWide at h;rw[N]at h;simp only at h;unfold Cell.ok at h;rw[N]at h;simp only at h;obtain⟨_,_,_,_,O,I,r,_⟩:=h;intro g q;simp only[zw,zpK,zqo,zo2]at q;subst q;unfold World.shape? at r
  rcases hb:W.heap[a.block]? with _|o
  ·rw[hb]at r;cases r
  ·exact(zpb.1 hb).1
theorem zjg{q:Nat}(r:prog.underlying t=some (.slice e))(h:Value.okWide prog W .any base t (.slice A q cap)):qU (·<W.heap.size) A:=by
 simp only[Value.okWide,r]at h;exact zcB r h
theorem one_cell{x:Value}(r:prog.underlying t=some (.slice e))(h:Value.okWide prog W .any base t v)(L:v.cells.toList=[x]):v=x:=by
 obtain⟨a,I,q,rfl⟩:=okWide_slice r h;simpa[Value.cells]using L
theorem znh(h:Value.okWide prog W .any base 25 v):∃L,v=.agg L/\∀A I r,L[2]? = some (.slice A I r)->qU (·<W.heap.size) A:=by
 simp only[Value.okWide,underlying25]at h;obtain⟨L,rfl,_,U,N,_,R⟩:=h;have q:prog.cellTypes prog.depth 25=some [9,22,23]:=zo;obtain rfl:=zqn (q.symm.trans N);refine⟨L,rfl,fun A I r O=>?_⟩;obtain⟨u,I,r⟩:=R 2 _ O;obtain rfl:23=u:=zqn I;exact zcB underlying23 r
end
end
section
open Go Go.ChangeShapes Go.WideShapes Go.ChangeAt Go.RowKit
theorem g32:prog.globalNamed "math/bits.deBruijn32tab"=some 0:=zo
theorem t32:(prog.globals[(0:Nat)]?).map (·.type)=some 365:=zo
theorem zfz:prog.globalNamed "internal/strconv.uint64pow10"=some 3:=zo
theorem zjZ:(prog.globals[(3:Nat)]?).map (·.type)=some 428:=zo
theorem zdZ{P:Program}{w:World}{s:String}{g:Nat}{r:Array Value}(N:P.globalNamed s=some g)(h:w.var? P s=some r):∃t q,w.heap[g]? = some (.cells r t q):=by
 unfold World.var? at h;rw[N]at h;simp only[zqY]at h;split at h
 ·rename_i I t q L;injection h with h
  subst h;exact⟨t,q,L⟩
 ·cases h
theorem zho(h:laidMetH prog [("math/bits.deBruijn32tab",Rows.laid_math_bits_deBruijn32tab),("math/bits.deBruijn64tab",Rows.laid_math_bits_deBruijn64tab),("internal/strconv.uint64pow10",Rows.laid_internal_strconv_uint64pow10)] W):Tz W/\Pw W:=by
 rw[MakeChecks.laidMetH_plain _ _ _ zo]at h;obtain⟨ps,⟨g0,t0,q,f0,p0,q0,X,Y,r,Z,⟨g1,t1,ae,f1,p1,q1,ab,ad,aa,ac,⟨g2,t2,O,f2,p2,q2,U,V,R,N,_,_⟩,_⟩,_⟩,_,_⟩:=h;obtain rfl:=zqn (g32.symm.trans X);obtain rfl:=zqn (t32.symm.trans Y);obtain rfl:=zqn (zfz.symm.trans U);obtain rfl:=zqn (zjZ.symm.trans V);have I:DataW.trod _ prog W 0 _ _ f0 365 q.toList=some (Lib.tabData .u8 (Lib.deBruijn32tab.map fun n:Nat=>(n:Int)),p0):=Z;have L:DataW.trod _ prog W 0 _ _ f2 428 O.toList=some (Lib.tabData .u64 Lib.pow10Tab,p2):=N;have e0:=Lib.cells_of_tab (n:=32) underlying365 underlying5 zo (zo) I;have e2:=Lib.cells_of_tab (n:=20) underlying428 underlying333 zo (zo) L;obtain⟨u0,r0,b0⟩:=zdZ g32 r;obtain⟨u2,r2,b2⟩:=zdZ zfz R;refine⟨⟨(zpb.1 b0).1,fun j hj=>?_⟩,⟨(zpb.1 b2).1,u2,r2,?_⟩⟩
 ·have h:=World.var?_cell g32 r j;rw[h];have h2:q[j]? = q.toList[j]?:=zp;rw[h2,e0,zpX,zpX];have hl:j<Lib.deBruijn32tab.length:=hj;rw[zo6 hl,zo8,zo6 hl];rfl
 ·rw[b2,<-e2]
theorem zjC(h:W.ShapedOpen prog):∃q,Tk W q:=by
 have hz:(((begin prog (fun _ _=>0) default).world.heap[(2:Nat)]?).bind Obj.row?)=some (Array.replicate 11 (.int .i8 0),402):=zo;obtain⟨q,X,Y,U⟩:=h.1 2 _ _ (of_decide_eq_true zo) hz;obtain⟨ts,V,_,r⟩:=U zo;have I:prog.cellTypes prog.depth 402=some (List.replicate 11 34):=zo;obtain rfl:=zqn (I.symm.trans V);have Y:q.size=11:=Y;have N:∀j,j<11->∃n,q[j]? = some (.int .i8 n):=fun j Z=>by
  have L:j<q.size:=zd;obtain⟨u,hu,O⟩:=r j q[j] (zqA L);have R:u=34:=by
   have h:=zp8 hu;exact(List.mem_replicate.1 h).2
  subst R;unfold Cell.ok at O;rw[underlying34]at O;rw[zqA L];generalize q[j]=v at O
  cases v<;>simp only at O
  rename_i k n;obtain⟨rfl,_⟩:=O;exact⟨n,rfl⟩
 refine⟨fun j=>match q[j]? with|some (.int _ n)=>n|_=>0,(zpb.1 X).1,fun j Z=>?_⟩;obtain⟨n,L⟩:=N j Z;rw[L];exact(cell_of_row _ _ j q _ _ X).trans L
end
end Go.Proofs.YtfdickkdlcgicaaGreatDoor.C
namespace Go.Proofs.YtfdickkdlcgicaaGreatDoor.joinDeltas
open Go.Proofs.Tryz Go Go.RowKit Go.Maps Go.WideMaps
section
open Go Go.ChangeShapes Go.WideShapes Go.ChangeAt Go.WideMaps Go.WideElems Go.RowKit
theorem e1:(Rows.joinDeltasUptoRow.wf (OpenSpec.ofChange (Rows.OpenSpec.upto Rows.joinDeltasSpec).bare))=true:=zo
theorem e2:(laidOutB prog)=true:=zo
theorem e3:(mapsRowed prog)=true:=zo
theorem e4:(Tryz.f4.params.all (prog.readableRec ·))=true:=zo
theorem e5:(namedTie prog Rows.joinDeltasUptoRow.named ((Rows.OpenSpec.upto Rows.joinDeltasSpec).bare).vars)=true:=zo
theorem e6:(Rows.joinDeltasUptoRow.stops==[])=true:=zo
theorem e7:(prog.stops==[])=true:=zo
theorem e8:(Rows.joinDeltasUptoRow.knobs==[])=true:=zo
theorem e9:(prog.stopKnobs==[])=true:=zo
theorem e10:(Rows.joinDeltasUptoRow.inPlace==prog.inPlace 4)=true:=zo
theorem e11:(Rows.joinDeltasUptoRow.unfollowed==prog.unfollowed 4)=true:=zo
theorem e12:(Rows.joinDeltasUptoRow.recurses==prog.recurses 4)=true:=zo
theorem e13:(Rows.joinDeltasUptoRow.named==prog.varsNamed 4)=true:=zo
theorem e14:(Rows.joinDeltasUptoRow.maps==(Tryz.f4.params.toList++((Rows.OpenSpec.upto Rows.joinDeltasSpec).bare).plain.varTypes prog).any (prog.mapsRec ·))=true:=zo
theorem JD:(Rows.joinDeltasUptoRow.ifaces==(Tryz.f4.params.toList++((Rows.OpenSpec.upto Rows.joinDeltasSpec).bare).plain.varTypes prog).any (prog.ifacesRec ·))=true:=zo
theorem e16:(Rows.joinDeltasUptoRow.mapsOut==prog.mapsAmong Tryz.f4.resultTypes.toList)=true:=zo
theorem e17:(Rows.joinDeltasUptoRow.loops==(Tryz.f4.params.toList++((Rows.OpenSpec.upto Rows.joinDeltasSpec).bare).plain.varTypes prog).any (prog.loopsFrom ·))=true:=zo
theorem e18:(Rows.joinDeltasUptoRow.wideKeys==(Tryz.f4.params.toList++((Rows.OpenSpec.upto Rows.joinDeltasSpec).bare).plain.varTypes prog++Tryz.f4.resultTypes.toList).any (prog.wideKeysFrom ·))=true:=zo
theorem e19:(((Rows.OpenSpec.upto Rows.joinDeltasSpec).bare).vars.all (prog.varReadable ·))=true:=zo
theorem e20:(Tryz.f4.resultTypes.all (fun t=>prog.readableRec t&&decide (t<prog.types.size)))=true:=zo
theorem e21:(Rows.joinDeltasUptoRow.ifacesOut==Tryz.f4.resultTypes.toList.any (prog.ifacesRec ·))=true:=zo
theorem e22:(Rows.joinDeltasUptoRow.loopsOut==Tryz.f4.resultTypes.toList.any (prog.loopsFrom ·))=true:=zo
theorem e23:(Rows.joinDeltasUptoRow.plainKeys==prog.plainKeys)=true:=zo
theorem e24:(Rows.joinDeltasUptoRow.shortTexts.isNone)=true:=zo
theorem e25:(prog.stopsHeard)=true:=zo
theorem e26:(prog.mayEnter)=true:=zo
theorem e27:(Rows.joinDeltasUptoRow.lifted==prog.liftsFinal)=true:=zo
theorem e28:(prog.make==some Rows.joinDeltasUptoRow.make)=true:=zo
theorem e30:(Rows.joinDeltasUptoRow.pinned==Rows.joinDeltasUptoRow.pinnedBy)=true:=zo
theorem e31:(Rows.joinDeltasUptoRow.veiled==(Tryz.f4.params.toList++((Rows.OpenSpec.upto Rows.joinDeltasSpec).bare).plain.varTypes prog++Tryz.f4.resultTypes.toList).any (prog.veiledRec ·))=true:=zo
theorem Tc:(Rows.joinDeltasUptoRow.veiledFits prog Tryz.f4.params.toList (Tryz.f4.params.toList++((Rows.OpenSpec.upto Rows.joinDeltasSpec).bare).plain.varTypes prog++Tryz.f4.resultTypes.toList))=true:=zo
theorem closed:joinedFacts prog 4 Tryz.f4 ((Rows.OpenSpec.upto Rows.joinDeltasSpec).bare) Rows.joinDeltasUptoRow=true:=by
 unfold joinedFacts;rw[e1,e2,e3,e4,e5,e6,e7,e8,e9,e10,e11,e12,e13,e14,JD,e16,e17,e18,e19,e20,e21,e22,e23,e24,e25,e26,e27,e28,if_pos (show Rows.joinDeltasUptoRow.domain.isEmpty=true from rfl),show(Rows.joinDeltasUptoRow.kinds==[])=true from rfl,e30,e31,Tc];rfl
theorem named:prog.funcNamed "pedigree/pedigreelaw13.JoinDeltas"=some 4:=zo
theorem inst:Tryz.f4.isInstance prog Rows.joinDeltasUptoRow.origin Rows.joinDeltasUptoRow.targs:=of_decide_eq_true zo
theorem wrap:Tryz.f4.isWrapper prog Rows.joinDeltasUptoRow.wrapper Rows.joinDeltasUptoRow.mainSum:=by
 unfold Func.isWrapper
 first |(rw[if_pos (by decide +kernel)];kernel_rfl) |(rw[if_neg (by decide +kernel)];exact⟨rfl,rfl⟩)
theorem own:ownKnob prog.godebug=none:=zo
theorem c1:Rows.joinDeltasUptoRow.wfByText (Rows.OpenSpec.upto Rows.joinDeltasSpec)=true:=zo
theorem c3:true=prog.looks []:=zo
theorem c4:([25,26,65].all fun u=>!prog.wantsStandIn u)=true:=zo
theorem c5:false=Rows.joinDeltasUptoRow.goesBy prog:=zo
end
section
open Go Go.ChangeShapes Go.WideShapes Go.ChangeAt Go.WideMaps Go.WideElems Go.RowKit Go.Deep
theorem zk9(H:Type)(enc:TypeId×Value->H)(W:World)(ab:Nat)(args:Array Value)(ds gs:List (DataW H))(N:List MemPlace)(X:∀(j:Nat) t v,Tryz.f4.params[j]? = some t->args[j]? = some v->Value.okWide prog W .any ab t v)(hW:DataW.Whole enc prog Tryz.f4.params.toList Rows.joinDeltasSpec.vars false W args.toList ds gs N)(hk:Rows.uptoSmall H (ds++gs)=true)(hL:laidMetH prog Rows.joinDeltasUptoRow.laid W)(hS:W.ShapedOpen prog):
 Calls prog 4 args W fun e W'=>∃v,e=.returned v/\Rows.joinDeltasSpec.post enc prog Tryz.f4 false true false false W args v W':=by
 have ao:=hW;obtain⟨p,q,aj,hV,rfl,ar,au⟩:=hW;have hA:DataW.TrodAll enc prog W 0 (fun _=>true) true Tryz.f4.params.toList args.toList ds p:=aj;have I:=X;rw[params4]at hA I;obtain⟨v0,v1,v2,d0,d1,d2,p0,p1,p2,rfl,rfl,rfl,O,R,L⟩:=trodAll_three hA;obtain⟨rfl,rfl⟩:=trodVars_none hV;have k0:=O;have k1:=R;have k2:=L;have ag:∀x∈p0,x.block<W.heap.size:=by obtain⟨m,hm⟩:=k0;exact DataW.trod_lt m _ _ _ hm
 have ai:∀x∈p1,x.block<W.heap.size:=by obtain⟨m,hm⟩:=k1;exact DataW.trod_lt m _ _ _ hm
 have aq:∀x∈p2,x.block<W.heap.size:=by obtain⟨m,hm⟩:=k2;exact DataW.trod_lt m _ _ _ hm
 have hb:Rows.uptoBulk d0+(Rows.uptoBulk d1+(Rows.uptoBulk d2+0))<=1048576:=by
  have:=of_decide_eq_true hk;simpa only[zpc,zpa,Rows.uptoBulkAll]using this
 obtain⟨f0,t0⟩:=O;obtain⟨f1,t1⟩:=R;obtain⟨f2,t2⟩:=L;obtain⟨cs,rfl,ad⟩:=C.znh (I 0 25 v0 rfl rfl);obtain⟨r,hr,am,ac,af⟩:=C.zi7 t0 (show Rows.uptoBulk d0<=1048576 from zd);have L:cs=r.cells.toArray:=by
  have:cs.toList=r.cells:=hr;rw[<-this,Array.toArray_toList]
 subst L;obtain⟨F,U,Y,hF,ap,Z,aa⟩:=C.zl1 t1 (show Rows.uptoBulk d1<=1048576 from zd);obtain⟨D,R,L,hD,al,ak⟩:=C.zif t2 (show Rows.uptoBulk d2<=1048576 from zd);obtain rfl:v1=.slice F Y.length U:=C.one_cell underlying26 (I 1 26 v1 rfl rfl) hF;obtain rfl:v2=.slice D L.length R:=C.one_cell underlying65 (I 2 65 v2 rfl rfl) hD;have af:r.xr+1<=Rows.uptoBulk d0:=af;have aa:C.sumOf C.Fa.xr Y+1<=Rows.uptoBulk d1:=aa;have g:C.Jm r Y:=C.zhn ac zd (fun f O=>(Z f O).2) zd;obtain⟨tk,ae⟩:=C.zjC hS;obtain⟨ah,an⟩:=C.zho hL;have V:C.Jy W r F Y tk:=⟨am,ad _ _ _ rfl,⟨ap,fun f O=>⟨(Z f O).1.rd,(g.facts f O).1,(g.facts f O).2.1,(g.facts f O).2.2⟩⟩,C.zjg underlying26 (I 1 26 _ rfl rfl),an,ah,ae,ae.lt⟩;refine(C.ziq (fun W tk _ _ h=>C.zi4 W tk h) W r F Y tk g V U Y.length rfl D R L.length L al rfl ak).mono fun e W' ⟨he,O⟩=>?_
 subst he;exact⟨_,rfl,_,_,_,[],_,[],ao,trodAll_mk1 (shut_bool underlying4 _),trodAll_mk3 (Below.trod e2 zo (of_decide_eq_true zo) k0 O ag) (Below.trod e2 zo (of_decide_eq_true zo) k1 O ai) (Below.trod e2 zo (of_decide_eq_true zo) k2 O aq),rfl,O.frame _,fun h=>by cases h⟩
end
