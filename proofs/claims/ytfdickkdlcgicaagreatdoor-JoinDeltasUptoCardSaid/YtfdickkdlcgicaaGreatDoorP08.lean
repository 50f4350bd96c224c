/-
  Plain words: where a thing's lists lie ('off'); what it is w
-/
import Derived.Test.YtfdickkdlcgicaaGreatDoorP07
import Derived.Shelf.Strconv.Itoa3
import Derived.Shelf.Strconv.Itoa4
import Derived.Ground.NamesProg
import Derived.Lib.ItoaLen
import Derived.Deep.Cut
set_option maxRecDepth 100000
set_option maxHeartbeats 8000000
set_option linter.all false
namespace Go.Proofs.YtfdickkdlcgicaaGreatDoor.C
open Go.Proofs.Tryz Go Go.RowKit Go.Maps Go.WideMaps
variable {A:Option Addr}{S:Nat->Prop}{W w w':World}{a0 cap g i n size x:Nat}{e t:TypeId}{h q:Array Value}{α:Type}
section
def qU(Q:Nat->Prop)(A:Option Addr):Prop:=∀g∈zw A,Q g
mutual
def Ex.off(Q:Nat->Prop):Ex->Prop
 |.mk _ _ A _ h=>qU Q A/\Ex.YC Q h
def Ex.YC (Q:Nat->Prop):List Ex->Prop
 |[]=>True
 |e::h=>Ex.off Q e/\Ex.YC Q h
end
theorem Ex.zbw{Q:Nat->Prop}:∀{l:List Ex},Ex.YC Q l↔∀e∈l,Ex.off Q e
 |[]=>by unfold Ex.YC;simp
 |e::h=>by
  unfold Ex.YC;rw[Ex.zbw];simp
mutual
theorem Ex.off.mono{Q Q':Nat->Prop}(h:∀g,Q g->Q' g):∀{e:Ex},e.off Q->e.off Q'
 |.mk _ _ A _ r,q=>by
  unfold Ex.off at q ⊢;exact⟨fun g I=>h g (q.1 g I),Ex.YC.mono h q.2⟩
theorem Ex.YC.mono {Q Q':Nat->Prop} (h:∀g,Q g->Q' g):∀{l:List Ex},Ex.YC Q l->Ex.YC Q' l
 |[],_=>by unfold Ex.YC;trivial
 |e::r,q=>by
  unfold Ex.YC at q ⊢;exact⟨Ex.off.mono h q.1,Ex.YC.mono h q.2⟩
end
def Li.off(Q:Nat->Prop)(x:Li):Prop:=qU Q x.a.A/\x.l.off Q/\x.r.off Q
def Ru.off(Q:Nat->Prop)(r:Ru):Prop:=qU Q r.A/\qU Q r.B/\∀x∈r.body,x.off Q
theorem zY.kept{f:α->List Value}{xs:List α}(h:zY f w A xs)(I:zh S w w')(N:qU (fun g=>¬S g) A):zY f w' A xs:=fun q=>by
 obtain⟨b,o,rfl,r,L⟩:=h q;exact⟨b,o,rfl,zo0 r I.size,Uq L r I (N b (by simp[zw]))⟩
mutual
theorem Ex.zO.kept{S:Nat->Prop}{w W:World}(r:zh S w W):∀{e:Ex},e.zO w->e.off (fun g=>¬S g)->e.zO W
 |.mk _ _ A _ I,h,q=>by
  unfold Ex.zO at h ⊢;unfold Ex.off at q;exact⟨h.1.kept r q.1,h.2.1,Ex.qB.kept r h.2.2 q.2⟩
theorem Ex.qB.kept {S:Nat->Prop} {w W:World} (r:zh S w W):∀{l:List Ex},Ex.qB w l->Ex.YC (fun g=>¬S g) l->Ex.qB W l
 |[],_,_=>by unfold Ex.qB;trivial
 |e::I,h,q=>by
  unfold Ex.qB at h ⊢;unfold Ex.YC at q;exact⟨Ex.zO.kept r h.1 q.1,Ex.qB.kept r h.2 q.2⟩
end
theorem Li.zO.kept{x:Li}(I:zh S w W)(h:x.zO w)(q:x.off (fun g=>¬S g)):x.zO W:=
 ⟨⟨h.a.rd.kept I q.1,h.a.len⟩,h.l.kept I q.2.1,h.r.kept I q.2.2⟩
theorem Ru.zO.kept{x:Ru}(r:zh S w W)(h:x.zO w)(q:x.off (fun g=>¬S g)):x.zO W:=
 ⟨h.head.kept r q.1,h.X9,h.rd.kept r q.2.1,h.Xz,fun y I=>(h.body y I).kept r (q.2.2 y I)⟩
mutual
def Ex.bare:Ex->Ex
 |.mk q t _ _ h=>.mk q t none 0 (Ex.Y9 h)
def Ex.Y9:List Ex->List Ex
 |[]=>[]
 |e::h=>e.bare::Ex.Y9 h
end
theorem Ex.Jc:∀l:List Ex,Ex.Y9 l=l.map Ex.bare
 |[]=>by simp[Ex.Y9]
 |e::h=>by rw[Ex.Y9,Ex.Jc,zpM]
mutual
theorem Ex.Yb:∀e:Ex,e.bare.zN=e.zN
 |.mk q t _ _ h=>by rw[Ex.bare,Ex.zN,Ex.zN,Ex.zdj]
theorem Ex.zdj:∀l:List Ex,Ex.qp (Ex.Y9 l)=Ex.qp l
 |[]=>by simp[Ex.Y9]
 |e::h=>by rw[Ex.Y9,Ex.qp,Ex.qp,Ex.Yb,Ex.zdj]
end
theorem Ex.UJ:∀(d:Nat)(e:Ex),e.bare.ok d↔e.ok d
 |0,.mk ..=>by simp[Ex.ok]
 |d+1,.mk q t A U r=>by
  rw[Ex.bare,Ex.ok,Ex.ok,Ex.Jc,zph];have R:r.map Ex.bare=[]↔r=[]:=zp;have O:(∀k∈r.map Ex.bare,Ex.ok d k)↔∀k∈r,Ex.ok d k:=by
   constructor
   ·intro h k I;exact(Ex.UJ d k).1 (h _ (zpA.2 ⟨k,I,rfl⟩))
   ·intro h k I;obtain⟨N,L,rfl⟩:=zpA.1 I;exact(Ex.UJ d N).2 (h N L)
  rw[R,O]
theorem Ex.zjc:∀e:Ex,e.bare.empty↔e.empty
 |.mk q t A r h=>by rw[Ex.bare,Ex.empty,Ex.empty,Ex.Jc];simp
theorem Ex.GX:∀(e:Ex)(v:ByteArray),e.bare.lone v↔e.lone v
 |.mk q t A r h,v=>by rw[Ex.bare,Ex.lone,Ex.lone,Ex.Jc];simp
def Li.bare(x:Li):Li:=⟨x.k,⟨x.a.p,none,0,x.a.args⟩,x.rl,x.l.bare,x.r.bare⟩
def Ru.bare(r:Ru):Ru:=⟨r.p,none,0,r.head,none,0,r.body.map Li.bare⟩
theorem Li.Yb(x:Li):x.bare.zN=x.zN:=by unfold Li.zN Li.bare;rw[Ex.Yb,Ex.Yb]
theorem Li.UJ(x:Li):x.bare.ok↔x.ok:=by
 unfold Li.ok Li.bare At.ok;simp only[Ex.UJ,Ex.zjc]
theorem Ru.Yb(r:Ru):r.bare.zN=r.zN:=by
 unfold Ru.zN Ru.bare;simp only
 congr 1
 induction r.body with
 |nil=>rfl
 |cons x l h=>rw[zpM,zps,zps,Li.Yb,h]
theorem Ru.JL(r:Ru):r.bare.vars=r.vars:=by unfold Ru.vars;rw[Ru.Yb]
theorem yl.bare{body q:List Li}(h:body.map Li.bare=q.map Li.bare){v:ByteArray}(U:yl body v):yl q v:=by
 have I:∀x∈body,∃y∈q,y.bare=x.bare:=fun x N=>by
  have:x.bare∈q.map Li.bare:=h▸zpA.2 ⟨x,N,rfl⟩;obtain⟨y,L,e⟩:=zpA.1 this;exact⟨y,L,e⟩
 induction U with
 |@atom x v N O U=>
  obtain⟨y,L,e⟩:=I x N;have e1:y.k=x.k:=show y.bare.k=x.bare.k from congrArg Li.k e
  have e2:y.a.args=x.a.args:=show y.bare.a.args=x.bare.a.args from congrArg (fun z:Li=>z.a.args) e
  exact .atom L (e1.trans O) (by unfold At.vars at U ⊢;rw[e2];exact U)
 |@left x v N O W V _ X=>
  obtain⟨y,L,e⟩:=I x N;have e1:y.k=x.k:=show y.bare.k=x.bare.k from congrArg Li.k e
  have e2:y.rl=x.rl:=show y.bare.rl=x.bare.rl from congrArg Li.rl e
  have e3:y.l.bare=x.l.bare:=congrArg Li.l e;have e4:y.r.bare=x.r.bare:=congrArg Li.r e;exact .left L (e1.trans O) (e2.trans W) ((Ex.GX _ _).1 (e3▸(Ex.GX _ _).2 V)) fun u R=>X u (by
   unfold Ex.vars at R ⊢;rw[<-Ex.Yb,<-e4,Ex.Yb];exact R)
 |@right x v N O W V _ X=>
  obtain⟨y,L,e⟩:=I x N;have e1:y.k=x.k:=show y.bare.k=x.bare.k from congrArg Li.k e
  have e2:y.rl=x.rl:=show y.bare.rl=x.bare.rl from congrArg Li.rl e
  have e3:y.l.bare=x.l.bare:=congrArg Li.l e;have e4:y.r.bare=x.r.bare:=congrArg Li.r e;exact .right L (e1.trans O) (e2.trans W) ((Ex.GX _ _).1 (e4▸(Ex.GX _ _).2 V)) fun u R=>X u (by
   unfold Ex.vars at R ⊢;rw[<-Ex.Yb,<-e3,Ex.Yb];exact R)
theorem UI{α:Type}{f:α->List Value}{size:Nat}(q:∀x,(f x).length=size):∀h:List α,(h.flatMap f).length=h.length*size
 |[]=>zp
 |x::h=>by rw[zps,zo1,q,UI q h,zpn,zqS,Nat.add_comm]
theorem Own.put{f:α->List Value}{xs:List α}(h:Own f e size w (some ⟨g,0,none⟩) cap xs)(W:∀x,(f x).length=size)(i:Nat)(hi:i<xs.length)(a:Nat)(vs:List Value)(y:α)(ha:a+vs.length<=size)(hy:f y=(f xs[i]).take a++vs++(f xs[i]).drop (a+vs.length)):Own f e size (w.setCells g (i*size+a) vs) (some ⟨g,0,none⟩) cap (xs.set i y):=by
 obtain⟨h1,r⟩:=h
 rcases r with⟨r,_⟩ |⟨g0,c,q,r,hb,hh,hn,hc,hs,ht⟩
 ·cases r
 injection r with r h3 h4
 injection r with r
 injection r with r
 subst r h4;have X:=UI W xs;have aa:xs.length*size<=cap*size:=zp9 _ hn;have Z:(i+1)*size<=xs.length*size:=zp9 _ hi;rw[zqS]at Z;have hk:zD (w.setCells g (i*size+a) vs) g e (q.toList.take (i*size+a)++vs++q.toList.drop (i*size+a+vs.length)).toArray:=zD.setCells vs (i*size+a) w q hh zd;refine⟨by rw[UI W,zpG],.inr ⟨g,cap,_,by rw[zpG],zo5 _,hk,by rw[zpG];exact hn,hc,?_,?_⟩⟩
 ·have I:q.toList.length=cap*size:=by rw[zqT];exact hs
  simp only[zqk,zo1,zpv,zp7,I];omega
 ·rw[zpG];have hx:xs=xs.take i++xs[i]::xs.drop (i+1):=by rw[List.getElem_cons_drop,zpL]
  have V:xs.set i y=xs.take i++y::xs.drop (i+1):=by rw[List.set_eq_take_append_cons_drop,if_pos hi]
  have O:((xs.take i).flatMap f).length=i*size:=by rw[UI W,zpv,Nat.min_eq_left zd]
  have Y:=W xs[i];have I:xs.flatMap f=(xs.take i).flatMap f++(f xs[i]++(xs.drop (i+1)).flatMap f):=by
   conv=>lhs;rw[hx]
   rw[zpq,zps]
  rw[V,zpq,zps,hy];have ab:((xs.drop (i+1)).flatMap f).length=xs.length*size-(i*size+size):=by
   have:=congrArg List.length I;rw[X,zo1,zo1,O,Y]at this;omega
  generalize(xs.take i).flatMap f=U at *;generalize(xs.drop (i+1)).flatMap f=R at *;generalize f xs[i]=L at *;have N:q.toList=U++(L++R)++q.toList.drop (xs.length*size):=by
   conv=>lhs;rw[<-zpL (xs.length*size) q.toList]
   rw[ht,I]
  generalize q.toList.drop (xs.length*size)=D at N;rw[N];have e1:(U++(L++R)++D).take (i*size+a)=U++L.take a:=by
   rw[zpo,zpo,<-O,List.take_append,zpm zd,zqE,zp3 zd]
  have e2:(U++(L++R)++D).drop (i*size+a+vs.length)=L.drop (a+vs.length)++(R++D):=by
   rw[zpo,zpo,<-O,zqd,List.drop_append,zpE zd,zqE,List.drop_append_of_le_length zd,zpa]
  rw[e1,e2];have e3:U++L.take a++vs++(L.drop (a+vs.length)++(R++D))=(U++(L.take a++vs++L.drop (a+vs.length)++R))++D:=by simp only[zpo]
  rw[e3,List.toList_toArray,zp3,zpm]
  ·simp only[zo1,zpv,zp7];omega
  ·simp only[zo1,zpv,zp7];omega
theorem zdE:qy prog 46 48 6 80:=qy.of (z:=.agg #[.int .i8 0,.string ⟨#[]⟩,.int .i8 0,.int .i64 0,.string ⟨#[]⟩,.slice none 0 0]) underlying46 zo rfl zr
theorem zfH(w:World)(A:Option Addr)(cap n:Nat)(xs:List Ex)(r:xs.length=n)(h:zY Ex.cells w A xs)(q:n<=4194304):Calls prog 165 #[.slice A n cap] w (Xo Ex.cells 48 6 xs w):=
 Ux Tryz.znG zdE rfl (fun w=>sizeOf48 w) Ex.xF (fun x=>x.Yh) w A cap n xs r h q zr
theorem Own.zG{f:α->List Value}{xs:List α}(h:Own f e size w (some ⟨g,0,none⟩) cap xs):∃r,zD w g e r:=by
 rcases h.2 with⟨q,_⟩ |⟨L,c,r,q,_,I,_⟩
 ·cases q
 ·injection q with q
  injection q with q
  injection q with q
  subst q;exact⟨r,I⟩
def zcp(x:Ex)(w:World)(e:Ending)(w':World):Prop:=∃h:Ex,e=.returned (.agg h.cells.toArray)/\h.bare=x.bare/\h.zO w'/\h.off (fun g=>w.heap.size<=g/\g<w'.heap.size)/\Bl w w'
theorem Ex.zgT:∀e:Ex,1<=e.zN.length
 |.mk ..=>by rw[Ex.zN,zpn];omega
theorem Ex.zbG:∀l:List Ex,l.length<=(Ex.qp l).length/\∀k∈l,k.zN.length<=(Ex.qp l).length
 |[]=>zp
 |e::r=>by
  have h:=Ex.zbG r;have I:=Ex.zgT e;rw[Ex.qp,zo1,zpn];refine⟨zd,fun k q=>?_⟩
  rcases zpp.1 q with rfl|q
  ·omega
  ·have:=h.2 k q;omega
theorem zkT{l q:List Ex}(I:q.length=l.length)(h:∀j (L:j<l.length) (r:j<q.length),q[j].bare=l[j].bare):Ex.Y9 q=Ex.Y9 l:=by
 rw[Ex.Jc,Ex.Jc];refine zqM (by simp[I]) fun j r q=>?_
 rw[zp4,zp4];exact h j (by simpa using q) (by simpa using r)
theorem Dq:∀(x:Ex)(w:World)(_:x.zO w)(_:x.zN.length<=1048576),Calls prog 100 #[.agg x.cells.toArray] w (zcp x w)
 |.mk q ⟨v,⟨k,m,s⟩⟩ A aA I,w,hl,ht=>by
  have IH:Kz (∀x∈I,∀w:World,x.zO w->x.zN.length<=1048576->Calls prog 100 #[.agg x.cells.toArray] w (zcp x w)):=fun y hy w h1 r=>Dq y w h1 r
  unfold Ex.zO at hl;obtain⟨R,ap,U⟩:=hl;rw[Ex.zN,zpn]at ht;have L:=Ex.zbG I;simp only[Ex.cells];obtain⟨N,r⟩:∃N,I.length=N:=⟨_,rfl⟩;have aZ:N<=1048576:=by rw[<-r];omega
  have aU:Kz (∀x∈I,x.zN.length<=1048576):=fun x Y=>by have:=L.2 x Y;omega
  have aL:=zz (Ex.qB.mem U);have aT:=zz (fun W (hW:Bl w W)=>zfH W A aA N I r (R.below hW) zd);rw[r]at ap;have HN:=zz r;obtain⟨W2,O,V⟩:=ya w 48 48 #[.int .i8 q,.string v,.int .i8 k,.int .i64 m,.string s,.slice A N aA] #[.int .i8 0,.string ⟨#[]⟩,.int .i8 0,.int .i64 0,.string ⟨#[]⟩,.slice none 0 0];have HX:=zz V;have aF:=zz O;rw[r];clear V O U R L ht r;go_enter func100,ntmps100
  go_wp2_with (go_at_call 165;rw[aF.o];refine(aT.o _ HX.o.below).mono ?_;rintro e w3⟨X,r,N3,rfl,aq,az,af,am⟩;have aK:N3=N:=(by rw[<-aq,HN.o]);subst aK;have k1:=HX.o.b0.below af;have V:=HX.o.b1.below af;have c5:=k1.cell 5;have f5:=k1.frozen 5;have ag:=zz k1;have ak:=zz V;have ac:=zz az;have ab:=zz (zu HX.o.below af);have ad:=zz am;have Z:=zz (show w.heap.size+1+1<=w3.heap.size by have:=HX.o.size;have:=af.size;omega);have R:Kz (∀g∈zw X,w.heap.size+1+1<=g):=(fun g hg=>by have:=am g hg;have:=HX.o.size;omega);clear k1 V az af am aq)
  have aa:Bl w (w3.setCell ⟨w.heap.size,5,none⟩ (.slice X N3 r)):=ab.o.setCell (zoZ _) _;have k1:=ag.o.qE 5 (.slice X N3 r);have V:=ak.o.XQ (p:=⟨w.heap.size,5,none⟩) zp (.slice X N3 r);have U:Own Ex.cells 48 6 (w3.setCell ⟨w.heap.size,5,none⟩ (.slice X N3 r)) X r I:=ac.o.same fun g hg=>Below.heap_setCell _ _ _ _ (by have:=R.o g hg;show g≠w.heap.size;omega)
  have O:w.heap.size+1+1<=(w3.setCell ⟨w.heap.size,5,none⟩ (.slice X N3 r)).heap.size:=by have:=Z.o;simpa[World.setCell]using this
  have L:=U.lt;clear c5 f5 ag ak ac ab ad Z;generalize w3.setCell ⟨w.heap.size,5,none⟩ (.slice X N3 r)=w4 at aa k1 V U O L ⊢
  replace k1:zD w4 w.heap.size 48 #[.int .i8 q,.string v,.int .i8 k,.int .i64 m,.string s,.slice X N3 r]:=k1
  have ag:=zz k1;have ak:=zz V;have aM:=zz U;have ay:=zz aa;have aj:=zz O;have aI:=zz L;have c5:=k1.cell 5;clear k1 V U aa O L;go_wp2;clear c5
  go_loopg[3,11] N3 (fun gk U O L=>∃(i:Nat) (zs:List Ex),i<=N3/\gk=N3-i/\O=.int .i64 (i:Int)/\zs.length=N3/\Own Ex.cells 48 6 L X r zs/\zh (·∈zw X) w4 L/\
   (∀j (hj:j<I.length) (ac:j<zs.length),(j<i->zs[j].bare=I[j].bare/\zs[j].zO L/\zs[j].off (fun g=>w4.heap.size<=g/\g<L.heap.size))/\(i<=j->zs[j]=I[j])))
  case atStart=>exact⟨0,I,zo5 _,rfl,rfl,HN.o,aM.o,zh.refl _ _,fun j hj ac=>⟨fun h=>zd,fun _=>rfl⟩⟩
  case round=>
   obtain⟨i,zs,hi,rfl,rfl,ai,ho,hC,hz⟩:=hrel;have U:zD wr w.heap.size 48 #[.int .i8 q,.string v,.int .i8 k,.int .i64 m,.string s,.slice X N3 r]:=ag.o.zC hC (fun h=>by have:=R.o _ h;omega);have O:=ak.o.zC hC (fun h=>by have:=R.o _ h;omega);have a1:=zz U;have aB:=zz O;have ad:=zz ai;have Ho:=zz ho;have HC:=zz hC;have Hz:=zz hz;have c5:=U.cell 5
   by_cases ar:i<N3
   ·have ab:i<I.length:=by rw[HN.o];exact ar
    have Z:i<zs.length:=by rw[ai];exact ar
    have an:=(hz i ab Z).2 (zoZ _);obtain⟨g,rfl⟩:∃g,X=some ⟨g,0,none⟩:=by
     rcases ho.form with⟨-,-,L⟩ |⟨g,h,-⟩
     ·rw[L]at Z;simp at Z
     ·exact⟨g,h⟩
    obtain⟨b,o,hA,au,hr⟩:=ho.xI.at (c:=5) (fun x=>Ex.xF x) i Z;injection hA with hA
    injection hA with aQ aG
    subst aQ aG;rw[an]at hr;have L:=zo3 ab;have ao:Bl w wr:=ay.o.trans (hC.below (by have:=aj.o;omega) (fun x Y=>by have:=R.o x Y;omega));have aa:=fun W (hW:Bl w W)=>IH.o _ L W ((aL.o _ L).below hW) (aU.o _ L)
    obtain⟨aX,ae⟩:=ho.zG;have ah:g≠w.heap.size:=by have:=R.o g (by simp[zw]);omega
    have aV:=zz Z;have aW:=zz ab;generalize Y:I[i]=x at hr aa;have Hx:=zz Y;obtain⟨q1,⟨v1,k1,n1,s1⟩,A1,aw,aN⟩:=x;simp only[Ex.cells]at hr aa;obtain⟨M1,aE⟩:∃M1,aN.length=M1:=⟨_,rfl⟩;rw[aE]at hr aa;obtain⟨d0,d1,d2,d3,d4,d5⟩:=JI hr;simp only[zpx]at d0 d1 d2 d3 d4 d5;have aH:=zz aa;have aP:=zz ao;have al:=zz ae;have aY:=zz ah;have H0:Kz (∀W,zh (fun x=>x=g) wr W->W.cell? ⟨w.heap.size,5,none⟩=some (.slice (some ⟨g,0,none⟩) N3 r)):=fun W hW=>(U.zC hW (fun e=>ah e.symm)).cell 5
    have H1:=zz (show ∀W:World,W.heap[g]? = wr.heap[g]?->W.cell? ⟨g,i*6,none⟩=some (.int .i8 q1)/\W.cell? ⟨g,i*6+1,none⟩=some (.string v1)/\W.cell? ⟨g,i*6+2,none⟩=some (.int .i8 k1)/\W.cell? ⟨g,i*6+3,none⟩=some (.int .i64 n1)/\W.cell? ⟨g,i*6+4,none⟩=some (.string s1)/\W.cell? ⟨g,i*6+5,none⟩=some (.slice A1 M1 aw)from fun W hW=>
     have e:=fun o=>World.cell?_of_block (w:=wr) (w':=W) (a:=⟨g,o,none⟩) hW
     ⟨(e _).trans d0,(e _).trans d1,(e _).trans d2,(e _).trans d3,(e _).trans d4,(e _).trans d5⟩)
    clear hr aa U O ai ho hC hz d0 d1 d2 d3 d4 d5 c5 ao ae ah Z ab an Y L au;go_wp2;refine XH [0,1,0,0,1,0,0,1,2,0,3] 10 (fun W=>zh (fun x=>x=g) wr W) (fun W=>W.heap[g]? = wr.heap[g]?) ?s0 ?s1 ?_
    case s0=>exact yj
    case s1=>rfl
    try refine zQ ?_
    repeat refine xK H0.o H1.o ?_
    refine xc fun K hK=>?_
    go_simp;refine(aH.o _ (aP.o.trans ((Below.refl _ _).drew))).mono ?_;rintro e w6⟨⟨q2,⟨v2,V,n2,s2⟩,A2,L,Z⟩,rfl,av,an,ao,au⟩;have aa:=zz (show Bl wr w6 from(Below.refl _ _).drew.trans au);have aD:=zz av;have aJ:=zz an;have ax:Kz ((Ex.mk q2 ⟨v2,⟨V,n2,s2⟩⟩ A2 L Z).off (fun g=>wr.heap.size<=g/\g<w6.heap.size)):=ao;have ab:g<wr.heap.size:=al.o.lt;have ae:=zz ab;simp only[Ex.cells];obtain⟨M2,ah⟩:∃M2,Z.length=M2:=⟨_,rfl⟩;rw[ah];have aS:=zz ah;refine hK.out _ _ (zh.xi _ aa.o) (fun _=>aa.o.block _ ae.o) ?_;clear hK K av an ao au ab ah;try refine zQ ?_
    repeat refine xK H0.o H1.o ?_
    refine y7 zj (fun K hK=>?_);have kc:=al.o.below aa.o;have cc:=H1.o w6 (aa.o.block _ ae.o);have f0:=kc.frozen (i*6);have f1:=kc.frozen (i*6+1);have f2:=kc.frozen (i*6+2);have f3:=kc.frozen (i*6+3);have f4:=kc.frozen (i*6+4);have f5:=kc.frozen (i*6+5);go_simp;have ab:zh (fun x=>x=g) w6 (w6.setCells g (i*6+0) [.int .i8 q2,.string v2,.int .i8 V,.int .i64 n2,.string s2,.slice A2 M2 L]):=
     ((((((zh.refl (fun x=>x=g) w6).setCell (p:=⟨g,i*6+0,none⟩) (fun _=>rfl) _).setCell (p:=⟨g,i*6+0+1,none⟩) (fun _=>rfl) _).setCell (p:=⟨g,i*6+0+1+1,none⟩) (fun _=>rfl) _).setCell (p:=⟨g,i*6+0+1+1+1,none⟩) (fun _=>rfl) _).setCell (p:=⟨g,i*6+0+1+1+1+1,none⟩) (fun _=>rfl) _).setCell (p:=⟨g,i*6+0+1+1+1+1+1,none⟩) (fun _=>rfl) _
    have an:=(Ho.o.below aa.o).put Ex.xF i aV.o 0 [.int .i8 q2,.string v2,.int .i8 V,.int .i64 n2,.string s2,.slice A2 M2 L] (.mk q2 ⟨v2,⟨V,n2,s2⟩⟩ A2 L Z) zp (by
     rw[zpr,zpa,zpE (by rw[Ex.xF];simp),zpw,Ex.cells,aS.o])
    have ah:zh (fun x=>x=g) wr (w6.setCells g (i*6+0) [.int .i8 q2,.string v2,.int .i8 V,.int .i64 n2,.string s2,.slice A2 M2 L]):=(zh.xi (fun x=>x=g) aa.o).trans ab (fun x Y _=>Y);refine hK.out _ _ ah ?_;clear hK K;refine xu ?_;clear f0 f1 f2 f3 f4 f5 cc kc;obtain⟨w7,ao⟩:∃w7,((((((w6.setCell ⟨g,i*6,none⟩ (.int .i8 q2)).setCell ⟨g,i*6+1,none⟩ (.string v2)).setCell ⟨g,i*6+2,none⟩ (.int .i8 V)).setCell ⟨g,i*6+3,none⟩ (.int .i64 n2)).setCell ⟨g,i*6+4,none⟩ (.string s2)).setCell ⟨g,i*6+5,none⟩ (.slice A2 M2 L))=w7:=⟨_,rfl⟩;rw[ao];have au:w6.setCells g (i*6+0) [.int .i8 q2,.string v2,.int .i8 V,.int .i64 n2,.string s2,.slice A2 M2 L]=w7:=ao;rw[au]at ab ah an;have av:∀j (hj:j<I.length) (ac:j<(zs.set i (.mk q2 ⟨v2,⟨V,n2,s2⟩⟩ A2 L Z)).length),(j<i+1->(zs.set i (.mk q2 ⟨v2,⟨V,n2,s2⟩⟩ A2 L Z))[j].bare=I[j].bare/\(zs.set i (.mk q2 ⟨v2,⟨V,n2,s2⟩⟩ A2 L Z))[j].zO w7/\(zs.set i (.mk q2 ⟨v2,⟨V,n2,s2⟩⟩ A2 L Z))[j].off (fun g=>w4.heap.size<=g/\g<w7.heap.size))/\(i+1<=j->(zs.set i (.mk q2 ⟨v2,⟨V,n2,s2⟩⟩ A2 L Z))[j]=I[j]):=fun j hj ac=>by
     have aC:j<zs.length:=by rw[zpG]at ac;exact ac
     refine⟨fun h=>?_,fun h=>?_⟩
     ·by_cases e:i=j
      ·subst e;rw[zqj];exact⟨aD.o.trans (congrArg Ex.bare Hx.o).symm,aJ.o.kept ab (ax.o.mono fun x Y e=>by have:=ae.o;omega),ax.o.mono fun x Y=>by have:=HC.o.size;have:=ab.size;omega⟩
      ·rw[zqK e];have h1:=(Hz.o j hj aC).1 zd;exact⟨h1.1,(h1.2.1.below aa.o).kept ab (h1.2.2.mono fun x Y e=>by have:=aI.o g (by simp[zw]);omega),h1.2.2.mono fun x Y=>by have:=aa.o.size;have:=ab.size;omega⟩
     ·rw[zqK zd];exact(Hz.o j hj aC).2 zd
    have aC:=zz av;have aO:=zz an;have aR:=zz ah;clear av an ah ab ao au;go_wp2
    go_roundg (N3-(i+1))
    case measure=>omega
    case rel=>exact⟨i+1,_,zd,rfl,ze,by rw[zpG];exact ad.o,aO.o,HC.o.trans aR.o (fun x Y _=>by rw[Y];simp[zw]),aC.o⟩
   ·obtain rfl:i=N3:=zd;have Z:=U.cell 0;have c1:=U.cell 1;have c2:=U.cell 2;have c3:=U.cell 3;have c4:=U.cell 4;have f0:=O.frozen 0;have f1:=O.frozen 1;have f2:=O.frozen 2;have f3:=O.frozen 3;have f4:=O.frozen 4;have f5:=O.frozen 5;have d0:=O.cell 0;have d1:=O.cell 1;have d2:=O.cell 2;have d3:=O.cell 3;have d4:=O.cell 4;have d5:=O.cell 5;clear U O ai ho hC hz;go_wp2;have L:zh (·=w.heap.size+1) wr (((((((wr.setCell ⟨w.heap.size+1,0,none⟩ (.int .i8 q)).setCell ⟨w.heap.size+1,1,none⟩ (.string v)).setCell ⟨w.heap.size+1,2,none⟩ (.int .i8 k)).setCell ⟨w.heap.size+1,3,none⟩ (.int .i64 m)).setCell ⟨w.heap.size+1,4,none⟩ (.string s)).setCell ⟨w.heap.size+1,5,none⟩ (.slice X i r))):=
     ((((((zh.refl (·=w.heap.size+1) wr).setCell (p:=⟨w.heap.size+1,0,none⟩) (fun _=>rfl) _).setCell (p:=⟨w.heap.size+1,1,none⟩) (fun _=>rfl) _).setCell (p:=⟨w.heap.size+1,2,none⟩) (fun _=>rfl) _).setCell (p:=⟨w.heap.size+1,3,none⟩) (fun _=>rfl) _).setCell (p:=⟨w.heap.size+1,4,none⟩) (fun _=>rfl) _).setCell (p:=⟨w.heap.size+1,5,none⟩) (fun _=>rfl) _
    have V:=(((((aB.o.qE 0 (.int .i8 q)).qE 1 (.string v)).qE 2 (.int .i8 k)).qE 3 (.int .i64 m)).qE 4 (.string s)).qE 5 (.slice X i r);clear Z c1 c2 c3 c4 c5 f0 f1 f2 f3 f4 f5 d0 d1 d2 d3 d4 d5;generalize(((((((wr.setCell ⟨w.heap.size+1,0,none⟩ (.int .i8 q)).setCell ⟨w.heap.size+1,1,none⟩ (.string v)).setCell ⟨w.heap.size+1,2,none⟩ (.int .i8 k)).setCell ⟨w.heap.size+1,3,none⟩ (.int .i64 m)).setCell ⟨w.heap.size+1,4,none⟩ (.string s)).setCell ⟨w.heap.size+1,5,none⟩ (.slice X i r)))=w7 at L V ⊢;have z0:w7.cell? ⟨w.heap.size+1,0,none⟩=some (.int .i8 q):=V.cell 0;have z1:w7.cell? ⟨w.heap.size+1,1,none⟩=some (.string v):=V.cell 1;have z2:w7.cell? ⟨w.heap.size+1,2,none⟩=some (.int .i8 k):=V.cell 2;have z3:w7.cell? ⟨w.heap.size+1,3,none⟩=some (.int .i64 m):=V.cell 3;have z4:w7.cell? ⟨w.heap.size+1,4,none⟩=some (.string s):=V.cell 4;have z5:w7.cell? ⟨w.heap.size+1,5,none⟩=some (.slice X i r):=V.cell 5;refine bodyPost_ret (v:=.agg #[.int .i8 q,.string v,.int .i8 k,.int .i64 m,.string s,.slice X i r]) (by simp[results,results100,go_sem,z0,z1,z2,z3,z4,z5]) rfl ?_;have Z:zs.length=I.length:=by rw[ad.o,HN.o]
    refine⟨.mk q ⟨v,⟨k,m,s⟩⟩ X r zs,by rw[Ex.cells,ad.o],?_,?_,?_,?_⟩
    ·rw[Ex.bare,Ex.bare,zkT Z fun j hj ac=>((Hz.o j hj ac).1 (by rw[HN.o]at hj;exact hj)).1]
    ·unfold Ex.zO;refine⟨(Ho.o.zC L fun g hg e=>by have:=R.o g hg;omega).xI,by rw[ad.o];omega,Ex.qB.of fun e he=>?_⟩;obtain⟨j,hj,rfl⟩:=zpl.1 he;have h1:=(Hz.o j zd hj).1 (by rw[ad.o]at hj;exact hj);exact h1.2.1.kept L (h1.2.2.mono fun g hg e=>by have:=aj.o;omega)
    ·unfold Ex.off;refine⟨fun g hg=>by have:=R.o g hg;have:=Ho.o.lt g hg;have:=L.size;omega,Ex.zbw.2 fun e he=>?_⟩;obtain⟨j,hj,rfl⟩:=zpl.1 he;have h1:=(Hz.o j zd hj).1 (by rw[ad.o]at hj;exact hj);exact h1.2.2.mono fun g hg=>by have:=aj.o;have:=L.size;omega
    ·exact((ay.o.trans (HC.o.below (by have:=aj.o;omega) (fun x Y=>by have:=R.o x Y;omega))).trans (L.below (by have:=aB.o.lt;omega) (fun x Y=>zd)))
termination_by x=>x
decreasing_by
 have:=List.sizeOf_lt_of_mem hy
 simp_wf
 omega
mutual
def Ex.count:Ex->Nat
 |.mk _ _ _ _ h=>1+Ex.XR h
def Ex.XR:List Ex->Nat
 |[]=>0
 |e::h=>e.count+Ex.XR h
end
theorem Ex.De:∀a b:List Ex,Ex.XR (a++b)=Ex.XR a+Ex.XR b
 |[],b=>by simp[Ex.XR]
 |e::a,b=>by
  show e.count+Ex.XR (a++b)=e.count+Ex.XR a+Ex.XR b;rw[Ex.De a b,zqd]
theorem Ex.zdO(e:Ex):Ex.XR [e]=e.count:=rfl
theorem Ex.zkE(es:List Ex)(k:Nat)(h:k<es.length):Ex.XR (es.take (k+1))=Ex.XR (es.take k)+(es[k]).count:=by
 rw[zo4 h,Ex.De,Ex.zdO]
def Li.count(x:Li):Nat:=1+x.a.args.length+x.l.count+x.r.count
def YA:List Li->Nat
 |[]=>0
 |x::l=>x.count+YA l
theorem zeF(x:Li):∀l:List Li,YA (l++[x])=YA l+x.count
 |[]=>by simp[YA]
 |y::l=>by
  show y.count+YA (l++[x])=y.count+YA l+x.count;rw[zeF x l,zqd]
def Ru.count(x:Ru):Nat:=1+x.head.length+YA x.body
def Yy:List Fa->Nat
 |[]=>0
 |x::l=>1+x.args.length+Yy l
theorem zeT(x:Fa):∀l:List Fa,Yy (l++[x])=Yy l+(1+x.args.length)
 |[]=>by simp[Yy]
 |y::l=>by
  show 1+y.args.length+Yy (l++[x])=1+y.args.length+Yy l+_;rw[zeT x l];omega
theorem zfk(e:Ex)(left:Nat)(w:World)(h1:left<=1048576)(hl:e.zO w):
 Calls prog 146 #[.agg e.cells.toArray,.int .i64 (left:Int)] w fun x I=>∃r:Nat,x=.returned (.int .i64 (r:Int))/\r<=left+1/\(r<=left->r=e.count)/\Bl w I:=by
 have I:=zz (show ∃q v k m s A n N,e.cells=[.int .i8 q,.string v,.int .i8 k,.int .i64 m,.string s,.slice A n N] by cases e;exact⟨_,_,_,_,_,_,_,_,rfl⟩);obtain⟨q,v,k,m,s,A,n,N,I⟩:=I.o;have aC:=zz I;rw[I];have Hl:=zz hl;obtain⟨NN,L⟩:∃NN,e.count=NN:=⟨_,rfl⟩;rw[L];have aH:=zz L;clear I hl L;go_enter func146,ntmps146;go_wp2
 go_loopg[5,6,7] 65540 (fun gk R O L I=>∃(nn d:Nat) (A:Option Addr) (m N:Nat) (es:List Ex),gk=65540-d/\d<=65537/\R=.int .i64 (nn:Int)/\nn<=left/\O=.slice A m N/\es.length=m/\L=.int .i64 (d:Int)/\zY Ex.cells I A es/\m<=left+1/\nn+Ex.XR es=NN/\(∀e∈es,e.zO I)/\Bl w I)
 case atStart=>
  have L:Bl w ((w.alloc (.cells #[.int .i8 q,.string v,.int .i8 k,.int .i64 m,.string s,.slice A n N] 48)).alloc (.cells #[.int .i8 q,.string v,.int .i8 k,.int .i64 m,.string s,.slice A n N] 48)):=(xo w _).trans ((xo _ _).mono zp);refine⟨0,0,_,_,_,[e],rfl,zd,rfl,zd,rfl,rfl,rfl,fun _=>⟨_,_,rfl,zp,?_⟩,zp,by rw[Ex.zdO,aH.o,zpx],?_,L⟩
  ·have h:=ZB (w.alloc (.cells #[.int .i8 q,.string v,.int .i8 k,.int .i64 m,.string s,.slice A n N] 48)) [.int .i8 q,.string v,.int .i8 k,.int .i64 m,.string s,.slice A n N] 48;simp only[zps,zqX,zpw];rw[aC.o];simpa using h
  ·intro O I;rw[zo2]at I;rw[I];exact Ex.zO.below L Hl.o
 case round=>
  obtain⟨nn,d,A,m,N,es,rfl,hd,rfl,aQ,rfl,U,rfl,O,aN,R,I,L⟩:=hrel;obtain⟨W1,rfl⟩:∃W1,W1=wr:=⟨_,rfl⟩;have Hm:=zz U;have HB:=zz L;have an:=zz I;have aA:=zz O;have aw:=zz R;clear L I O U R
  by_cases ar:m=0
  ·subst ar;have L:es=[]:=zpI Hm.o;have I:=zz (show nn=NN by have:=aw.o;rw[L]at this;simpa[Ex.XR]using this);clear L;go_wp2;go_returns;exact⟨nn,rfl,zd,fun _=>I.o,HB.o⟩
  ·have aP:0<m:=zd;clear ar
   by_cases hn:nn+m<=left
   ·by_cases aM:d<=65536
    ·go_wp2
     go_loopg[8,9] m (fun gk Y I V=>∃(i c N:Nat) (B:Option Addr) (L:List Ex),i<=m/\gk=m-i/\I=.int .i64 (i:Int)/\L.length=c/\Y=.slice B c N/\Own Ex.cells 48 6 V B N L/\(∀g∈zw B,W1.heap.size<=g)/\nn+m+c<=left/\Ex.XR (es.take i)=i+Ex.XR L/\(∀e∈L,e.zO W1)/\Bl W1 V)
     case atStart=>exact⟨0,0,0,none,[],zo5 _,rfl,rfl,rfl,rfl,Own.qC _,by simp[zw],hn,by simp[Ex.XR],zp,Below.refl _ _⟩
     case round=>
      obtain⟨i,c,ah,B2,L,aL,rfl,rfl,X,rfl,xT,U,aR,O,I,R⟩:=hrel;obtain⟨W2,rfl⟩:∃W2,W2=wr:=⟨_,rfl⟩;have Hc:=zz X;have ai:=zz xT;have aK:=zz U;have ab:=zz I;have aa:=zz R;have ag:=zz O;clear X xT I R U O
      by_cases aB:i<m
      ·have I:i<es.length:=by rw[Hm.o];exact aB
       obtain⟨b,o,rfl,av,O⟩:=aA.o.at Ex.xF i I;have R:=an.o _ (zo3 I);have U:=Ex.zkE es i I;generalize es[i]=X at O R U;clear I;obtain⟨q1,⟨v1,k1,m1,s1⟩,A1,af,I⟩:=X;unfold Ex.zO at R;obtain⟨l1,l2,Z⟩:=R;obtain⟨p,X⟩:∃p,I.length=p:=⟨_,rfl⟩;have c5:W2.cell? ⟨b,o+i*6+5,none⟩=some (.slice A1 p af):=by rw[<-X];exact yo O aa.o av 5 _ rfl
       have R:∀W,Bl W1 W->W.cell? ⟨b,o+i*6+5,none⟩=some (.slice A1 p af):=fun W hW=>by rw[<-X];exact yo O hW av 5 _ rfl
       rw[X]at l2;have Hp:=zz X;have L1:=zz l1;have L3:=zz Z;have C5:=zz R;have aG:=zz U;clear X l1 Z R O U
       by_cases hg:nn+m+c+p<=left
       ·go_wp2
        go_loopg[8,10] p (fun gk Y O V=>∃(k c3 U:Nat) (B3:Option Addr),k<=p/\gk=p-k/\O=.int .i64 (k:Int)/\c3=c+k/\Y=.slice B3 c3 U/\(L++I.take k).length=c3/\Own Ex.cells 48 6 V B3 U (L++I.take k)/\(∀g∈zw B3,W1.heap.size<=g)/\Bl W1 V)
        case atStart=>exact⟨0,c,ah,B2,zo5 _,rfl,rfl,rfl,rfl,by simpa using Hc.o,by simpa using ai.o,aK.o,aa.o⟩
        case round=>
         obtain⟨k,c3,U,B3,aO,rfl,rfl,al,rfl,Y,O,R,X⟩:=hrel;obtain⟨W3,rfl⟩:∃W3,W3=wr:=⟨_,rfl⟩;have c5:=C5.o W3 X;have Z:=zz O;have V:=zz R;have am:=zz Y;have ad:=zz X;clear O X R Y
         by_cases ax:k<p
         ·have ao:k<I.length:=by rw[Hp.o];exact ax
          obtain⟨b3,o3,rfl,aE,X⟩:=L1.o.at Ex.xF k ao;have ac:L++I.take (k+1)=(L++I.take k)++[I[k]]:=by rw[zo4 ao,zpo]
          have ak:=yo X ad.o aE;generalize I[k]=e3 at ac ak;obtain⟨q3,⟨v3,k3,m3,s3⟩,A4,O,R⟩:=e3;obtain⟨p3,ap⟩:∃p3,R.length=p3:=⟨_,rfl⟩;have Y:(Ex.mk q3 ⟨v3,k3,m3,s3⟩ A4 O R).cells=[.int .i8 q3,.string v3,.int .i8 k3,.int .i64 m3,.string s3,.slice A4 p3 O]:=by rw[<-ap];rfl
          rw[Y]at ak;have aj:=zz ac;have aD:(prog.info? 48).map (·.size)=some [Value.int .i8 q3,.string v3,.int .i8 k3,.int .i64 m3,.string s3,.slice A4 p3 O].length:=DP;have ae:=zz Y;have aJ:=zz al;have aI:c3<=4194304:=zd;clear ac X ap ao al Y
          go_wp2_with (first
           |(refine xV 48 _ rfl ?_;refine wpList_load_mid rfl 48 _ rfl b3 (o3+k*6) rfl [.int .i8 q3,.string v3,.int .i8 k3,.int .i64 m3,.string s3,.slice A4 p3 O] _ ak underlying48 rfl aD ?_)
           |(at_builtin;refine X0 rfl _ _ rfl zdE (f:=Ex.cells) (xs:=L++I.take k) (Z.o.alloc _) am.o (.mk q3 ⟨v3,k3,m3,s3⟩ A4 O R) _ 0 1 rfl rfl (Ex.xF _) (by rw[ae.o];exact yp _ _ _ rfl) (by rw[ae.o];simp[Value.oneCell']) aI zr ?_))
          intro g4 ao W4 Y au ay;have az:zh (·∈zw B3) W3 W4:=((zh.refl (·∈zw B3) W3).alloc _).trans au (fun x X _=>X);have X:Bl W1 W4:=az.qq ad.o (zoZ _) V.o;have aq:W1.heap.size<=g4:=by
           rcases ay with h|h
           ·exact V.o g4 h
           ·have h4:=ad.o.size;try simp at h
            omega
          have ac:=zz Y;have ap:=zz X;have aF:=zz aq;clear Y au ay az X aq;go_wp2
          go_roundg (p-(k+1))
          case measure=>omega
          case rel=>
           have al:=aJ.o;exact⟨k+1,c3+1,ao,some ⟨g4,0,none⟩,zd,rfl,ze,zd,rfl,by rw[aj.o,zo1,am.o];rfl,by rw[aj.o];simpa only[zpo]using ac.o,xW aF.o,ap.o⟩
         ·obtain rfl:k=p:=zd;have O:=Z.o;have R:=am.o;rw[zpm (by rw[Hp.o];exact zoZ _)]at O R;have X:=zz O;have Y:=zz R;clear O R;go_wp2
          go_roundg (m-(i+1))
          case measure=>omega
          case rel=>
           refine⟨i+1,c3,U,B3,L++I,zd,rfl,ze,Y.o,rfl,X.o,V.o,zd,?_,?_,ad.o⟩
           ·have h1:=aG.o;have R:=ag.o;rw[Ex.De];unfold Ex.count at h1;omega
           ·intro e O
            rcases zo7.1 O with O|O
            ·exact ab.o e O
            ·exact Ex.qB.mem L3.o e O
       ·go_wp2;go_returns;exact⟨left+1,ze,zoZ _,fun h=>absurd h zd,HB.o.trans (aa.o.mono HB.o.size)⟩
      ·obtain rfl:i=m:=zd;go_wp2
       go_roundg (65540-(d+1))
       case measure=>omega
       case rel=>
        refine⟨nn+i,d+1,B2,c,ah,L,rfl,zd,ze,hn,rfl,Hc.o,ze,ai.o.xI,zd,?_,fun e O=>Ex.zO.below aa.o (ab.o e O),HB.o.trans (aa.o.mono HB.o.size)⟩;have h1:=aw.o;have R:=ag.o;rw[zpm (by rw[Hm.o];exact zoZ _)]at R;omega
    ·go_wp2
     all_goals(first|omega |(go_returns;exact⟨left+1,ze,zoZ _,fun h=>absurd h zd,HB.o⟩))
   ·go_wp2;go_returns;exact⟨left+1,ze,zoZ _,fun h=>absurd h zd,HB.o⟩
theorem zky(x:Li)(left:Nat)(w:World)(h1:left<=1048576)(hl:x.zO w):
 Calls prog 84 #[.agg x.cells.toArray,.int .i64 (left:Int)] w fun e w'=>∃r:Nat,e=.returned (.int .i64 (r:Int))/\r<=left+1/\(r<=left->r=x.count)/\Bl w w':=by
 obtain⟨k,⟨p,A,U,aj⟩,rl,l,r⟩:=x;obtain⟨X,L,R,V,N,O,e1⟩:=zbg l.xF;obtain⟨ac,Z,Y,aa,ab,ad,e2⟩:=zbg r.xF;have t1:=fun(W:World) (I:Bl w W)=>zfk l left W h1 (hl.l.below I)
 have t2:=fun(W:World) (I:Bl w W) (z:Int) (hz:0<=z) (ae:z<=1048576)=>(zfk r z.toNat W zd (hl.r.below I))
 have ag:=hl.a.len;simp only at ag;rw[e1]at t1;rw[e2]at t2;obtain⟨cl,ah⟩:∃c,l.count=c:=⟨_,rfl⟩;obtain⟨cr,af⟩:∃c,r.count=c:=⟨_,rfl⟩;unfold Li.count;simp only;rw[ah]at t1 ⊢;rw[af]at t2 ⊢;have t2:∀(W:World),Bl w W->∀z:Int,0<=z->z<=1048576->Calls prog 146 #[.agg #[ac,Z,Y,aa,ab,ad],.int .i64 z] W fun e w'=>∃r:Nat,e=.returned (.int .i64 (r:Int))/\(r:Int)<=z+1/\((r:Int)<=z->r=cr)/\Bl W w':=fun W I z hz ae=>by
  have h:=t2 W I z hz ae;rw[Int.toNat_of_nonneg hz]at h;refine h.mono ?_;rintro e w'⟨r,rfl,h1,h2,I⟩;exact⟨r,rfl,zd,fun h=>h2 zd,I⟩
 unfold Li.cells;simp only;rw[e1,e2];simp only[zpc,zpa];obtain⟨n,I⟩:∃n,aj.length=n:=⟨_,rfl⟩;rw[I]at ag ⊢;clear I e1 e2 hl ah af;obtain⟨W0,I⟩:∃W0,(w.alloc (.cells #[.int .i8 k,.string p,.slice A n U,.int .i8 rl,X,L,R,V,N,O,ac,Z,Y,aa,ab,ad] 50))=W0:=⟨_,rfl⟩;have ah:Bl w W0.drew:=I▸(xo w _).drew;have ai:w.heap.size<W0.drew.heap.size:=by rw[<-I];simp
 have ae:W0.drew.rangeAt w.heap.size 0 [.int .i8 k,.string p,.slice A n U,.int .i8 rl,X,L,R,V,N,O,ac,Z,Y,aa,ab,ad]:=I▸ZB w [.int .i8 k,.string p,.slice A n U,.int .i8 rl,X,L,R,V,N,O,ac,Z,Y,aa,ab,ad] 50;have q:∀W:World,W.rangeAt w.heap.size 0 [.int .i8 k,.string p,.slice A n U,.int .i8 rl,X,L,R,V,N,O,ac,Z,Y,aa,ab,ad]->
  W.cell? ⟨w.heap.size,2,none⟩=some (.slice A n U)/\W.cell? ⟨w.heap.size,4,none⟩=some X/\W.cell? ⟨w.heap.size,5,none⟩=some L/\W.cell? ⟨w.heap.size,6,none⟩=some R/\W.cell? ⟨w.heap.size,7,none⟩=some V/\W.cell? ⟨w.heap.size,8,none⟩=some N/\W.cell? ⟨w.heap.size,9,none⟩=some O:=
  fun W h=>⟨h 2 _ rfl,h 4 _ rfl,h 5 _ rfl,h 6 _ rfl,h 7 _ rfl,h 8 _ rfl,h 9 _ rfl⟩
 have ak:=q _ ae;have af:=zz q;have av:=zz I;have al:=zz ah;have ao:=zz ai;have aq:=zz ae;have aw:=zz (t1 W0.drew ah);have ap:=zz t2;clear I ah ai ae t1 t2 q;go_enter func84,ntmps84;go_upto_region 1 with fail
 rw[av.o]
 go_region_held3 (fun I:World=>I.cell? ⟨w.heap.size,2,none⟩=some (.slice A n U)/\I.cell? ⟨w.heap.size,4,none⟩=some X/\I.cell? ⟨w.heap.size,5,none⟩=some L/\I.cell? ⟨w.heap.size,6,none⟩=some R/\I.cell? ⟨w.heap.size,7,none⟩=some V/\I.cell? ⟨w.heap.size,8,none⟩=some N/\I.cell? ⟨w.heap.size,9,none⟩=some O) (first|exact ak|exact an) (first
  |(
   go_at_call 146;refine aw.o.mono ?_;rintro e W1⟨r1,rfl,ay,am,ah⟩
   have I:=zz (yo aq.o ah ao.o);have an:=af.o W1 I.o))
 have ai:Bl w W1:=al.o.trans (ah.mono al.o.size);have g0:=I.o 10 _ rfl;have g1:=I.o 11 _ rfl;have g2:=I.o 12 _ rfl;have g3:=I.o 13 _ rfl;have g4:=I.o 14 _ rfl;have g5:=I.o 15 _ rfl;simp only[zpx]at g0 g1 g2 g3 g4 g5;have ae:=zz ai;have au:=zz am;clear ai ah ak an am
 by_cases az:1+n+r1<=left
 ·go_wp2_with (go_at_call 146;refine(ap.o W1 ae.o _ zd (zd)).mono ?_;rintro e W2⟨r2,rfl,ax,ai,ak⟩;have ar:=zz ai;clear ai)
  go_returns;refine⟨1+n+r1+r2,ze,zd,fun h=>?_,ae.o.trans (ak.mono ae.o.size)⟩;rw[au.o zd,ar.o zd]
 ·go_wp2;go_returns;exact⟨left+1,ze,zoZ _,fun h=>absurd h zd,ae.o⟩
theorem zgX(x:Ru)(left:Nat)(w:World)(h1:left<=1048576)(hl:x.zO w):
 Calls prog 36 #[.agg x.cells.toArray,.int .i64 (left:Int)] w fun e w'=>∃r:Nat,e=.returned (.int .i64 (r:Int))/\r<=x.head.length+left+2/\(r<=left->r=x.count)/\Bl w w':=by
 obtain⟨p,A,X,Y,B,zM,q⟩:=x;obtain⟨n,hn⟩:∃n,Y.length=n:=⟨_,rfl⟩;obtain⟨m,hm⟩:∃m,q.length=m:=⟨_,rfl⟩;have O:=hl.X9;have N:=hl.Xz;simp only at O N;unfold Ru.count;simp only[Ru.cells];rw[hn]at O ⊢;rw[hm]at N ⊢;have U:∀y∈q,y.zO w:=hl.body;obtain⟨W0,R⟩:∃W0,(w.alloc (.cells #[.string p,.slice A n X,.slice B m zM] 25))=W0:=⟨_,rfl⟩;have ad:Bl w W0:=R▸xo w _;have ab:w.heap.size<W0.heap.size:=by rw[<-R];simp
 have V:W0.rangeAt w.heap.size 0 [.string p,.slice A n X,.slice B m zM]:=R▸ZB w [.string p,.slice A n X,.slice B m zM] 25;have c1:W0.cell? ⟨w.heap.size,1,none⟩=some (.slice A n X):=V 1 _ rfl;have I:∀i,(hi:i<q.length)->∃b o,B=some ⟨b,o,none⟩/\b<w.heap.size/\w.rangeAt b (o+i*16) q[i].cells:=fun i hi=>hl.rd.at (c:=15) Li.xF i hi
 have L:∀(i:Nat)(hi:i<q.length)(W:World),Bl w W->∀z:Int,0<=z->z<=1048576->Calls prog 84 #[.agg q[i].cells.toArray,.int .i64 z] W fun e w'=>∃r:Nat,e=.returned (.int .i64 (r:Int))/\(r:Int)<=z+1/\((r:Int)<=z->r=q[i].count)/\Bl W w':=fun i hi W hW z Z aa=>by
  have h:=zky q[i] z.toNat W zd ((U _ (zo3 _)).below hW);rw[Int.toNat_of_nonneg Z]at h;refine h.mono ?_;rintro e w'⟨r,rfl,h1,h2,Z⟩;exact⟨r,rfl,zd,fun h=>h2 zd,Z⟩
 have aq:=zz R;have ao:=zz ad;have ac:=zz ab;have am:=zz V;have Z:=zz I;have aa:=zz L;have Hm:=zz hm;clear R ad ab V I L hn hm hl U;go_enter func36,ntmps36;go_wp2
 go_loopg[5,6] (m+1) (fun gk R L I=>∃(a i:Nat),R=.int .i64 (a:Int)/\L=.int .i64 (i:Int)/\i<=m/\gk=m+1-i/\a<=n+left+2/\(a<=left->a=1+n+YA (q.take i))/\Bl W0 I)
 case atStart=>exact⟨1+n,0,ze,rfl,zo5 _,rfl,zd,fun _=>by simp[YA],by rw[aq.o];exact Below.refl _ _⟩
 case round=>
  obtain⟨a,i,rfl,rfl,hi,rfl,ha,I,L⟩:=hrel;obtain⟨W1,rfl⟩:∃W1,W1=wr:=⟨_,rfl⟩;have c2:W1.cell? ⟨w.heap.size,2,none⟩=some (.slice B m zM):=yo am.o L ac.o 2 _ rfl;have HB:=zz L;have V:Kz (Bl w W1):=ao.o.trans (L.mono (zqB ac.o));have ae:=zz I;clear L I
  by_cases al:i<m
  ·by_cases an:a<=left
   ·have U:i<q.length:=by rw[Hm.o];exact al
    obtain⟨b,o,rfl,hb,R⟩:=Z.o i U;have hc:=aa.o i U W1 V.o;have L:=yo R V.o hb;have I:=q[i].xF;have ab:YA (q.take (i+1))=YA (q.take i)+q[i].count:=by rw[zo4 U,zeF]
    generalize q[i].count=ct at hc ab;generalize q[i].cells=cs at hc R L I;clear U;obtain⟨x0,x1,x2,x3,x4,x5,x6,x7,x8,x9,af,ai,ad,ah,aj,ag,rfl⟩:=zgC I;have Hc:=zz hc;have U:=zz L;have ap:=zz ab;have ak:(prog.info? 50).map (·.size)=some [x0,x1,x2,x3,x4,x5,x6,x7,x8,x9,af,ai,ad,ah,aj,ag].length:=T8;clear hc R L I ab
    go_wp2_with (first
     |(refine xV 50 _ rfl ?_;refine wpList_load_mid rfl 50 _ rfl b (o+i*16) rfl [x0,x1,x2,x3,x4,x5,x6,x7,x8,x9,af,ai,ad,ah,aj,ag] _ U.o underlying50 rfl ak ?_)
     |(go_at_call 84;refine(Hc.o _ zd (zd)).mono ?_;rintro e W2⟨r2,rfl,ab,I,L⟩;have R:=zz I;clear I))
    go_roundg (m+1-(i+1))
    case measure=>omega
    case rel=>exact⟨a+r2,i+1,ze,ze,zd,rfl,zd,fun h=>by rw[ap.o,<-R.o zd];have:=ae.o zd;omega,HB.o.trans (L.mono HB.o.size)⟩
   ·go_wp2;go_returns;exact⟨a,ze,ha,fun h=>absurd h an,V.o⟩
  ·obtain rfl:i=m:=zd;have I:Kz (a<=left->a=1+n+YA q):=fun h=>by have:=ae.o h;rwa [zpm (zqC Hm.o)]at this
   go_wp2;go_returns;exact⟨a,ze,ha,I.o,V.o⟩
theorem zmN(x:Ru)(w:World)(R:x.zO w):
 Calls prog 8 #[.agg x.cells.toArray] w fun e q=>∃b:Bool,e=.returned (.bool b)/\(b=false->x.count<=1048576)/\Bl w q:=by
 have I:=xo w (.cells x.cells.toArray 25);have L:=zgX x 1048576 (w.alloc (.cells x.cells.toArray 25)) (zoZ _) (R.below I);have W:x.head.length*56<=140737488351232:=R.X9;obtain⟨N,U⟩:∃N,x.count=N:=⟨_,rfl⟩;rw[U]at L ⊢;obtain⟨p,A,aa,q,B,zM,O⟩:=x;simp only[Ru.cells]at L I W ⊢;obtain⟨n,X⟩:∃n,q.length=n:=⟨_,rfl⟩;obtain⟨m,Y⟩:∃m,O.length=m:=⟨_,rfl⟩;rw[X]at L I W ⊢;rw[Y]at L I ⊢;have Z:=zz L;have V:=zz I;clear L I X Y R U;go_enter func8,ntmps8
 go_wp2_with (go_at_call 36;refine Z.o.mono ?_;rintro e W1⟨r,rfl,hr,U,I⟩;have X:=zz U;clear U)
 go_returns;refine⟨_,rfl,fun h=>?_,V.o.trans (I.mono V.o.size)⟩;have L:r<=1048576:=by
  have Y:(r:Int)<=1048576:=by simpa using h
  omega
 rw[<-X.o L];exact L
theorem zjJ(A:Option Addr)(cap n:Nat)(l:List Fa)(w:World)(X:zY Fa.cells w A l)(Z:l.length=n)(aa:n<=140737488351232)(I:∀f∈l,f.args.length<=140737488351232):
 Calls prog 9 #[.slice A n cap] w fun e q=>∃b:Bool,e=.returned (.bool b)/\(b=false->Yy l<=1048576)/\Bl w q:=by
 have HL:=zz X;have Hn:=zz Z;have W:=zz I;clear X Z I;go_enter func9,ntmps9;go_wp2
 go_loopg[3,4] n (fun gk q N L=>∃(a i:Nat),q=.int .i64 (a:Int)/\N=.int .i64 (i:Int)/\i<=n/\gk=n-i/\a<=1048576/\a=Yy (l.take i)/\Bl w L)
 case atStart=>exact⟨0,0,rfl,rfl,zo5 _,rfl,zo5 _,by simp[Yy],Below.refl _ _⟩
 case round=>
  obtain⟨a,i,rfl,rfl,hi,rfl,ha,q,L⟩:=hrel;have R:=zz L;have O:=zz q;clear L q
  by_cases U:i<n
  ·have N:i<l.length:=by rw[Hn.o];exact U
   obtain⟨b,o,rfl,hb,q⟩:=(HL.o.below R.o).at (c:=1) (fun _=>rfl) i N;have I:=W.o _ (zo3 N);have L:Yy (l.take (i+1))=Yy (l.take i)+(1+l[i].args.length):=by rw[zo4 N,zeT]
   obtain⟨x,Y⟩:∃x,l[i]=x:=⟨_,rfl⟩;rw[Y]at q I L;obtain⟨p,B,zM,r⟩:=x;simp only[Fa.cells]at q I L
   replace q:wr.rangeAt b (o+i*2) _:=q
   have c2:wr.cell? ⟨b,o+i*2+1,none⟩=some (.slice B r.length zM):=(two q).2;generalize r.length=k at *;have V:=zz L;clear L q Y
   by_cases q:a+1+k<=1048576
   ·go_wp2
    go_roundg (n-(i+1))
    case measure=>omega
    case rel=>exact⟨a+1+k,i+1,ze,ze,zd,rfl,q,by rw[V.o,<-O.o];omega,R.o⟩
   ·go_wp2;go_returns;exact⟨true,rfl,(fun h=>nomatch h),R.o⟩
  ·obtain rfl:i=n:=zd;have q:=zz (show Yy l<=1048576 by have L:=O.o;rw[zpm (zqC Hn.o)]at L;omega);go_wp2;go_returns;exact⟨false,rfl,fun _=>q.o,R.o⟩
end
end Go.Proofs.YtfdickkdlcgicaaGreatDoor.C
namespace Go.Proofs
open Go.Proofs.Tryz Go Go.RowKit Go.Maps Go.WideMaps
section
open Go.Shelf
def Tryz.zlV:Go.Shelf.Ren:=⟨fun|171=>211|243=>249|246=>269|283=>287|284=>288|285=>289|286=>290|129=>189|317=>295|318=>296|319=>297|320=>298|337=>167|338=>300|n=>n,fun|3=>3|9=>9|2=>2|4=>4|171=>420|0=>0|53=>333|37=>368|5=>5|173=>422|212=>428|51=>104|20=>20|213=>429|46=>246|232=>365|233=>431|n=>n,fun|17=>3|18=>0|19=>4|n=>n⟩
theorem Tryz.zg1:Go.Proofs.LaysM.n171 prog Tryz.zlV:={
 mixed:=by kernel_rfl
 f129:=func189.trans (congrArg some (by kernel_rfl))
 f171:=func211.trans (congrArg some (by kernel_rfl))
 f243:=func249.trans (congrArg some (by kernel_rfl))
 f246:=func269.trans (congrArg some (by kernel_rfl))
 f283:=func287.trans (congrArg some (by kernel_rfl))
 f284:=func288.trans (congrArg some (by kernel_rfl))
 f285:=func289.trans (congrArg some (by kernel_rfl))
 f286:=func290.trans (congrArg some (by kernel_rfl))
 f317:=func295.trans (congrArg some (by kernel_rfl))
 f318:=func296.trans (congrArg some (by kernel_rfl))
 f319:=func297.trans (congrArg some (by kernel_rfl))
 f320:=func298.trans (congrArg some (by kernel_rfl))
 f337:=func167.trans (congrArg some (by kernel_rfl))
 f338:=func300.trans (congrArg some (by kernel_rfl))
 t0:=underlying0
 a0:=isAgg0
 z0:=sizeOf0
 v0:=zeroValue0
 t2:=underlying2
 a2:=isAgg2
 z2:=sizeOf2
 v2:=zeroValue2
 t3:=underlying3
 a3:=isAgg3
 z3:=sizeOf3
 v3:=zeroValue3
 t4:=underlying4
 a4:=isAgg4
 z4:=sizeOf4
 v4:=zeroValue4
 t5:=underlying5
 a5:=isAgg5
 z5:=sizeOf5
 v5:=zeroValue5
 t9:=underlying9
 a9:=isAgg9
 z9:=sizeOf9
 v9:=zeroValue9
 t20:=underlying20
 a20:=isAgg20
 z20:=sizeOf20
 v20:=zeroValue20
 t37:=underlying368
 a37:=isAgg368
 z37:=sizeOf368
 v37:=zeroValue368
 t46:=underlying246
 a46:=isAgg246
 z46:=sizeOf246
 v46:=zeroValue246
 t51:=underlying104
 a51:=isAgg104
 z51:=sizeOf104
 v51:=zeroValue104
 t53:=underlying333
 a53:=isAgg333
 z53:=sizeOf333
 v53:=zeroValue333
 t171:=underlying420
 a171:=isAgg420
 z171:=sizeOf420
 v171:=zeroValue420
 t173:=underlying422
 a173:=isAgg422
 z173:=sizeOf422
 v173:=zeroValue422
 t212:=underlying428
 a212:=isAgg428
 z212:=sizeOf428
 v212:=zeroValue428
 t213:=underlying429
 a213:=isAgg429
 z213:=sizeOf429
 t232:=underlying365
 a232:=isAgg365
 z232:=sizeOf365
 v232:=zeroValue365
 t233:=underlying431
 a233:=isAgg431
 z233:=sizeOf431
 v233:=zeroValue431
 g17:=by kernel_rfl
 g18:=by kernel_rfl
 g19:=by kernel_rfl
 i0:=by kernel_rfl
 i2:=by kernel_rfl
 i3:=by kernel_rfl
 i4:=by kernel_rfl
 i5:=by kernel_rfl
 i9:=by kernel_rfl
 i20:=by kernel_rfl
 i37:=by kernel_rfl
 i46:=by kernel_rfl
 i51:=by kernel_rfl
 i53:=by kernel_rfl
 i171:=by kernel_rfl
 i173:=by kernel_rfl
 i212:=by kernel_rfl
 i232:=by kernel_rfl
 i233:=by kernel_rfl
 m17:=by kernel_rfl
 m18:=by kernel_rfl
 m19:=by kernel_rfl }
def Tryz.zhw:Go.Shelf.Ren:=⟨fun|173=>245|246=>269|283=>287|284=>288|285=>289|286=>290|129=>189|317=>295|318=>296|319=>297|320=>298|337=>167|338=>300|n=>n,fun|2=>2|3=>3|9=>9|4=>4|171=>420|0=>0|53=>333|37=>368|5=>5|173=>422|212=>428|51=>104|20=>20|213=>429|46=>246|232=>365|233=>431|n=>n,fun|17=>3|18=>0|19=>4|n=>n⟩
theorem Tryz.zjB:Go.Proofs.LaysM.n173 prog Tryz.zhw:={
 mixed:=by kernel_rfl
 f129:=func189.trans (congrArg some (by kernel_rfl))
 f173:=func245.trans (congrArg some (by kernel_rfl))
 f246:=func269.trans (congrArg some (by kernel_rfl))
 f283:=func287.trans (congrArg some (by kernel_rfl))
 f284:=func288.trans (congrArg some (by kernel_rfl))
 f285:=func289.trans (congrArg some (by kernel_rfl))
 f286:=func290.trans (congrArg some (by kernel_rfl))
 f317:=func295.trans (congrArg some (by kernel_rfl))
 f318:=func296.trans (congrArg some (by kernel_rfl))
 f319:=func297.trans (congrArg some (by kernel_rfl))
 f320:=func298.trans (congrArg some (by kernel_rfl))
 f337:=func167.trans (congrArg some (by kernel_rfl))
 f338:=func300.trans (congrArg some (by kernel_rfl))
 t0:=underlying0
 a0:=isAgg0
 z0:=sizeOf0
 v0:=zeroValue0
 t2:=underlying2
 a2:=isAgg2
 z2:=sizeOf2
 v2:=zeroValue2
 t3:=underlying3
 a3:=isAgg3
 z3:=sizeOf3
 v3:=zeroValue3
 t4:=underlying4
 a4:=isAgg4
 z4:=sizeOf4
 v4:=zeroValue4
 t5:=underlying5
 a5:=isAgg5
 z5:=sizeOf5
 v5:=zeroValue5
 t9:=underlying9
 a9:=isAgg9
 z9:=sizeOf9
 v9:=zeroValue9
 t20:=underlying20
 a20:=isAgg20
 z20:=sizeOf20
 v20:=zeroValue20
 t37:=underlying368
 a37:=isAgg368
 z37:=sizeOf368
 v37:=zeroValue368
 t46:=underlying246
 a46:=isAgg246
 z46:=sizeOf246
 v46:=zeroValue246
 t51:=underlying104
 a51:=isAgg104
 z51:=sizeOf104
 v51:=zeroValue104
 t53:=underlying333
 a53:=isAgg333
 z53:=sizeOf333
 v53:=zeroValue333
 t171:=underlying420
 a171:=isAgg420
 z171:=sizeOf420
 v171:=zeroValue420
 t173:=underlying422
 a173:=isAgg422
 z173:=sizeOf422
 v173:=zeroValue422
 t212:=underlying428
 a212:=isAgg428
 z212:=sizeOf428
 v212:=zeroValue428
 t213:=underlying429
 a213:=isAgg429
 z213:=sizeOf429
 t232:=underlying365
 a232:=isAgg365
 z232:=sizeOf365
 v232:=zeroValue365
 t233:=underlying431
 a233:=isAgg431
 z233:=sizeOf431
 v233:=zeroValue431
 g17:=by kernel_rfl
 g18:=by kernel_rfl
 g19:=by kernel_rfl
 i0:=by kernel_rfl
 i2:=by kernel_rfl
 i3:=by kernel_rfl
 i4:=by kernel_rfl
 i5:=by kernel_rfl
 i9:=by kernel_rfl
 i20:=by kernel_rfl
 i37:=by kernel_rfl
 i46:=by kernel_rfl
 i51:=by kernel_rfl
 i53:=by kernel_rfl
 i171:=by kernel_rfl
 i173:=by kernel_rfl
 i212:=by kernel_rfl
 i232:=by kernel_rfl
 i233:=by kernel_rfl
 m17:=by kernel_rfl
 m18:=by kernel_rfl
 m19:=by kernel_rfl }
end
end Go.Proofs
namespace Go.Proofs.YtfdickkdlcgicaaGreatDoor.C
open Go.Proofs.Tryz Go Go.RowKit Go.Maps Go.WideMaps
variable {A:Option Addr}{S:Nat->Prop}{W w w':World}{a0 cap g i n size x:Nat}{e t:TypeId}{h q:Array Value}{α:Type}
section
theorem T4{S:Nat->Prop}{a:World}{g:Nat}(q:g<a.heap.size->S g):∀(I:List Value)(o:Nat)(w:World),zh S a w->zh S a (w.setCells g o I)
 |[],_,_,h=>h
 |v::r,o,w,h=>T4 q r (o+1) _ (h.setCell (p:=⟨g,o,none⟩) q v)
structure XK (w:World) (g:Nat) (t:TypeId) (cs:Array Value) (W:World):Prop where
 zG:zD W g t cs
 zC:zh (·=g) w W
 size:W.heap.size=w.heap.size
theorem XK.below{q w:World}{I:Array Value}(h:XK w g t I W){B:Nat}(r:Below B q w)(L:B<=q.heap.size)(N:B<=g):Below B q W:=r.trans (h.zC.below (by have:=r.size;omega) (fun x O=>zd))
theorem XK.qj{w:World}{r:Nat}{I:TypeId}{L:Array Value}(h:XK w g t L W)(k:zD w r I q)(N:r≠g):zD W r I q:=k.zC h.zC N
theorem XK.own{f:α->List Value}{w:World}{xs:List α}(h:XK w g t q W)(k:Own f e size w A cap xs)(r:∀x∈zw A,x≠g):Own f e size W A cap xs:=k.zC h.zC r
section
variable {P:Program}{ops:Array Oper}{rest:List Oper}{o:Oper}{a:Act}{w:World}{Q:Exit->Act->World->Prop}{K:Act->World->Prop}
theorem Gh(q:zD w g t h)(vs:List Value)(r:a0+vs.length<=h.size):XK w g t (h.toList.take a0++vs++h.toList.drop (a0+vs.length)).toArray (w.setCells g a0 vs):=
 ⟨zD.setCells vs a0 w h q r,T4 (S:=(·=g)) (fun _=>rfl) _ _ _ (zh.refl _ w),Jz _ _ _ _⟩
theorem TR(q:zD w g t h)(I:a0+n<=h.size):w.there g a0 n:=fun j r=>⟨by rw[q.cell];simp;omega,q.frozen _⟩
theorem Xi(r:TypeId)(x y:Operand)(N:o.op=.store r x y)(g a0:Nat)(t:TypeId)(q:Array Value)(I:zD w g t q)(vs:List Value)(R:a.eval x=.pointer (some ⟨g,a0,none⟩))(hy:a.eval y=.agg vs.toArray)(L:a0+vs.length<=q.size)(hi:(P.info? r).map (·.size)=some vs.length)(O:∀v∈vs,v.oneCell'=true)(h:∀W,XK w g t (q.toList.take a0++vs++q.toList.drop (a0+vs.length)).toArray W->K (a.put o.dst undef) W):Oper.wp P o a w K Q:=
 wp_store_mid r x y N g a0 vs.toArray R hy (by simpa using TR I L) (by simpa using hi) (all_oneCell_toArray O) (h _ (Gh I vs L))
theorem Xu(hw:Region.wanted o (yielded ops a.tmps)=true)(r:TypeId)(x y:Operand)(U:o.op=.store r x y)(g a0:Nat)(t:TypeId)(q:Array Value)(L:zD w g t q)(vs:List Value)(V:a.eval x=.pointer (some ⟨g,a0,none⟩))(hy:a.eval y=.agg vs.toArray)(R:a0+vs.length<=q.size)(hi:(P.info? r).map (·.size)=some vs.length)(O:∀v∈vs,v.oneCell'=true)(h:∀W,XK w g t (q.toList.take a0++vs++q.toList.drop (a0+vs.length)).toArray W->wpList P ops Q rest (a.put o.dst undef) W):wpList P ops Q (o::rest) a w:=
 wpList_step fun _ N=>by rw[if_pos hw];exact Xi r x y U g a0 t q L vs V hy R hi O fun W I=>N _ _ (h W I)
theorem yE(r:TypeId){x y:Operand}(g a0:Nat)(I:zD w g t q)(vs:List Value)(h:∀W,XK w g t (q.toList.take a0++vs++q.toList.drop (a0+vs.length)).toArray W->wpList P ops Q rest (a.put o.dst undef) W)(hw:Region.wanted o (yielded ops a.tmps)=true:=by rfl)(O:o.op=.store r x y:=by rfl)(R:a.eval x=.pointer (some ⟨g,a0,none⟩):=by rfl)(hy:a.eval y=.agg vs.toArray:=by rfl)(N:a0+vs.length<=q.size:=by simp)(hi:(P.info? r).map (·.size)=some vs.length:=by kernel_rfl)(L:∀v∈vs,v.oneCell'=true:=by simp[Value.oneCell']):wpList P ops Q (o::rest) a w:=
 Xu hw r x y O g a0 t q I vs R hy N hi L h
theorem zbx{L:TypeId}(O:zD w g t h)(X:i<h.size){v:Value}(hi:(P.info? L).map (·.size)=some 1)(I:v.oneCell'=true):(storeVar L ⟨g,i,none⟩ v).run P w=.ok () (w.setCell ⟨g,i,none⟩ v):=by
 have V:v.cells=#[v]:=by cases v<;>first|rfl|cases I
 have W:=TR O (a0:=i) (n:=1) zd;have q:=W 0 zd;rw[zpO]at q;obtain⟨q,r⟩:=q;obtain⟨u,R⟩:=zpW.1 q
 cases hq:P.info? L with
 |none=>simp[hq]at hi
 |some N=>
  have U:N.size=1:=by simpa[hq]using hi
  clear V
  cases v<;>first |(cases I;done)|simp[storeVar,sizeOf,typeInfo,hq,U,go_sem,run_store P w ⟨g,i,none⟩ _ _ I,R,r]
theorem UQ(q:zD w g t h)(v:Value):XK w g t (h.setIfInBounds i v) (w.setCell ⟨g,i,none⟩ v):=
 ⟨q.qE i v,(zh.refl (·=g) w).setCell (p:=⟨g,i,none⟩) (fun _=>rfl) v,by simp[World.setCell]⟩
theorem Xq(I:TypeId)(x y:Operand)(L:o.op=.store I x y)(g i:Nat)(t:TypeId)(q:Array Value)(r:zD w g t q)(v:Value)(O:a.eval x=.pointer (some ⟨g,i,none⟩))(hy:a.eval y=v)(R:i<q.size)(hi:(P.info? I).map (·.size)=some 1)(N:v.oneCell'=true)(h:∀W,XK w g t (q.setIfInBounds i v) W->K (a.put o.dst undef) W):Oper.wp P o a w K Q:=by
 unfold Oper.wp execOp;simp only[L,O,hy,Instr.storeAt,Instr.sureAddr,Sem.run_bind,Sem.run_pure,Result.andThen_ok,zbx r R hi N];exact h _ (UQ r v)
theorem Xf(hw:Region.wanted o (yielded ops a.tmps)=true)(r:TypeId)(x y:Operand)(U:o.op=.store r x y)(g i:Nat)(t:TypeId)(q:Array Value)(L:zD w g t q)(v:Value)(V:a.eval x=.pointer (some ⟨g,i,none⟩))(hy:a.eval y=v)(R:i<q.size)(hi:(P.info? r).map (·.size)=some 1)(O:v.oneCell'=true)(h:∀W,XK w g t (q.setIfInBounds i v) W->wpList P ops Q rest (a.put o.dst undef) W):wpList P ops Q (o::rest) a w:=
 wpList_step fun _ N=>by rw[if_pos hw];exact Xq r x y U g i t q L v V hy R hi O fun W I=>N _ _ (h W I)
theorem yZ(hw:Region.wanted o (yielded ops a.tmps)=true)(r:TypeId)(x:Operand)(N:o.op=.load r x)(b I:Nat)(V:a.eval x=.pointer (some ⟨b,I,none⟩))(q:List Value)(d:TypeDesc)(U:w.rangeAt b I q)(R:P.underlying r=some d)(L:d.isRow=true)(hi:(P.info? r).map (·.size)=some q.length)(h:wpList P ops Q rest (a.put o.dst (.agg q.toArray)) w):wpList P ops Q (o::rest) a w:=
 wpList_step fun _ O=>by rw[if_pos hw];exact wp_load_mid r x N b I V q d U R L hi (O _ _ h)
end
end
section
structure Pw (w:World):Prop where
 lt:3<w.heap.size
 cells:∃t s,w.heap[(3:Nat)]? = some (.cells (Lib.pow10Tab.map fun z=>Value.int .u64 z).toArray t s)
theorem Pw.same(h:Pw w)(r:w.heap.size<=w'.heap.size)(q:w'.heap[(3:Nat)]? = w.heap[(3:Nat)]?):Pw w':=⟨zo0 h.lt r,by rw[q];exact h.cells⟩
theorem Pw.below(h:Pw w)(q:Bl w w'):Pw w':=h.same q.size (q.block _ h.lt)
theorem Pw.zC(h:Pw w)(q:zh S w w')(r:¬S 3):Pw w':=h.same q.size (q.block _ h.lt r)
theorem Pw.tab(h:Pw w){s:String}(q:prog.globalNamed s=some 3):Lib.TabIs prog w s .u64 Lib.pow10Tab:=by
 obtain⟨t,I,r⟩:=h.cells;unfold Lib.TabIs World.var?;rw[q];simp only[zqY,r]
theorem zb1(w:World)(k:Nat)(h:Array Obj):Bl w (Sort.grow (w.drewN k) h):=
 ⟨rfl,rfl,rfl,by simp[Sort.grow],fun g q=>by
  show(w.heap++h)[g]? = w.heap[g]?;rw[Array.getElem?_append_left q]⟩
theorem Tv(w:World)(r:Pw w)(n:Int)(h0:-9223372036854775808<=n)(I:n<=9223372036854775807):Calls prog 211 #[.int .i64 n] w fun e h=>e=.returned (.string ⟨(Lib.itoa n).toArray⟩)/\Bl w h:=by
 refine(Any.strconv_Itoa Tryz.zg1 n h0 I w (r.tab zo)).mono ?_;rintro e h⟨rfl,k,q,rfl⟩;exact⟨rfl,zb1 w k q⟩
theorem zhu(w:World)(r:Pw w)(n:Int)(h0:-9223372036854775808<=n)(I:n<=9223372036854775807):Calls prog 245 #[.int .i64 n,.int .i64 10] w fun e h=>e=.returned (.string ⟨(Lib.itoa n).toArray⟩)/\Bl w h:=by
 refine(Any.strconv_FormatInt_10 Tryz.zjB n h0 I w (r.tab zo)).mono ?_;rintro e h⟨rfl,k,q,rfl⟩;exact⟨rfl,zb1 w k q⟩
theorem zeS(u:Nat):(Lib.decDigits u).foldl (fun a c=>a*10+(c.toNat-48)) 0=u:=by
 induction u using Nat.strongRecOn with
 |_ u q=>
  by_cases h:u<10
  ·rw[Lib.decDigits,dif_pos h];simp only[List.foldl_cons,List.foldl_nil,UInt8.toNat_ofNat'];omega
  ·rw[Lib.decDigits,dif_neg h,zqi,q (u / 10) zd];simp only[List.foldl_cons,List.foldl_nil,UInt8.toNat_ofNat'];omega
theorem za9(u:Nat):∀c∈Lib.decDigits u,c≠47:=by
 induction u using Nat.strongRecOn with
 |_ u I=>
  intro c q r;subst r
  by_cases h:u<10
  ·rw[Lib.decDigits,dif_pos h,zo2]at q;have:=congrArg UInt8.toNat q;simp only[UInt8.toNat_ofNat']at this;have r:(47:UInt8).toNat=47:=rfl;omega
  ·rw[Lib.decDigits,dif_neg h,zo7,zo2]at q
   rcases q with q|q
   ·exact I (u / 10) zd 47 q rfl
   ·have:=congrArg UInt8.toNat q;simp only[UInt8.toNat_ofNat']at this;have r:(47:UInt8).toNat=47:=rfl;omega
theorem zfo:∀{a b p q:List UInt8},(∀c∈a,c≠47)->(∀c∈b,c≠47)->a++47::p=b++47::q->a=b
 |[],[],_,_,_,_,_=>rfl
 |[],y::b,_,_,_,L,h=>by
  injection h with r _
  exact absurd r.symm (L y zpi)
 |x::a,[],_,_,I,_,h=>by
  injection h with r _
  exact absurd r (I x zpi)
 |x::a,y::b,_,_,I,L,h=>by
  injection h with r O
  rw[r,zfo (fun c N=>I c (zpj _ N)) (fun c N=>L c (zpj _ N)) O]
theorem ziX(n:Nat):Lib.itoa (n:Int)=Lib.decDigits n:=by
 unfold Lib.itoa;rw[if_neg zd];rfl
def ye(p:ByteArray)(n:Nat):ByteArray:=(⟨(Lib.itoa (n:Int)).toArray⟩++⟨#[47]⟩)++p
theorem zjT(p:ByteArray)(n:Nat):(ye p n).data.toList=Lib.decDigits n++47::p.data.toList:=by
 unfold ye;rw[ziX];simp[ByteArray.data_append]
theorem ziH{p q:ByteArray}{m:Nat}(h:ye p n=ye q m):n=m:=by
 have r:=congrArg (fun b:ByteArray=>b.data.toList) h;simp only[zjT]at r;have I:=zfo (za9 n) (za9 m) r;rw[<-zeS n,I,zeS]
theorem znd(w:World):Calls prog 297 #[.int .i64 36] w fun e h=>e=.returned (.bool false)/\h=w:=by
 go_enter func297,ntmps297;go_wp2;go_returns;exact⟨rfl,rfl⟩
theorem zmQ(r:36<=x)(h:x*36 ^ (65-i)<18446744073709551616):54<=i:=by
 refine zpP fun N=>?_
 have q:36 ^ 12<=36 ^ (65-i):=zpJ zr (zd);have I:36*36 ^ 12<=x*36 ^ (65-i):=zq0 r q;have L:(36:Nat)*36 ^ 12=170581728179578208256:=zr;omega
theorem znm(hi:54<=i)(q:i<=65)(h:x*36 ^ (65-i)<18446744073709551616):x / 36*36 ^ (65-(i-1))<18446744073709551616:=by
 have e:65-(i-1)=65-i+1:=zd;rw[e,Nat.pow_succ,Nat.mul_comm (36 ^ (65-i)) 36,<-Nat.mul_assoc];exact Nat.lt_of_le_of_lt (zp9 _ (Nat.div_mul_le_self x 36)) h
def Bytes(n:Nat)(h:Array Value):Prop:=h.size=n/\∀j,j<n->∃b:UInt8,h[j]? = some (.int .u8 (b.toNat:Int))
theorem zgE:Tryz.zeroCells429=Array.replicate 65 (.int .u8 0):=zo
theorem zmE:Bytes 65 Tryz.zeroCells429:=by
 rw[zgE];exact⟨zp,fun j h=>⟨0,by simp[h]⟩⟩
theorem Bytes.set(h:Bytes n q)(i:Nat)(b:UInt8):Bytes n (q.setIfInBounds i (.int .u8 (b.toNat:Int))):=⟨by simp[h.1],fun j r=>by
 rw[Array.getElem?_setIfInBounds];split
 ·split
  ·exact⟨b,rfl⟩
  ·have:=h.1;omega
 ·exact h.2 j r⟩
theorem Bytes.from_{w:World}{g n:Nat}{t:TypeId}{L:Array Value}(h:Bytes n L)(I:zD w g t L)(i:Nat):∀m,i+m<=n->∃l:List UInt8,l.length=m/\∀j (r:j<l.length),w.cell? ((⟨g,i,none⟩:Addr).add j)=some (.int .u8 (l[j].toNat:Int))
 |0,_=>⟨[],rfl,fun j r=>by simp at r⟩
 |m+1,U=>by
  obtain⟨l,N,R⟩:=Bytes.from_ h I i m zd;obtain⟨b,O⟩:=h.2 (i+m) zd;refine⟨l++[b],by simp[N],fun j r=>?_⟩
  by_cases q:j<l.length
  ·rw[zqD q];exact R j q
  ·have:j=l.length:=by simp at r;omega
   subst this;rw[List.getElem_append_right (zoZ _)];simp only[zqw,zpN];rw[N];have e:(⟨g,i,none⟩:Addr).add m=⟨g,i+m,none⟩:=by
    unfold Addr.add;split
    ·rename_i r;subst r;rfl
    ·rfl
   rw[e,I.cell,O]
theorem zf9(w:World)(g i:Nat)(hi:i<65):(Instr.sliceAt 429 (.pointer (some ⟨g,0,none⟩)) (some (.int .i64 (i:Int))) none none).run prog w=.ok (.slice (some ⟨g,i,none⟩) (65-i) (65-i)) w:=by
 have N:(0:Int)<=(i:Int):=zd;have r:((i:Int)<=65):=zd;have I:¬65=i:=zd;obtain⟨q,L,U⟩:∃q,prog.info? 5=some q/\q.size=1:=by
  have h:(prog.info? 5).map (·.size)=some 1:=zo;obtain⟨x,R,O⟩:=Option.map_eq_some_iff.1 h;exact⟨x,R,O⟩
 simp[Instr.sliceAt,run_underlying underlying429,Instr.sureAddr,Instr.sliceBounds,Result.andThen,sizeOf,typeInfo,go_sem,N,r,L,U,I]
theorem zmB(w:World)(u:Nat)(hu:u<18446744073709551616):
 Calls prog 290 #[.slice none 0 0,.int .u64 (u:Int),.int .i64 36,.bool false,.bool false] w fun e h=>∃s:ByteArray,e=.returned (.tuple #[.slice none 0 0,.string s])/\s.size<=65/\Bl w h:=by
 go_enter func290,ntmps290;have HU:=zz hu;clear hu;obtain⟨W1,q,h⟩:=xj w 429 Tryz.zeroCells429;have X:=zz q;have L:=zz h;clear q h;go_upto_region 4 with fail
 rw[X.o]
 go_wp2_with (go_at_call 297;refine(znd _).mono ?_;rintro e w1⟨rfl,rfl⟩)
 go_loopg[1,13,18] 65 (fun gk I h r q=>∃(x i:Nat) (N:Array Value),i<=65/\53<=i/\gk=i/\I=.int .u64 (x:Int)/\h=.int .i64 (i:Int)/\x<18446744073709551616/\x*36 ^ (65-i)<18446744073709551616/\Bytes 65 N/\zD q w.heap.size 429 N/\Bl w q)
 case atStart=>exact⟨u,65,_,zoZ _,zr,rfl,rfl,rfl,HU.o,by simpa using HU.o,zmE,L.o.b0,L.o.below⟩
 case round=>
  obtain⟨x,i,N,hi,Z,rfl,rfl,rfl,hx,O,h,I,R⟩:=hrel;have HB:=zz R;have q:=zz h;have Hk:=zz I;have Hp:=zz O;have r:gk-1<N.size:=by rw[h.1];omega
  clear R h I O
  by_cases O:36<=x
  ·have U:=zmQ O Hp.o;have R:=zz (znm U hi Hp.o)
   go_wp2_with (refine xy 5 _ _ rfl ?_;refine Xf zj 5 _ _ rfl w.heap.size (gk-1) _ _ Hk.o _ rfl rfl r zo rfl ?_;intro W9 h;have I:=zz h;clear h)
   go_roundg (gk-1)
   case measure=>omega
   case rel=>
    refine⟨x / 36,gk-1,_,zd,zd,rfl,ze,ze,zd,R.o,q.o.set _ _,I.o.zG,I.o.below HB.o (zoZ _) (zoZ _)⟩
  ·have aa:x<36:=zd;have R:=fun W=>zf9 W w.heap.size (gk-1) zd
   rw[show((gk-1:Nat):Int)=(gk:Int)-1 from zd]at R
   go_wp2_with (refine xy 5 _ _ rfl ?_;refine Xf zj 5 _ _ rfl w.heap.size (gk-1) _ _ Hk.o (Value.int .u8 ((UInt8.toNat _:Nat):Int)) rfl rfl r zo rfl ?_;intro W9 h;obtain⟨l,V,I⟩:=Bytes.from_ (q.o.set (gk-1) _) h.zG (gk-1) (65-(gk-1)) zd;have Y:=run_convert_bytes_back (P:=prog) W9 368 9 5 ⟨w.heap.size,gk-1,none⟩ (65-(gk-1)) l underlying368 underlying5 underlying9 I;rw[V]at Y;have HL:=zz V;have U:=zz (h.below HB.o (zoZ _) (zoZ _));clear h V I)
   go_returns;exact⟨_,rfl,by show l.toArray.size<=65;simp;rw[HL.o];omega,U.o⟩
theorem zmF(w:World)(u:Nat)(h:u<18446744073709551616):Calls prog 271 #[.int .u64 (u:Int),.int .i64 36] w fun e q=>∃s:ByteArray,e=.returned (.string s)/\s.size<=65/\Bl w q:=by
 have I:=zz (fun W=>zmB W u h);clear h;go_enter func271,ntmps271
 go_wp2_with (go_at_call 290;refine(I.o _).mono ?_;rintro e L⟨s,rfl,r,q⟩)
 go_returns;exact⟨s,rfl,r,q⟩
theorem zm5(w:World)(u:Nat)(h:u<18446744073709551616):Calls prog 248 #[.int .u64 (u:Int),.int .i64 36] w fun e q=>∃s:ByteArray,e=.returned (.string s)/\s.size<=65/\Bl w q:=by
 have I:=zz (fun W=>zmF W u h);clear h;go_enter func248,ntmps248
 go_wp2_with (go_at_call 271;refine(I.o _).mono ?_;rintro e L⟨s,rfl,r,q⟩)
 go_returns;exact⟨s,rfl,r,q⟩
end
