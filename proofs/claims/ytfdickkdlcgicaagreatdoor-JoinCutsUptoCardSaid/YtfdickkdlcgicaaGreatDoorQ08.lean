/-
  Plain words: where a thing's lists lie ('off'); what it is w
-/
import Derived.Test.YtfdickkdlcgicaaGreatDoorQ07
import Derived.Shelf.Strconv.Itoa3
import Derived.Shelf.Strconv.Itoa4
import Derived.Ground.NamesProg
import Derived.Lib.ItoaLen
import Derived.Deep.Cut
set_option maxRecDepth 100000
set_option maxHeartbeats 8000000
set_option linter.all false
namespace Go.Proofs.YtfdickkdlcgicaaGreatDoor.C
open Go.Proofs.Tryz Go Go.RowKit Go.Maps Go.WideMaps
variable {A:Option Addr}{S:Nat->Prop}{W w w':World}{a0 cap g i n size x:Nat}{e t:TypeId}{h q:Array Value}{α:Type}
section
def qV(Q:Nat->Prop)(A:Option Addr):Prop:=∀g∈zw A,Q g
mutual
def Ex.off(Q:Nat->Prop):Ex->Prop
 |.mk _ _ A _ h=>qV Q A/\Ex.YN Q h
def Ex.YN (Q:Nat->Prop):List Ex->Prop
 |[]=>True
 |e::h=>Ex.off Q e/\Ex.YN Q h
end
theorem Ex.zbZ{Q:Nat->Prop}:∀{l:List Ex},Ex.YN Q l↔∀e∈l,Ex.off Q e
 |[]=>by unfold Ex.YN;simp
 |e::h=>by
  unfold Ex.YN;rw[Ex.zbZ];simp
mutual
theorem Ex.off.mono{Q Q':Nat->Prop}(h:∀g,Q g->Q' g):∀{e:Ex},e.off Q->e.off Q'
 |.mk _ _ A _ I,q=>by
  unfold Ex.off at q ⊢;exact⟨fun g L=>h g (q.1 g L),Ex.YN.mono h q.2⟩
theorem Ex.YN.mono {Q Q':Nat->Prop} (h:∀g,Q g->Q' g):∀{l:List Ex},Ex.YN Q l->Ex.YN Q' l
 |[],_=>by unfold Ex.YN;trivial
 |e::I,q=>by
  unfold Ex.YN at q ⊢;exact⟨Ex.off.mono h q.1,Ex.YN.mono h q.2⟩
end
def Li.off(Q:Nat->Prop)(x:Li):Prop:=qV Q x.a.A/\x.l.off Q/\x.r.off Q
def Ru.off(Q:Nat->Prop)(r:Ru):Prop:=qV Q r.A/\qV Q r.B/\∀x∈r.body,x.off Q
theorem zZ.kept{f:α->List Value}{xs:List α}(h:zZ f w A xs)(L:zh S w w')(O:qV (fun g=>¬S g) A):zZ f w' A xs:=fun q=>by
 obtain⟨b,o,rfl,I,N⟩:=h q;exact⟨b,o,rfl,zpz I L.size,UE N I L (O b (by simp[zw]))⟩
mutual
theorem Ex.zN.kept{S:Nat->Prop}{w W:World}(I:zh S w W):∀{e:Ex},e.zN w->e.off (fun g=>¬S g)->e.zN W
 |.mk _ _ A _ L,h,q=>by
  unfold Ex.zN at h ⊢;unfold Ex.off at q;exact⟨h.1.kept I q.1,h.2.1,Ex.qG.kept I h.2.2 q.2⟩
theorem Ex.qG.kept {S:Nat->Prop} {w W:World} (I:zh S w W):∀{l:List Ex},Ex.qG w l->Ex.YN (fun g=>¬S g) l->Ex.qG W l
 |[],_,_=>by unfold Ex.qG;trivial
 |e::L,h,q=>by
  unfold Ex.qG at h ⊢;unfold Ex.YN at q;exact⟨Ex.zN.kept I h.1 q.1,Ex.qG.kept I h.2 q.2⟩
end
theorem Li.zN.kept{x:Li}(I:zh S w W)(h:x.zN w)(q:x.off (fun g=>¬S g)):x.zN W:=
 ⟨⟨h.a.rd.kept I q.1,h.a.len⟩,h.l.kept I q.2.1,h.r.kept I q.2.2⟩
theorem Ru.zN.kept{x:Ru}(I:zh S w W)(h:x.zN w)(q:x.off (fun g=>¬S g)):x.zN W:=
 ⟨h.head.kept I q.1,h.XY,h.rd.kept I q.2.1,h.y8,fun y L=>(h.body y L).kept I (q.2.2 y L)⟩
mutual
def Ex.bare:Ex->Ex
 |.mk q t _ _ h=>.mk q t none 0 (Ex.Zh h)
def Ex.Zh:List Ex->List Ex
 |[]=>[]
 |e::h=>e.bare::Ex.Zh h
end
theorem Ex.Js:∀l:List Ex,Ex.Zh l=l.map Ex.bare
 |[]=>by simp[Ex.Zh]
 |e::h=>by rw[Ex.Zh,Ex.Js,zqb]
mutual
theorem Ex.Yp:∀e:Ex,e.bare.zO=e.zO
 |.mk q t _ _ h=>by rw[Ex.bare,Ex.zO,Ex.zO,Ex.zdT]
theorem Ex.zdT:∀l:List Ex,Ex.qq (Ex.Zh l)=Ex.qq l
 |[]=>by simp[Ex.Zh]
 |e::h=>by rw[Ex.Zh,Ex.qq,Ex.qq,Ex.Yp,Ex.zdT]
end
theorem Ex.UZ:∀(d:Nat)(e:Ex),e.bare.ok d↔e.ok d
 |0,.mk ..=>by simp[Ex.ok]
 |d+1,.mk q t A V I=>by
  rw[Ex.bare,Ex.ok,Ex.ok,Ex.Js,zpO];have U:I.map Ex.bare=[]↔I=[]:=zp;have R:(∀k∈I.map Ex.bare,Ex.ok d k)↔∀k∈I,Ex.ok d k:=by
   constructor
   ·intro h k L;exact(Ex.UZ d k).1 (h _ (zp8.2 ⟨k,L,rfl⟩))
   ·intro h k L;obtain⟨O,N,rfl⟩:=zp8.1 L;exact(Ex.UZ d O).2 (h O N)
  rw[U,R]
theorem Ex.zjH:∀e:Ex,e.bare.empty↔e.empty
 |.mk q t A I h=>by rw[Ex.bare,Ex.empty,Ex.empty,Ex.Js];simp
theorem Ex.Ti:∀(e:Ex)(v:ByteArray),e.bare.lone v↔e.lone v
 |.mk q t A I h,v=>by rw[Ex.bare,Ex.lone,Ex.lone,Ex.Js];simp
def Li.bare(x:Li):Li:=⟨x.k,⟨x.a.p,none,0,x.a.args⟩,x.rl,x.l.bare,x.r.bare⟩
def Ru.bare(r:Ru):Ru:=⟨r.p,none,0,r.head,none,0,r.body.map Li.bare⟩
theorem Li.Yp(x:Li):x.bare.zO=x.zO:=by unfold Li.zO Li.bare;rw[Ex.Yp,Ex.Yp]
theorem Li.UZ(x:Li):x.bare.ok↔x.ok:=by
 unfold Li.ok Li.bare At.ok;simp only[Ex.UZ,Ex.zjH]
theorem Ru.Yp(r:Ru):r.bare.zO=r.zO:=by
 unfold Ru.zO Ru.bare;simp only
 congr 1
 induction r.body with
 |nil=>rfl
 |cons x l h=>rw[zqb,zpZ,zpZ,Li.Yp,h]
theorem Ru.J0(r:Ru):r.bare.vars=r.vars:=by unfold Ru.vars;rw[Ru.Yp]
theorem yo.bare{body q:List Li}(h:body.map Li.bare=q.map Li.bare){v:ByteArray}(U:yo body v):yo q v:=by
 have I:∀x∈body,∃y∈q,y.bare=x.bare:=fun x N=>by
  have:x.bare∈q.map Li.bare:=h▸zp8.2 ⟨x,N,rfl⟩;obtain⟨y,L,e⟩:=zp8.1 this;exact⟨y,L,e⟩
 induction U with
 |@atom x v N O U=>
  obtain⟨y,L,e⟩:=I x N;have e1:y.k=x.k:=show y.bare.k=x.bare.k from congrArg Li.k e
  have e2:y.a.args=x.a.args:=show y.bare.a.args=x.bare.a.args from congrArg (fun z:Li=>z.a.args) e
  exact .atom L (e1.trans O) (by unfold At.vars at U ⊢;rw[e2];exact U)
 |@left x v N O W V _ X=>
  obtain⟨y,L,e⟩:=I x N;have e1:y.k=x.k:=show y.bare.k=x.bare.k from congrArg Li.k e
  have e2:y.rl=x.rl:=show y.bare.rl=x.bare.rl from congrArg Li.rl e
  have e3:y.l.bare=x.l.bare:=congrArg Li.l e;have e4:y.r.bare=x.r.bare:=congrArg Li.r e;exact .left L (e1.trans O) (e2.trans W) ((Ex.Ti _ _).1 (e3▸(Ex.Ti _ _).2 V)) fun u R=>X u (by
   unfold Ex.vars at R ⊢;rw[<-Ex.Yp,<-e4,Ex.Yp];exact R)
 |@right x v N O W V _ X=>
  obtain⟨y,L,e⟩:=I x N;have e1:y.k=x.k:=show y.bare.k=x.bare.k from congrArg Li.k e
  have e2:y.rl=x.rl:=show y.bare.rl=x.bare.rl from congrArg Li.rl e
  have e3:y.l.bare=x.l.bare:=congrArg Li.l e;have e4:y.r.bare=x.r.bare:=congrArg Li.r e;exact .right L (e1.trans O) (e2.trans W) ((Ex.Ti _ _).1 (e4▸(Ex.Ti _ _).2 V)) fun u R=>X u (by
   unfold Ex.vars at R ⊢;rw[<-Ex.Yp,<-e3,Ex.Yp];exact R)
theorem UY{α:Type}{f:α->List Value}{size:Nat}(q:∀x,(f x).length=size):∀h:List α,(h.flatMap f).length=h.length*size
 |[]=>zp
 |x::h=>by rw[zpZ,zpA,q,UY q h,zpV,zrq,Nat.add_comm]
theorem Own.put{f:α->List Value}{xs:List α}(h:Own f e size w (some ⟨g,0,none⟩) cap xs)(X:∀x,(f x).length=size)(i:Nat)(hi:i<xs.length)(a:Nat)(vs:List Value)(y:α)(ha:a+vs.length<=size)(hy:f y=(f xs[i]).take a++vs++(f xs[i]).drop (a+vs.length)):Own f e size (w.setCells g (i*size+a) vs) (some ⟨g,0,none⟩) cap (xs.set i y):=by
 obtain⟨h1,I⟩:=h
 rcases I with⟨I,_⟩ |⟨g0,c,q,I,hb,hh,hn,hc,hs,ht⟩
 ·cases I
 injection I with I h3 h4
 injection I with I
 injection I with I
 subst I h4;have Y:=UY X xs;have ab:xs.length*size<=cap*size:=zqF _ hn;have aa:(i+1)*size<=xs.length*size:=zqF _ hi;rw[zrq]at aa;have hk:zD (w.setCells g (i*size+a) vs) g e (q.toList.take (i*size+a)++vs++q.toList.drop (i*size+a+vs.length)).toArray:=zD.setCells vs (i*size+a) w q hh zd;refine⟨by rw[UY X,zqe],.inr ⟨g,cap,_,by rw[zqe],zpD _,hk,by rw[zqe];exact hn,hc,?_,?_⟩⟩
 ·have L:q.toList.length=cap*size:=by rw[zrr];exact hs
  simp only[zq0,zpA,zp3,zqC,L];omega
 ·rw[zqe];have hx:xs=xs.take i++xs[i]::xs.drop (i+1):=by rw[List.getElem_cons_drop,zqi]
  have W:xs.set i y=xs.take i++y::xs.drop (i+1):=by rw[List.set_eq_take_append_cons_drop,if_pos hi]
  have R:((xs.take i).flatMap f).length=i*size:=by rw[UY X,zp3,Nat.min_eq_left zd]
  have Z:=X xs[i];have L:xs.flatMap f=(xs.take i).flatMap f++(f xs[i]++(xs.drop (i+1)).flatMap f):=by
   conv=>lhs;rw[hx]
   rw[zp2,zpZ]
  rw[W,zp2,zpZ,hy];have ac:((xs.drop (i+1)).flatMap f).length=xs.length*size-(i*size+size):=by
   have:=congrArg List.length L;rw[Y,zpA,zpA,R,Z]at this;omega
  generalize(xs.take i).flatMap f=V at *;generalize(xs.drop (i+1)).flatMap f=U at *;generalize f xs[i]=N at *;have O:q.toList=V++(N++U)++q.toList.drop (xs.length*size):=by
   conv=>lhs;rw[<-zqi (xs.length*size) q.toList]
   rw[ht,L]
  generalize q.toList.drop (xs.length*size)=D at O;rw[O];have e1:(V++(N++U)++D).take (i*size+a)=V++N.take a:=by
   rw[zpX,zpX,<-R,List.take_append,zpT zd,zq9,zqx zd]
  have e2:(V++(N++U)++D).drop (i*size+a+vs.length)=N.drop (a+vs.length)++(U++D):=by
   rw[zpX,zpX,<-R,zqO,List.drop_append,zqc zd,zq9,List.drop_append_of_le_length zd,zpI]
  rw[e1,e2];have e3:V++N.take a++vs++(N.drop (a+vs.length)++(U++D))=(V++(N.take a++vs++N.drop (a+vs.length)++U))++D:=by simp only[zpX]
  rw[e3,List.toList_toArray,zqx,zpT]
  ·simp only[zpA,zp3,zqC];omega
  ·simp only[zpA,zp3,zqC];omega
theorem zeb:qB prog 46 48 6 80:=qB.of (z:=.agg #[.int .i8 0,.string ⟨#[]⟩,.int .i8 0,.int .i64 0,.string ⟨#[]⟩,.slice none 0 0]) underlying46 zo rfl zr
theorem zgi(w:World)(A:Option Addr)(cap n:Nat)(xs:List Ex)(I:xs.length=n)(h:zZ Ex.cells w A xs)(q:n<=4194304):Calls prog 165 #[.slice A n cap] w (XA Ex.cells 48 6 xs w):=
 UL Tryz.zoe zeb rfl (fun w=>sizeOf48 w) Ex.xG (fun x=>x.Ys) w A cap n xs I h q zr
theorem Own.zH{f:α->List Value}{xs:List α}(h:Own f e size w (some ⟨g,0,none⟩) cap xs):∃I,zD w g e I:=by
 rcases h.2 with⟨q,_⟩ |⟨N,c,I,q,_,L,_⟩
 ·cases q
 ·injection q with q
  injection q with q
  injection q with q
  subst q;exact⟨I,L⟩
def zc0(x:Ex)(w:World)(e:Ending)(w':World):Prop:=∃h:Ex,e=.returned (.agg h.cells.toArray)/\h.bare=x.bare/\h.zN w'/\h.off (fun g=>w.heap.size<=g/\g<w'.heap.size)/\Bl w w'
theorem Ex.zht:∀e:Ex,1<=e.zO.length
 |.mk ..=>by rw[Ex.zO,zpV];omega
theorem Ex.zcb:∀l:List Ex,l.length<=(Ex.qq l).length/\∀k∈l,k.zO.length<=(Ex.qq l).length
 |[]=>zp
 |e::I=>by
  have h:=Ex.zcb I;have L:=Ex.zht e;rw[Ex.qq,zpA,zpV];refine⟨zd,fun k q=>?_⟩
  rcases zpU.1 q with rfl|q
  ·omega
  ·have:=h.2 k q;omega
theorem zlr{l q:List Ex}(L:q.length=l.length)(h:∀j (N:j<l.length) (I:j<q.length),q[j].bare=l[j].bare):Ex.Zh q=Ex.Zh l:=by
 rw[Ex.Js,Ex.Js];refine zrj (by simp[L]) fun j I q=>?_
 rw[zqz,zqz];exact h j (by simpa using q) (by simpa using I)
theorem DG:∀(x:Ex)(w:World)(_:x.zN w)(_:x.zO.length<=1048576),Calls prog 100 #[.agg x.cells.toArray] w (zc0 x w)
 |.mk q ⟨v,⟨k,m,s⟩⟩ A aB L,w,hl,ht=>by
  have IH:Kz (∀x∈L,∀w:World,x.zN w->x.zO.length<=1048576->Calls prog 100 #[.agg x.cells.toArray] w (zc0 x w)):=fun y hy w h1 I=>DG y w h1 I
  unfold Ex.zN at hl;obtain⟨U,aq,V⟩:=hl;rw[Ex.zO,zpV]at ht;have O:=Ex.zcb L;simp only[Ex.cells];obtain⟨N,I⟩:∃N,L.length=N:=⟨_,rfl⟩;have a1:N<=1048576:=by rw[<-I];omega
  have aV:Kz (∀x∈L,x.zO.length<=1048576):=fun x Z=>by have:=O.2 x Z;omega
  have aM:=zz (Ex.qG.mem V);have aU:=zz (fun W (hW:Bl w W)=>zgi W A aB N L I (U.below hW) zd);rw[I]at aq;have HN:=zz I;obtain⟨W2,R,X⟩:=yb w 48 48 #[.int .i8 q,.string v,.int .i8 k,.int .i64 m,.string s,.slice A N aB] #[.int .i8 0,.string ⟨#[]⟩,.int .i8 0,.int .i64 0,.string ⟨#[]⟩,.slice none 0 0];have HX:=zz X;have aG:=zz R;rw[I];clear X R V U O ht I;go_enter func100,ntmps100
  go_wp2_with (go_at_call 165;rw[aG.o];refine(aU.o _ HX.o.below).mono ?_;rintro e w3⟨Y,I,N3,rfl,ar,aA,ag,an⟩;have aL:N3=N:=(by rw[<-ar,HN.o]);subst aL;have k1:=HX.o.b0.below ag;have X:=HX.o.b1.below ag;have c5:=k1.cell 5;have f5:=k1.frozen 5;have ah:=zz k1;have al:=zz X;have ad:=zz aA;have ac:=zz (zl HX.o.below ag);have ae:=zz an;have aa:=zz (show w.heap.size+1+1<=w3.heap.size by have:=HX.o.size;have:=ag.size;omega);have U:Kz (∀g∈zw Y,w.heap.size+1+1<=g):=(fun g hg=>by have:=an g hg;have:=HX.o.size;omega);clear k1 X aA ag an ar)
  have ab:Bl w (w3.setCell ⟨w.heap.size,5,none⟩ (.slice Y N3 I)):=ac.o.setCell (zpx _) _;have k1:=ah.o.qI 5 (.slice Y N3 I);have X:=al.o.X4 (p:=⟨w.heap.size,5,none⟩) zp (.slice Y N3 I);have V:Own Ex.cells 48 6 (w3.setCell ⟨w.heap.size,5,none⟩ (.slice Y N3 I)) Y I L:=ad.o.same fun g hg=>Below.heap_setCell _ _ _ _ (by have:=U.o g hg;show g≠w.heap.size;omega)
  have R:w.heap.size+1+1<=(w3.setCell ⟨w.heap.size,5,none⟩ (.slice Y N3 I)).heap.size:=by have:=aa.o;simpa[World.setCell]using this
  have O:=V.lt;clear c5 f5 ah al ad ac ae aa;generalize w3.setCell ⟨w.heap.size,5,none⟩ (.slice Y N3 I)=w4 at ab k1 X V R O ⊢
  replace k1:zD w4 w.heap.size 48 #[.int .i8 q,.string v,.int .i8 k,.int .i64 m,.string s,.slice Y N3 I]:=k1
  have ah:=zz k1;have al:=zz X;have aN:=zz V;have az:=zz ab;have ak:=zz R;have aJ:=zz O;have c5:=k1.cell 5;clear k1 X V ab R O;go_wp2;clear c5
  go_loopg[3,11] N3 (fun gk V R O=>∃(i:Nat) (zs:List Ex),i<=N3/\gk=N3-i/\R=.int .i64 (i:Int)/\zs.length=N3/\Own Ex.cells 48 6 O Y I zs/\zh (·∈zw Y) w4 O/\
   (∀j (hj:j<L.length) (ad:j<zs.length),(j<i->zs[j].bare=L[j].bare/\zs[j].zN O/\zs[j].off (fun g=>w4.heap.size<=g/\g<O.heap.size))/\(i<=j->zs[j]=L[j])))
  case atStart=>exact⟨0,L,zpD _,rfl,rfl,HN.o,aN.o,zh.refl _ _,fun j hj ad=>⟨fun h=>zd,fun _=>rfl⟩⟩
  case round=>
   obtain⟨i,zs,hi,rfl,rfl,aj,ho,hC,hz⟩:=hrel;have V:zD wr w.heap.size 48 #[.int .i8 q,.string v,.int .i8 k,.int .i64 m,.string s,.slice Y N3 I]:=ah.o.zC hC (fun h=>by have:=U.o _ h;omega);have R:=al.o.zC hC (fun h=>by have:=U.o _ h;omega);have a2:=zz V;have aC:=zz R;have ae:=zz aj;have Ho:=zz ho;have HC:=zz hC;have Hz:=zz hz;have c5:=V.cell 5
   by_cases au:i<N3
   ·have ac:i<L.length:=by rw[HN.o];exact au
    have aa:i<zs.length:=by rw[aj];exact au
    have ao:=(hz i ac aa).2 (zpx _);obtain⟨g,rfl⟩:∃g,Y=some ⟨g,0,none⟩:=by
     rcases ho.form with⟨-,-,O⟩ |⟨g,h,-⟩
     ·rw[O]at aa;simp at aa
     ·exact⟨g,h⟩
    obtain⟨b,o,hA,av,hr⟩:=ho.xI.at (c:=5) (fun x=>Ex.xG x) i aa;injection hA with hA
    injection hA with aR aH
    subst aR aH;rw[ao]at hr;have O:=zpB ac;have ap:Bl w wr:=az.o.trans (hC.below (by have:=ak.o;omega) (fun x Z=>by have:=U.o x Z;omega));have ab:=fun W (hW:Bl w W)=>IH.o _ O W ((aM.o _ O).below hW) (aV.o _ O)
    obtain⟨aY,af⟩:=ho.zH;have ai:g≠w.heap.size:=by have:=U.o g (by simp[zw]);omega
    have aW:=zz aa;have aX:=zz ac;generalize Z:L[i]=x at hr ab;have Hx:=zz Z;obtain⟨q1,⟨v1,k1,n1,s1⟩,A1,ax,aO⟩:=x;simp only[Ex.cells]at hr ab;obtain⟨M1,aF⟩:∃M1,aO.length=M1:=⟨_,rfl⟩;rw[aF]at hr ab;obtain⟨d0,d1,d2,d3,d4,d5⟩:=JW hr;simp only[zp6]at d0 d1 d2 d3 d4 d5;have aI:=zz ab;have aQ:=zz ap;have am:=zz af;have aZ:=zz ai;have H0:Kz (∀W,zh (fun x=>x=g) wr W->W.cell? ⟨w.heap.size,5,none⟩=some (.slice (some ⟨g,0,none⟩) N3 I)):=fun W hW=>(V.zC hW (fun e=>ai e.symm)).cell 5
    have H1:=zz (show ∀W:World,W.heap[g]? = wr.heap[g]?->W.cell? ⟨g,i*6,none⟩=some (.int .i8 q1)/\W.cell? ⟨g,i*6+1,none⟩=some (.string v1)/\W.cell? ⟨g,i*6+2,none⟩=some (.int .i8 k1)/\W.cell? ⟨g,i*6+3,none⟩=some (.int .i64 n1)/\W.cell? ⟨g,i*6+4,none⟩=some (.string s1)/\W.cell? ⟨g,i*6+5,none⟩=some (.slice A1 M1 ax)from fun W hW=>
     have e:=fun o=>World.cell?_of_block (w:=wr) (w':=W) (a:=⟨g,o,none⟩) hW
     ⟨(e _).trans d0,(e _).trans d1,(e _).trans d2,(e _).trans d3,(e _).trans d4,(e _).trans d5⟩)
    clear hr ab V R aj ho hC hz d0 d1 d2 d3 d4 d5 c5 ap af ai aa ac ao Z O av;go_wp2;refine XT [0,1,0,0,1,0,0,1,2,0,3] 10 (fun W=>zh (fun x=>x=g) wr W) (fun W=>W.heap[g]? = wr.heap[g]?) ?s0 ?s1 ?_
    case s0=>exact yw
    case s1=>rfl
    try refine zQ ?_
    repeat refine xM H0.o H1.o ?_
    refine xf fun K hK=>?_
    go_simp;refine(aI.o _ (aQ.o.trans ((Below.refl _ _).drew))).mono ?_;rintro e w6⟨⟨q2,⟨v2,X,n2,s2⟩,A2,O,aa⟩,rfl,aw,ao,ap,av⟩;have ab:=zz (show Bl wr w6 from(Below.refl _ _).drew.trans av);have aE:=zz aw;have aK:=zz ao;have ay:Kz ((Ex.mk q2 ⟨v2,⟨X,n2,s2⟩⟩ A2 O aa).off (fun g=>wr.heap.size<=g/\g<w6.heap.size)):=ap;have ac:g<wr.heap.size:=am.o.lt;have af:=zz ac;simp only[Ex.cells];obtain⟨M2,ai⟩:∃M2,aa.length=M2:=⟨_,rfl⟩;rw[ai];have aT:=zz ai;refine hK.out _ _ (zh.xj _ ab.o) (fun _=>ab.o.block _ af.o) ?_;clear hK K aw ao ap av ac ai;try refine zQ ?_
    repeat refine xM H0.o H1.o ?_
    refine Xf zj (fun K hK=>?_);have kc:=am.o.below ab.o;have cc:=H1.o w6 (ab.o.block _ af.o);have f0:=kc.frozen (i*6);have f1:=kc.frozen (i*6+1);have f2:=kc.frozen (i*6+2);have f3:=kc.frozen (i*6+3);have f4:=kc.frozen (i*6+4);have f5:=kc.frozen (i*6+5);go_simp;have ac:zh (fun x=>x=g) w6 (w6.setCells g (i*6+0) [.int .i8 q2,.string v2,.int .i8 X,.int .i64 n2,.string s2,.slice A2 M2 O]):=
     ((((((zh.refl (fun x=>x=g) w6).setCell (p:=⟨g,i*6+0,none⟩) (fun _=>rfl) _).setCell (p:=⟨g,i*6+0+1,none⟩) (fun _=>rfl) _).setCell (p:=⟨g,i*6+0+1+1,none⟩) (fun _=>rfl) _).setCell (p:=⟨g,i*6+0+1+1+1,none⟩) (fun _=>rfl) _).setCell (p:=⟨g,i*6+0+1+1+1+1,none⟩) (fun _=>rfl) _).setCell (p:=⟨g,i*6+0+1+1+1+1+1,none⟩) (fun _=>rfl) _
    have ao:=(Ho.o.below ab.o).put Ex.xG i aW.o 0 [.int .i8 q2,.string v2,.int .i8 X,.int .i64 n2,.string s2,.slice A2 M2 O] (.mk q2 ⟨v2,⟨X,n2,s2⟩⟩ A2 O aa) zp (by
     rw[zpY,zpI,zqc (by rw[Ex.xG];simp),zp7,Ex.cells,aT.o])
    have ai:zh (fun x=>x=g) wr (w6.setCells g (i*6+0) [.int .i8 q2,.string v2,.int .i8 X,.int .i64 n2,.string s2,.slice A2 M2 O]):=(zh.xj (fun x=>x=g) ab.o).trans ac (fun x Z _=>Z);refine hK.out _ _ ai ?_;clear hK K;refine xt ?_;clear f0 f1 f2 f3 f4 f5 cc kc;obtain⟨w7,ap⟩:∃w7,((((((w6.setCell ⟨g,i*6,none⟩ (.int .i8 q2)).setCell ⟨g,i*6+1,none⟩ (.string v2)).setCell ⟨g,i*6+2,none⟩ (.int .i8 X)).setCell ⟨g,i*6+3,none⟩ (.int .i64 n2)).setCell ⟨g,i*6+4,none⟩ (.string s2)).setCell ⟨g,i*6+5,none⟩ (.slice A2 M2 O))=w7:=⟨_,rfl⟩;rw[ap];have av:w6.setCells g (i*6+0) [.int .i8 q2,.string v2,.int .i8 X,.int .i64 n2,.string s2,.slice A2 M2 O]=w7:=ap;rw[av]at ac ai ao;have aw:∀j (hj:j<L.length) (ad:j<(zs.set i (.mk q2 ⟨v2,⟨X,n2,s2⟩⟩ A2 O aa)).length),(j<i+1->(zs.set i (.mk q2 ⟨v2,⟨X,n2,s2⟩⟩ A2 O aa))[j].bare=L[j].bare/\(zs.set i (.mk q2 ⟨v2,⟨X,n2,s2⟩⟩ A2 O aa))[j].zN w7/\(zs.set i (.mk q2 ⟨v2,⟨X,n2,s2⟩⟩ A2 O aa))[j].off (fun g=>w4.heap.size<=g/\g<w7.heap.size))/\(i+1<=j->(zs.set i (.mk q2 ⟨v2,⟨X,n2,s2⟩⟩ A2 O aa))[j]=L[j]):=fun j hj ad=>by
     have aD:j<zs.length:=by rw[zqe]at ad;exact ad
     refine⟨fun h=>?_,fun h=>?_⟩
     ·by_cases e:i=j
      ·subst e;rw[zqR];exact⟨aE.o.trans (congrArg Ex.bare Hx.o).symm,aK.o.kept ac (ay.o.mono fun x Z e=>by have:=af.o;omega),ay.o.mono fun x Z=>by have:=HC.o.size;have:=ac.size;omega⟩
      ·rw[zre e];have h1:=(Hz.o j hj aD).1 zd;exact⟨h1.1,(h1.2.1.below ab.o).kept ac (h1.2.2.mono fun x Z e=>by have:=aJ.o g (by simp[zw]);omega),h1.2.2.mono fun x Z=>by have:=ab.o.size;have:=ac.size;omega⟩
     ·rw[zre zd];exact(Hz.o j hj aD).2 zd
    have aD:=zz aw;have aP:=zz ao;have aS:=zz ai;clear aw ao ai ac ap av;go_wp2
    go_roundg (N3-(i+1))
    case measure=>omega
    case rel=>exact⟨i+1,_,zd,rfl,ze,by rw[zqe];exact ae.o,aP.o,HC.o.trans aS.o (fun x Z _=>by rw[Z];simp[zw]),aD.o⟩
   ·obtain rfl:i=N3:=zd;have c0:=V.cell 0;have c1:=V.cell 1;have c2:=V.cell 2;have c3:=V.cell 3;have c4:=V.cell 4;have f0:=R.frozen 0;have f1:=R.frozen 1;have f2:=R.frozen 2;have f3:=R.frozen 3;have f4:=R.frozen 4;have f5:=R.frozen 5;have d0:=R.cell 0;have d1:=R.cell 1;have d2:=R.cell 2;have d3:=R.cell 3;have d4:=R.cell 4;have d5:=R.cell 5;clear V R aj ho hC hz;go_wp2;have O:zh (·=w.heap.size+1) wr (((((((wr.setCell ⟨w.heap.size+1,0,none⟩ (.int .i8 q)).setCell ⟨w.heap.size+1,1,none⟩ (.string v)).setCell ⟨w.heap.size+1,2,none⟩ (.int .i8 k)).setCell ⟨w.heap.size+1,3,none⟩ (.int .i64 m)).setCell ⟨w.heap.size+1,4,none⟩ (.string s)).setCell ⟨w.heap.size+1,5,none⟩ (.slice Y i I))):=
     ((((((zh.refl (·=w.heap.size+1) wr).setCell (p:=⟨w.heap.size+1,0,none⟩) (fun _=>rfl) _).setCell (p:=⟨w.heap.size+1,1,none⟩) (fun _=>rfl) _).setCell (p:=⟨w.heap.size+1,2,none⟩) (fun _=>rfl) _).setCell (p:=⟨w.heap.size+1,3,none⟩) (fun _=>rfl) _).setCell (p:=⟨w.heap.size+1,4,none⟩) (fun _=>rfl) _).setCell (p:=⟨w.heap.size+1,5,none⟩) (fun _=>rfl) _
    have X:=(((((aC.o.qI 0 (.int .i8 q)).qI 1 (.string v)).qI 2 (.int .i8 k)).qI 3 (.int .i64 m)).qI 4 (.string s)).qI 5 (.slice Y i I);clear c0 c1 c2 c3 c4 c5 f0 f1 f2 f3 f4 f5 d0 d1 d2 d3 d4 d5;generalize(((((((wr.setCell ⟨w.heap.size+1,0,none⟩ (.int .i8 q)).setCell ⟨w.heap.size+1,1,none⟩ (.string v)).setCell ⟨w.heap.size+1,2,none⟩ (.int .i8 k)).setCell ⟨w.heap.size+1,3,none⟩ (.int .i64 m)).setCell ⟨w.heap.size+1,4,none⟩ (.string s)).setCell ⟨w.heap.size+1,5,none⟩ (.slice Y i I)))=w7 at O X ⊢;have z0:w7.cell? ⟨w.heap.size+1,0,none⟩=some (.int .i8 q):=X.cell 0;have z1:w7.cell? ⟨w.heap.size+1,1,none⟩=some (.string v):=X.cell 1;have z2:w7.cell? ⟨w.heap.size+1,2,none⟩=some (.int .i8 k):=X.cell 2;have z3:w7.cell? ⟨w.heap.size+1,3,none⟩=some (.int .i64 m):=X.cell 3;have z4:w7.cell? ⟨w.heap.size+1,4,none⟩=some (.string s):=X.cell 4;have z5:w7.cell? ⟨w.heap.size+1,5,none⟩=some (.slice Y i I):=X.cell 5;refine bodyPost_ret (v:=.agg #[.int .i8 q,.string v,.int .i8 k,.int .i64 m,.string s,.slice Y i I]) (by simp[results,results100,go_sem,z0,z1,z2,z3,z4,z5]) rfl ?_;have aa:zs.length=L.length:=by rw[ae.o,HN.o]
    refine⟨.mk q ⟨v,⟨k,m,s⟩⟩ Y I zs,by rw[Ex.cells,ae.o],?_,?_,?_,?_⟩
    ·rw[Ex.bare,Ex.bare,zlr aa fun j hj ad=>((Hz.o j hj ad).1 (by rw[HN.o]at hj;exact hj)).1]
    ·unfold Ex.zN;refine⟨(Ho.o.zC O fun g hg e=>by have:=U.o g hg;omega).xI,by rw[ae.o];omega,Ex.qG.of fun e he=>?_⟩;obtain⟨j,hj,rfl⟩:=zpS.1 he;have h1:=(Hz.o j zd hj).1 (by rw[ae.o]at hj;exact hj);exact h1.2.1.kept O (h1.2.2.mono fun g hg e=>by have:=ak.o;omega)
    ·unfold Ex.off;refine⟨fun g hg=>by have:=U.o g hg;have:=Ho.o.lt g hg;have:=O.size;omega,Ex.zbZ.2 fun e he=>?_⟩;obtain⟨j,hj,rfl⟩:=zpS.1 he;have h1:=(Hz.o j zd hj).1 (by rw[ae.o]at hj;exact hj);exact h1.2.2.mono fun g hg=>by have:=ak.o;have:=O.size;omega
    ·exact((az.o.trans (HC.o.below (by have:=ak.o;omega) (fun x Z=>by have:=U.o x Z;omega))).trans (O.below (by have:=aC.o.lt;omega) (fun x Z=>zd)))
termination_by x=>x
decreasing_by
 have:=List.sizeOf_lt_of_mem hy
 simp_wf
 omega
mutual
def Ex.count:Ex->Nat
 |.mk _ _ _ _ h=>1+Ex.X5 h
def Ex.X5:List Ex->Nat
 |[]=>0
 |e::h=>e.count+Ex.X5 h
end
theorem Ex.Dz:∀a b:List Ex,Ex.X5 (a++b)=Ex.X5 a+Ex.X5 b
 |[],b=>by simp[Ex.X5]
 |e::a,b=>by
  show e.count+Ex.X5 (a++b)=e.count+Ex.X5 a+Ex.X5 b;rw[Ex.Dz a b,zqO]
theorem Ex.zeo(e:Ex):Ex.X5 [e]=e.count:=rfl
theorem Ex.zld(es:List Ex)(k:Nat)(h:k<es.length):Ex.X5 (es.take (k+1))=Ex.X5 (es.take k)+(es[k]).count:=by
 rw[zpC h,Ex.Dz,Ex.zeo]
def Li.count(x:Li):Nat:=1+x.a.args.length+x.l.count+x.r.count
def YL:List Li->Nat
 |[]=>0
 |x::l=>x.count+YL l
theorem zfi(x:Li):∀l:List Li,YL (l++[x])=YL l+x.count
 |[]=>by simp[YL]
 |y::l=>by
  show y.count+YL (l++[x])=y.count+YL l+x.count;rw[zfi x l,zqO]
def Ru.count(x:Ru):Nat:=1+x.head.length+YL x.body
def YJ:List Fa->Nat
 |[]=>0
 |x::l=>1+x.args.length+YJ l
theorem zfv(x:Fa):∀l:List Fa,YJ (l++[x])=YJ l+(1+x.args.length)
 |[]=>by simp[YJ]
 |y::l=>by
  show 1+y.args.length+YJ (l++[x])=1+y.args.length+YJ l+_;rw[zfv x l];omega
theorem zfV(e:Ex)(left:Nat)(w:World)(h1:left<=1048576)(hl:e.zN w):
 Calls prog 146 #[.agg e.cells.toArray,.int .i64 (left:Int)] w fun x I=>∃r:Nat,x=.returned (.int .i64 (r:Int))/\r<=left+1/\(r<=left->r=e.count)/\Bl w I:=by
 have I:=zz (show ∃q v k m s A n N,e.cells=[.int .i8 q,.string v,.int .i8 k,.int .i64 m,.string s,.slice A n N] by cases e;exact⟨_,_,_,_,_,_,_,_,rfl⟩);obtain⟨q,v,k,m,s,A,n,N,I⟩:=I.o;have aC:=zz I;rw[I];have Hl:=zz hl;obtain⟨NN,L⟩:∃NN,e.count=NN:=⟨_,rfl⟩;rw[L];have aH:=zz L;clear I hl L;go_enter func146,ntmps146;go_wp2
 go_loopg[5,6,7] 65540 (fun gk R O L I=>∃(nn d:Nat) (A:Option Addr) (m N:Nat) (es:List Ex),gk=65540-d/\d<=65537/\R=.int .i64 (nn:Int)/\nn<=left/\O=.slice A m N/\es.length=m/\L=.int .i64 (d:Int)/\zZ Ex.cells I A es/\m<=left+1/\nn+Ex.X5 es=NN/\(∀e∈es,e.zN I)/\Bl w I)
 case atStart=>
  have L:Bl w ((w.alloc (.cells #[.int .i8 q,.string v,.int .i8 k,.int .i64 m,.string s,.slice A n N] 48)).alloc (.cells #[.int .i8 q,.string v,.int .i8 k,.int .i64 m,.string s,.slice A n N] 48)):=(xq w _).trans ((xq _ _).mono zp);refine⟨0,0,_,_,_,[e],rfl,zd,rfl,zd,rfl,rfl,rfl,fun _=>⟨_,_,rfl,zp,?_⟩,zp,by rw[Ex.zeo,aH.o,zp6],?_,L⟩
  ·have h:=ZK (w.alloc (.cells #[.int .i8 q,.string v,.int .i8 k,.int .i64 m,.string s,.slice A n N] 48)) [.int .i8 q,.string v,.int .i8 k,.int .i64 m,.string s,.slice A n N] 48;simp only[zpZ,zru,zp7];rw[aC.o];simpa using h
  ·intro O I;rw[zpy]at I;rw[I];exact Ex.zN.below L Hl.o
 case round=>
  obtain⟨nn,d,A,m,N,es,rfl,hd,rfl,aQ,rfl,U,rfl,O,aN,R,I,L⟩:=hrel;obtain⟨W1,rfl⟩:∃W1,W1=wr:=⟨_,rfl⟩;have Hm:=zz U;have HB:=zz L;have an:=zz I;have aA:=zz O;have aw:=zz R;clear L I O U R
  by_cases ar:m=0
  ·subst ar;have L:es=[]:=zqg Hm.o;have I:=zz (show nn=NN by have:=aw.o;rw[L]at this;simpa[Ex.X5]using this);clear L;go_wp2;go_returns;exact⟨nn,rfl,zd,fun _=>I.o,HB.o⟩
  ·have aP:0<m:=zd;clear ar
   by_cases hn:nn+m<=left
   ·by_cases aM:d<=65536
    ·go_wp2
     go_loopg[8,9] m (fun gk Y I V=>∃(i c N:Nat) (B:Option Addr) (L:List Ex),i<=m/\gk=m-i/\I=.int .i64 (i:Int)/\L.length=c/\Y=.slice B c N/\Own Ex.cells 48 6 V B N L/\(∀g∈zw B,W1.heap.size<=g)/\nn+m+c<=left/\Ex.X5 (es.take i)=i+Ex.X5 L/\(∀e∈L,e.zN W1)/\Bl W1 V)
     case atStart=>exact⟨0,0,0,none,[],zpD _,rfl,rfl,rfl,rfl,Own.qz _,by simp[zw],hn,by simp[Ex.X5],zp,Below.refl _ _⟩
     case round=>
      obtain⟨i,c,ah,B2,L,aL,rfl,rfl,X,rfl,xV,U,aR,O,I,R⟩:=hrel;obtain⟨W2,rfl⟩:∃W2,W2=wr:=⟨_,rfl⟩;have Hc:=zz X;have ai:=zz xV;have aK:=zz U;have ab:=zz I;have aa:=zz R;have ag:=zz O;clear X xV I R U O
      by_cases aB:i<m
      ·have I:i<es.length:=by rw[Hm.o];exact aB
       obtain⟨b,o,rfl,av,O⟩:=aA.o.at Ex.xG i I;have R:=an.o _ (zpB I);have U:=Ex.zld es i I;generalize es[i]=X at O R U;clear I;obtain⟨q1,⟨v1,k1,m1,s1⟩,A1,af,I⟩:=X;unfold Ex.zN at R;obtain⟨l1,l2,Z⟩:=R;obtain⟨p,X⟩:∃p,I.length=p:=⟨_,rfl⟩;have c5:W2.cell? ⟨b,o+i*6+5,none⟩=some (.slice A1 p af):=by rw[<-X];exact yB O aa.o av 5 _ rfl
       have R:∀W,Bl W1 W->W.cell? ⟨b,o+i*6+5,none⟩=some (.slice A1 p af):=fun W hW=>by rw[<-X];exact yB O hW av 5 _ rfl
       rw[X]at l2;have Hp:=zz X;have L1:=zz l1;have L3:=zz Z;have C5:=zz R;have aG:=zz U;clear X l1 Z R O U
       by_cases hg:nn+m+c+p<=left
       ·go_wp2
        go_loopg[8,10] p (fun gk Y O V=>∃(k c3 U:Nat) (B3:Option Addr),k<=p/\gk=p-k/\O=.int .i64 (k:Int)/\c3=c+k/\Y=.slice B3 c3 U/\(L++I.take k).length=c3/\Own Ex.cells 48 6 V B3 U (L++I.take k)/\(∀g∈zw B3,W1.heap.size<=g)/\Bl W1 V)
        case atStart=>exact⟨0,c,ah,B2,zpD _,rfl,rfl,rfl,rfl,by simpa using Hc.o,by simpa using ai.o,aK.o,aa.o⟩
        case round=>
         obtain⟨k,c3,U,B3,aO,rfl,rfl,al,rfl,Y,O,R,X⟩:=hrel;obtain⟨W3,rfl⟩:∃W3,W3=wr:=⟨_,rfl⟩;have c5:=C5.o W3 X;have Z:=zz O;have V:=zz R;have am:=zz Y;have ad:=zz X;clear O X R Y
         by_cases ax:k<p
         ·have ao:k<I.length:=by rw[Hp.o];exact ax
          obtain⟨b3,o3,rfl,aE,X⟩:=L1.o.at Ex.xG k ao;have ac:L++I.take (k+1)=(L++I.take k)++[I[k]]:=by rw[zpC ao,zpX]
          have ak:=yB X ad.o aE;generalize I[k]=e3 at ac ak;obtain⟨q3,⟨v3,k3,m3,s3⟩,A4,O,R⟩:=e3;obtain⟨p3,ap⟩:∃p3,R.length=p3:=⟨_,rfl⟩;have Y:(Ex.mk q3 ⟨v3,k3,m3,s3⟩ A4 O R).cells=[.int .i8 q3,.string v3,.int .i8 k3,.int .i64 m3,.string s3,.slice A4 p3 O]:=by rw[<-ap];rfl
          rw[Y]at ak;have aj:=zz ac;have aD:(prog.info? 48).map (·.size)=some [Value.int .i8 q3,.string v3,.int .i8 k3,.int .i64 m3,.string s3,.slice A4 p3 O].length:=zag;have ae:=zz Y;have aJ:=zz al;have aI:c3<=4194304:=zd;clear ac X ap ao al Y
          go_wp2_with (first
           |(refine xW 48 _ rfl ?_;refine wpList_load_mid rfl 48 _ rfl b3 (o3+k*6) rfl [.int .i8 q3,.string v3,.int .i8 k3,.int .i64 m3,.string s3,.slice A4 p3 O] _ ak underlying48 rfl aD ?_)
           |(at_builtin;refine X9 rfl _ _ rfl zeb (f:=Ex.cells) (xs:=L++I.take k) (Z.o.alloc _) am.o (.mk q3 ⟨v3,k3,m3,s3⟩ A4 O R) _ 0 1 rfl rfl (Ex.xG _) (by rw[ae.o];exact yt _ _ _ rfl) (by rw[ae.o];simp[Value.oneCell']) aI zr ?_))
          intro g4 ao W4 Y au ay;have az:zh (·∈zw B3) W3 W4:=((zh.refl (·∈zw B3) W3).alloc _).trans au (fun x X _=>X);have X:Bl W1 W4:=az.qt ad.o (zpx _) V.o;have aq:W1.heap.size<=g4:=by
           rcases ay with h|h
           ·exact V.o g4 h
           ·have h4:=ad.o.size;try simp at h
            omega
          have ac:=zz Y;have ap:=zz X;have aF:=zz aq;clear Y au ay az X aq;go_wp2
          go_roundg (p-(k+1))
          case measure=>omega
          case rel=>
           have al:=aJ.o;exact⟨k+1,c3+1,ao,some ⟨g4,0,none⟩,zd,rfl,ze,zd,rfl,by rw[aj.o,zpA,am.o];rfl,by rw[aj.o];simpa only[zpX]using ac.o,xY aF.o,ap.o⟩
         ·obtain rfl:k=p:=zd;have O:=Z.o;have R:=am.o;rw[zpT (by rw[Hp.o];exact zpx _)]at O R;have X:=zz O;have Y:=zz R;clear O R;go_wp2
          go_roundg (m-(i+1))
          case measure=>omega
          case rel=>
           refine⟨i+1,c3,U,B3,L++I,zd,rfl,ze,Y.o,rfl,X.o,V.o,zd,?_,?_,ad.o⟩
           ·have h1:=aG.o;have R:=ag.o;rw[Ex.Dz];unfold Ex.count at h1;omega
           ·intro e O
            rcases zpE.1 O with O|O
            ·exact ab.o e O
            ·exact Ex.qG.mem L3.o e O
       ·go_wp2;go_returns;exact⟨left+1,ze,zpx _,fun h=>absurd h zd,HB.o.trans (aa.o.mono HB.o.size)⟩
      ·obtain rfl:i=m:=zd;go_wp2
       go_roundg (65540-(d+1))
       case measure=>omega
       case rel=>
        refine⟨nn+i,d+1,B2,c,ah,L,rfl,zd,ze,hn,rfl,Hc.o,ze,ai.o.xI,zd,?_,fun e O=>Ex.zN.below aa.o (ab.o e O),HB.o.trans (aa.o.mono HB.o.size)⟩;have h1:=aw.o;have R:=ag.o;rw[zpT (by rw[Hm.o];exact zpx _)]at R;omega
    ·go_wp2
     all_goals(first|omega |(go_returns;exact⟨left+1,ze,zpx _,fun h=>absurd h zd,HB.o⟩))
   ·go_wp2;go_returns;exact⟨left+1,ze,zpx _,fun h=>absurd h zd,HB.o⟩
theorem zk7(x:Li)(left:Nat)(w:World)(h1:left<=1048576)(hl:x.zN w):
 Calls prog 84 #[.agg x.cells.toArray,.int .i64 (left:Int)] w fun e w'=>∃r:Nat,e=.returned (.int .i64 (r:Int))/\r<=left+1/\(r<=left->r=x.count)/\Bl w w':=by
 obtain⟨k,⟨p,A,U,aj⟩,rl,l,r⟩:=x;obtain⟨X,L,R,V,N,O,e1⟩:=zbJ l.xG;obtain⟨ac,Z,Y,aa,ab,ad,e2⟩:=zbJ r.xG;have t1:=fun(W:World) (I:Bl w W)=>zfV l left W h1 (hl.l.below I)
 have t2:=fun(W:World) (I:Bl w W) (z:Int) (hz:0<=z) (ae:z<=1048576)=>(zfV r z.toNat W zd (hl.r.below I))
 have ag:=hl.a.len;simp only at ag;rw[e1]at t1;rw[e2]at t2;obtain⟨cl,ah⟩:∃c,l.count=c:=⟨_,rfl⟩;obtain⟨cr,af⟩:∃c,r.count=c:=⟨_,rfl⟩;unfold Li.count;simp only;rw[ah]at t1 ⊢;rw[af]at t2 ⊢;have t2:∀(W:World),Bl w W->∀z:Int,0<=z->z<=1048576->Calls prog 146 #[.agg #[ac,Z,Y,aa,ab,ad],.int .i64 z] W fun e w'=>∃r:Nat,e=.returned (.int .i64 (r:Int))/\(r:Int)<=z+1/\((r:Int)<=z->r=cr)/\Bl W w':=fun W I z hz ae=>by
  have h:=t2 W I z hz ae;rw[Int.toNat_of_nonneg hz]at h;refine h.mono ?_;rintro e w'⟨r,rfl,h1,h2,I⟩;exact⟨r,rfl,zd,fun h=>h2 zd,I⟩
 unfold Li.cells;simp only;rw[e1,e2];simp only[zpJ,zpI];obtain⟨n,I⟩:∃n,aj.length=n:=⟨_,rfl⟩;rw[I]at ag ⊢;clear I e1 e2 hl ah af;obtain⟨W0,I⟩:∃W0,(w.alloc (.cells #[.int .i8 k,.string p,.slice A n U,.int .i8 rl,X,L,R,V,N,O,ac,Z,Y,aa,ab,ad] 50))=W0:=⟨_,rfl⟩;have ah:Bl w W0.drew:=I▸(xq w _).drew;have ai:w.heap.size<W0.drew.heap.size:=by rw[<-I];simp
 have ae:W0.drew.rangeAt w.heap.size 0 [.int .i8 k,.string p,.slice A n U,.int .i8 rl,X,L,R,V,N,O,ac,Z,Y,aa,ab,ad]:=I▸ZK w [.int .i8 k,.string p,.slice A n U,.int .i8 rl,X,L,R,V,N,O,ac,Z,Y,aa,ab,ad] 50;have q:∀W:World,W.rangeAt w.heap.size 0 [.int .i8 k,.string p,.slice A n U,.int .i8 rl,X,L,R,V,N,O,ac,Z,Y,aa,ab,ad]->
  W.cell? ⟨w.heap.size,2,none⟩=some (.slice A n U)/\W.cell? ⟨w.heap.size,4,none⟩=some X/\W.cell? ⟨w.heap.size,5,none⟩=some L/\W.cell? ⟨w.heap.size,6,none⟩=some R/\W.cell? ⟨w.heap.size,7,none⟩=some V/\W.cell? ⟨w.heap.size,8,none⟩=some N/\W.cell? ⟨w.heap.size,9,none⟩=some O:=
  fun W h=>⟨h 2 _ rfl,h 4 _ rfl,h 5 _ rfl,h 6 _ rfl,h 7 _ rfl,h 8 _ rfl,h 9 _ rfl⟩
 have ak:=q _ ae;have af:=zz q;have av:=zz I;have al:=zz ah;have ao:=zz ai;have aq:=zz ae;have aw:=zz (t1 W0.drew ah);have ap:=zz t2;clear I ah ai ae t1 t2 q;go_enter func84,ntmps84;go_upto_region 1 with fail
 rw[av.o]
 go_region_held3 (fun I:World=>I.cell? ⟨w.heap.size,2,none⟩=some (.slice A n U)/\I.cell? ⟨w.heap.size,4,none⟩=some X/\I.cell? ⟨w.heap.size,5,none⟩=some L/\I.cell? ⟨w.heap.size,6,none⟩=some R/\I.cell? ⟨w.heap.size,7,none⟩=some V/\I.cell? ⟨w.heap.size,8,none⟩=some N/\I.cell? ⟨w.heap.size,9,none⟩=some O) (first|exact ak|exact an) (first
  |(
   go_at_call 146;refine aw.o.mono ?_;rintro e W1⟨r1,rfl,ay,am,ah⟩
   have I:=zz (yB aq.o ah ao.o);have an:=af.o W1 I.o))
 have ai:Bl w W1:=al.o.trans (ah.mono al.o.size);have g0:=I.o 10 _ rfl;have g1:=I.o 11 _ rfl;have g2:=I.o 12 _ rfl;have g3:=I.o 13 _ rfl;have g4:=I.o 14 _ rfl;have g5:=I.o 15 _ rfl;simp only[zp6]at g0 g1 g2 g3 g4 g5;have ae:=zz ai;have au:=zz am;clear ai ah ak an am
 by_cases az:1+n+r1<=left
 ·go_wp2_with (go_at_call 146;refine(ap.o W1 ae.o _ zd (zd)).mono ?_;rintro e W2⟨r2,rfl,ax,ai,ak⟩;have ar:=zz ai;clear ai)
  go_returns;refine⟨1+n+r1+r2,ze,zd,fun h=>?_,ae.o.trans (ak.mono ae.o.size)⟩;rw[au.o zd,ar.o zd]
 ·go_wp2;go_returns;exact⟨left+1,ze,zpx _,fun h=>absurd h zd,ae.o⟩
theorem zhx(x:Ru)(left:Nat)(w:World)(h1:left<=1048576)(hl:x.zN w):
 Calls prog 36 #[.agg x.cells.toArray,.int .i64 (left:Int)] w fun e w'=>∃r:Nat,e=.returned (.int .i64 (r:Int))/\r<=x.head.length+left+2/\(r<=left->r=x.count)/\Bl w w':=by
 obtain⟨p,A,X,Y,B,zM,q⟩:=x;obtain⟨n,hn⟩:∃n,Y.length=n:=⟨_,rfl⟩;obtain⟨m,hm⟩:∃m,q.length=m:=⟨_,rfl⟩;have O:=hl.XY;have N:=hl.y8;simp only at O N;unfold Ru.count;simp only[Ru.cells];rw[hn]at O ⊢;rw[hm]at N ⊢;have U:∀y∈q,y.zN w:=hl.body;obtain⟨W0,R⟩:∃W0,(w.alloc (.cells #[.string p,.slice A n X,.slice B m zM] 25))=W0:=⟨_,rfl⟩;have ad:Bl w W0:=R▸xq w _;have ab:w.heap.size<W0.heap.size:=by rw[<-R];simp
 have V:W0.rangeAt w.heap.size 0 [.string p,.slice A n X,.slice B m zM]:=R▸ZK w [.string p,.slice A n X,.slice B m zM] 25;have c1:W0.cell? ⟨w.heap.size,1,none⟩=some (.slice A n X):=V 1 _ rfl;have I:∀i,(hi:i<q.length)->∃b o,B=some ⟨b,o,none⟩/\b<w.heap.size/\w.rangeAt b (o+i*16) q[i].cells:=fun i hi=>hl.rd.at (c:=15) Li.xG i hi
 have L:∀(i:Nat)(hi:i<q.length)(W:World),Bl w W->∀z:Int,0<=z->z<=1048576->Calls prog 84 #[.agg q[i].cells.toArray,.int .i64 z] W fun e w'=>∃r:Nat,e=.returned (.int .i64 (r:Int))/\(r:Int)<=z+1/\((r:Int)<=z->r=q[i].count)/\Bl W w':=fun i hi W hW z Z aa=>by
  have h:=zk7 q[i] z.toNat W zd ((U _ (zpB _)).below hW);rw[Int.toNat_of_nonneg Z]at h;refine h.mono ?_;rintro e w'⟨r,rfl,h1,h2,Z⟩;exact⟨r,rfl,zd,fun h=>h2 zd,Z⟩
 have aq:=zz R;have ao:=zz ad;have ac:=zz ab;have am:=zz V;have Z:=zz I;have aa:=zz L;have Hm:=zz hm;clear R ad ab V I L hn hm hl U;go_enter func36,ntmps36;go_wp2
 go_loopg[5,6] (m+1) (fun gk R L I=>∃(a i:Nat),R=.int .i64 (a:Int)/\L=.int .i64 (i:Int)/\i<=m/\gk=m+1-i/\a<=n+left+2/\(a<=left->a=1+n+YL (q.take i))/\Bl W0 I)
 case atStart=>exact⟨1+n,0,ze,rfl,zpD _,rfl,zd,fun _=>by simp[YL],by rw[aq.o];exact Below.refl _ _⟩
 case round=>
  obtain⟨a,i,rfl,rfl,hi,rfl,ha,I,L⟩:=hrel;obtain⟨W1,rfl⟩:∃W1,W1=wr:=⟨_,rfl⟩;have c2:W1.cell? ⟨w.heap.size,2,none⟩=some (.slice B m zM):=yB am.o L ac.o 2 _ rfl;have HB:=zz L;have V:Kz (Bl w W1):=ao.o.trans (L.mono (zrb ac.o));have ae:=zz I;clear L I
  by_cases al:i<m
  ·by_cases an:a<=left
   ·have U:i<q.length:=by rw[Hm.o];exact al
    obtain⟨b,o,rfl,hb,R⟩:=Z.o i U;have hc:=aa.o i U W1 V.o;have L:=yB R V.o hb;have I:=q[i].xG;have ab:YL (q.take (i+1))=YL (q.take i)+q[i].count:=by rw[zpC U,zfi]
    generalize q[i].count=ct at hc ab;generalize q[i].cells=cs at hc R L I;clear U;obtain⟨x0,x1,x2,x3,x4,x5,x6,x7,x8,x9,af,ai,ad,ah,aj,ag,rfl⟩:=zhb I;have Hc:=zz hc;have U:=zz L;have ap:=zz ab;have ak:(prog.info? 50).map (·.size)=some [x0,x1,x2,x3,x4,x5,x6,x7,x8,x9,af,ai,ad,ah,aj,ag].length:=Dw;clear hc R L I ab
    go_wp2_with (first
     |(refine xW 50 _ rfl ?_;refine wpList_load_mid rfl 50 _ rfl b (o+i*16) rfl [x0,x1,x2,x3,x4,x5,x6,x7,x8,x9,af,ai,ad,ah,aj,ag] _ U.o underlying50 rfl ak ?_)
     |(go_at_call 84;refine(Hc.o _ zd (zd)).mono ?_;rintro e W2⟨r2,rfl,ab,I,L⟩;have R:=zz I;clear I))
    go_roundg (m+1-(i+1))
    case measure=>omega
    case rel=>exact⟨a+r2,i+1,ze,ze,zd,rfl,zd,fun h=>by rw[ap.o,<-R.o zd];have:=ae.o zd;omega,HB.o.trans (L.mono HB.o.size)⟩
   ·go_wp2;go_returns;exact⟨a,ze,ha,fun h=>absurd h an,V.o⟩
  ·obtain rfl:i=m:=zd;have I:Kz (a<=left->a=1+n+YL q):=fun h=>by have:=ae.o h;rwa [zpT (zq4 Hm.o)]at this
   go_wp2;go_returns;exact⟨a,ze,ha,I.o,V.o⟩
theorem zfm(x:Ru)(w:World)(R:x.zN w):
 Calls prog 8 #[.agg x.cells.toArray] w fun e q=>∃b:Bool,e=.returned (.bool b)/\(b=false->x.count<=1048576)/\Bl w q:=by
 have I:=xq w (.cells x.cells.toArray 25);have L:=zhx x 1048576 (w.alloc (.cells x.cells.toArray 25)) (zpx _) (R.below I);have W:x.head.length*56<=140737488351232:=R.XY;obtain⟨N,U⟩:∃N,x.count=N:=⟨_,rfl⟩;rw[U]at L ⊢;obtain⟨p,A,aa,q,B,zM,O⟩:=x;simp only[Ru.cells]at L I W ⊢;obtain⟨n,X⟩:∃n,q.length=n:=⟨_,rfl⟩;obtain⟨m,Y⟩:∃m,O.length=m:=⟨_,rfl⟩;rw[X]at L I W ⊢;rw[Y]at L I ⊢;have Z:=zz L;have V:=zz I;clear L I X Y R U;go_enter func8,ntmps8
 go_wp2_with (go_at_call 36;refine Z.o.mono ?_;rintro e W1⟨r,rfl,hr,U,I⟩;have X:=zz U;clear U)
 go_returns;refine⟨_,rfl,fun h=>?_,V.o.trans (I.mono V.o.size)⟩;have L:r<=1048576:=by
  have Y:(r:Int)<=1048576:=by simpa using h
  omega
 rw[<-X.o L];exact L
theorem zdK(A:Option Addr)(cap n:Nat)(l:List Fa)(w:World)(Y:zZ Fa.cells w A l)(hn:l.length=n)(aa:n<=140737488351232)(L:∀f∈l,f.args.length<=140737488351232):
 Calls prog 9 #[.slice A n cap] w fun e q=>∃b:Bool,e=.returned (.bool b)/\(b=false->YJ l<=1048576)/\Bl w q:=by
 have HL:=zz Y;have Hn:=zz hn;have X:=zz L;clear Y hn L;go_enter func9,ntmps9;go_wp2
 go_loopg[3,4] n (fun gk q O N=>∃(a i:Nat),q=.int .i64 (a:Int)/\O=.int .i64 (i:Int)/\i<=n/\gk=n-i/\a<=1048576/\a=YJ (l.take i)/\Bl w N)
 case atStart=>exact⟨0,0,rfl,rfl,zpD _,rfl,zpD _,by simp[YJ],Below.refl _ _⟩
 case round=>
  obtain⟨a,i,rfl,rfl,hi,rfl,ha,q,N⟩:=hrel;have U:=zz N;have R:=zz q;clear N q
  by_cases V:i<n
  ·have O:i<l.length:=by rw[Hn.o];exact V
   obtain⟨b,o,rfl,hb,q⟩:=(HL.o.below U.o).at (c:=1) (fun _=>rfl) i O;have L:=X.o _ (zpB O);have N:YJ (l.take (i+1))=YJ (l.take i)+(1+l[i].args.length):=by rw[zpC O,zfv]
   obtain⟨x,Z⟩:∃x,l[i]=x:=⟨_,rfl⟩;rw[Z]at q L N;obtain⟨p,B,zM,I⟩:=x;simp only[Fa.cells]at q L N
   replace q:wr.rangeAt b (o+i*2) _:=q
   have c2:wr.cell? ⟨b,o+i*2+1,none⟩=some (.slice B I.length zM):=(two q).2;generalize I.length=k at *;have W:=zz N;clear N q Z
   by_cases q:a+1+k<=1048576
   ·go_wp2
    go_roundg (n-(i+1))
    case measure=>omega
    case rel=>exact⟨a+1+k,i+1,ze,ze,zd,rfl,q,by rw[W.o,<-R.o];omega,U.o⟩
   ·go_wp2;go_returns;exact⟨true,rfl,(fun h=>nomatch h),U.o⟩
  ·obtain rfl:i=n:=zd;have q:=zz (show YJ l<=1048576 by have N:=R.o;rw[zpT (zq4 Hn.o)]at N;omega);go_wp2;go_returns;exact⟨false,rfl,fun _=>q.o,U.o⟩
end
end Go.Proofs.YtfdickkdlcgicaaGreatDoor.C
namespace Go.Proofs
open Go.Proofs.Tryz Go Go.RowKit Go.Maps Go.WideMaps
section
open Go.Shelf
def Tryz.zmt:Go.Shelf.Ren:=⟨fun|171=>211|243=>249|246=>269|283=>287|284=>288|285=>289|286=>290|129=>189|317=>295|318=>296|319=>297|320=>298|337=>167|338=>300|n=>n,fun|3=>3|9=>9|2=>2|4=>4|171=>420|0=>0|53=>333|37=>368|5=>5|173=>422|212=>428|51=>104|20=>20|213=>429|46=>246|232=>365|233=>431|n=>n,fun|17=>3|18=>0|19=>4|n=>n⟩
theorem Tryz.zhB:Go.Proofs.LaysM.n171 prog Tryz.zmt:={
 mixed:=by kernel_rfl
 f129:=func189.trans (congrArg some (by kernel_rfl))
 f171:=func211.trans (congrArg some (by kernel_rfl))
 f243:=func249.trans (congrArg some (by kernel_rfl))
 f246:=func269.trans (congrArg some (by kernel_rfl))
 f283:=func287.trans (congrArg some (by kernel_rfl))
 f284:=func288.trans (congrArg some (by kernel_rfl))
 f285:=func289.trans (congrArg some (by kernel_rfl))
 f286:=func290.trans (congrArg some (by kernel_rfl))
 f317:=func295.trans (congrArg some (by kernel_rfl))
 f318:=func296.trans (congrArg some (by kernel_rfl))
 f319:=func297.trans (congrArg some (by kernel_rfl))
 f320:=func298.trans (congrArg some (by kernel_rfl))
 f337:=func167.trans (congrArg some (by kernel_rfl))
 f338:=func300.trans (congrArg some (by kernel_rfl))
 t0:=underlying0
 a0:=isAgg0
 z0:=sizeOf0
 v0:=zeroValue0
 t2:=underlying2
 a2:=isAgg2
 z2:=sizeOf2
 v2:=zeroValue2
 t3:=underlying3
 a3:=isAgg3
 z3:=sizeOf3
 v3:=zeroValue3
 t4:=underlying4
 a4:=isAgg4
 z4:=sizeOf4
 v4:=zeroValue4
 t5:=underlying5
 a5:=isAgg5
 z5:=sizeOf5
 v5:=zeroValue5
 t9:=underlying9
 a9:=isAgg9
 z9:=sizeOf9
 v9:=zeroValue9
 t20:=underlying20
 a20:=isAgg20
 z20:=sizeOf20
 v20:=zeroValue20
 t37:=underlying368
 a37:=isAgg368
 z37:=sizeOf368
 v37:=zeroValue368
 t46:=underlying246
 a46:=isAgg246
 z46:=sizeOf246
 v46:=zeroValue246
 t51:=underlying104
 a51:=isAgg104
 z51:=sizeOf104
 v51:=zeroValue104
 t53:=underlying333
 a53:=isAgg333
 z53:=sizeOf333
 v53:=zeroValue333
 t171:=underlying420
 a171:=isAgg420
 z171:=sizeOf420
 v171:=zeroValue420
 t173:=underlying422
 a173:=isAgg422
 z173:=sizeOf422
 v173:=zeroValue422
 t212:=underlying428
 a212:=isAgg428
 z212:=sizeOf428
 v212:=zeroValue428
 t213:=underlying429
 a213:=isAgg429
 z213:=sizeOf429
 t232:=underlying365
 a232:=isAgg365
 z232:=sizeOf365
 v232:=zeroValue365
 t233:=underlying431
 a233:=isAgg431
 z233:=sizeOf431
 v233:=zeroValue431
 g17:=by kernel_rfl
 g18:=by kernel_rfl
 g19:=by kernel_rfl
 i0:=by kernel_rfl
 i2:=by kernel_rfl
 i3:=by kernel_rfl
 i4:=by kernel_rfl
 i5:=by kernel_rfl
 i9:=by kernel_rfl
 i20:=by kernel_rfl
 i37:=by kernel_rfl
 i46:=by kernel_rfl
 i51:=by kernel_rfl
 i53:=by kernel_rfl
 i171:=by kernel_rfl
 i173:=by kernel_rfl
 i212:=by kernel_rfl
 i232:=by kernel_rfl
 i233:=by kernel_rfl
 m17:=by kernel_rfl
 m18:=by kernel_rfl
 m19:=by kernel_rfl }
def Tryz.zh7:Go.Shelf.Ren:=⟨fun|173=>245|246=>269|283=>287|284=>288|285=>289|286=>290|129=>189|317=>295|318=>296|319=>297|320=>298|337=>167|338=>300|n=>n,fun|2=>2|3=>3|9=>9|4=>4|171=>420|0=>0|53=>333|37=>368|5=>5|173=>422|212=>428|51=>104|20=>20|213=>429|46=>246|232=>365|233=>431|n=>n,fun|17=>3|18=>0|19=>4|n=>n⟩
theorem Tryz.zj8:Go.Proofs.LaysM.n173 prog Tryz.zh7:={
 mixed:=by kernel_rfl
 f129:=func189.trans (congrArg some (by kernel_rfl))
 f173:=func245.trans (congrArg some (by kernel_rfl))
 f246:=func269.trans (congrArg some (by kernel_rfl))
 f283:=func287.trans (congrArg some (by kernel_rfl))
 f284:=func288.trans (congrArg some (by kernel_rfl))
 f285:=func289.trans (congrArg some (by kernel_rfl))
 f286:=func290.trans (congrArg some (by kernel_rfl))
 f317:=func295.trans (congrArg some (by kernel_rfl))
 f318:=func296.trans (congrArg some (by kernel_rfl))
 f319:=func297.trans (congrArg some (by kernel_rfl))
 f320:=func298.trans (congrArg some (by kernel_rfl))
 f337:=func167.trans (congrArg some (by kernel_rfl))
 f338:=func300.trans (congrArg some (by kernel_rfl))
 t0:=underlying0
 a0:=isAgg0
 z0:=sizeOf0
 v0:=zeroValue0
 t2:=underlying2
 a2:=isAgg2
 z2:=sizeOf2
 v2:=zeroValue2
 t3:=underlying3
 a3:=isAgg3
 z3:=sizeOf3
 v3:=zeroValue3
 t4:=underlying4
 a4:=isAgg4
 z4:=sizeOf4
 v4:=zeroValue4
 t5:=underlying5
 a5:=isAgg5
 z5:=sizeOf5
 v5:=zeroValue5
 t9:=underlying9
 a9:=isAgg9
 z9:=sizeOf9
 v9:=zeroValue9
 t20:=underlying20
 a20:=isAgg20
 z20:=sizeOf20
 v20:=zeroValue20
 t37:=underlying368
 a37:=isAgg368
 z37:=sizeOf368
 v37:=zeroValue368
 t46:=underlying246
 a46:=isAgg246
 z46:=sizeOf246
 v46:=zeroValue246
 t51:=underlying104
 a51:=isAgg104
 z51:=sizeOf104
 v51:=zeroValue104
 t53:=underlying333
 a53:=isAgg333
 z53:=sizeOf333
 v53:=zeroValue333
 t171:=underlying420
 a171:=isAgg420
 z171:=sizeOf420
 v171:=zeroValue420
 t173:=underlying422
 a173:=isAgg422
 z173:=sizeOf422
 v173:=zeroValue422
 t212:=underlying428
 a212:=isAgg428
 z212:=sizeOf428
 v212:=zeroValue428
 t213:=underlying429
 a213:=isAgg429
 z213:=sizeOf429
 t232:=underlying365
 a232:=isAgg365
 z232:=sizeOf365
 v232:=zeroValue365
 t233:=underlying431
 a233:=isAgg431
 z233:=sizeOf431
 v233:=zeroValue431
 g17:=by kernel_rfl
 g18:=by kernel_rfl
 g19:=by kernel_rfl
 i0:=by kernel_rfl
 i2:=by kernel_rfl
 i3:=by kernel_rfl
 i4:=by kernel_rfl
 i5:=by kernel_rfl
 i9:=by kernel_rfl
 i20:=by kernel_rfl
 i37:=by kernel_rfl
 i46:=by kernel_rfl
 i51:=by kernel_rfl
 i53:=by kernel_rfl
 i171:=by kernel_rfl
 i173:=by kernel_rfl
 i212:=by kernel_rfl
 i232:=by kernel_rfl
 i233:=by kernel_rfl
 m17:=by kernel_rfl
 m18:=by kernel_rfl
 m19:=by kernel_rfl }
end
end Go.Proofs
namespace Go.Proofs.YtfdickkdlcgicaaGreatDoor.C
open Go.Proofs.Tryz Go Go.RowKit Go.Maps Go.WideMaps
variable {A:Option Addr}{S:Nat->Prop}{W w w':World}{a0 cap g i n size x:Nat}{e t:TypeId}{h q:Array Value}{α:Type}
section
theorem Dt{S:Nat->Prop}{a:World}{g:Nat}(q:g<a.heap.size->S g):∀(I:List Value)(o:Nat)(w:World),zh S a w->zh S a (w.setCells g o I)
 |[],_,_,h=>h
 |v::r,o,w,h=>Dt q r (o+1) _ (h.setCell (p:=⟨g,o,none⟩) q v)
structure XX (w:World) (g:Nat) (t:TypeId) (cs:Array Value) (W:World):Prop where
 zH:zD W g t cs
 zC:zh (·=g) w W
 size:W.heap.size=w.heap.size
theorem XX.below{q w:World}{L:Array Value}(h:XX w g t L W){B:Nat}(I:Below B q w)(N:B<=q.heap.size)(O:B<=g):Below B q W:=I.trans (h.zC.below (by have:=I.size;omega) (fun x R=>zd))
theorem XX.qj{w:World}{I:Nat}{L:TypeId}{N:Array Value}(h:XX w g t N W)(k:zD w I L q)(O:I≠g):zD W I L q:=k.zC h.zC O
theorem XX.own{f:α->List Value}{w:World}{xs:List α}(h:XX w g t q W)(k:Own f e size w A cap xs)(I:∀x∈zw A,x≠g):Own f e size W A cap xs:=k.zC h.zC I
section
variable {P:Program}{ops:Array Oper}{rest:List Oper}{o:Oper}{a:Act}{w:World}{Q:Exit->Act->World->Prop}{K:Act->World->Prop}
theorem Gx(q:zD w g t h)(vs:List Value)(I:a0+vs.length<=h.size):XX w g t (h.toList.take a0++vs++h.toList.drop (a0+vs.length)).toArray (w.setCells g a0 vs):=
 ⟨zD.setCells vs a0 w h q I,Dt (S:=(·=g)) (fun _=>rfl) _ _ _ (zh.refl _ w),JM _ _ _ _⟩
theorem Dd(q:zD w g t h)(L:a0+n<=h.size):w.there g a0 n:=fun j I=>⟨by rw[q.cell];simp;omega,q.frozen _⟩
theorem Xu(I:TypeId)(x y:Operand)(O:o.op=.store I x y)(g a0:Nat)(t:TypeId)(q:Array Value)(L:zD w g t q)(vs:List Value)(U:a.eval x=.pointer (some ⟨g,a0,none⟩))(hy:a.eval y=.agg vs.toArray)(N:a0+vs.length<=q.size)(hi:(P.info? I).map (·.size)=some vs.length)(R:∀v∈vs,v.oneCell'=true)(h:∀W,XX w g t (q.toList.take a0++vs++q.toList.drop (a0+vs.length)).toArray W->K (a.put o.dst undef) W):Oper.wp P o a w K Q:=
 wp_store_mid I x y O g a0 vs.toArray U hy (by simpa using Dd L N) (by simpa using hi) (all_oneCell_toArray R) (h _ (Gx L vs N))
theorem XG(hw:Region.wanted o (yielded ops a.tmps)=true)(I:TypeId)(x y:Operand)(V:o.op=.store I x y)(g a0:Nat)(t:TypeId)(q:Array Value)(N:zD w g t q)(vs:List Value)(X:a.eval x=.pointer (some ⟨g,a0,none⟩))(hy:a.eval y=.agg vs.toArray)(U:a0+vs.length<=q.size)(hi:(P.info? I).map (·.size)=some vs.length)(R:∀v∈vs,v.oneCell'=true)(h:∀W,XX w g t (q.toList.take a0++vs++q.toList.drop (a0+vs.length)).toArray W->wpList P ops Q rest (a.put o.dst undef) W):wpList P ops Q (o::rest) a w:=
 wpList_step fun _ O=>by rw[if_pos hw];exact Xu I x y V g a0 t q N vs X hy U hi R fun W L=>O _ _ (h W L)
theorem yH(I:TypeId){x y:Operand}(g a0:Nat)(L:zD w g t q)(vs:List Value)(h:∀W,XX w g t (q.toList.take a0++vs++q.toList.drop (a0+vs.length)).toArray W->wpList P ops Q rest (a.put o.dst undef) W)(hw:Region.wanted o (yielded ops a.tmps)=true:=by rfl)(R:o.op=.store I x y:=by rfl)(U:a.eval x=.pointer (some ⟨g,a0,none⟩):=by rfl)(hy:a.eval y=.agg vs.toArray:=by rfl)(O:a0+vs.length<=q.size:=by simp)(hi:(P.info? I).map (·.size)=some vs.length:=by kernel_rfl)(N:∀v∈vs,v.oneCell'=true:=by simp[Value.oneCell']):wpList P ops Q (o::rest) a w:=
 XG hw I x y R g a0 t q L vs U hy O hi N h
theorem zb0{N:TypeId}(R:zD w g t h)(Y:i<h.size){v:Value}(hi:(P.info? N).map (·.size)=some 1)(L:v.oneCell'=true):(storeVar N ⟨g,i,none⟩ v).run P w=.ok () (w.setCell ⟨g,i,none⟩ v):=by
 have W:v.cells=#[v]:=by cases v<;>first|rfl|cases L
 have X:=Dd R (a0:=i) (n:=1) zd;have q:=X 0 zd;rw[zqk]at q;obtain⟨q,I⟩:=q;obtain⟨u,U⟩:=zqq.1 q
 cases hq:P.info? N with
 |none=>simp[hq]at hi
 |some O=>
  have V:O.size=1:=by simpa[hq]using hi
  clear W
  cases v<;>first |(cases L;done)|simp[storeVar,sizeOf,typeInfo,hq,V,go_sem,run_store P w ⟨g,i,none⟩ _ _ L,U,I]
theorem U9(q:zD w g t h)(v:Value):XX w g t (h.setIfInBounds i v) (w.setCell ⟨g,i,none⟩ v):=
 ⟨q.qI i v,(zh.refl (·=g) w).setCell (p:=⟨g,i,none⟩) (fun _=>rfl) v,by simp[World.setCell]⟩
theorem XC(L:TypeId)(x y:Operand)(N:o.op=.store L x y)(g i:Nat)(t:TypeId)(q:Array Value)(I:zD w g t q)(v:Value)(R:a.eval x=.pointer (some ⟨g,i,none⟩))(hy:a.eval y=v)(U:i<q.size)(hi:(P.info? L).map (·.size)=some 1)(O:v.oneCell'=true)(h:∀W,XX w g t (q.setIfInBounds i v) W->K (a.put o.dst undef) W):Oper.wp P o a w K Q:=by
 unfold Oper.wp execOp;simp only[N,R,hy,Instr.storeAt,Instr.sureAddr,Sem.run_bind,Sem.run_pure,Result.andThen_ok,zb0 I U hi O];exact h _ (U9 I v)
theorem Xq(hw:Region.wanted o (yielded ops a.tmps)=true)(I:TypeId)(x y:Operand)(V:o.op=.store I x y)(g i:Nat)(t:TypeId)(q:Array Value)(N:zD w g t q)(v:Value)(X:a.eval x=.pointer (some ⟨g,i,none⟩))(hy:a.eval y=v)(U:i<q.size)(hi:(P.info? I).map (·.size)=some 1)(R:v.oneCell'=true)(h:∀W,XX w g t (q.setIfInBounds i v) W->wpList P ops Q rest (a.put o.dst undef) W):wpList P ops Q (o::rest) a w:=
 wpList_step fun _ O=>by rw[if_pos hw];exact XC I x y V g i t q N v X hy U hi R fun W L=>O _ _ (h W L)
theorem y7(hw:Region.wanted o (yielded ops a.tmps)=true)(I:TypeId)(x:Operand)(O:o.op=.load I x)(b L:Nat)(W:a.eval x=.pointer (some ⟨b,L,none⟩))(q:List Value)(d:TypeDesc)(V:w.rangeAt b L q)(U:P.underlying I=some d)(N:d.isRow=true)(hi:(P.info? I).map (·.size)=some q.length)(h:wpList P ops Q rest (a.put o.dst (.agg q.toArray)) w):wpList P ops Q (o::rest) a w:=
 wpList_step fun _ R=>by rw[if_pos hw];exact wp_load_mid I x O b L W q d V U N hi (R _ _ h)
end
end
section
structure Pw (w:World):Prop where
 lt:3<w.heap.size
 cells:∃t s,w.heap[(3:Nat)]? = some (.cells (Lib.pow10Tab.map fun z=>Value.int .u64 z).toArray t s)
theorem Pw.same(h:Pw w)(I:w.heap.size<=w'.heap.size)(q:w'.heap[(3:Nat)]? = w.heap[(3:Nat)]?):Pw w':=⟨zpz h.lt I,by rw[q];exact h.cells⟩
theorem Pw.below(h:Pw w)(q:Bl w w'):Pw w':=h.same q.size (q.block _ h.lt)
theorem Pw.zC(h:Pw w)(q:zh S w w')(I:¬S 3):Pw w':=h.same q.size (q.block _ h.lt I)
theorem Pw.tab(h:Pw w){s:String}(q:prog.globalNamed s=some 3):Lib.TabIs prog w s .u64 Lib.pow10Tab:=by
 obtain⟨t,L,I⟩:=h.cells;unfold Lib.TabIs World.var?;rw[q];simp only[zrv,I]
theorem zcz(w:World)(k:Nat)(h:Array Obj):Bl w (Sort.grow (w.drewN k) h):=
 ⟨rfl,rfl,rfl,by simp[Sort.grow],fun g q=>by
  show(w.heap++h)[g]? = w.heap[g]?;rw[Array.getElem?_append_left q]⟩
theorem TQ(w:World)(I:Pw w)(n:Int)(h0:-9223372036854775808<=n)(L:n<=9223372036854775807):Calls prog 211 #[.int .i64 n] w fun e h=>e=.returned (.string ⟨(Lib.itoa n).toArray⟩)/\Bl w h:=by
 refine(Any.strconv_Itoa Tryz.zhB n h0 L w (I.tab zo)).mono ?_;rintro e h⟨rfl,k,q,rfl⟩;exact⟨rfl,zcz w k q⟩
theorem zh5(w:World)(I:Pw w)(n:Int)(h0:-9223372036854775808<=n)(L:n<=9223372036854775807):Calls prog 245 #[.int .i64 n,.int .i64 10] w fun e h=>e=.returned (.string ⟨(Lib.itoa n).toArray⟩)/\Bl w h:=by
 refine(Any.strconv_FormatInt_10 Tryz.zj8 n h0 L w (I.tab zo)).mono ?_;rintro e h⟨rfl,k,q,rfl⟩;exact⟨rfl,zcz w k q⟩
theorem zfu(u:Nat):(Lib.decDigits u).foldl (fun a c=>a*10+(c.toNat-48)) 0=u:=by
 induction u using Nat.strongRecOn with
 |_ u q=>
  by_cases h:u<10
  ·rw[Lib.decDigits,dif_pos h];simp only[List.foldl_cons,List.foldl_nil,UInt8.toNat_ofNat'];omega
  ·rw[Lib.decDigits,dif_neg h,zqQ,q (u / 10) zd];simp only[List.foldl_cons,List.foldl_nil,UInt8.toNat_ofNat'];omega
theorem zbB(u:Nat):∀c∈Lib.decDigits u,c≠47:=by
 induction u using Nat.strongRecOn with
 |_ u L=>
  intro c q I;subst I
  by_cases h:u<10
  ·rw[Lib.decDigits,dif_pos h,zpy]at q;have:=congrArg UInt8.toNat q;simp only[UInt8.toNat_ofNat']at this;have I:(47:UInt8).toNat=47:=rfl;omega
  ·rw[Lib.decDigits,dif_neg h,zpE,zpy]at q
   rcases q with q|q
   ·exact L (u / 10) zd 47 q rfl
   ·have:=congrArg UInt8.toNat q;simp only[UInt8.toNat_ofNat']at this;have I:(47:UInt8).toNat=47:=rfl;omega
theorem zfZ:∀{a b p q:List UInt8},(∀c∈a,c≠47)->(∀c∈b,c≠47)->a++47::p=b++47::q->a=b
 |[],[],_,_,_,_,_=>rfl
 |[],y::b,_,_,_,N,h=>by
  injection h with I _
  exact absurd I.symm (N y zpP)
 |x::a,[],_,_,L,_,h=>by
  injection h with I _
  exact absurd I (L x zpP)
 |x::a,y::b,_,_,L,N,h=>by
  injection h with I R
  rw[I,zfZ (fun c O=>L c (zpQ _ O)) (fun c O=>N c (zpQ _ O)) R]
theorem zjs(n:Nat):Lib.itoa (n:Int)=Lib.decDigits n:=by
 unfold Lib.itoa;rw[if_neg zd];rfl
def yl(p:ByteArray)(n:Nat):ByteArray:=(⟨(Lib.itoa (n:Int)).toArray⟩++⟨#[47]⟩)++p
theorem zkq(p:ByteArray)(n:Nat):(yl p n).data.toList=Lib.decDigits n++47::p.data.toList:=by
 unfold yl;rw[zjs];simp[ByteArray.data_append]
theorem zjc{p q:ByteArray}{m:Nat}(h:yl p n=yl q m):n=m:=by
 have I:=congrArg (fun b:ByteArray=>b.data.toList) h;simp only[zkq]at I;have L:=zfZ (zbB n) (zbB m) I;rw[<-zfu n,L,zfu]
theorem znL(w:World):Calls prog 297 #[.int .i64 36] w fun e h=>e=.returned (.bool false)/\h=w:=by
 go_enter func297,ntmps297;go_wp2;go_returns;exact⟨rfl,rfl⟩
theorem zno(I:36<=x)(h:x*36 ^ (65-i)<18446744073709551616):54<=i:=by
 refine zql fun O=>?_
 have q:36 ^ 12<=36 ^ (65-i):=zqo zr (zd);have L:36*36 ^ 12<=x*36 ^ (65-i):=zrx I q;have N:(36:Nat)*36 ^ 12=170581728179578208256:=zr;omega
theorem znU(hi:54<=i)(q:i<=65)(h:x*36 ^ (65-i)<18446744073709551616):x / 36*36 ^ (65-(i-1))<18446744073709551616:=by
 have e:65-(i-1)=65-i+1:=zd;rw[e,Nat.pow_succ,Nat.mul_comm (36 ^ (65-i)) 36,<-Nat.mul_assoc];exact Nat.lt_of_le_of_lt (zqF _ (Nat.div_mul_le_self x 36)) h
def Bytes(n:Nat)(h:Array Value):Prop:=h.size=n/\∀j,j<n->∃b:UInt8,h[j]? = some (.int .u8 (b.toNat:Int))
theorem zhd:Tryz.zeroCells429=Array.replicate 65 (.int .u8 0):=zo
theorem znd:Bytes 65 Tryz.zeroCells429:=by
 rw[zhd];exact⟨zp,fun j h=>⟨0,by simp[h]⟩⟩
theorem Bytes.set(h:Bytes n q)(i:Nat)(b:UInt8):Bytes n (q.setIfInBounds i (.int .u8 (b.toNat:Int))):=⟨by simp[h.1],fun j I=>by
 rw[Array.getElem?_setIfInBounds];split
 ·split
  ·exact⟨b,rfl⟩
  ·have:=h.1;omega
 ·exact h.2 j I⟩
theorem Bytes.from_{w:World}{g n:Nat}{t:TypeId}{N:Array Value}(h:Bytes n N)(L:zD w g t N)(i:Nat):∀m,i+m<=n->∃l:List UInt8,l.length=m/\∀j (I:j<l.length),w.cell? ((⟨g,i,none⟩:Addr).add j)=some (.int .u8 (l[j].toNat:Int))
 |0,_=>⟨[],rfl,fun j I=>by simp at I⟩
 |m+1,W=>by
  obtain⟨l,O,V⟩:=Bytes.from_ h L i m zd;obtain⟨b,U⟩:=h.2 (i+m) zd;refine⟨l++[b],by simp[O],fun j I=>?_⟩
  by_cases q:j<l.length
  ·rw[zq6 q];exact V j q
  ·have:j=l.length:=by simp at I;omega
   subst this;rw[List.getElem_append_right (zpx _)];simp only[zrp,zqj];rw[O];have e:(⟨g,i,none⟩:Addr).add m=⟨g,i+m,none⟩:=by
    unfold Addr.add;split
    ·rename_i R;subst R;rfl
    ·rfl
   rw[e,L.cell,U]
theorem zgJ(w:World)(g i:Nat)(hi:i<65):(Instr.sliceAt 429 (.pointer (some ⟨g,0,none⟩)) (some (.int .i64 (i:Int))) none none).run prog w=.ok (.slice (some ⟨g,i,none⟩) (65-i) (65-i)) w:=by
 have O:(0:Int)<=(i:Int):=zd;have I:((i:Int)<=65):=zd;have L:¬65=i:=zd;obtain⟨q,N,V⟩:∃q,prog.info? 5=some q/\q.size=1:=by
  have h:(prog.info? 5).map (·.size)=some 1:=zo;obtain⟨x,U,R⟩:=Option.map_eq_some_iff.1 h;exact⟨x,U,R⟩
 simp[Instr.sliceAt,run_underlying underlying429,Instr.sureAddr,Instr.sliceBounds,Result.andThen,sizeOf,typeInfo,go_sem,O,I,N,V,L]
theorem zna(w:World)(u:Nat)(hu:u<18446744073709551616):
 Calls prog 290 #[.slice none 0 0,.int .u64 (u:Int),.int .i64 36,.bool false,.bool false] w fun e h=>∃s:ByteArray,e=.returned (.tuple #[.slice none 0 0,.string s])/\s.size<=65/\Bl w h:=by
 go_enter func290,ntmps290;have HU:=zz hu;clear hu;obtain⟨W1,q,h⟩:=xi w 429 Tryz.zeroCells429;have Y:=zz q;have N:=zz h;clear q h;go_upto_region 4 with fail
 rw[Y.o]
 go_wp2_with (go_at_call 297;refine(znL _).mono ?_;rintro e w1⟨rfl,rfl⟩)
 go_loopg[1,13,18] 65 (fun gk L h I q=>∃(x i:Nat) (O:Array Value),i<=65/\53<=i/\gk=i/\L=.int .u64 (x:Int)/\h=.int .i64 (i:Int)/\x<18446744073709551616/\x*36 ^ (65-i)<18446744073709551616/\Bytes 65 O/\zD q w.heap.size 429 O/\Bl w q)
 case atStart=>exact⟨u,65,_,zpx _,zr,rfl,rfl,rfl,HU.o,by simpa using HU.o,znd,N.o.b0,N.o.below⟩
 case round=>
  obtain⟨x,i,O,hi,aa,rfl,rfl,rfl,hx,R,h,L,U⟩:=hrel;have HB:=zz U;have q:=zz h;have Hk:=zz L;have Hp:=zz R;have I:gk-1<O.size:=by rw[h.1];omega
  clear U h L R
  by_cases R:36<=x
  ·have V:=zno R Hp.o;have U:=zz (znU V hi Hp.o)
   go_wp2_with (refine xy 5 _ _ rfl ?_;refine Xq zj 5 _ _ rfl w.heap.size (gk-1) _ _ Hk.o _ rfl rfl I zo rfl ?_;intro W9 h;have L:=zz h;clear h)
   go_roundg (gk-1)
   case measure=>omega
   case rel=>
    refine⟨x / 36,gk-1,_,zd,zd,rfl,ze,ze,zd,U.o,q.o.set _ _,L.o.zH,L.o.below HB.o (zpx _) (zpx _)⟩
  ·have ab:x<36:=zd;have U:=fun W=>zgJ W w.heap.size (gk-1) zd
   rw[show((gk-1:Nat):Int)=(gk:Int)-1 from zd]at U
   go_wp2_with (refine xy 5 _ _ rfl ?_;refine Xq zj 5 _ _ rfl w.heap.size (gk-1) _ _ Hk.o (Value.int .u8 ((UInt8.toNat _:Nat):Int)) rfl rfl I zo rfl ?_;intro W9 h;obtain⟨l,X,L⟩:=Bytes.from_ (q.o.set (gk-1) _) h.zH (gk-1) (65-(gk-1)) zd;have Z:=run_convert_bytes_back (P:=prog) W9 368 9 5 ⟨w.heap.size,gk-1,none⟩ (65-(gk-1)) l underlying368 underlying5 underlying9 L;rw[X]at Z;have HL:=zz X;have V:=zz (h.below HB.o (zpx _) (zpx _));clear h X L)
   go_returns;exact⟨_,rfl,by show l.toArray.size<=65;simp;rw[HL.o];omega,V.o⟩
theorem zne(w:World)(u:Nat)(h:u<18446744073709551616):Calls prog 271 #[.int .u64 (u:Int),.int .i64 36] w fun e q=>∃s:ByteArray,e=.returned (.string s)/\s.size<=65/\Bl w q:=by
 have L:=zz (fun W=>zna W u h);clear h;go_enter func271,ntmps271
 go_wp2_with (go_at_call 290;refine(L.o _).mono ?_;rintro e N⟨s,rfl,I,q⟩)
 go_returns;exact⟨s,rfl,I,q⟩
theorem znD(w:World)(u:Nat)(h:u<18446744073709551616):Calls prog 248 #[.int .u64 (u:Int),.int .i64 36] w fun e q=>∃s:ByteArray,e=.returned (.string s)/\s.size<=65/\Bl w q:=by
 have L:=zz (fun W=>zne W u h);clear h;go_enter func248,ntmps248
 go_wp2_with (go_at_call 271;refine(L.o _).mono ?_;rintro e N⟨s,rfl,I,q⟩)
 go_returns;exact⟨s,rfl,I,q⟩
end
