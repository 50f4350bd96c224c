/-
  Walks: the document's predicates.
-/
import Derived.Test.YtfdickkdlcgicaaGreatDoorQ04
import Derived.WalkLawsBesides
set_option maxRecDepth 100000
set_option maxHeartbeats 8000000
set_option linter.all false
namespace Go.Proofs.YtfdickkdlcgicaaGreatDoor.C
open Go.Proofs.Tryz Go Go.RowKit Go.Maps Go.WideMaps
variable {I q:List (ByteArray×Nat)}{k:Nat}{x:ByteArray×Nat}
section
abbrev yF(p:ByteArray×Nat):List Value:=[.string p.1,.int .i64 p.2]
theorem Gk(p:ByteArray×Nat):(yF p).length=1+1:=rfl
theorem UN:qB prog 161 166 2 24:=qB.of (z:=.agg #[.string ⟨#[]⟩,.int .i64 0]) underlying161 zo rfl zr
def Yo(x:Li):List (ByteArray×Nat):=if x.k=1\/x.k=2 then [(x.a.p,x.a.args.length)]else []
def ya(r:Ru):List (ByteArray×Nat):=(r.p,r.head.length)::r.body.flatMap Yo
theorem zlE(l:List Li):(l.flatMap Yo).length<=l.length:=by
 induction l with
 |nil=>simp
 |cons x l h=>
  rw[zpZ,zpA,zpV];have:(Yo x).length<=1:=by unfold Yo;split<;>simp
  omega
def Cons(l:List (ByteArray×Nat)):Prop:=∀a∈l,∀b∈l,a.1=b.1->a.2=b.2
def zgL(l:List (ByteArray×Nat))(w:World)(x:Ending)(w':World):Prop:=XA yF 166 2 l w x w'
theorem zmT(w:World)(r:Ru)(hl:r.zN w)(hb:r.body.length<=1048576):Calls prog 76 #[.agg r.cells.toArray] w (zgL (ya r) w):=by
 obtain⟨p,B,zM,ag,C,R,q⟩:=r;obtain⟨O,ac,L,ad,I⟩:=hl;simp only at O ac L ad I hb;have am:=zz L;clear O L I;unfold ya;simp only[Ru.cells];obtain⟨N,I⟩:∃N,ag.length=N:=⟨_,rfl⟩;rw[I]at ac ⊢;clear I;obtain⟨V,I⟩:∃N,q.length=N:=⟨_,rfl⟩;rw[I]at ad hb ⊢;have af:=zz I;clear I;obtain⟨W0,I,L⟩:=yb w 25 166 #[.string p,.slice B N zM,.slice C V R] #[.string p,.int .i64 (N:Int)];have HX:=zz L;have aq:=zz I;clear L I;go_enter func76,ntmps76;go_wp2;rw[aq.o]
 go_loopg[3,4] V (fun gk X O L=>∃(i:Nat) (U:Option Addr) (I m:Nat),i<=V/\gk=V-i/\O=.int .i64 (i:Int)/\X=.slice U m I/\((p,N)::(q.take i).flatMap Yo).length=m/\m<=i+1/\Own yF 166 2 L U I ((p,N)::(q.take i).flatMap Yo)/\
  (∀g∈zw U,w.heap.size+1<=g)/\zD L w.heap.size 25 #[.string p,.slice B N zM,.slice C V R]/\Bl w L)
 case atStart=>exact⟨0,some ⟨w.heap.size+1,0,none⟩,1,1,zpD _,rfl,rfl,rfl,rfl,zpx _,⟨rfl,.inr ⟨w.heap.size+1,1,#[.string p,.int .i64 (N:Int)],rfl,zpD _,HX.o.b1,zp,by unfold maxLen;omega,rfl,rfl⟩⟩,xY (zpx _),HX.o.b0,HX.o.below⟩
 case round=>
  obtain⟨i,U,I,m,hi,rfl,rfl,rfl,X,av,O,hg,L,Y⟩:=hrel;have c2:wr.cell? ⟨w.heap.size,2,none⟩=some (.slice C V R):=L.cell 2;have Hm:=zz X;have Ho:=zz O;have Hg:=zz hg;have Hk:=zz L;have HB:=zz Y;clear X O hg L Y
  by_cases an:i<V
  ·have al:i<q.length:=by rw[af.o];exact an
   obtain⟨b,o,rfl,O,L⟩:=am.o.at Li.Yn i al;have L:=yB L HB.o O;have Y:(q.take (i+1)).flatMap Yo=(q.take i).flatMap Yo++Yo q[i]:=by rw[zpC al,zp2];simp
   generalize q[i]=x at L Y
   replace L:wr.rangeAt b (o+i*16) x.cells:=L
   obtain⟨k,⟨p2,A2,ak,ae⟩,rl,l,r⟩:=x;have d0:wr.cell? ⟨b,o+i*16,none⟩=some (.int .i8 k):=L 0 _ rfl;obtain⟨Na,Z⟩:∃Na,ae.length=Na:=⟨_,rfl⟩;have ap:=zz O;have Hr:=zz L;have ah:=zz Z;have X:=zz Y;clear L Y Z O
   by_cases L:k=1\/k=2
   ·have O:=zz (show((p,N)::(q.take (i+1)).flatMap Yo)=((p,N)::(q.take i).flatMap Yo)++[(p2,Na)] by
     rw[X.o];unfold Yo;simp only;rw[if_pos L,ah.o];rfl)
    have ab:∀(G:Prop),(k=1->G)->(k=2->G)->G:=fun G Z Y=>L.elim Z Y
    refine ab _ (fun e=>?_) (fun e=>?_)
    all_goals
     subst e;clear L ab X;go_wp2;refine xX [0,0,0,0,0,0,0,0,0,0,0,0,0,0,0,0,0,2,2,0] (fun W=>zh (fun g=>g∈zw U) wr W) ?_;have ai:b<w.heap.size:=ap.o;have Y:b∉zw U:=fun h=>by have:=Hg.o b h;omega
     have Z:w.heap.size∉zw U:=fun h=>by have:=Hg.o _ h;omega
     have aa:b<wr.heap.size:=by have:=HB.o.size;omega
     have H0:=zz (show ∀W,zh (fun g=>g∈zw U) wr W->_ from fun W hW=>
      zpG ((Hk.o.zC hW Z).cell 2) (zpG (show W.cell? ⟨b,o+i*16+1,none⟩=some (.string p2)from UE Hr.o aa hW Y 1 _ rfl) (show W.cell? ⟨b,o+i*16+2,none⟩=some (.slice A2 Na ak)from by rw[<-ah.o];exact UE Hr.o aa hW Y 2 _ rfl)))
     have ao:=zz Z;clear c2 d0 ai Y Z aa;try refine zQ ?_
     repeat refine zS H0.o ?_
     refine xf fun K hK=>?_
     go_simp;refine hK.out _ _ (((zh.refl _ _).drew).alloc _) (fun _=>trivial) ?_;clear hK K;refine xf fun K hK=>?_
     refine ZE _ _ rfl UN (f:=yF) (xs:=(p,N)::(q.take i).flatMap Yo) (Ho.o.alloc _) Hm.o (p2,Na) _ 0 1 rfl rfl rfl (yt _ _ _ rfl) zt (zd) zr ?_;intro g Z w3 aj ai aa;have Y:=zz (show zh (fun g=>g∈zw U) wr w3 from(((zh.refl _ wr).drew).alloc _).trans ai (fun x hx _=>hx));have ar:=zz aj;have au:=zz (show w.heap.size+1<=g from by
      rcases aa with h|h
      ·exact Hg.o g h
      ·have:=HB.o.size;have:=Hk.o.lt;simp at h;omega)
     refine hK.out _ _ Y.o (fun _=>trivial) ?_;clear hK K aj ai aa;try refine zQ ?_
     repeat refine zS H0.o ?_
     refine xt ?_;go_wp2
     go_roundg (V-(i+1))
     case measure=>omega
     case rel=>exact⟨i+1,_,Z,m+1,zd,rfl,ze,rfl,by rw[O.o,zpA,Hm.o];rfl,zd,by rw[O.o];exact ar.o,xY au.o,Hk.o.zC Y.o ao.o,Y.o.qt HB.o (zpx _) (fun x hx=>by have:=Hg.o x hx;omega)⟩
   ·have O:=zz (show((p,N)::(q.take (i+1)).flatMap Yo)=((p,N)::(q.take i).flatMap Yo) by
     rw[X.o];unfold Yo;simp only;rw[if_neg L];simp)
    have Z:(k==1)=false:=beq_eq_false_iff_ne.2 fun h=>L (.inl h)
    have Y:(k==2)=false:=beq_eq_false_iff_ne.2 fun h=>L (.inr h)
    clear L X;go_wp2
    go_roundg (V-(i+1))
    case measure=>omega
    case rel=>exact⟨i+1,U,I,m,zd,rfl,ze,rfl,by rw[O.o];exact Hm.o,zd,by rw[O.o];exact Ho.o,Hg.o,Hk.o,HB.o⟩
  ·obtain rfl:i=V:=zd;have L:q.take i=q:=by rw[<-af.o];exact zp5
   rw[L]at Ho Hm;go_wp2;go_returns;exact⟨U,I,m,rfl,Hm.o,Ho.o,HB.o,fun g hg=>by have:=Hg.o g hg;omega⟩
def zhk(h:ByteArray)(I:List (ByteArray×Nat))(w:World)(e:Ending)(w':World):Prop:=
 ∃(p:ByteArray) (n:Nat) (b:Bool),e=.returned (.tuple #[.agg #[.string p,.int .i64 (n:Int)],.bool b])/\(b=true->∃q∈I,q.1=h/\q.2=n)/\(b=false->∀q∈I,q.1≠h)/\Bl w w'
theorem zhr(w:World)(I:ByteArray)(A:Option Addr)(cap:Nat)(R:List (ByteArray×Nat))(h:zZ yF w A R)(n:Nat)(hn:R.length=n)(hb:n<=4194304):
 Calls prog 137 #[.string I,.slice A n cap] w (zhk I R w):=by
 have H:=zz h;have Hn:=zz hn;clear h hn;obtain⟨W0,L,O⟩:=xi w 166 #[.string ⟨#[]⟩,.int .i64 0];have N:=zz O;have ab:=zz L;clear O L;go_enter func137,ntmps137;go_wp2;rw[ab.o]
 go_loopg[5,6] n (fun gk U L O=>∃i:Nat,i<=n/\gk=n-i/\U=.bool false/\L=.int .i64 (i:Int)/\O=W0/\∀j (h:j<R.length),j<i->R[j].1≠I)
 case atStart=>exact⟨0,zpD _,rfl,rfl,rfl,rfl,fun j _ h=>zd⟩
 case round=>
  obtain⟨i,hi,rfl,rfl,rfl,rfl,L⟩:=hrel;have O:=zz L;have f0:=N.o.b0.frozen 0;have f1:=N.o.b0.frozen 1;have W:wr.cell? ⟨w.heap.size,0,none⟩=some (.string ⟨#[]⟩):=N.o.b0.cell 0;have V:wr.cell? ⟨w.heap.size,1,none⟩=some (.int .i64 0):=N.o.b0.cell 1;clear L
  by_cases aa:i<n
  ·have X:i<R.length:=by rw[Hn.o];exact aa
   obtain⟨b,o,rfl,ad,L⟩:=(H.o.below N.o.below).at Gk i X;have Z:=zpB X;generalize U:R[i]=u at L Z;have Hu:=zz U;clear U;obtain⟨p,m⟩:=u
   replace L:wr.rangeAt b (o+i*2) _:=L
   obtain⟨d0,d1⟩:=two L;simp only at d0 d1;clear L
   by_cases e:p=I
   ·have Hm:=zz Z;have ac:(p.toList==I.toList)=true:=by rw[e];simp
    have He:=zz e;clear e Z;go_wp2;have U:zD ((wr.setCell ⟨w.heap.size,0,none⟩ (.string p)).setCell ⟨w.heap.size,1,none⟩ (.int .i64 (m:Int))) w.heap.size 166 #[.string p,.int .i64 (m:Int)]:=(N.o.b0.qI 0 _).qI 1 _;have L:Bl w ((wr.setCell ⟨w.heap.size,0,none⟩ (.string p)).setCell ⟨w.heap.size,1,none⟩ (.int .i64 (m:Int))):=(N.o.below.setCell zp _).setCell zp _;clear W V f0 f1;generalize(wr.setCell ⟨w.heap.size,0,none⟩ (.string p)).setCell ⟨w.heap.size,1,none⟩ (.int .i64 (m:Int))=Y at U L ⊢;have W:Y.cell? ⟨w.heap.size,0,none⟩=some (.string p):=U.cell 0;have V:Y.cell? ⟨w.heap.size,1,none⟩=some (.int .i64 (m:Int)):=U.cell 1;refine bodyPost_ret (v:=.tuple #[.agg #[.string p,.int .i64 (m:Int)],.bool true]) (by simp[results,results137,go_sem,W,V]) rfl ?_;exact⟨p,m,true,rfl,fun _=>⟨_,Hm.o,He.o,rfl⟩,fun h=>(by cases h),L⟩
   ·have ac:(p.toList==I.toList)=false:=by rw[bytes_beq];exact qu e
    have He:=zz e;clear e Z;go_wp2
    go_roundg (n-(i+1))
    case measure=>omega
    case rel=>exact⟨i+1,zd,rfl,rfl,ze,rfl,fun j hj ae=>by
     by_cases ej:j=i
     ·subst ej;rw[Hu.o];exact He.o
     ·exact O.o j hj zd⟩
  ·obtain rfl:i=n:=zd;go_wp2;have U:zD ((wr.setCell ⟨w.heap.size,0,none⟩ (.string ⟨#[]⟩)).setCell ⟨w.heap.size,1,none⟩ (.int .i64 0)) w.heap.size 166 #[.string ⟨#[]⟩,.int .i64 0]:=(N.o.b0.qI 0 _).qI 1 _;have L:Bl w ((wr.setCell ⟨w.heap.size,0,none⟩ (.string ⟨#[]⟩)).setCell ⟨w.heap.size,1,none⟩ (.int .i64 0)):=(N.o.below.setCell zp _).setCell zp _;clear W V f0 f1;generalize(wr.setCell ⟨w.heap.size,0,none⟩ (.string ⟨#[]⟩)).setCell ⟨w.heap.size,1,none⟩ (.int .i64 0)=Y at U L ⊢;have W:Y.cell? ⟨w.heap.size,0,none⟩=some (.string ⟨#[]⟩):=U.cell 0;have V:Y.cell? ⟨w.heap.size,1,none⟩=some (.int .i64 0):=U.cell 1;refine bodyPost_ret (v:=.tuple #[.agg #[.string ⟨#[]⟩,.int .i64 0],.bool false]) (by simp[results,results137,go_sem,W,V]) rfl ?_;exact⟨⟨#[]⟩,0,false,rfl,fun h=>(by cases h),fun _ q X=>by
    obtain⟨j,hj,rfl⟩:=zpS.1 X;exact O.o j hj (by rw[<-Hn.o];exact hj),L⟩
def zlo(L l:List (ByteArray×Nat))(w:World)(e:Ending)(w':World):Prop:=
 ∃(I:Option Addr) (h q:Nat) (b:Bool),e=.returned (.tuple #[.slice I q h,.bool b])/\
  (b=true->∃h,h.length=q/\Cons h/\(∀x∈L,x∈h)/\(∀x∈l,x∈h)/\zZ yF w' I h/\q<=L.length+l.length)/\Bl w w'
theorem Cons.put(h:Cons I)(U:∀q∈I,q.1≠x.1)(k:Nat):Cons (I.take k++x::I.drop k):=by
 have N:∀a,a∈I.take k++x::I.drop k->a∈I\/a=x:=fun a L=>by
  rcases zpE.1 L with h|h
  ·exact .inl (zqW h)
  ·rcases zpU.1 h with h|h
   ·exact .inr h
   ·exact .inl (List.mem_of_mem_drop h)
 intro a L b V e
 rcases N a L with R|rfl<;>rcases N b V with O|rfl
 ·exact h a R b O e
 ·exact(U a R e).elim
 ·exact(U b O e.symm).elim
 ·rfl
theorem zb5(k:Nat){a:ByteArray×Nat}(h:a∈q\/a=x):a∈q.take k++x::q.drop k:=by
 rcases h with h|rfl
 ·rw[<-zqi k q]at h
  rcases zpE.1 h with h|h
  ·exact zp0 _ h
  ·exact zpR _ (zpQ _ h)
 ·exact zpR _ zpP
theorem JD(p:ByteArray×Nat):∀u∈yF p,u.oneCell'=true:=zt
def XZ(h:List (ByteArray×Nat))(k:Nat)(x:ByteArray×Nat)(q:Nat):List (ByteArray×Nat):=h.take k++x::(h.drop k).take (q-k)
theorem GL{h:Nat}(L:k<=h)(I:h<=q.length):(XZ q k x h).length=h+1:=by
 unfold XZ;rw[zpA,zp3,zpV,zp3,zqC];omega
theorem zcW{q:Nat}(L:k<=q)(N:q<I.length):XZ I k x (q+1)=XZ I k x q++[I[q]]:=by
 have h:(I.drop k).take ((q-k)+1)=(I.drop k).take (q-k)++[I[q]]:=by
  rw[zpC (by rw[zqC];omega),List.getElem_drop];simp only[Nat.add_sub_cancel' L]
 unfold XZ;rw[show q+1-k=(q-k)+1 from zd,h,zpX,zpJ]
theorem zf9:XZ q k x q.length=q.take k++x::q.drop k:=by
 have h:(q.drop k).take (q.length-k)=q.drop k:=zpT (by rw[zqC];exact zpx _);unfold XZ;rw[h]
theorem zdy{h:List (ByteArray×Nat)}:XZ h k x k=h.take k++[x]:=by
 unfold XZ;rw[zrp,zpY]
theorem Db(w:World)(A:Option Addr)(cap:Nat)(ks:List (ByteArray×Nat))(h:zZ yF w A ks)(n:Nat)(hn:ks.length=n)(hc:Cons ks)(B:Option Addr)(zM:Nat)(l:List (ByteArray×Nat))(hl:zZ yF w B l)(m:Nat)(hm:l.length=m)(hb:n+m<=4194304):
 Calls prog 75 #[.slice A n cap,.slice B m zM] w (zlo ks l w):=by
 have HL:=zz hl;have Hm:=zz hm;have H:=zz h;have Hn:=zz hn;have Hc:=zz hc;clear hl hm h hn hc;go_enter func75,ntmps75;go_wp2
 go_loopg[0,6] m (fun gk N L wx=>∃(i:Nat) (A':Option Addr) (al O:Nat) (I:List (ByteArray×Nat)),i<=m/\gk=m-i/\L=.int .i64 (i:Int)/\N=.slice A' O al/\I.length=O/\O<=n+i/\Cons I/\(∀x∈ks,x∈I)/\(∀x∈l.take i,x∈I)/\zZ yF wx A' I/\Bl w wx)
 case atStart=>exact⟨0,A,cap,n,ks,zpD _,rfl,rfl,rfl,Hn.o,zpx _,Hc.o,fun x X=>X,fun x X=>by simp at X,H.o,Below.refl _ _⟩
 case round=>
  obtain⟨i,A',al,O,I,hi,rfl,rfl,rfl,N,aV,L,U,V,R,hB⟩:=hrel;have ac:=zz N;have aA:=zz L;have aC:=zz U;have ar:=zz V;have az:=zz R;have HB:=zz hB;clear N L U V R hB
  by_cases aT:i<m
  ·have aQ:i<l.length:=by rw[Hm.o];exact aT
   obtain⟨b,o,rfl,R,N⟩:=(HL.o.below HB.o).at Gk i aQ;have L:∀x,x∈l.take (i+1)->x∈l.take i\/x=l[i]:=fun x X=>by
    rw[zpC aQ]at X
    rcases zpE.1 X with h|h
    ·exact .inl h
    ·exact .inr (zpy.1 h)
   generalize l[i]=u at N L;obtain⟨p,q⟩:=u
   replace N:wr.rangeAt b (o+i*2) _:=N
   have U:=fun W (V:Bl wr W)=>zhr W p A' al I (az.o.below V) O ac.o zd
   have aW:=zz U;have aI:=zz L;have Hr:=zz N;have aH:=zz R;obtain⟨d0,d1⟩:=two N;simp only at d0 d1;clear N U L R
   go_wp2_with (go_at_call 137;refine(aW.o _ (Below.refl _ _)).mono ?_;rintro e w2⟨p2,n2,b2,rfl,N,V,R⟩)
   obtain⟨W3,U,L⟩:=xi w2 166 #[.string p2,.int .i64 (n2:Int)];rw[U];have aX:=zz L;have ap:=zz (zl R L.below);have aU:=zz N;have aN:=zz V;have e1:W3.cell? ⟨w2.heap.size,1,none⟩=some (.int .i64 (n2:Int)):=L.b0.cell 1;obtain⟨d0,d1⟩:=two (yB Hr.o ap.o aH.o);simp only at d0 d1;have aO:=zz (yB Hr.o ap.o aH.o);have aF:Kz (b<W3.heap.size):=zpz aH.o ap.o.size;clear U L R N V
   rcases b2 with _|_
   ·go_quiet (fail)
    go_wp2;have aB:Kz (Bl wr (W3.drewN nq)):=zl ap.o (Vc W3 nq);have aP:Kz ((W3.drewN nq).rangeAt b (o+i*2) _):=aO.o;have aD:Kz (b<(W3.drewN nq).heap.size):=aF.o;have L:=az.o.below aB.o;clear e1 d0 d1 aO aF;generalize W3.drewN nq=W4 at aB aP aD L ⊢;have aG:=zz L;clear L
    go_loopg[9,10] O (fun gk s9 av wx=>∃(k:Nat) (A2:Option Addr) (ak:Nat),k<=O/\gk=O-k/\av=.int .i64 (k:Int)/\s9=.slice A2 k ak/\Own yF 166 2 wx A2 ak (I.take k)/\(∀g∈zw A2,W4.heap.size<=g)/\Bl W4 wx)
    case atStart=>exact⟨0,none,0,zpD _,rfl,rfl,rfl,Own.qz _,fun g hg=>by simp[zw]at hg,Below.refl _ _⟩
    case round=>
     obtain⟨k,A2,ak,hk,rfl,rfl,rfl,ho,hg,hB⟩:=hrel;have HO:=zz ho;have HG:=zz hg;have N:=zz hB;have ay:=zz (yB aP.o hB aD.o);obtain⟨d0,d1⟩:=two ay.o;simp only at d0 d1;clear ho hg hB
     by_cases aL:k<O
     ·have ai:k<I.length:=by rw[ac.o];exact aL
      obtain⟨b7,o7,rfl,aS,R⟩:=(aG.o.below N.o).at Gk k ai;have U:I.take (k+1)=I.take k++[I[k]]:=zpC ai;generalize I[k]=u7 at R U;obtain⟨p7,q7⟩:=u7
      replace R:_root_.Go.World.rangeAt _ b7 (o7+k*2) _:=R
      obtain⟨e0,e1⟩:=two R;simp only at e0 e1;have aj:=zz U;clear R U;have aR:decide ((k:Int)<(O:Int))=true:=zb;have aE:decide (k<O)=true:=zb;have aq:=zz (show(I.take k).length=k by rw[zp3,ac.o];omega)
      by_cases ax:Op.bytesLess p7.toList p.toList=true
      ·go_wp2
       go_quiet (fail)
       have ag:Kz (Own yF 166 2 (wr.drewN nq) A2 ak (I.take k)):=HO.o.same fun g hg=>rfl
       have Y:Kz (Bl W4 (wr.drewN nq)):=N.o.trans ((Vc wr nq).mono N.o.size);have e0:(wr.drewN nq).cell? ⟨b7,o7+k*2,none⟩=some (.string p7):=e0;have e1:(wr.drewN nq).cell? ⟨b7,o7+k*2+1,none⟩=some (.int .i64 (q7:Int)):=e1;clear d0 d1 HO N ay;generalize wr.drewN nq=w6 at ag Y e0 e1 ⊢
       go_wp2_with (at_builtin;refine X9 rfl _ _ rfl UN (f:=yF) (xs:=I.take k) (ag.o.alloc _) aq.o (p7,q7) _ 0 1 rfl rfl rfl (yt _ _ _ rfl) (JD _) zd (zr) ?_)
       intro g L w3 ab aa Z;have af:=zz ab;have ah:=zz ((((zh.refl (·∈zw A2) w6).alloc _).trans aa (fun x X _=>X)).qt Y.o (zpx _) HG.o);have ad:=zz (show W4.heap.size<=g from by
        rcases Z with h|h
        ·exact HG.o g h
        ·have:=Y.o.size;omega)
       clear ab aa Z ag Y;go_wp2
       go_roundg (O-(k+1))
       case measure=>omega
       case rel=>exact⟨k+1,_,L,zd,rfl,ze,rfl,by rw[aj.o];exact af.o,xY ad.o,ah.o⟩
      ·have ax:Op.bytesLess p7.toList p.toList=false:=by simpa using ax
       clear aj aq;go_wp2
       go_quiet (fail)
       clear e0 e1;have ag:Kz (Own yF 166 2 (wr.drewN nq) A2 ak (I.take k)):=HO.o.same fun g hg=>rfl
       have Y:Kz (Bl W4 (wr.drewN nq)):=N.o.trans ((Vc wr nq).mono N.o.size);have d0:(wr.drewN nq).cell? ⟨b,o+i*2,none⟩=some (.string p):=d0;have d1:(wr.drewN nq).cell? ⟨b,o+i*2+1,none⟩=some (.int .i64 (q:Int)):=d1;have aq:=zz (show(I.take k).length=k by rw[zp3,ac.o];omega);clear HO N ay;generalize wr.drewN nq=w6 at ag Y d0 d1 ⊢
       go_wp2_with (at_builtin;refine X9 rfl _ _ rfl UN (f:=yF) (xs:=I.take k) (ag.o.alloc _) aq.o (p,q) _ 0 1 rfl rfl rfl (yt _ _ _ rfl) (JD _) zd (zr) ?_)
       intro g L w3 ab aa Z;have af:=zz ab;have ah:=zz ((((zh.refl (·∈zw A2) w6).alloc _).trans aa (fun x X _=>X)).qt Y.o (zpx _) HG.o);have ad:=zz (show W4.heap.size<=g from by
        rcases Z with h|h
        ·exact HG.o g h
        ·have:=Y.o.size;omega)
       clear ab aa Z ag Y d0 d1;go_wp2
       go_loopg[9,10] (O-k) (fun gk s9 av wx=>∃(V:Nat) (A3:Option Addr) (L:Nat),k<=V/\V<=O/\gk=O-V/\av=.int .i64 (V:Int)/\s9=.slice A3 (V+1) L/\Own yF 166 2 wx A3 L (XZ I k (p,q) V)/\(∀g∈zw A3,W4.heap.size<=g)/\Bl W4 wx)
       case atStart=>exact⟨k,some ⟨g,0,none⟩,L,zpx _,zd,rfl,rfl,rfl,by rw[zdy];exact af.o,xY ad.o,ah.o⟩
       case round=>
        clear af ad ah HG;obtain⟨V,A3,L,ae,aM,rfl,rfl,rfl,ho,hg,hB⟩:=hrel;have HO:=zz ho;have HG:=zz hg;have N:=zz hB;clear ho hg hB
        by_cases aJ:V<O
        ·have ai:V<I.length:=by rw[ac.o];exact aJ
         obtain⟨b7,o7,ao,aS,R⟩:=(aG.o.below N.o).at Gk V ai
         first|subst ao |(simp only[zqn,Addr.mk.injEq,and_true]at ao;obtain⟨rfl,rfl⟩:=ao)
         have U:=zcW (x:=(p,q)) ae ai;have am:=GL (x:=(p,q)) ae (zrb ai);generalize I[V]=u7 at R U;obtain⟨p7,q7⟩:=u7
         replace R:wr.rangeAt b7 (o7+V*2) _:=R
         obtain⟨e0,e1⟩:=two R;simp only at e0 e1;have aj:=zz U;have au:=zz am;clear R U am
         go_wp2_with (at_builtin;refine X9 rfl _ _ rfl UN (f:=yF) (xs:=XZ I k (p,q) V) (HO.o.alloc _) au.o (p7,q7) _ 0 1 rfl rfl rfl (yt _ _ _ rfl) (JD _) zd (zr) ?_)
         intro g L w3 ab aa Z;have af:=zz ab;have ah:=zz ((((zh.refl (·∈zw A3) wr).alloc _).trans aa (fun x X _=>X)).qt N.o (zpx _) HG.o);have ad:=zz (show W4.heap.size<=g from by
          rcases Z with h|h
          ·exact HG.o g h
          ·have:=N.o.size;omega)
         clear ab aa Z;go_wp2
         go_roundg (O-(V+1))
         case measure=>omega
         case rel=>exact⟨V+1,_,L,zd,zd,rfl,ze,rfl,by rw[aj.o];exact af.o,xY ad.o,ah.o⟩
        ·obtain rfl:O=V:=zd;have hE:XZ I k (p,q) O=I.take k++(p,q)::I.drop k:=by rw[<-ac.o];exact zf9
         have aw:(XZ I k (p,q) O).length=O+1:=GL ae (by rw[ac.o];exact zpx _);have HE:=zz hE;have aK:=zz aw;clear hE aw;go_wp2
         go_roundg (m-(i+1))
         case measure=>omega
         case rel=>
          have an:∀x,x∈I\/x=(p,q)->x∈XZ I k (p,q) O:=fun x X=>by rw[HE.o];exact zb5 k X
          refine⟨i+1,A3,L,O+1,XZ I k (p,q) O,zd,rfl,ze,rfl,aK.o,zd,by rw[HE.o];exact aA.o.put (x:=(p,q)) (aN.o trivial) k,fun x X=>an x (.inl (aC.o x X)),fun x X=>?_,HO.o.xI,zl HB.o (zl aB.o N.o)⟩
          rcases aI.o x X with h|h
          ·exact an x (.inl (ar.o x h))
          ·exact an x (.inr h)
     ·have aR:decide ((k:Int)<(O:Int))=false:=zb;have aE:decide (k<O)=false:=zb;go_wp2
      go_quiet (fail)
      clear aR aE aL;have ag:Kz (Own yF 166 2 (wr.drewN nq) A2 ak (I.take k)):=HO.o.same fun g hg=>rfl
      have Y:Kz (Bl W4 (wr.drewN nq)):=N.o.trans ((Vc wr nq).mono N.o.size);have d0:(wr.drewN nq).cell? ⟨b,o+i*2,none⟩=some (.string p):=d0;have d1:(wr.drewN nq).cell? ⟨b,o+i*2+1,none⟩=some (.int .i64 (q:Int)):=d1;have aq:=zz (show(I.take k).length=k by rw[zp3,ac.o];omega);clear HO N ay;generalize wr.drewN nq=w6 at ag Y d0 d1 ⊢
      go_wp2_with (at_builtin;refine X9 rfl _ _ rfl UN (f:=yF) (xs:=I.take k) (ag.o.alloc _) aq.o (p,q) _ 0 1 rfl rfl rfl (yt _ _ _ rfl) (JD _) zd (zr) ?_)
      intro g L w3 ab aa Z;have af:=zz ab;have ah:=zz ((((zh.refl (·∈zw A2) w6).alloc _).trans aa (fun x X _=>X)).qt Y.o (zpx _) HG.o);have ad:=zz (show W4.heap.size<=g from by
       rcases Z with h|h
       ·exact HG.o g h
       ·have:=Y.o.size;omega)
      clear ab aa Z ag Y d0 d1;go_wp2
      go_loopg[9,10] (O-k) (fun gk s9 av wx=>∃(V:Nat) (A3:Option Addr) (L:Nat),k<=V/\V<=O/\gk=O-V/\av=.int .i64 (V:Int)/\s9=.slice A3 (V+1) L/\Own yF 166 2 wx A3 L (XZ I k (p,q) V)/\(∀g∈zw A3,W4.heap.size<=g)/\Bl W4 wx)
      case atStart=>exact⟨k,some ⟨g,0,none⟩,L,zpx _,zd,rfl,rfl,rfl,by rw[zdy];exact af.o,xY ad.o,ah.o⟩
      case round=>
       clear af ad ah HG;obtain⟨V,A3,L,ae,aM,rfl,rfl,rfl,ho,hg,hB⟩:=hrel;have HO:=zz ho;have HG:=zz hg;have N:=zz hB;clear ho hg hB
       by_cases aJ:V<O
       ·have ai:V<I.length:=by rw[ac.o];exact aJ
        obtain⟨b7,o7,ao,aS,R⟩:=(aG.o.below N.o).at Gk V ai
        first|subst ao |(simp only[zqn,Addr.mk.injEq,and_true]at ao;obtain⟨rfl,rfl⟩:=ao)
        have U:=zcW (x:=(p,q)) ae ai;have am:=GL (x:=(p,q)) ae (zrb ai);generalize I[V]=u7 at R U;obtain⟨p7,q7⟩:=u7
        replace R:wr.rangeAt b7 (o7+V*2) _:=R
        obtain⟨e0,e1⟩:=two R;simp only at e0 e1;have aj:=zz U;have au:=zz am;clear R U am
        go_wp2_with (at_builtin;refine X9 rfl _ _ rfl UN (f:=yF) (xs:=XZ I k (p,q) V) (HO.o.alloc _) au.o (p7,q7) _ 0 1 rfl rfl rfl (yt _ _ _ rfl) (JD _) zd (zr) ?_)
        intro g L w3 ab aa Z;have af:=zz ab;have ah:=zz ((((zh.refl (·∈zw A3) wr).alloc _).trans aa (fun x X _=>X)).qt N.o (zpx _) HG.o);have ad:=zz (show W4.heap.size<=g from by
         rcases Z with h|h
         ·exact HG.o g h
         ·have:=N.o.size;omega)
        clear ab aa Z;go_wp2
        go_roundg (O-(V+1))
        case measure=>omega
        case rel=>exact⟨V+1,_,L,zd,zd,rfl,ze,rfl,by rw[aj.o];exact af.o,xY ad.o,ah.o⟩
       ·obtain rfl:O=V:=zd;have hE:XZ I k (p,q) O=I.take k++(p,q)::I.drop k:=by rw[<-ac.o];exact zf9
        have aw:(XZ I k (p,q) O).length=O+1:=GL ae (by rw[ac.o];exact zpx _);have HE:=zz hE;have aK:=zz aw;clear hE aw;go_wp2
        go_roundg (m-(i+1))
        case measure=>omega
        case rel=>
         have an:∀x,x∈I\/x=(p,q)->x∈XZ I k (p,q) O:=fun x X=>by rw[HE.o];exact zb5 k X
         refine⟨i+1,A3,L,O+1,XZ I k (p,q) O,zd,rfl,ze,rfl,aK.o,zd,by rw[HE.o];exact aA.o.put (x:=(p,q)) (aN.o trivial) k,fun x X=>an x (.inl (aC.o x X)),fun x X=>?_,HO.o.xI,zl HB.o (zl aB.o N.o)⟩
         rcases aI.o x X with h|h
         ·exact an x (.inl (ar.o x h))
         ·exact an x (.inr h)
   ·by_cases e:n2=q
    ·have L:((n2:Int) !=(q:Int))=false:=by simp[e]
     have N:=zz (show(p,q)∈I by
      obtain⟨x,V,U,R⟩:=aU.o rfl;rw[show(p,q)=x from Prod.ext U.symm (by rw[R];exact e.symm)];exact V)
     clear e
     go_quiet (fail)
     go_wp2
     go_roundg (m-(i+1))
     case measure=>omega
     case rel=>exact⟨i+1,A',al,O,I,zd,rfl,ze,rfl,ac.o,zd,aA.o,aC.o,fun x X=>by
      rcases aI.o x X with h|h
      ·exact ar.o x h
      ·rw[h];exact N.o,az.o.below (zl ap.o (Vc W3 nq)),zl HB.o (zl ap.o (Vc W3 nq))⟩
    ·have L:((n2:Int) !=(q:Int))=true:=zb;clear e
     go_quiet (fail)
     go_wp2;go_returns;exact⟨none,0,0,false,rfl,fun h=>(by cases h),zl HB.o (zl ap.o (Vc W3 nq))⟩
  ·obtain rfl:i=m:=zd;go_wp2;go_returns;have L:l.take i=l:=by rw[<-Hm.o];exact zp5
   rw[L]at ar;exact⟨A',al,O,true,rfl,fun _=>⟨I,ac.o,aA.o,aC.o,ar.o,az.o,by rw[Hn.o,Hm.o];exact aV⟩,HB.o⟩
end
