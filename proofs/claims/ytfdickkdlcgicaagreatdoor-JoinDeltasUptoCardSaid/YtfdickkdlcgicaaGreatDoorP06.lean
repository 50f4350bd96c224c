/-
  Walks: the document's predicates.
-/
import Derived.Test.YtfdickkdlcgicaaGreatDoorP04
import Derived.WalkLawsBesides
set_option maxRecDepth 100000
set_option maxHeartbeats 8000000
set_option linter.all false
namespace Go.Proofs.YtfdickkdlcgicaaGreatDoor.C
open Go.Proofs.Tryz Go Go.RowKit Go.Maps Go.WideMaps
variable {k:Nat}{q r:List (ByteArray×Nat)}{x:ByteArray×Nat}
section
abbrev yw(p:ByteArray×Nat):List Value:=[.string p.1,.int .i64 p.2]
theorem J5(p:ByteArray×Nat):(yw p).length=1+1:=rfl
theorem Uz:qy prog 161 166 2 24:=qy.of (z:=.agg #[.string ⟨#[]⟩,.int .i64 0]) underlying161 zo rfl zr
def Ya(x:Li):List (ByteArray×Nat):=if x.k=1\/x.k=2 then [(x.a.p,x.a.args.length)]else []
def qW(r:Ru):List (ByteArray×Nat):=(r.p,r.head.length)::r.body.flatMap Ya
theorem zk6(l:List Li):(l.flatMap Ya).length<=l.length:=by
 induction l with
 |nil=>simp
 |cons x l h=>
  rw[zps,zo1,zpn];have:(Ya x).length<=1:=by unfold Ya;split<;>simp
  omega
def Cons(l:List (ByteArray×Nat)):Prop:=∀a∈l,∀b∈l,a.1=b.1->a.2=b.2
def zgb(l:List (ByteArray×Nat))(w:World)(x:Ending)(w':World):Prop:=Xo yw 166 2 l w x w'
theorem zml(w:World)(r:Ru)(hl:r.zO w)(hb:r.body.length<=1048576):Calls prog 76 #[.agg r.cells.toArray] w (zgb (qW r) w):=by
 obtain⟨p,B,zM,ag,C,R,q⟩:=r;obtain⟨O,ac,L,ad,I⟩:=hl;simp only at O ac L ad I hb;have am:=zz L;clear O L I;unfold qW;simp only[Ru.cells];obtain⟨N,I⟩:∃N,ag.length=N:=⟨_,rfl⟩;rw[I]at ac ⊢;clear I;obtain⟨V,I⟩:∃N,q.length=N:=⟨_,rfl⟩;rw[I]at ad hb ⊢;have af:=zz I;clear I;obtain⟨W0,I,L⟩:=ya w 25 166 #[.string p,.slice B N zM,.slice C V R] #[.string p,.int .i64 (N:Int)];have HX:=zz L;have aq:=zz I;clear L I;go_enter func76,ntmps76;go_wp2;rw[aq.o]
 go_loopg[3,4] V (fun gk X O L=>∃(i:Nat) (U:Option Addr) (I m:Nat),i<=V/\gk=V-i/\O=.int .i64 (i:Int)/\X=.slice U m I/\((p,N)::(q.take i).flatMap Ya).length=m/\m<=i+1/\Own yw 166 2 L U I ((p,N)::(q.take i).flatMap Ya)/\
  (∀g∈zw U,w.heap.size+1<=g)/\zD L w.heap.size 25 #[.string p,.slice B N zM,.slice C V R]/\Bl w L)
 case atStart=>exact⟨0,some ⟨w.heap.size+1,0,none⟩,1,1,zo5 _,rfl,rfl,rfl,rfl,zoZ _,⟨rfl,.inr ⟨w.heap.size+1,1,#[.string p,.int .i64 (N:Int)],rfl,zo5 _,HX.o.b1,zp,by unfold maxLen;omega,rfl,rfl⟩⟩,xW (zoZ _),HX.o.b0,HX.o.below⟩
 case round=>
  obtain⟨i,U,I,m,hi,rfl,rfl,rfl,X,av,O,hg,L,Y⟩:=hrel;have c2:wr.cell? ⟨w.heap.size,2,none⟩=some (.slice C V R):=L.cell 2;have Hm:=zz X;have Ho:=zz O;have Hg:=zz hg;have Hk:=zz L;have HB:=zz Y;clear X O hg L Y
  by_cases an:i<V
  ·have al:i<q.length:=by rw[af.o];exact an
   obtain⟨b,o,rfl,O,L⟩:=am.o.at Li.Yn i al;have L:=yo L HB.o O;have Y:(q.take (i+1)).flatMap Ya=(q.take i).flatMap Ya++Ya q[i]:=by rw[zo4 al,zpq];simp
   generalize q[i]=x at L Y
   replace L:wr.rangeAt b (o+i*16) x.cells:=L
   obtain⟨k,⟨p2,A2,ak,ae⟩,rl,l,r⟩:=x;have d0:wr.cell? ⟨b,o+i*16,none⟩=some (.int .i8 k):=L 0 _ rfl;obtain⟨Na,Z⟩:∃Na,ae.length=Na:=⟨_,rfl⟩;have ap:=zz O;have Hr:=zz L;have ah:=zz Z;have X:=zz Y;clear L Y Z O
   by_cases L:k=1\/k=2
   ·have O:=zz (show((p,N)::(q.take (i+1)).flatMap Ya)=((p,N)::(q.take i).flatMap Ya)++[(p2,Na)] by
     rw[X.o];unfold Ya;simp only;rw[if_pos L,ah.o];rfl)
    have ab:∀(G:Prop),(k=1->G)->(k=2->G)->G:=fun G Z Y=>L.elim Z Y
    refine ab _ (fun e=>?_) (fun e=>?_)
    all_goals
     subst e;clear L ab X;go_wp2;refine xX [0,0,0,0,0,0,0,0,0,0,0,0,0,0,0,0,0,2,2,0] (fun W=>zh (fun g=>g∈zw U) wr W) ?_;have ai:b<w.heap.size:=ap.o;have Y:b∉zw U:=fun h=>by have:=Hg.o b h;omega
     have Z:w.heap.size∉zw U:=fun h=>by have:=Hg.o _ h;omega
     have aa:b<wr.heap.size:=by have:=HB.o.size;omega
     have H0:=zz (show ∀W,zh (fun g=>g∈zw U) wr W->_ from fun W hW=>
      zpf ((Hk.o.zC hW Z).cell 2) (zpf (show W.cell? ⟨b,o+i*16+1,none⟩=some (.string p2)from Uq Hr.o aa hW Y 1 _ rfl) (show W.cell? ⟨b,o+i*16+2,none⟩=some (.slice A2 Na ak)from by rw[<-ah.o];exact Uq Hr.o aa hW Y 2 _ rfl)))
     have ao:=zz Z;clear c2 d0 ai Y Z aa;try refine zQ ?_
     repeat refine zT H0.o ?_
     refine xc fun K hK=>?_
     go_simp;refine hK.out _ _ (((zh.refl _ _).drew).alloc _) (fun _=>trivial) ?_;clear hK K;refine xc fun K hK=>?_
     refine Zv _ _ rfl Uz (f:=yw) (xs:=(p,N)::(q.take i).flatMap Ya) (Ho.o.alloc _) Hm.o (p2,Na) _ 0 1 rfl rfl rfl (yp _ _ _ rfl) zt (zd) zr ?_;intro g Z w3 aj ai aa;have Y:=zz (show zh (fun g=>g∈zw U) wr w3 from(((zh.refl _ wr).drew).alloc _).trans ai (fun x hx _=>hx));have ar:=zz aj;have au:=zz (show w.heap.size+1<=g from by
      rcases aa with h|h
      ·exact Hg.o g h
      ·have:=HB.o.size;have:=Hk.o.lt;simp at h;omega)
     refine hK.out _ _ Y.o (fun _=>trivial) ?_;clear hK K aj ai aa;try refine zQ ?_
     repeat refine zT H0.o ?_
     refine xu ?_;go_wp2
     go_roundg (V-(i+1))
     case measure=>omega
     case rel=>exact⟨i+1,_,Z,m+1,zd,rfl,ze,rfl,by rw[O.o,zo1,Hm.o];rfl,zd,by rw[O.o];exact ar.o,xW au.o,Hk.o.zC Y.o ao.o,Y.o.qq HB.o (zoZ _) (fun x hx=>by have:=Hg.o x hx;omega)⟩
   ·have O:=zz (show((p,N)::(q.take (i+1)).flatMap Ya)=((p,N)::(q.take i).flatMap Ya) by
     rw[X.o];unfold Ya;simp only;rw[if_neg L];simp)
    have Z:(k==1)=false:=beq_eq_false_iff_ne.2 fun h=>L (.inl h)
    have Y:(k==2)=false:=beq_eq_false_iff_ne.2 fun h=>L (.inr h)
    clear L X;go_wp2
    go_roundg (V-(i+1))
    case measure=>omega
    case rel=>exact⟨i+1,U,I,m,zd,rfl,ze,rfl,by rw[O.o];exact Hm.o,zd,by rw[O.o];exact Ho.o,Hg.o,Hk.o,HB.o⟩
  ·obtain rfl:i=V:=zd;have L:q.take i=q:=by rw[<-af.o];exact zpz
   rw[L]at Ho Hm;go_wp2;go_returns;exact⟨U,I,m,rfl,Hm.o,Ho.o,HB.o,fun g hg=>by have:=Hg.o g hg;omega⟩
def zgM(h:ByteArray)(r:List (ByteArray×Nat))(w:World)(e:Ending)(w':World):Prop:=
 ∃(p:ByteArray) (n:Nat) (b:Bool),e=.returned (.tuple #[.agg #[.string p,.int .i64 (n:Int)],.bool b])/\(b=true->∃q∈r,q.1=h/\q.2=n)/\(b=false->∀q∈r,q.1≠h)/\Bl w w'
theorem zgQ(w:World)(r:ByteArray)(A:Option Addr)(cap:Nat)(O:List (ByteArray×Nat))(h:zY yw w A O)(n:Nat)(hn:O.length=n)(hb:n<=4194304):
 Calls prog 137 #[.string r,.slice A n cap] w (zgM r O w):=by
 have H:=zz h;have Hn:=zz hn;clear h hn;obtain⟨W0,I,N⟩:=xj w 166 #[.string ⟨#[]⟩,.int .i64 0];have L:=zz N;have ab:=zz I;clear N I;go_enter func137,ntmps137;go_wp2;rw[ab.o]
 go_loopg[5,6] n (fun gk R I N=>∃i:Nat,i<=n/\gk=n-i/\R=.bool false/\I=.int .i64 (i:Int)/\N=W0/\∀j (h:j<O.length),j<i->O[j].1≠r)
 case atStart=>exact⟨0,zo5 _,rfl,rfl,rfl,rfl,fun j _ h=>zd⟩
 case round=>
  obtain⟨i,hi,rfl,rfl,rfl,rfl,I⟩:=hrel;have N:=zz I;have f0:=L.o.b0.frozen 0;have f1:=L.o.b0.frozen 1;have V:wr.cell? ⟨w.heap.size,0,none⟩=some (.string ⟨#[]⟩):=L.o.b0.cell 0;have U:wr.cell? ⟨w.heap.size,1,none⟩=some (.int .i64 0):=L.o.b0.cell 1;clear I
  by_cases aa:i<n
  ·have W:i<O.length:=by rw[Hn.o];exact aa
   obtain⟨b,o,rfl,ad,I⟩:=(H.o.below L.o.below).at J5 i W;have Y:=zo3 W;generalize R:O[i]=u at I Y;have Hu:=zz R;clear R;obtain⟨p,m⟩:=u
   replace I:wr.rangeAt b (o+i*2) _:=I
   obtain⟨d0,d1⟩:=two I;simp only at d0 d1;clear I
   by_cases e:p=r
   ·have Z:=zz Y;have ac:(p.toList==r.toList)=true:=by rw[e];simp
    have He:=zz e;clear e Y;go_wp2;have R:zD ((wr.setCell ⟨w.heap.size,0,none⟩ (.string p)).setCell ⟨w.heap.size,1,none⟩ (.int .i64 (m:Int))) w.heap.size 166 #[.string p,.int .i64 (m:Int)]:=(L.o.b0.qE 0 _).qE 1 _;have I:Bl w ((wr.setCell ⟨w.heap.size,0,none⟩ (.string p)).setCell ⟨w.heap.size,1,none⟩ (.int .i64 (m:Int))):=(L.o.below.setCell zp _).setCell zp _;clear V U f0 f1;generalize(wr.setCell ⟨w.heap.size,0,none⟩ (.string p)).setCell ⟨w.heap.size,1,none⟩ (.int .i64 (m:Int))=X at R I ⊢;have V:X.cell? ⟨w.heap.size,0,none⟩=some (.string p):=R.cell 0;have U:X.cell? ⟨w.heap.size,1,none⟩=some (.int .i64 (m:Int)):=R.cell 1;refine bodyPost_ret (v:=.tuple #[.agg #[.string p,.int .i64 (m:Int)],.bool true]) (by simp[results,results137,go_sem,V,U]) rfl ?_;exact⟨p,m,true,rfl,fun _=>⟨_,Z.o,He.o,rfl⟩,fun h=>(by cases h),I⟩
   ·have ac:(p.toList==r.toList)=false:=by rw[bytes_beq];exact qt e
    have He:=zz e;clear e Y;go_wp2
    go_roundg (n-(i+1))
    case measure=>omega
    case rel=>exact⟨i+1,zd,rfl,rfl,ze,rfl,fun j Z ae=>by
     by_cases ej:j=i
     ·subst ej;rw[Hu.o];exact He.o
     ·exact N.o j Z zd⟩
  ·obtain rfl:i=n:=zd;go_wp2;have R:zD ((wr.setCell ⟨w.heap.size,0,none⟩ (.string ⟨#[]⟩)).setCell ⟨w.heap.size,1,none⟩ (.int .i64 0)) w.heap.size 166 #[.string ⟨#[]⟩,.int .i64 0]:=(L.o.b0.qE 0 _).qE 1 _;have I:Bl w ((wr.setCell ⟨w.heap.size,0,none⟩ (.string ⟨#[]⟩)).setCell ⟨w.heap.size,1,none⟩ (.int .i64 0)):=(L.o.below.setCell zp _).setCell zp _;clear V U f0 f1;generalize(wr.setCell ⟨w.heap.size,0,none⟩ (.string ⟨#[]⟩)).setCell ⟨w.heap.size,1,none⟩ (.int .i64 0)=X at R I ⊢;have V:X.cell? ⟨w.heap.size,0,none⟩=some (.string ⟨#[]⟩):=R.cell 0;have U:X.cell? ⟨w.heap.size,1,none⟩=some (.int .i64 0):=R.cell 1;refine bodyPost_ret (v:=.tuple #[.agg #[.string ⟨#[]⟩,.int .i64 0],.bool false]) (by simp[results,results137,go_sem,V,U]) rfl ?_;exact⟨⟨#[]⟩,0,false,rfl,fun h=>(by cases h),fun _ q W=>by
    obtain⟨j,Z,rfl⟩:=zpl.1 W;exact N.o j Z (by rw[<-Hn.o];exact Z),I⟩
def zkP(I l:List (ByteArray×Nat))(w:World)(e:Ending)(w':World):Prop:=
 ∃(r:Option Addr) (h q:Nat) (b:Bool),e=.returned (.tuple #[.slice r q h,.bool b])/\
  (b=true->∃h,h.length=q/\Cons h/\(∀x∈I,x∈h)/\(∀x∈l,x∈h)/\zY yw w' r h/\q<=I.length+l.length)/\Bl w w'
theorem Cons.put(h:Cons r)(R:∀q∈r,q.1≠x.1)(k:Nat):Cons (r.take k++x::r.drop k):=by
 have L:∀a,a∈r.take k++x::r.drop k->a∈r\/a=x:=fun a I=>by
  rcases zo7.1 I with h|h
  ·exact .inl (zqr h)
  ·rcases zpp.1 h with h|h
   ·exact .inr h
   ·exact .inl (List.mem_of_mem_drop h)
 intro a I b U e
 rcases L a I with O|rfl<;>rcases L b U with N|rfl
 ·exact h a O b N e
 ·exact(R a O e).elim
 ·exact(R b N e.symm).elim
 ·rfl
theorem zbB(k:Nat){a:ByteArray×Nat}(h:a∈q\/a=x):a∈q.take k++x::q.drop k:=by
 rcases h with h|rfl
 ·rw[<-zpL k q]at h
  rcases zo7.1 h with h|h
  ·exact zpu _ h
  ·exact zpk _ (zpj _ h)
 ·exact zpk _ zpi
theorem Jn(p:ByteArray×Nat):∀u∈yw p,u.oneCell'=true:=zt
def XM(h:List (ByteArray×Nat))(k:Nat)(x:ByteArray×Nat)(q:Nat):List (ByteArray×Nat):=h.take k++x::(h.drop k).take (q-k)
theorem Gu{h:Nat}(I:k<=h)(r:h<=q.length):(XM q k x h).length=h+1:=by
 unfold XM;rw[zo1,zpv,zpn,zpv,zp7];omega
theorem zcl{q:Nat}(I:k<=q)(L:q<r.length):XM r k x (q+1)=XM r k x q++[r[q]]:=by
 have h:(r.drop k).take ((q-k)+1)=(r.drop k).take (q-k)++[r[q]]:=by
  rw[zo4 (by rw[zp7];omega),List.getElem_drop];simp only[Nat.add_sub_cancel' I]
 unfold XM;rw[show q+1-k=(q-k)+1 from zd,h,zpo,zpc]
theorem zfy:XM q k x q.length=q.take k++x::q.drop k:=by
 have h:(q.drop k).take (q.length-k)=q.drop k:=zpm (by rw[zp7];exact zoZ _);unfold XM;rw[h]
theorem zcZ{h:List (ByteArray×Nat)}:XM h k x k=h.take k++[x]:=by
 unfold XM;rw[zqw,zpr]
theorem TP(w:World)(A:Option Addr)(cap:Nat)(ks:List (ByteArray×Nat))(h:zY yw w A ks)(n:Nat)(hn:ks.length=n)(hc:Cons ks)(B:Option Addr)(zM:Nat)(l:List (ByteArray×Nat))(hl:zY yw w B l)(m:Nat)(hm:l.length=m)(hb:n+m<=4194304):
 Calls prog 75 #[.slice A n cap,.slice B m zM] w (zkP ks l w):=by
 have HL:=zz hl;have Hm:=zz hm;have H:=zz h;have Hn:=zz hn;have Hc:=zz hc;clear hl hm h hn hc;go_enter func75,ntmps75;go_wp2
 go_loopg[0,6] m (fun gk L I wx=>∃(i:Nat) (A':Option Addr) (ak N:Nat) (r:List (ByteArray×Nat)),i<=m/\gk=m-i/\I=.int .i64 (i:Int)/\L=.slice A' N ak/\r.length=N/\N<=n+i/\Cons r/\(∀x∈ks,x∈r)/\(∀x∈l.take i,x∈r)/\zY yw wx A' r/\Bl w wx)
 case atStart=>exact⟨0,A,cap,n,ks,zo5 _,rfl,rfl,rfl,Hn.o,zoZ _,Hc.o,fun x V=>V,fun x V=>by simp at V,H.o,Below.refl _ _⟩
 case round=>
  obtain⟨i,A',ak,N,r,hi,rfl,rfl,rfl,L,aU,I,R,U,O,hB⟩:=hrel;have ab:=zz L;have az:=zz I;have aB:=zz R;have aq:=zz U;have ay:=zz O;have HB:=zz hB;clear L I R U O hB
  by_cases aS:i<m
  ·have aP:i<l.length:=by rw[Hm.o];exact aS
   obtain⟨b,o,rfl,O,L⟩:=(HL.o.below HB.o).at J5 i aP;have I:∀x,x∈l.take (i+1)->x∈l.take i\/x=l[i]:=fun x V=>by
    rw[zo4 aP]at V
    rcases zo7.1 V with h|h
    ·exact .inl h
    ·exact .inr (zo2.1 h)
   generalize l[i]=u at L I;obtain⟨p,q⟩:=u
   replace L:wr.rangeAt b (o+i*2) _:=L
   have R:=fun W (U:Bl wr W)=>zgQ W p A' ak r (ay.o.below U) N ab.o zd
   have aV:=zz R;have aH:=zz I;have Hr:=zz L;have aG:=zz O;obtain⟨d0,d1⟩:=two L;simp only at d0 d1;clear L R I O
   go_wp2_with (go_at_call 137;refine(aV.o _ (Below.refl _ _)).mono ?_;rintro e w2⟨p2,n2,b2,rfl,L,U,O⟩)
   obtain⟨W3,R,I⟩:=xj w2 166 #[.string p2,.int .i64 (n2:Int)];rw[R];have aW:=zz I;have ao:=zz (zu O I.below);have aT:=zz L;have aM:=zz U;have e1:W3.cell? ⟨w2.heap.size,1,none⟩=some (.int .i64 (n2:Int)):=I.b0.cell 1;obtain⟨d0,d1⟩:=two (yo Hr.o ao.o aG.o);simp only at d0 d1;have aN:=zz (yo Hr.o ao.o aG.o);have aE:Kz (b<W3.heap.size):=zo0 aG.o ao.o.size;clear R I O L U
   rcases b2 with _|_
   ·go_quiet (fail)
    go_wp2;have aA:Kz (Bl wr (W3.drewN nq)):=zu ao.o (Z1 W3 nq);have aO:Kz ((W3.drewN nq).rangeAt b (o+i*2) _):=aN.o;have aC:Kz (b<(W3.drewN nq).heap.size):=aE.o;have I:=ay.o.below aA.o;clear e1 d0 d1 aN aE;generalize W3.drewN nq=W4 at aA aO aC I ⊢;have aF:=zz I;clear I
    go_loopg[9,10] N (fun gk s9 au wx=>∃(k:Nat) (A2:Option Addr) (aj:Nat),k<=N/\gk=N-k/\au=.int .i64 (k:Int)/\s9=.slice A2 k aj/\Own yw 166 2 wx A2 aj (r.take k)/\(∀g∈zw A2,W4.heap.size<=g)/\Bl W4 wx)
    case atStart=>exact⟨0,none,0,zo5 _,rfl,rfl,rfl,Own.qC _,fun g hg=>by simp[zw]at hg,Below.refl _ _⟩
    case round=>
     obtain⟨k,A2,aj,hk,rfl,rfl,rfl,ho,hg,hB⟩:=hrel;have HO:=zz ho;have HG:=zz hg;have L:=zz hB;have ax:=zz (yo aO.o hB aC.o);obtain⟨d0,d1⟩:=two ax.o;simp only at d0 d1;clear ho hg hB
     by_cases aK:k<N
     ·have ah:k<r.length:=by rw[ab.o];exact aK
      obtain⟨b7,o7,rfl,aR,O⟩:=(aF.o.below L.o).at J5 k ah;have R:r.take (k+1)=r.take k++[r[k]]:=zo4 ah;generalize r[k]=u7 at O R;obtain⟨p7,q7⟩:=u7
      replace O:_root_.Go.World.rangeAt _ b7 (o7+k*2) _:=O
      obtain⟨e0,e1⟩:=two O;simp only at e0 e1;have ai:=zz R;clear O R;have aQ:decide ((k:Int)<(N:Int))=true:=zb;have aD:decide (k<N)=true:=zb;have ap:=zz (show(r.take k).length=k by rw[zpv,ab.o];omega)
      by_cases aw:Op.bytesLess p7.toList p.toList=true
      ·go_wp2
       go_quiet (fail)
       have af:Kz (Own yw 166 2 (wr.drewN nq) A2 aj (r.take k)):=HO.o.same fun g hg=>rfl
       have X:Kz (Bl W4 (wr.drewN nq)):=L.o.trans ((Z1 wr nq).mono L.o.size);have e0:(wr.drewN nq).cell? ⟨b7,o7+k*2,none⟩=some (.string p7):=e0;have e1:(wr.drewN nq).cell? ⟨b7,o7+k*2+1,none⟩=some (.int .i64 (q7:Int)):=e1;clear d0 d1 HO L ax;generalize wr.drewN nq=w6 at af X e0 e1 ⊢
       go_wp2_with (at_builtin;refine X0 rfl _ _ rfl Uz (f:=yw) (xs:=r.take k) (af.o.alloc _) ap.o (p7,q7) _ 0 1 rfl rfl rfl (yp _ _ _ rfl) (Jn _) zd (zr) ?_)
       intro g I w3 aa Z Y;have ae:=zz aa;have ag:=zz ((((zh.refl (·∈zw A2) w6).alloc _).trans Z (fun x V _=>V)).qq X.o (zoZ _) HG.o);have ac:=zz (show W4.heap.size<=g from by
        rcases Y with h|h
        ·exact HG.o g h
        ·have:=X.o.size;omega)
       clear aa Z Y af X;go_wp2
       go_roundg (N-(k+1))
       case measure=>omega
       case rel=>exact⟨k+1,_,I,zd,rfl,ze,rfl,by rw[ai.o];exact ae.o,xW ac.o,ag.o⟩
      ·have aw:Op.bytesLess p7.toList p.toList=false:=by simpa using aw
       clear ai ap;go_wp2
       go_quiet (fail)
       clear e0 e1;have af:Kz (Own yw 166 2 (wr.drewN nq) A2 aj (r.take k)):=HO.o.same fun g hg=>rfl
       have X:Kz (Bl W4 (wr.drewN nq)):=L.o.trans ((Z1 wr nq).mono L.o.size);have d0:(wr.drewN nq).cell? ⟨b,o+i*2,none⟩=some (.string p):=d0;have d1:(wr.drewN nq).cell? ⟨b,o+i*2+1,none⟩=some (.int .i64 (q:Int)):=d1;have ap:=zz (show(r.take k).length=k by rw[zpv,ab.o];omega);clear HO L ax;generalize wr.drewN nq=w6 at af X d0 d1 ⊢
       go_wp2_with (at_builtin;refine X0 rfl _ _ rfl Uz (f:=yw) (xs:=r.take k) (af.o.alloc _) ap.o (p,q) _ 0 1 rfl rfl rfl (yp _ _ _ rfl) (Jn _) zd (zr) ?_)
       intro g I w3 aa Z Y;have ae:=zz aa;have ag:=zz ((((zh.refl (·∈zw A2) w6).alloc _).trans Z (fun x V _=>V)).qq X.o (zoZ _) HG.o);have ac:=zz (show W4.heap.size<=g from by
        rcases Y with h|h
        ·exact HG.o g h
        ·have:=X.o.size;omega)
       clear aa Z Y af X d0 d1;go_wp2
       go_loopg[9,10] (N-k) (fun gk s9 au wx=>∃(U:Nat) (A3:Option Addr) (I:Nat),k<=U/\U<=N/\gk=N-U/\au=.int .i64 (U:Int)/\s9=.slice A3 (U+1) I/\Own yw 166 2 wx A3 I (XM r k (p,q) U)/\(∀g∈zw A3,W4.heap.size<=g)/\Bl W4 wx)
       case atStart=>exact⟨k,some ⟨g,0,none⟩,I,zoZ _,zd,rfl,rfl,rfl,by rw[zcZ];exact ae.o,xW ac.o,ag.o⟩
       case round=>
        clear ae ac ag HG;obtain⟨U,A3,I,ad,aL,rfl,rfl,rfl,ho,hg,hB⟩:=hrel;have HO:=zz ho;have HG:=zz hg;have L:=zz hB;clear ho hg hB
        by_cases aI:U<N
        ·have ah:U<r.length:=by rw[ab.o];exact aI
         obtain⟨b7,o7,an,aR,O⟩:=(aF.o.below L.o).at J5 U ah
         first|subst an |(simp only[zpV,Addr.mk.injEq,and_true]at an;obtain⟨rfl,rfl⟩:=an)
         have R:=zcl (x:=(p,q)) ad ah;have al:=Gu (x:=(p,q)) ad (zqB ah);generalize r[U]=u7 at O R;obtain⟨p7,q7⟩:=u7
         replace O:wr.rangeAt b7 (o7+U*2) _:=O
         obtain⟨e0,e1⟩:=two O;simp only at e0 e1;have ai:=zz R;have ar:=zz al;clear O R al
         go_wp2_with (at_builtin;refine X0 rfl _ _ rfl Uz (f:=yw) (xs:=XM r k (p,q) U) (HO.o.alloc _) ar.o (p7,q7) _ 0 1 rfl rfl rfl (yp _ _ _ rfl) (Jn _) zd (zr) ?_)
         intro g I w3 aa Z Y;have ae:=zz aa;have ag:=zz ((((zh.refl (·∈zw A3) wr).alloc _).trans Z (fun x V _=>V)).qq L.o (zoZ _) HG.o);have ac:=zz (show W4.heap.size<=g from by
          rcases Y with h|h
          ·exact HG.o g h
          ·have:=L.o.size;omega)
         clear aa Z Y;go_wp2
         go_roundg (N-(U+1))
         case measure=>omega
         case rel=>exact⟨U+1,_,I,zd,zd,rfl,ze,rfl,by rw[ai.o];exact ae.o,xW ac.o,ag.o⟩
        ·obtain rfl:N=U:=zd;have hE:XM r k (p,q) N=r.take k++(p,q)::r.drop k:=by rw[<-ab.o];exact zfy
         have av:(XM r k (p,q) N).length=N+1:=Gu ad (by rw[ab.o];exact zoZ _);have HE:=zz hE;have aJ:=zz av;clear hE av;go_wp2
         go_roundg (m-(i+1))
         case measure=>omega
         case rel=>
          have am:∀x,x∈r\/x=(p,q)->x∈XM r k (p,q) N:=fun x V=>by rw[HE.o];exact zbB k V
          refine⟨i+1,A3,I,N+1,XM r k (p,q) N,zd,rfl,ze,rfl,aJ.o,zd,by rw[HE.o];exact az.o.put (x:=(p,q)) (aM.o trivial) k,fun x V=>am x (.inl (aB.o x V)),fun x V=>?_,HO.o.xI,zu HB.o (zu aA.o L.o)⟩
          rcases aH.o x V with h|h
          ·exact am x (.inl (aq.o x h))
          ·exact am x (.inr h)
     ·have aQ:decide ((k:Int)<(N:Int))=false:=zb;have aD:decide (k<N)=false:=zb;go_wp2
      go_quiet (fail)
      clear aQ aD aK;have af:Kz (Own yw 166 2 (wr.drewN nq) A2 aj (r.take k)):=HO.o.same fun g hg=>rfl
      have X:Kz (Bl W4 (wr.drewN nq)):=L.o.trans ((Z1 wr nq).mono L.o.size);have d0:(wr.drewN nq).cell? ⟨b,o+i*2,none⟩=some (.string p):=d0;have d1:(wr.drewN nq).cell? ⟨b,o+i*2+1,none⟩=some (.int .i64 (q:Int)):=d1;have ap:=zz (show(r.take k).length=k by rw[zpv,ab.o];omega);clear HO L ax;generalize wr.drewN nq=w6 at af X d0 d1 ⊢
      go_wp2_with (at_builtin;refine X0 rfl _ _ rfl Uz (f:=yw) (xs:=r.take k) (af.o.alloc _) ap.o (p,q) _ 0 1 rfl rfl rfl (yp _ _ _ rfl) (Jn _) zd (zr) ?_)
      intro g I w3 aa Z Y;have ae:=zz aa;have ag:=zz ((((zh.refl (·∈zw A2) w6).alloc _).trans Z (fun x V _=>V)).qq X.o (zoZ _) HG.o);have ac:=zz (show W4.heap.size<=g from by
       rcases Y with h|h
       ·exact HG.o g h
       ·have:=X.o.size;omega)
      clear aa Z Y af X d0 d1;go_wp2
      go_loopg[9,10] (N-k) (fun gk s9 au wx=>∃(U:Nat) (A3:Option Addr) (I:Nat),k<=U/\U<=N/\gk=N-U/\au=.int .i64 (U:Int)/\s9=.slice A3 (U+1) I/\Own yw 166 2 wx A3 I (XM r k (p,q) U)/\(∀g∈zw A3,W4.heap.size<=g)/\Bl W4 wx)
      case atStart=>exact⟨k,some ⟨g,0,none⟩,I,zoZ _,zd,rfl,rfl,rfl,by rw[zcZ];exact ae.o,xW ac.o,ag.o⟩
      case round=>
       clear ae ac ag HG;obtain⟨U,A3,I,ad,aL,rfl,rfl,rfl,ho,hg,hB⟩:=hrel;have HO:=zz ho;have HG:=zz hg;have L:=zz hB;clear ho hg hB
       by_cases aI:U<N
       ·have ah:U<r.length:=by rw[ab.o];exact aI
        obtain⟨b7,o7,an,aR,O⟩:=(aF.o.below L.o).at J5 U ah
        first|subst an |(simp only[zpV,Addr.mk.injEq,and_true]at an;obtain⟨rfl,rfl⟩:=an)
        have R:=zcl (x:=(p,q)) ad ah;have al:=Gu (x:=(p,q)) ad (zqB ah);generalize r[U]=u7 at O R;obtain⟨p7,q7⟩:=u7
        replace O:wr.rangeAt b7 (o7+U*2) _:=O
        obtain⟨e0,e1⟩:=two O;simp only at e0 e1;have ai:=zz R;have ar:=zz al;clear O R al
        go_wp2_with (at_builtin;refine X0 rfl _ _ rfl Uz (f:=yw) (xs:=XM r k (p,q) U) (HO.o.alloc _) ar.o (p7,q7) _ 0 1 rfl rfl rfl (yp _ _ _ rfl) (Jn _) zd (zr) ?_)
        intro g I w3 aa Z Y;have ae:=zz aa;have ag:=zz ((((zh.refl (·∈zw A3) wr).alloc _).trans Z (fun x V _=>V)).qq L.o (zoZ _) HG.o);have ac:=zz (show W4.heap.size<=g from by
         rcases Y with h|h
         ·exact HG.o g h
         ·have:=L.o.size;omega)
        clear aa Z Y;go_wp2
        go_roundg (N-(U+1))
        case measure=>omega
        case rel=>exact⟨U+1,_,I,zd,zd,rfl,ze,rfl,by rw[ai.o];exact ae.o,xW ac.o,ag.o⟩
       ·obtain rfl:N=U:=zd;have hE:XM r k (p,q) N=r.take k++(p,q)::r.drop k:=by rw[<-ab.o];exact zfy
        have av:(XM r k (p,q) N).length=N+1:=Gu ad (by rw[ab.o];exact zoZ _);have HE:=zz hE;have aJ:=zz av;clear hE av;go_wp2
        go_roundg (m-(i+1))
        case measure=>omega
        case rel=>
         have am:∀x,x∈r\/x=(p,q)->x∈XM r k (p,q) N:=fun x V=>by rw[HE.o];exact zbB k V
         refine⟨i+1,A3,I,N+1,XM r k (p,q) N,zd,rfl,ze,rfl,aJ.o,zd,by rw[HE.o];exact az.o.put (x:=(p,q)) (aM.o trivial) k,fun x V=>am x (.inl (aB.o x V)),fun x V=>?_,HO.o.xI,zu HB.o (zu aA.o L.o)⟩
         rcases aH.o x V with h|h
         ·exact am x (.inl (aq.o x h))
         ·exact am x (.inr h)
   ·by_cases e:n2=q
    ·have I:((n2:Int) !=(q:Int))=false:=by simp[e]
     have L:=zz (show(p,q)∈r by
      obtain⟨x,U,R,O⟩:=aT.o rfl;rw[show(p,q)=x from Prod.ext R.symm (by rw[O];exact e.symm)];exact U)
     clear e
     go_quiet (fail)
     go_wp2
     go_roundg (m-(i+1))
     case measure=>omega
     case rel=>exact⟨i+1,A',ak,N,r,zd,rfl,ze,rfl,ab.o,zd,az.o,aB.o,fun x V=>by
      rcases aH.o x V with h|h
      ·exact aq.o x h
      ·rw[h];exact L.o,ay.o.below (zu ao.o (Z1 W3 nq)),zu HB.o (zu ao.o (Z1 W3 nq))⟩
    ·have I:((n2:Int) !=(q:Int))=true:=zb;clear e
     go_quiet (fail)
     go_wp2;go_returns;exact⟨none,0,0,false,rfl,fun h=>(by cases h),zu HB.o (zu ao.o (Z1 W3 nq))⟩
  ·obtain rfl:i=m:=zd;go_wp2;go_returns;have I:l.take i=l:=by rw[<-Hm.o];exact zpz
   rw[I]at aq;exact⟨A',ak,N,true,rfl,fun _=>⟨r,ab.o,az.o,aB.o,aq.o,ay.o,by rw[Hn.o,Hm.o];exact aU⟩,HB.o⟩
end
