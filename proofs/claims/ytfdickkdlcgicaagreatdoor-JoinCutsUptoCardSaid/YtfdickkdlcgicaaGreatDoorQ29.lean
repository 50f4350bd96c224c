/-
  What is worked out: a way is found (a rule without a head). 
-/
import Derived.Test.YtfdickkdlcgicaaGreatDoorQ28
set_option maxRecDepth 100000
set_option maxHeartbeats 8000000
set_option linter.all false
namespace Go.Proofs.YtfdickkdlcgicaaGreatDoor.C
open Go.Proofs.Tryz Go Go.RowKit Go.Maps Go.WideMaps
variable {A:Option Addr}{D:Nat->Prop}{L:Int}{V cap nn no size:Nat}{c:Wc}{e:TypeId}{w w':World}{α:Type}
section
theorem zhT:qB prog 279 275 1 24:=qB.of (z:=.slice none 0 0) underlying279 zo rfl zr
theorem yg.zkF{no':Nat}(h:yg c D L nn no w){O:Option Addr}(U:zD w c.ob 279 #[.slice O no V])(oo:Own Jc 275 1 w O V (List.replicate no ()))(oD:∀g∈zw O,D g)(Z:zh (fun g=>g=c.ob\/g∈zw O) w w'){g1 I:Nat}(hk:zD w' c.ob 279 #[.slice (some ⟨g1,0,none⟩) no' I])(ho:Own Jc 275 1 w' (some ⟨g1,0,none⟩) I (List.replicate no' ()))(ac:g1∈zw O\/w.heap.size<=g1):
 yg c (more D w w') L nn no' w'/\xB D w w' (more D w w'):=by
 obtain⟨N,H,aa,ab,W,X,Y⟩:=h.env;have hm:∀g,D g->more D w w' g:=fun g q=>.inl q
 have hQ:∀g,(g=c.ob\/g∈zw O)->D g:=fun g q=>by
  rcases q with rfl|q
  ·exact h.J2
  ·exact oD g q
 refine⟨⟨h.work.zC Z fun e=>?_,⟨N,H,aa,ab,W,X,Y.qj Z (fun e=>?_) (fun g q e=>?_) (fun g q e=>?_) hm⟩,⟨_,I,hk,ho,xY ?_⟩,((h.facts.kept Z (fun g _ q hs=>q.1 (hQ g hs)) fun g q=>q.2).mono fun g q=>⟨fun hd=>?_,zpz q.2 Z.size⟩),
  h.pw.zC Z fun e=>h.Uf (hQ _ e),hm _ h.YB,hm _ h.ZL,hm _ h.J2,fun hd=>?_,fun g q=>?_,h.lo,h.hi⟩,Z.mono fun g q _=>hQ g q,fun g q=>q.imp id And.left⟩
 ·rcases e with e|e
  ·exact h.work.yK U zr e
  ·exact oo.yD h.work zr e
 ·rcases e with e|e
  ·exact Y.zH.yK U zr e
  ·exact oo.yD Y.zH zr e
 ·rcases e with e|e
  ·exact X0 Y.XU U zr g q e
  ·exact Y.XU.ZU oo zr g q e
 ·rcases e with e|e
  ·exact X0 Y.xV U zr g q e
  ·exact Y.xV.ZU oo zr g q e
 ·exact ac.elim (fun h=>.inl (oD g1 h)) fun h=>.inr ⟨h,ho.Y4⟩
 ·rcases hd with R|R
  ·exact q.1 R
  ·omega
 ·rcases hd with R|R
  ·exact h.Uf R
  ·have:=h.pw.lt;omega
 ·rcases q with R|R
  ·exact zpz (h.lt g R) Z.size
  ·exact R.2
structure Jn (c:Wc) (D:Nat->Prop) (w:World) (b0 b1 b3:Nat) (p:ByteArray) (B:Option Addr) (nb zM:Nat):Prop where
 k0:zD w b0 270 #[.pointer (some ⟨c.wb,0,none⟩)]
 k1:zD w b1 25 #[.string p,.slice none 0 0,.slice B nb zM]
 k3:zD w b3 4 #[.bool false]
 d0:¬D b0
 d1:¬D b1
 d3:¬D b3
theorem Jn.after{R:Nat->Prop}{O N L:Nat}{p:ByteArray}{B:Option Addr}{zM:Nat}(h:Jn c D w O N L p B V zM)(q:xB D w w' R):Jn c R w' O N L p B V zM:=
 ⟨h.k0.zC q.1 h.d0,h.k1.zC q.1 h.d1,h.k3.zC q.1 h.d3,fun I=>(q.2 _ I).elim h.d0 fun U=>by have:=h.k0.lt;omega,fun I=>(q.2 _ I).elim h.d1 fun U=>by have:=h.k1.lt;omega,fun I=>(q.2 _ I).elim h.d3 fun U=>by have:=h.k3.lt;omega⟩
def zgZ(c:Wc)(D:Nat->Prop)(L:Int)(N no:Nat)(w:World)(e:Ending)(w':World):Prop:=
 ∃(q:Int) (h:Nat) (I:Nat->Prop),e=.returned (.tuple #[])/\yg c I q N h w'/\xB D w w' I/\q<=L-1/\min L 0-1<=q/\no<=h/\(h:Int)+q<=no+L
theorem zmC(h:yg c D L nn no w)(aq:no<=4194303)(au:-549755000000<=L)(b0 b1 b2 b3 b4:Nat)(p:ByteArray)(B:Option Addr)(nb zM:Nat)(X:Jn c D w b0 b1 b3 p B nb zM):
 Calls prog 208 #[.pointer (some ⟨b0,0,none⟩),.pointer (some ⟨b1,0,none⟩),.pointer (some ⟨b2,0,none⟩),.pointer (some ⟨b3,0,none⟩),.pointer (some ⟨b4,0,none⟩),.pointer (some ⟨c.ob,0,none⟩)] w (zgZ c D L nn no w):=by
 have HW:=zz h;have Hc:=zz X;have av:=h.lo;have ar:=h.hi;have ah:=zz (show ∀W,zh (·=c.wb) w W->W.cell? ⟨b0,0,none⟩=some (.pointer (some ⟨c.wb,0,none⟩))/\W.cell? ⟨b1,1,none⟩=some (.slice none 0 0)from fun W q=>⟨(X.k0.zC q (fun e=>X.d0 (e▸h.YB))).cell 0,(X.k1.zC q (fun e=>X.d1 (e▸h.YB))).cell 1⟩);have ag:Kz (∀W:World,W.heap[c.wb]? = w.heap[c.wb]?->W.cell? ⟨c.wb,0,none⟩=some (.int .i64 L)/\-1099511627776<=L/\L<=1099511627776):=fun W q=>⟨(h.work.same q).cell 0,h.lo,h.hi⟩
 clear h X;go_enter func208,ntmps208;go_upto_region 0 with fail
 refine XT [1,1,0,0,1,0,0,1,0,0,0,0,0,3] 13 (fun W=>zh (·=c.wb) w W) (fun W=>W.heap[c.wb]? = w.heap[c.wb]?) ?s0 ?s1 ?_
 case s0=>exact yw
 case s1=>rfl
 try refine zQ ?_
 repeat refine xM ah.o ag.o ?_
 refine Xf zj (fun K q=>?_);refine XC 3 _ _ rfl c.wb 0 _ _ (HW.o.work.drew) (.int .i64 (IntKind.i64.wrap (IntKind.i64.wrap (L-1)-IntKind.i64.wrap 0))) rfl rfl zp (zo) rfl ?_;rw[wrap_i64 (k:=0) zr (zr),wrap_i64 (k:=L-1) zd (zd),wrap_i64 (k:=L-1-0) zd (zd),show L-1-0=L-1 from zd];intro W1 R;have I:zh (·=c.wb) w W1:=(zh.refl _ w).drew.trans R.zC (fun x U _=>U);refine q.out _ _ I ?_;clear q K;try refine zQ ?_
 repeat refine xM ah.o ag.o ?_
 refine xt ?_;have q:=zz (HW.o.Z7 I (L':=L-1) (by have:=R.zH;simpa using this) zd (zd));have N:=zz (show xB D w W1 D from⟨I.mono fun g V _=>V▸HW.o.YB,fun g V=>.inl V⟩);have V:=zz (Hc.o.after N.o);clear R I;have k0:=V.o.k0.cell 0;have w0:=q.o.work.cell 0
 by_cases ap:L-1<0
 ·go_wp2;go_end0;exact⟨L-1,no,D,rfl,q.o,N.o,zd,zd,zpx _,zd⟩
 ·have k1:=V.o.k1.cell 1;have k3:=V.o.k3.cell 0;go_wp2
  go_loopg[6,7] 0 (fun gk I R Y=>R=.int .i64 0/\I=.slice none 0 0/\Y=W1)
  case atStart=>exact⟨rfl,rfl,rfl⟩
  case round=>
   obtain⟨rfl,rfl,rfl⟩:=hrel;obtain⟨O,ao,I,Z,o3⟩:=q.o.out;have o0:=I.cell 0;have ac:=zz I;have R:=zz Z;have am:=zz o3;have Y:=zz (Z.yD I zr);have an:=I.lt;clear I Z o3
   go_wp2_with (first
    |(at_builtin;refine ZP zhT (f:=Jc) (xs:=List.replicate no ()) (R.o.alloc _) (zqT) () ?_;intro g1 ab w5 aa Z ai;have ad:=zz (show zh (·∈zw O) wr w5 from((zh.refl _ wr).alloc _).trans Z (fun x U _=>U));have aj:=zz aa;have ae:Kz (g1∈zw O\/wr.heap.size<=g1):=ai.imp id (fun h=>by simp at h;omega);have ak:=zz (ac.o.zC ad.o Y.o);clear aa Z ai o0)
    |(refine xy 279 _ _ rfl ?_;refine Xq zj 279 _ _ rfl c.ob 0 _ _ ak.o (.slice (some ⟨g1,0,none⟩) (no+1) ab) rfl rfl zp (zo) rfl ?_;intro W6 af;have I:=zz af;clear af))
   go_end0;have al:zh (fun g=>g=c.ob\/g∈zw O) wr W6:=(ad.o.mono (S':=fun g=>g=c.ob\/g∈zw O) fun x U _=>.inr U).trans I.o.zC (fun x U _=>.inl U);have hv:=q.o.zkF ac.o R.o am.o al (no':=no+1) (by have:=I.o.zH;simpa using this) (I.o.own (by have:=aj.o;rw[show List.replicate no ()++[()]=List.replicate (no+1) ()from by rw[List.replicate_succ']]at this;exact this) (xY (fun e=>by
    rcases ae.o with h|h
    ·exact Y.o (e▸h)
    ·omega))) ae.o
   exact⟨L-1,no+1,_,rfl,hv.1,N.o.trans hv.2,zd,zd,zqG _,zd⟩
theorem Own.take{f:α->List Value}{xs:List α}(N:∀x,(f x).length=size)(h:Own f e size w A cap xs)(n:Nat)(L:n<=xs.length):Own f e size w A cap (xs.take n):=by
 have O:(xs.take n).length=n:=by rw[zp3];omega
 have I:(xs.take n).flatMap f=(xs.flatMap f).take (n*size):=by
  clear h O
  induction xs generalizing n with
  |nil=>simp
  |cons x xs q=>
   cases n with
   |zero=>simp
   |succ n=>
    rw[List.take_succ_cons,zpZ,zpZ,q n (by simpa using L),zrq,Nat.add_comm,List.take_append,N x];rw[show size+n*size-size=n*size from zd,zpT (l:=f x) (by rw[N x];omega)]
 unfold Own at h ⊢;rw[O,I];obtain⟨V,R⟩:=h;refine⟨by rw[zp3,V];exact Nat.min_eq_left (zqF _ L),?_⟩
 rcases R with⟨e1,e2⟩ |⟨g,c,q,e1,Y,U,h5,Z,W,X⟩
 ·injection e1 with e3 e4 e5
  subst e3 e5;have:n=0:=zd;subst this;exact .inl ⟨rfl,rfl⟩
 ·injection e1 with e3 e4 e5
  subst e3 e5;refine .inr ⟨g,cap,q,rfl,Y,U,zd,Z,W,?_⟩;rw[<-X,List.take_take,Nat.min_eq_left (zqF _ L)]
theorem Own.U4{f:α->List Value}{xs:List α}(h:Own f e size w A cap xs):xs.length<=cap:=by
 rcases h.form with⟨_,_,I⟩ |⟨g,_,_,q,_⟩
 ·rw[I];exact zpD _
 ·exact q
theorem yg.Dq{Z n:Nat}(h:yg c D L Z no w){N H:Option Addr}{W:Nat}{I:List ByteArray}{U:List Th}(q:JA c D Z w N H V W I U)(hn:n<=Z)(Y:zh (·=c.eb) w w')(hk:zD w' c.eb 352 #[.pointer (some ⟨c.wb,0,none⟩),.slice N n V,.slice H n W]):yg c (more D w w') L n no w'/\xB D w w' (more D w w'):=by
 have hN:=X0 q.XU q.zH zr;have hH:=X0 q.xV q.zH zr;refine⟨h.yu Y (fun g R=>?_) (fun g=>Iff.rfl) ⟨N,H,V,W,I.take n,U.take n,hk,by rw[zp3,q.Z0];omega,Own.take (f:=xD) (fun _=>rfl) (q.XU.zC Y hN) n (by rw[q.Z0];exact hn),by rw[zp3,q.hlen];omega,Own.take (f:=Th.cells) (fun _=>rfl) (q.xV.zC Y hH) n (by rw[q.hlen];exact hn),
  fun x X=>q.qT x (zqW X),fun g R=>.inl (q.nD g R),fun g R=>.inl (q.hD g R)⟩,Y.mono fun g R _=>R▸h.ZL,fun g R=>R.imp id And.left⟩
 subst R;exact⟨h.ZL,q.zH.yK h.work zr,by obtain⟨O,X,o1,_⟩:=h.out;exact q.zH.yK o1 zr,fun O X ho R=>ho.yD q.zH zr R⟩
def Y8:List Li->Nat
 |[]=>0
 |x::l=>x.a.args.length+Y8 l
theorem zcR(l:List Li)(i:Nat)(h:i<l.length):Y8 (l.drop i)=l[i].a.args.length+Y8 (l.drop (i+1)):=by
 rw[zqa h];rfl
theorem zlh(l:List Li)(i j:Nat)(h:i<=j):Y8 (l.drop j)<=Y8 (l.drop i):=by
 induction j with
 |zero=>
  obtain rfl:i=0:=zd;exact zpx _
 |succ j I=>
  by_cases e:i=j+1
  ·rw[e];exact zpx _
  ·refine zpK ?_ (I zd)
   by_cases q:j<l.length
   ·rw[zcR l j q];omega
   ·rw[zqc zd,zqc zd];exact zpx _
def zky(c:Wc)(D:Nat->Prop)(L:Int)(N no d:Nat)(w:World)(e:Ending)(w':World):Prop:=
 ∃(q:Int) (h:Nat) (I:Nat->Prop),e=.returned (.tuple #[])/\yg c I q N h w'/\xB D w w' I/\q<=L/\-((d:Int)*66000+300)<=q/\no<=h/\(h:Int)+q<=no+L
theorem ZX.V4{Q:Nat->Prop}{R:Nat}(h:ZX Q w R)(p:ByteArray)(m:Nat)(Z:(yl p m).size<=maxLen):∃(A:Option Addr) (I:Nat) (L:List Rt),(∀W,Bl w W->(Instr.lookup 271 (.map (some R)) (.string (yl p m)) false).run prog W=.ok (.slice A L.length I) W)/\
 L.length<=4194304/\zZ Rt.cells w A L/\qV Q A/\∀r∈L,r.l.length=m/\zZ Th.cells w r.A r.l/\qV Q r.A/\∀x∈r.l,x.qT:=by
 obtain⟨f,V,h2,Y⟩:=h;have q:=fun W (N:Bl w W)=>(V.below N).look q8 underlying271 (z:=.slice none 0 0) zo (ye Z) false
 simp only[zqw,if_false]at q
 rcases hf:f (.string (yl p m))with _|v
 ·refine⟨none,0,[],fun W N=>?_,zr,fun O=>absurd rfl O,(fun g U=>nomatch U),(fun r X=>nomatch X)⟩;rw[q W N,hf];rfl
 ·obtain⟨A,I,L,rfl,O⟩:=Y p m v hf;exact⟨A,I,L,fun W N=>by rw[q W N,hf];rfl,O⟩
theorem zf0(p:ByteArray)(n:Nat)(L:n<=1048576)(h:p.size<=1048576):(yl p n).size<=maxLen:=by
 have I:=Lib.itoa_length_le (n:Int) zd (zd);unfold yl;simp only[zqy];have e1:(⟨(Lib.itoa (n:Int)).toArray⟩:ByteArray).size=(Lib.itoa (n:Int)).length:=by simp[ByteArray.size]
 have q:(⟨#[47]⟩:ByteArray).size=1:=rfl;unfold maxLen;omega
end
