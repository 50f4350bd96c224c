/-
  What is worked out: a way is found (a rule without a head). 
-/
import Derived.Test.YtfdickkdlcgicaaGreatDoorP28
set_option maxRecDepth 100000
set_option maxHeartbeats 8000000
set_option linter.all false
namespace Go.Proofs.YtfdickkdlcgicaaGreatDoor.C
open Go.Proofs.Tryz Go Go.RowKit Go.Maps Go.WideMaps
variable {A:Option Addr}{D:Nat->Prop}{L:Int}{U cap nn no size:Nat}{c:Wc}{e:TypeId}{w w':World}{α:Type}
section
theorem zhi:qy prog 279 275 1 24:=qy.of (z:=.slice none 0 0) underlying279 zo rfl zr
theorem q9.zj7{no':Nat}(h:q9 c D L nn no w){O:Option Addr}(R:zD w c.ob 279 #[.slice O no U])(oo:Own US 275 1 w O U (List.replicate no ()))(oD:∀g∈zw O,D g)(Y:zh (fun g=>g=c.ob\/g∈zw O) w w'){g1 r:Nat}(hk:zD w' c.ob 279 #[.slice (some ⟨g1,0,none⟩) no' r])(ho:Own US 275 1 w' (some ⟨g1,0,none⟩) r (List.replicate no' ()))(ab:g1∈zw O\/w.heap.size<=g1):
 q9 c (more D w w') L nn no' w'/\xB D w w' (more D w w'):=by
 obtain⟨N,H,Z,aa,V,W,X⟩:=h.env;have hm:∀g,D g->more D w w' g:=fun g q=>.inl q
 have hQ:∀g,(g=c.ob\/g∈zw O)->D g:=fun g q=>by
  rcases q with rfl|q
  ·exact h.JN
  ·exact oD g q
 refine⟨⟨h.work.zC Y fun e=>?_,⟨N,H,Z,aa,V,W,X.qj Y (fun e=>?_) (fun g q e=>?_) (fun g q e=>?_) hm⟩,⟨_,r,hk,ho,xW ?_⟩,((h.facts.kept Y (fun g _ q hs=>q.1 (hQ g hs)) fun g q=>q.2).mono fun g q=>⟨fun hd=>?_,zo0 q.2 Y.size⟩),
  h.pw.zC Y fun e=>h.V3 (hQ _ e),hm _ h.Yt,hm _ h.ZC,hm _ h.JN,fun hd=>?_,fun g q=>?_,h.lo,h.hi⟩,Y.mono fun g q _=>hQ g q,fun g q=>q.imp id And.left⟩
 ·rcases e with e|e
  ·exact h.work.yD R zr e
  ·exact oo.yB h.work zr e
 ·rcases e with e|e
  ·exact X.zG.yD R zr e
  ·exact oo.yB X.zG zr e
 ·rcases e with e|e
  ·exact XN X.XI R zr g q e
  ·exact X.XI.ZL oo zr g q e
 ·rcases e with e|e
  ·exact XN X.xT R zr g q e
  ·exact X.xT.ZL oo zr g q e
 ·exact ab.elim (fun h=>.inl (oD g1 h)) fun h=>.inr ⟨h,ho.YR⟩
 ·rcases hd with I|I
  ·exact q.1 I
  ·omega
 ·rcases hd with I|I
  ·exact h.V3 I
  ·have:=h.pw.lt;omega
 ·rcases q with I|I
  ·exact zo0 (h.lt g I) Y.size
  ·exact I.2
structure U7 (c:Wc) (D:Nat->Prop) (w:World) (b0 b1 b3:Nat) (p:ByteArray) (B:Option Addr) (nb zM:Nat):Prop where
 k0:zD w b0 270 #[.pointer (some ⟨c.wb,0,none⟩)]
 k1:zD w b1 25 #[.string p,.slice none 0 0,.slice B nb zM]
 k3:zD w b3 4 #[.bool false]
 d0:¬D b0
 d1:¬D b1
 d3:¬D b3
theorem U7.after{O:Nat->Prop}{N L I:Nat}{p:ByteArray}{B:Option Addr}{zM:Nat}(h:U7 c D w N L I p B U zM)(q:xB D w w' O):U7 c O w' N L I p B U zM:=
 ⟨h.k0.zC q.1 h.d0,h.k1.zC q.1 h.d1,h.k3.zC q.1 h.d3,fun r=>(q.2 _ r).elim h.d0 fun R=>by have:=h.k0.lt;omega,fun r=>(q.2 _ r).elim h.d1 fun R=>by have:=h.k1.lt;omega,fun r=>(q.2 _ r).elim h.d3 fun R=>by have:=h.k3.lt;omega⟩
def zgp(c:Wc)(D:Nat->Prop)(L:Int)(I no:Nat)(w:World)(e:Ending)(w':World):Prop:=
 ∃(q:Int) (h:Nat) (r:Nat->Prop),e=.returned (.tuple #[])/\q9 c r q I h w'/\xB D w w' r/\q<=L-1/\min L 0-1<=q/\no<=h/\(h:Int)+q<=no+L
theorem zl4(h:q9 c D L nn no w)(ap:no<=4194303)(ar:-549755000000<=L)(b0 b1 b2 b3 b4:Nat)(p:ByteArray)(B:Option Addr)(nb zM:Nat)(V:U7 c D w b0 b1 b3 p B nb zM):
 Calls prog 208 #[.pointer (some ⟨b0,0,none⟩),.pointer (some ⟨b1,0,none⟩),.pointer (some ⟨b2,0,none⟩),.pointer (some ⟨b3,0,none⟩),.pointer (some ⟨b4,0,none⟩),.pointer (some ⟨c.ob,0,none⟩)] w (zgp c D L nn no w):=by
 have HW:=zz h;have Hc:=zz V;have au:=h.lo;have aq:=h.hi;have ag:=zz (show ∀W,zh (·=c.wb) w W->W.cell? ⟨b0,0,none⟩=some (.pointer (some ⟨c.wb,0,none⟩))/\W.cell? ⟨b1,1,none⟩=some (.slice none 0 0)from fun W q=>⟨(V.k0.zC q (fun e=>V.d0 (e▸h.Yt))).cell 0,(V.k1.zC q (fun e=>V.d1 (e▸h.Yt))).cell 1⟩);have af:Kz (∀W:World,W.heap[c.wb]? = w.heap[c.wb]?->W.cell? ⟨c.wb,0,none⟩=some (.int .i64 L)/\-1099511627776<=L/\L<=1099511627776):=fun W q=>⟨(h.work.same q).cell 0,h.lo,h.hi⟩
 clear h V;go_enter func208,ntmps208;go_upto_region 0 with fail
 refine XH [1,1,0,0,1,0,0,1,0,0,0,0,0,3] 13 (fun W=>zh (·=c.wb) w W) (fun W=>W.heap[c.wb]? = w.heap[c.wb]?) ?s0 ?s1 ?_
 case s0=>exact yj
 case s1=>rfl
 try refine zQ ?_
 repeat refine xK ag.o af.o ?_
 refine y7 zj (fun K q=>?_);refine Xq 3 _ _ rfl c.wb 0 _ _ (HW.o.work.drew) (.int .i64 (IntKind.i64.wrap (IntKind.i64.wrap (L-1)-IntKind.i64.wrap 0))) rfl rfl zp (zo) rfl ?_;rw[wrap_i64 (k:=0) zr (zr),wrap_i64 (k:=L-1) zd (zd),wrap_i64 (k:=L-1-0) zd (zd),show L-1-0=L-1 from zd];intro W1 N;have r:zh (·=c.wb) w W1:=(zh.refl _ w).drew.trans N.zC (fun x R _=>R);refine q.out _ _ r ?_;clear q K;try refine zQ ?_
 repeat refine xK ag.o af.o ?_
 refine xu ?_;have q:=zz (HW.o.ZU r (L':=L-1) (by have:=N.zG;simpa using this) zd (zd));have I:=zz (show xB D w W1 D from⟨r.mono fun g U _=>U▸HW.o.Yt,fun g U=>.inl U⟩);have U:=zz (Hc.o.after I.o);clear N r;have k0:=U.o.k0.cell 0;have w0:=q.o.work.cell 0
 by_cases ao:L-1<0
 ·go_wp2;go_end0;exact⟨L-1,no,D,rfl,q.o,I.o,zd,zd,zoZ _,zd⟩
 ·have k1:=U.o.k1.cell 1;have k3:=U.o.k3.cell 0;go_wp2
  go_loopg[6,7] 0 (fun gk r N X=>N=.int .i64 0/\r=.slice none 0 0/\X=W1)
  case atStart=>exact⟨rfl,rfl,rfl⟩
  case round=>
   obtain⟨rfl,rfl,rfl⟩:=hrel;obtain⟨O,an,r,Y,Z⟩:=q.o.out;have o0:=r.cell 0;have ab:=zz r;have N:=zz Y;have al:=zz Z;have X:=zz (Y.yB r zr);have am:=r.lt;clear r Y Z
   go_wp2_with (first
    |(at_builtin;refine ZG zhi (f:=US) (xs:=List.replicate no ()) (N.o.alloc _) (zqm) () ?_;intro g1 aa w5 Z Y ah;have ac:=zz (show zh (·∈zw O) wr w5 from((zh.refl _ wr).alloc _).trans Y (fun x R _=>R));have ai:=zz Z;have ad:Kz (g1∈zw O\/wr.heap.size<=g1):=ah.imp id (fun h=>by simp at h;omega);have aj:=zz (ab.o.zC ac.o X.o);clear Z Y ah o0)
    |(refine xy 279 _ _ rfl ?_;refine Xf zj 279 _ _ rfl c.ob 0 _ _ aj.o (.slice (some ⟨g1,0,none⟩) (no+1) aa) rfl rfl zp (zo) rfl ?_;intro W6 ae;have r:=zz ae;clear ae))
   go_end0;have ak:zh (fun g=>g=c.ob\/g∈zw O) wr W6:=(ac.o.mono (S':=fun g=>g=c.ob\/g∈zw O) fun x R _=>.inr R).trans r.o.zC (fun x R _=>.inl R);have R:=q.o.zj7 ab.o N.o al.o ak (no':=no+1) (by have:=r.o.zG;simpa using this) (r.o.own (by have:=ai.o;rw[show List.replicate no ()++[()]=List.replicate (no+1) ()from by rw[List.replicate_succ']]at this;exact this) (xW (fun e=>by
    rcases ad.o with h|h
    ·exact X.o (e▸h)
    ·omega))) ad.o
   exact⟨L-1,no+1,_,rfl,R.1,I.o.trans R.2,zd,zd,zqa _,zd⟩
theorem Own.take{f:α->List Value}{xs:List α}(L:∀x,(f x).length=size)(h:Own f e size w A cap xs)(n:Nat)(I:n<=xs.length):Own f e size w A cap (xs.take n):=by
 have N:(xs.take n).length=n:=by rw[zpv];omega
 have r:(xs.take n).flatMap f=(xs.flatMap f).take (n*size):=by
  clear h N
  induction xs generalizing n with
  |nil=>simp
  |cons x xs q=>
   cases n with
   |zero=>simp
   |succ n=>
    rw[List.take_succ_cons,zps,zps,q n (by simpa using I),zqS,Nat.add_comm,List.take_append,L x];rw[show size+n*size-size=n*size from zd,zpm (l:=f x) (by rw[L x];omega)]
 unfold Own at h ⊢;rw[N,r];obtain⟨U,O⟩:=h;refine⟨by rw[zpv,U];exact Nat.min_eq_left (zp9 _ I),?_⟩
 rcases O with⟨e1,e2⟩ |⟨g,c,q,e1,X,R,Z,Y,V,W⟩
 ·injection e1 with e3 e4 e5
  subst e3 e5;have:n=0:=zd;subst this;exact .inl ⟨rfl,rfl⟩
 ·injection e1 with e3 e4 e5
  subst e3 e5;refine .inr ⟨g,cap,q,rfl,X,R,zd,Y,V,?_⟩;rw[<-W,List.take_take,Nat.min_eq_left (zp9 _ I)]
theorem Own.UM{f:α->List Value}{xs:List α}(h:Own f e size w A cap xs):xs.length<=cap:=by
 rcases h.form with⟨_,_,r⟩ |⟨g,_,_,q,_⟩
 ·rw[r];exact zo5 _
 ·exact q
theorem q9.TZ{Y n:Nat}(h:q9 c D L Y no w){N H:Option Addr}{V:Nat}{r:List ByteArray}{R:List Th}(q:Jj c D Y w N H U V r R)(Z:n<=Y)(X:zh (·=c.eb) w w')(hk:zD w' c.eb 352 #[.pointer (some ⟨c.wb,0,none⟩),.slice N n U,.slice H n V]):q9 c (more D w w') L n no w'/\xB D w w' (more D w w'):=by
 have hN:=XN q.XI q.zG zr;have hH:=XN q.xT q.zG zr;refine⟨h.yi X (fun g I=>?_) (fun g=>Iff.rfl) ⟨N,H,U,V,r.take n,R.take n,hk,by rw[zpv,q.ZQ];omega,Own.take (f:=xC) (fun _=>rfl) (q.XI.zC X hN) n (by rw[q.ZQ];exact Z),by rw[zpv,q.hlen];omega,Own.take (f:=Th.cells) (fun _=>rfl) (q.xT.zC X hH) n (by rw[q.hlen];exact Z),
  fun x W=>q.qL x (zqr W),fun g I=>.inl (q.nD g I),fun g I=>.inl (q.hD g I)⟩,X.mono fun g I _=>I▸h.ZC,fun g I=>I.imp id And.left⟩
 subst I;exact⟨h.ZC,q.zG.yD h.work zr,by obtain⟨O,W,o1,_⟩:=h.out;exact q.zG.yD o1 zr,fun O W ho I=>ho.yB q.zG zr I⟩
def YV:List Li->Nat
 |[]=>0
 |x::l=>x.a.args.length+YV l
theorem zcg(l:List Li)(i:Nat)(h:i<l.length):YV (l.drop i)=l[i].a.args.length+YV (l.drop (i+1)):=by
 rw[zpC h];rfl
theorem zkI(l:List Li)(i j:Nat)(h:i<=j):YV (l.drop j)<=YV (l.drop i):=by
 induction j with
 |zero=>
  obtain rfl:i=0:=zd;exact zoZ _
 |succ j r=>
  by_cases e:i=j+1
  ·rw[e];exact zoZ _
  ·refine zpd ?_ (r zd)
   by_cases q:j<l.length
   ·rw[zcg l j q];omega
   ·rw[zpE zd,zpE zd];exact zoZ _
def zj1(c:Wc)(D:Nat->Prop)(L:Int)(I no d:Nat)(w:World)(e:Ending)(w':World):Prop:=
 ∃(q:Int) (h:Nat) (r:Nat->Prop),e=.returned (.tuple #[])/\q9 c r q I h w'/\xB D w w' r/\q<=L/\-((d:Int)*66000+300)<=q/\no<=h/\(h:Int)+q<=no+L
theorem ZO.VT{Q:Nat->Prop}{R:Nat}(h:ZO Q w R)(p:ByteArray)(m:Nat)(Z:(ye p m).size<=maxLen):∃(A:Option Addr) (I:Nat) (L:List Rt),(∀W,Bl w W->(Instr.lookup 271 (.map (some R)) (.string (ye p m)) false).run prog W=.ok (.slice A L.length I) W)/\
 L.length<=4194304/\zY Rt.cells w A L/\qU Q A/\∀r∈L,r.l.length=m/\zY Th.cells w r.A r.l/\qU Q r.A/\∀x∈r.l,x.qL:=by
 obtain⟨f,V,h2,Y⟩:=h;have q:=fun W (N:Bl w W)=>(V.below N).look qT underlying271 (z:=.slice none 0 0) zo (qY Z) false
 simp only[zp1,if_false]at q
 rcases hf:f (.string (ye p m))with _|v
 ·refine⟨none,0,[],fun W N=>?_,zr,fun O=>absurd rfl O,(fun g U=>nomatch U),(fun r X=>nomatch X)⟩;rw[q W N,hf];rfl
 ·obtain⟨A,I,L,rfl,O⟩:=Y p m v hf;exact⟨A,I,L,fun W N=>by rw[q W N,hf];rfl,O⟩
theorem zfp(p:ByteArray)(n:Nat)(I:n<=1048576)(h:p.size<=1048576):(ye p n).size<=maxLen:=by
 have r:=Lib.itoa_length_le (n:Int) zd (zd);unfold ye;simp only[zp5];have e1:(⟨(Lib.itoa (n:Int)).toArray⟩:ByteArray).size=(Lib.itoa (n:Int)).length:=by simp[ByteArray.size]
 have q:(⟨#[47]⟩:ByteArray).size=1:=rfl;unfold maxLen;omega
end
