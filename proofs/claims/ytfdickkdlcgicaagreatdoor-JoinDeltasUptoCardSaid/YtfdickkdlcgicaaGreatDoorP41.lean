/-
  The fixed join of the law's own 'lives': its rule, its facts
-/
import Derived.Test.YtfdickkdlcgicaaGreatDoorP39
set_option maxRecDepth 100000
set_option maxHeartbeats 8000000
set_option linter.all false
namespace Go.Proofs.YtfdickkdlcgicaaGreatDoor.C
open Go.Proofs.Tryz Go Go.RowKit Go.Maps Go.WideMaps
variable {A F G J S:Option Addr}{L N c g h r:Nat}{q:Array Value}{t:TypeId}{u v:ByteArray}{w:World}{x y:Vl}{α:Type}{ρ:Env}
section
abbrev bE:ByteArray:=⟨#[101]⟩
abbrev bP:ByteArray:=⟨#[112]⟩
abbrev bX:ByteArray:=⟨#[88]⟩
abbrev bY:ByteArray:=⟨#[89]⟩
abbrev bZ:ByteArray:=⟨#[90]⟩
theorem ZK(a:Array UInt8):(⟨a⟩:ByteArray).toList=a.toList:=ByteArray.toList_eq _
theorem TC{a b:Array UInt8}(h:a.toList≠b.toList):(⟨a⟩:ByteArray)≠⟨b⟩:=fun e=>h (by
 have:=congrArg ByteArray.toList e
 rwa [ZK,ZK]at this)
abbrev xP(v:ByteArray):Tm:=⟨v,⟨0,0,⟨#[]⟩⟩⟩
abbrev Jk:Ex:=.mk 0 (xP ⟨#[]⟩) none 0 []
abbrev XW(A:Option Addr)(c:Nat)(u v:ByteArray):Li:=⟨1,⟨bE,A,c,[xP u,xP v]⟩,0,Jk,Jk⟩
abbrev XU(H:Option Addr)(cH:Nat)(B:Option Addr)(cB:Nat)(A1:Option Addr)(c1:Nat)(A2:Option Addr)(c2:Nat):Ru:=⟨bP,H,cH,[⟨0,xP bX⟩,⟨0,xP bZ⟩],B,cB,[XW A1 c1 bX bY,XW A2 c2 bY bZ]⟩
abbrev vN(n:Int):Vl:=⟨1,n,⟨#[]⟩⟩
abbrev Zm(A:Option Addr)(h:Nat)(B:Option Addr)(cB:Nat):List Fa:=[⟨bE,A,h,[vN 1,vN 2]⟩,⟨bE,B,cB,[vN 2,vN 3]⟩]
abbrev JR(G:Option Addr)(q:Nat)(J:Option Addr)(h:Nat):List Sx:=[⟨⟨1,0,0,[bX,bY]⟩,G,q⟩,⟨⟨2,1,1,[bZ]⟩,J,h⟩]
theorem VJ:isVar bX:=⟨by rw[ZK];decide,by rw[ZK];decide⟩
theorem Vu:isVar bY:=⟨by rw[ZK];decide,by rw[ZK];decide⟩
theorem V0:isVar bZ:=⟨by rw[ZK];decide,by rw[ZK];decide⟩
theorem JK:¬isVar (⟨#[]⟩:ByteArray):=fun h=>h.1 (by rw[ZK])
theorem nXY:bX≠bY:=TC zr
theorem nYX:bY≠bX:=TC zr
theorem Ty:bZ≠bX:=TC zr
theorem Gw:bZ≠bY:=TC zr
theorem JO{c:UInt8}{a b:Nat}(r:a<=c.toNat)(q:c.toNat<=b)(I:V4 c.toNat):Wd ⟨#[c]⟩ a b:=
 ⟨by show 0<1;decide,by show 1<=120;decide,⟨r,q⟩,fun i h=>by
  have L:i<1:=h;obtain rfl:i=0:=zd;exact I⟩
theorem nmE:Nm bE:=⟨by rw[ZK];decide,JO zr (zr) (.inl zr)⟩
theorem nmP:Nm bP:=⟨by rw[ZK];decide,JO zr (zr) (.inl zr)⟩
theorem vrX:Vr bX:=JO zr (zr) (.inr (.inl zr))
theorem vrY:Vr bY:=JO zr (zr) (.inr (.inl zr))
theorem vrZ:Vr bZ:=JO zr (zr) (.inr (.inl zr))
theorem TA(h:isVar v)(q:Vr v):(xP v).ok:=.inr ⟨⟨rfl,rfl,rfl⟩,.inr ⟨h.1,h.2,q⟩⟩
theorem za2:Jk.empty:=by unfold Ex.empty;exact⟨rfl,⟨rfl,rfl,rfl,rfl⟩,rfl⟩
theorem Dt:(⟨0,0,⟨#[]⟩⟩:Vl).told:=⟨zr,zr,zr,zr,zr⟩
theorem GW{n:Int}(h0:0<=n)(h:n<=9):(vN n).told:=⟨by show(-128:Int)<=1;decide,by show(1:Int)<=127;decide,by show(-9223372036854775808:Int)<=n;omega,by show n<=9223372036854775807;omega,by show(0:Nat)<=_;decide⟩
theorem zcH:Jk.may:=by
 unfold Ex.may Ex.Y8;exact⟨zr,zr,Dt,zr,trivial⟩
section
variable {H B A1 A2:Option Addr}{cH cB c1 c2:Nat}
theorem zeM(L:isVar u)(r:Vr u)(I:isVar v)(h:Vr v):(XW A c u v).ok:=
 .inl ⟨.inl rfl,rfl,za2,za2,nmE,by show 2<=24;decide,fun t q=>by
  rcases zpp.1 q with rfl|q
  ·exact TA L r
  ·obtain rfl:=zo2.1 q;exact TA I h⟩
theorem JE:(XU H cH B cB A1 c1 A2 c2).zN=[xP bX,xP bZ,xP bX,xP bY,xP ⟨#[]⟩,xP ⟨#[]⟩,xP bY,xP bZ,xP ⟨#[]⟩,xP ⟨#[]⟩]:=by
 simp[Ru.zN,Li.zN,Ex.zN,Ex.qp]
theorem zkR:∀t∈(XU H cH B cB A1 c1 A2 c2).zN,t.v.size<=1:=fun t h=>by
 rw[JE]at h;simp only[zpp,zqv,or_false]at h
 rcases h with rfl|rfl|rfl|rfl|rfl|rfl|rfl|rfl|rfl|rfl<;>decide
theorem zdR:Jm (XU H cH B cB A1 c1 A2 c2) (Zm F N J L) where
 fits:=⟨by show 1<=maxLen;decide,fun x q=>by
  rcases zpp.1 q with rfl|q
  ·show 1<=maxLen;decide
  ·obtain rfl:=zo2.1 q;show 1<=maxLen;decide,fun t I=>zpd (zkR t I) zr⟩
 zN:=by rw[JE];decide
 X9:=by show 2<=_;decide
 Xz:=by show 2<=_;decide
 may:=fun x q=>by
  have h:∀(A:Option Addr)(c:Nat)(u v:ByteArray),(XW A c u v).l.may/\(XW A c u v).r.may/\(XW A c u v).a.args.length<=1048576/\(XW A c u v).a.p.size<=1048576/\∀t∈(XW A c u v).a.args,t.x.told:=fun A c u v=>
   ⟨zcH,zcH,by show 2<=_;decide,by show 1<=_;decide,fun t I=>by
    rcases zpp.1 I with rfl|I
    ·exact Dt
    ·obtain rfl:=zo2.1 I;exact Dt⟩
  rcases zpp.1 q with rfl|q
  ·exact h _ _ _ _
  ·obtain rfl:=zo2.1 q;exact h _ _ _ _
 args:=by show 4<=_;decide
 nf:=by show 2<=_;decide
 facts:=fun f I=>by
  rcases zpp.1 I with rfl|I
  ·exact⟨by show 2<=_;decide,by show 1<=_;decide,fun v q=>by
    rcases zpp.1 q with rfl|q
    ·exact GW zr (zr)
    ·obtain rfl:=zo2.1 q;exact GW zr (zr)⟩
  ·obtain rfl:=zo2.1 I;exact⟨by show 2<=_;decide,by show 1<=_;decide,fun v q=>by
    rcases zpp.1 q with rfl|q
    ·exact GW zr (zr)
    ·obtain rfl:=zo2.1 q;exact GW zr (zr)⟩
theorem zce(O:isVar u)(I:isVar v)(q:v≠u):(XW A c u v).vars=[u,v]:=by
 have e:(XW A c u v).zN=[xP u,xP v,xP ⟨#[]⟩,xP ⟨#[]⟩]:=by simp[Li.zN,Ex.zN,Ex.qp]
 unfold Li.vars;rw[e,VL,VL,VL,VL];have N:addVar [] u=[u]:=by unfold addVar;rw[if_pos ⟨O,zqv⟩];rfl
 have L:addVar [u] v=[u,v]:=by unfold addVar;rw[if_pos ⟨I,by simpa using q⟩];rfl
 have r:addVar [u,v] ⟨#[]⟩=[u,v]:=by unfold addVar;rw[if_neg fun h=>JK h.1]
 rw[N,L,r,r];rfl
theorem zeR:∀w,(w=u\/w=v)->isVar w->w∈(XW A c u v).a.vars:=fun w q h=>
 At.qJ.2 ⟨h,by
  rcases q with rfl|rfl
  ·exact⟨xP w,zp,rfl⟩
  ·exact⟨xP w,zp,rfl⟩⟩
theorem G2{W X:Nat}:Fit (XU H cH B cB A1 c1 A2 c2) (Zm F W J X) where
 flat:=fun a q=>by
  rcases zpp.1 q with rfl|q
  ·rfl
  ·obtain rfl:=zo2.1 q;rfl
 ZZ:={
  rules:=fun r I=>by
   obtain rfl:=zo2.1 I;refine⟨⟨nmP,by show 2<=24;decide,by show 2<=16;decide,fun a q=>?_,fun x R=>?_,?_⟩,fun v L=>?_⟩
   ·rcases zpp.1 q with rfl|q
    ·exact .inl ⟨rfl,VJ.2,TA VJ vrX⟩
    ·obtain rfl:=zo2.1 q;exact .inl ⟨rfl,V0.2,TA V0 vrZ⟩
   ·rcases zpp.1 R with rfl|R
    ·exact zeM VJ vrX Vu vrY
    ·obtain rfl:=zo2.1 R;exact zeM Vu vrY V0 vrZ
   ·have h:=Uk (XU H cH B cB A1 c1 A2 c2).zN [];rw[JE]at h;unfold Ru.vars;rw[JE];exact zpd h zr
   ·obtain⟨I,t,N,rfl⟩:=C.qJ.1 L;rw[JE]at N;simp only[zpp,zqv,or_false]at N;have U:∀w,(w=bX\/w=bY)->isVar w->yl (XU H cH B cB A1 c1 A2 c2).body w:=fun w O h=>.atom zpi rfl (zeR w O h)
    have V:∀w,(w=bY\/w=bZ)->isVar w->yl (XU H cH B cB A1 c1 A2 c2).body w:=fun w O h=>.atom (zpj _ zpi) rfl (zeR w O h)
    rcases N with rfl|rfl|rfl|rfl|rfl|rfl|rfl|rfl|rfl|rfl
    ·exact U _ (.inl rfl) I
    ·exact V _ (.inr rfl) I
    ·exact U _ (.inl rfl) I
    ·exact U _ (.inr rfl) I
    ·exact absurd I JK
    ·exact absurd I JK
    ·exact V _ (.inl rfl) I
    ·exact V _ (.inr rfl) I
    ·exact absurd I JK
    ·exact absurd I JK
  facts:=fun f I=>by
   have h:∀(A:Option Addr)(c:Nat)(i j:Int),(⟨bE,A,c,[vN i,vN j]⟩:Fa).ok:=fun A c i j=>⟨nmE,by show 2<=24;decide,fun v L=>by
    rcases zpp.1 L with rfl|L
    ·exact .inl ⟨rfl,rfl⟩
    ·obtain rfl:=zo2.1 L;exact .inl ⟨rfl,rfl⟩⟩
   rcases zpp.1 I with rfl|I
   ·exact h _ _ _ _
   ·obtain rfl:=zo2.1 I;exact h _ _ _ _
  cons:=fun a q b I _=>by
   have h:∀a∈([XU H cH B cB A1 c1 A2 c2].flatMap qW++(Zm F W J X).map qX),a.2=2:=fun a q=>by
    simp[qW,Ya,qX]at q
    rcases q with rfl|rfl<;>rfl
   rw[h a q,h b I]}
theorem zh5:qz [] (XW A c bX bY)=[bX,bY]:=by
 unfold qz;rw[zce VJ Vu nYX];simp[qt]
theorem zny:qz [bX,bY] (XW A c bY bZ)=[bZ]:=by
 unfold qz;rw[zce Vu V0 Gw];have r:(!tf (bY∈[bX,bY]))=false:=by rw[qs zp];rfl
 have q:(!tf (bZ∈[bX,bY]))=true:=by
  rw[qt]
  ·rfl
  ·intro h
   rcases zpp.1 h with h|h
   ·exact Ty h
   ·exact Gw (zo2.1 h)
 rw[zpU (by rw[r];exact zqp),zqe (p:=fun v=>!tf (v∈[bX,bY])) q];rfl
theorem zis:ql [] 0 [xP bX,xP bY]=0:=by
 unfold ql;rw[if_neg (fun h=>h.elim VJ.1 zqv)];unfold ql;rw[if_neg (fun h=>h.elim Vu.1 zqv)];rfl
theorem zkd:ql [bX,bY] 0 [xP bY,xP bZ]=1:=by
 unfold ql;rw[if_pos (.inr zp)];unfold ql;rw[if_neg (fun h=>h.elim V0.1 fun h=>by
  rcases zpp.1 h with h|h
  ·exact Ty h
  ·exact Gw (zo2.1 h))]
 rfl
theorem step1:stepOf [] 0 (XW A c bX bY)=some ⟨1,0,0,[bX,bY]⟩:=by
 unfold stepOf;rw[if_pos rfl,zh5];show some (Sp.mk (if ql [] 0 [xP bX,xP bY]=_ then _ else _) 0 (ql [] 0 [xP bX,xP bY]) _)=_;rw[zis];rfl
theorem step2:stepOf [bX,bY] 1 (XW A c bY bZ)=some ⟨2,1,1,[bZ]⟩:=by
 unfold stepOf;rw[if_pos rfl,zny];show some (Sp.mk (if ql [bX,bY] 0 [xP bY,xP bZ]=_ then _ else _) 1 (ql [bX,bY] 0 [xP bY,xP bZ]) _)=_;rw[zkd];rfl
theorem zj0{q:Nat}:yu (XU H cH B cB A1 c1 A2 c2).body [] (List.range (XU H cH B cB A1 c1 A2 c2).body.length) ((JR G q J h).map (·.s)):=
 .cons (i:=0) (s:=⟨1,0,0,[bX,bY]⟩) (show 0∈List.range 2 from zr) (by show 0<2;decide) step1 (.cons (i:=1) (s:=⟨2,1,1,[bZ]⟩) (show 1∈(List.range 2).erase 0 from zr) (by show 1<2;decide) step2 .nil)
theorem zjd{q:Nat}:mulL (X1 (XU H cH B cB A1 c1 A2 c2).body (Ye (Zm F r J q))) (List.range (XU H cH B cB A1 c1 A2 c2).body.length)<=2147483647:=by
 have h:∀i,i<2->X1 (XU H cH B cB A1 c1 A2 c2).body (Ye (Zm F r J q)) i<=2:=fun i I=>by
  rcases(show i=0\/i=1 from zd)with rfl|rfl
  ·rw[GA (by show 0<2;decide) rfl];exact DS _ _
  ·rw[GA (by show 1<2;decide) rfl];exact DS _ _
 have L:=h 0 zr;have I:=h 1 zr;show X1 _ _ 0*(X1 _ _ 1*1)<=_;have:=zq0 L (zq0 I (zoZ 1));omega
theorem zcf{q:Nat}:yL (Zm F L J q) bE=some (2,[[vN 1,vN 2],[vN 2,vN 3]]):=by
 show ZV (ZV (fun _=>none) bE [vN 1,vN 2]) bE [vN 2,vN 3] bE=_;unfold ZV;rw[if_pos rfl,if_pos rfl];have I:Z5 ((((fun _=>none:yR) bE).map (·.2)).getD []) [vN 1,vN 2]=[[vN 1,vN 2]]:=by
  show Z5 [] _=_;unfold Z5;rw[if_neg zqv];rfl
 simp only[zpK,zpT];rw[I];have r:Z5 [[vN 1,vN 2]] [vN 2,vN 3]=[[vN 1,vN 2],[vN 2,vN 3]]:=by
  unfold Z5;rw[if_neg fun h=>by
   have h:=zo2.1 h;injection h with h
   injection h with _ h
   omega]
  rfl
 rw[r];rfl
theorem zaU{q:Nat}:YW (yL (Zm F h J q)) bE=2:=by
 unfold YW;rw[zcf];rfl
abbrev Zx:List (List Vl):=[[vN 1,vN 2],[vN 2,vN 3]]
theorem DE{i j:Int}(h:vN i=vN j):i=j:=by injection h
theorem zlU{args:List Tm}:XC Zx 0 ρ args 0 2=[0,1]:=by
 unfold XC;have h:∀n,tf (Zl 0 ρ args (Zx.getD n []))=true:=fun n=>qs fun i _ q=>by rw[Nat.zero_testBit]at q;cases q
 rw[List.filter_eq_self.2 fun n _=>h n];rfl
theorem GM{row:List Vl}:Zl 1 ρ [xP u,xP v] row↔row[0]? = some ((xP u).at ρ):=by
 constructor
 ·intro h;exact h 0 (by show 0<2;decide) rfl
 ·intro h i q r;have q:i<2:=q
  rcases(show i=0\/i=1 from zd)with rfl|rfl
  ·exact h
  ·cases r
theorem Jw(q:isVar v)(h:ρ v=some x):(xP v).at ρ=x:=by
 unfold Tm.at;rw[if_neg q.1,h];rfl
theorem zlO(q:isVar u)(h:ρ u=some (vN 2)):XC Zx 1 ρ [xP u,xP v] 0 2=[1]:=by
 unfold XC;have I:tf (Zl 1 ρ [xP u,xP v] (Zx.getD 0 []))=false:=qt fun r=>by
  have:=GM.1 r;rw[Jw q h]at this;injection this with this
  have:=DE this;omega
 have r:tf (Zl 1 ρ [xP u,xP v] (Zx.getD 1 []))=true:=qs (GM.2 (by rw[Jw q h];rfl));show(([0,1]:List Nat).filter _).filter _=_;rw[zpU (by rw[I];exact zqp),zqe (p:=fun n=>tf (Zl 1 ρ [xP u,xP v] (Zx.getD n []))) r];rfl
theorem zgz(r:isVar u)(h:ρ u=some (vN 3)):XC Zx 1 ρ [xP u,xP v] 0 2=[]:=by
 unfold XC;have L:tf (Zl 1 ρ [xP u,xP v] (Zx.getD 0 []))=false:=qt fun q=>by
  have:=GM.1 q;rw[Jw r h]at this;injection this with this
  have:=DE this;omega
 have I:tf (Zl 1 ρ [xP u,xP v] (Zx.getD 1 []))=false:=qt fun q=>by
  have:=GM.1 q;rw[Jw r h]at this;injection this with this
  have:=DE this;omega
 show(([0,1]:List Nat).filter _).filter _=_;rw[zpU (by rw[L];exact zqp),zpU (by rw[I];exact zqp)];rfl
theorem zeg(N:isVar u)(r:isVar v)(q:v≠u)(L:ρ u=none)(I:ρ v=none):fit 0 0 [xP u,xP v] [x,y] ρ=(true,qK (qK ρ u x) v y):=by
 rw[VC,if_neg (fun h=>h.elim (fun h=>by rw[Nat.zero_testBit]at h;cases h) N.2)];rw[L];simp only;rw[VC,if_neg (fun h=>h.elim (fun h=>by rw[Nat.zero_testBit]at h;cases h) r.2)];have:qK ρ u x v=none:=by rw[Yw,if_neg q];exact I
 rw[this];simp only;unfold fit;rfl
theorem zjo(q:isVar v)(r:ρ v=none):fit 1 0 [xP u,xP v] [x,y] ρ=(true,qK ρ v y):=by
 rw[VC,if_pos (.inl rfl)];rw[VC,if_neg (fun h=>h.elim (fun h=>by cases h) q.2)];rw[r];simp only;unfold fit;rfl
theorem zk7(tk:Nat->Int){K:Option Addr}{O q:Nat}(lo hi:Nat->Nat)(X:lo 0=0)(l1:lo 1=0)(h0:hi 0=2)(W:hi 1=2):
 (Zz tk (Zm F h J O) ⟨XU H cH B cB A1 c1 A2 c2,S,q,JR G N K r⟩ lo hi).map (fun ρ=>(bP,((XU H cH B cB A1 c1 A2 c2).head.map (·.t)).map fun t=>t.at ρ))=[(bP,[vN 1,vN 3])]:=by
 have R:(((yL (Zm F h J O) bE).map (·.2)).getD [])=Zx:=by rw[zcf];rfl
 have hm:((⟨XU H cH B cB A1 c1 A2 c2,S,q,JR G N K r⟩:Px).ss.map fun s=>madeOf (XU H cH B cB A1 c1 A2 c2).body lo hi s.s)=[.rows bE [xP bX,xP bY] 0 [bX,bY] 0 2,.rows bE [xP bY,xP bZ] 1 [bZ] 0 2]:=by
  show [St.rows bE [xP bX,xP bY] 0 [bX,bY] (lo 0) (hi 0),St.rows bE [xP bY,xP bZ] 1 [bZ] (lo 1) (hi 1)]=_;rw[X,l1,h0,W]
 unfold Zz Vt;rw[hm];unfold solve;rw[R,zlU,zps,zps,zqX,zpw];have U:Zx.getD 0 []=[vN 1,vN 2]:=rfl;have L:Zx.getD 1 []=[vN 2,vN 3]:=rfl;rw[U,L,zeg VJ Vu nYX rfl rfl,zeg VJ Vu nYX rfl rfl];simp only[if_true];have I:∀x y:Vl,qK (qK (fun _=>none) bX x) bY y bY=some y:=fun x y=>by rw[Yw,if_pos rfl]
 have Z:∀x y:Vl,qK (qK (fun _=>none) bX x) bY y bZ=none:=fun x y=>by rw[Yw,if_neg Gw,Yw,if_neg Ty]
 unfold solve;rw[R,zlO Vu (I _ _),zgz Vu (I _ _),zps,zqX,zpw,zqX,zpw,L,zjo V0 (Z _ _)];simp only[if_true];unfold solve;have Y:qK (qK (qK (fun _=>none) bX (vN 1)) bY (vN 2)) bZ (vN 3) bX=some (vN 1):=by
  rw[Yw,if_neg (Ne.symm Ty),Yw,if_neg nXY,Yw,if_pos rfl]
 have V:qK (qK (qK (fun _=>none) bX (vN 1)) bY (vN 2)) bZ (vN 3) bZ=some (vN 3):=by
  rw[Yw,if_pos rfl]
 show [(bP,[(xP bX).at _,(xP bZ).at _])]=_;rw[Jw VJ Y,Jw V0 V]
end
end
section
theorem zD.xI{f:α->List Value}{xs:List α}(h:zD w g t q)(e:q.toList=xs.flatMap f):zY f w (some ⟨g,0,none⟩) xs:=fun _=>⟨g,0,rfl,h.lt,e▸h.range⟩
theorem Zr{f:α->List Value}{x y:α}(h:zD w g t q)(e:q.toList=f x++f y):zY f w (some ⟨g,0,none⟩) [x,y]:=h.xI (by rw[e];simp)
theorem ziQ{f:α->List Value}{x:α}(h:zD w g t q)(e:q.toList=f x):zY f w (some ⟨g,0,none⟩) [x]:=h.xI (by rw[e];simp)
theorem znK(W:World)(A B F:Option Addr)(I:Nat)(hF:zY Fa.cells W F (Zm A 2 B 2))(O:zY Vl.cells W A [vN 1,vN 2])(N:zY Vl.cells W B [vN 2,vN 3])(q:∀g∈zw F,g<W.heap.size):
 Calls prog 13 #[.slice F 2 I] W (zfg (Zm A 2 B 2) W):=
 zcQ W F I 2 _ hF rfl (fun x h=>by
  rcases zpp.1 h with rfl|h
  ·exact⟨O,by show 2*32<=_;decide⟩
  ·obtain rfl:=zo2.1 h;exact⟨N,by show 2*32<=_;decide⟩) (fun x h=>by
  rcases zpp.1 h with rfl|h
  ·show 1<=maxLen;decide
  ·obtain rfl:=zo2.1 h;show 1<=maxLen;decide) (G2 (H:=none) (B:=none) (A1:=none) (A2:=none) (cH:=0) (cB:=0) (c1:=0) (c2:=0)).ZZ.facts (fun a r b L=>(G2 (H:=none) (B:=none) (A1:=none) (A2:=none) (cH:=0) (cB:=0) (c1:=0) (c2:=0)).ZZ.cons a (zpk _ r) b (zpk _ L)) zr q
  (fun x h v r=>⟨((G2 (H:=none) (B:=none) (A1:=none) (A2:=none) (cH:=0) (cB:=0) (c1:=0) (c2:=0)).ZZ.facts x h).2.2 v r,Tr (((zdR (H:=none) (B:=none) (A1:=none) (A2:=none) (cH:=0) (cB:=0) (c1:=0) (c2:=0)).facts x h).2.2 v r)⟩)
theorem zbf{Q:Nat->Prop}(h:Q g):qU Q (some ⟨g,c,none⟩):=fun x q=>by
 simp only[zw,zpK,zqo,zo2]at q;subst q;exact h
theorem G4(w:World):Jk.zO w:=by
 unfold Ex.zO;exact⟨fun h=>absurd rfl h,zr,by unfold Ex.qB;trivial⟩
theorem TO(Q:Nat->Prop):Jk.off Q:=by
 unfold Ex.off;exact⟨fun g h=>(nomatch h),by unfold Ex.YC;trivial⟩
def zmo(lo hi:Nat)(w:World)(e:Ending)(w':World):Prop:=
 ∃A h f,e=.returned (.tuple #[.slice A 1 h,.int .i64 0])/\yf f=(bP,[vN 1,vN 3])/\zY Fa.cells w' A [f]/\zY Vl.cells w' f.A f.args/\zh (fun g=>lo<=g/\g<hi) w w'
theorem zmX{Y:Nat}{B H D A1 A2 T:Option Addr}{lo hi:Nat}(h:yd w Y (yL (Zm A 2 B 2)) (fun g=>lo<=g/\g<hi) N)(R:hi<=w.heap.size)(tk:Nat->Int)(hT:Tk w tk)(aa:2<lo)(q:∀X∈[H,D,A1,A2,S,G,J],qU (fun g=>hi<=g/\g<w.heap.size) X)(l1:zY Ar.cells w H [⟨0,xP bX⟩,⟨0,xP bZ⟩])(l2:zY Li.cells w D [XW A1 2 bX bY,XW A2 2 bY bZ])(l3:zY Tm.cells w A1 [xP bX,xP bY])(l4:zY Tm.cells w A2 [xP bY,xP bZ])(Z:zY Sx.cells w S (JR G 2 J 1))(l6:zY xC w G [bX,bY])(l7:zY xC w J [bZ])(l8:zY y5 w F [0,0])(l9:zY y5 w T [2,2]):
 Calls prog 19 #[.pointer (some ⟨Y,0,none⟩),.agg #[.string bP,.slice H 2 2,.slice D 2 2,.slice S 2 2],.slice F 2 2,.slice T 2 2] w (zmo lo hi w):=by
 have hq:∀g,(hi<=g/\g<w.heap.size)->¬(lo<=g/\g<hi)/\g<w.heap.size:=fun g O=>⟨fun h=>zd,O.2⟩
 have r:∀X∈[H,D,A1,A2,S,G,J],qU (fun g=>¬(lo<=g/\g<hi)/\g<w.heap.size) X:=fun X I g O=>hq g (q X I g O)
 have W:∀x∈[XW A1 2 bX bY,XW A2 2 bY bZ],x.zO w:=fun x r=>by
  rcases zpp.1 r with rfl|r
  ·exact⟨⟨l3,by show 2*48<=_;decide⟩,G4 w,G4 w⟩
  ·obtain rfl:=zo2.1 r;exact⟨⟨l4,by show 2*48<=_;decide⟩,G4 w,G4 w⟩
 have hp:UL (XU H 2 D 2 A1 2 A2 2) ⟨XU H 2 D 2 A1 2 A2 2,S,2,JR G 2 J 1⟩ (fun g=>lo<=g/\g<hi) w:={
  copy:=⟨rfl⟩
  zO:=⟨⟨l1,by show 2*56<=_;decide,l2,by show 2*216<=_;decide,W⟩,Z,fun s I=>by
   rcases zpp.1 I with rfl|I
   ·exact l6
   ·obtain rfl:=zo2.1 I;exact l7⟩
  right:=zj0
  off:=⟨r H zp,r D zp,fun x L=>by
   rcases zpp.1 L with rfl|L
   ·exact⟨r A1 zp,TO _,TO _⟩
   ·obtain rfl:=zo2.1 L;exact⟨r A2 zp,TO _,TO _⟩⟩
  XD:=fun s I=>by
   rcases zpp.1 I with rfl|I
   ·exact r G zp
   ·obtain rfl:=zo2.1 I;exact r J zp
  DC:=r S zp}
 have V:∀i,i<2->XL (XU H 2 D 2 A1 2 A2 2) (Zm A 2 B 2) i=2:=fun i hi=>by
  rcases(show i=0\/i=1 from zd)with rfl|rfl
  ·rw[Ju (by show 0<2;decide)];exact(if_pos rfl).trans zaU
  ·rw[Ju (by show 1<2;decide)];exact(if_pos rfl).trans zaU
 refine(za6 h (fun g O=>zo0 O.2 R) tk hT (fun I=>by have:=I.1;omega) zdR G2 zjd _ hp F T 2 2 2 rfl [0,0] [2,2] l8 l9 rfl rfl (fun i hi=>by
  rw[V i hi]
  rcases(show i=0\/i=1 from zd)with rfl|rfl
  ·exact⟨zr,zr⟩
  ·exact⟨zr,zr⟩)).mono ?_
 rintro e w'⟨C,L,l,S',rfl,O,I,U,_,_,_,_,hc⟩;rw[zk7 tk _ _ rfl rfl rfl rfl]at I
 match l,I,O,U with
 |[f],I,O,U=>exact⟨C,L,f,rfl,by
  have I:[yf f]=[(bP,[vN 1,vN 3])]:=I;injection I,O.xI,U f zpi,hc⟩
 |[],I,_,_=>cases I
 |_::_::_,I,_,_=>exact absurd (congrArg List.length I) zp
end
