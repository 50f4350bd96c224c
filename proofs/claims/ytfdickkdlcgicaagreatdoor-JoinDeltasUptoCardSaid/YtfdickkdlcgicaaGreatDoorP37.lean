/-
  A run: the atoms that a body asks for. A run: spans that are
-/
import Derived.Test.YtfdickkdlcgicaaGreatDoorP36
import Derived.Maps.RangeWalk
set_option maxRecDepth 100000
set_option maxHeartbeats 8000000
set_option linter.all false
namespace Go.Proofs.YtfdickkdlcgicaaGreatDoor.C
open Go.Proofs.Tryz Go Go.RowKit Go.Maps Go.WideMaps
variable {A:Option Addr}{G:yR}{L N wb:Nat}{S:Nat->Prop}{c:Cx}{h:At}{n:Int}{w w':World}
section
theorem zaR:qy prog 136 38 2 40:=qy.of (z:=.agg #[.string ⟨#[]⟩,.slice none 0 0]) underlying136 zo rfl zr
def Yq(body:List Li):List At:=(body.filter fun x=>x.k != 3).map (·.a)
theorem zhz(body:List Li)(i:Nat)(h:i<body.length):Yq (body.take (i+1))=Yq (body.take i)++(if body[i].k=3 then []else [body[i].a]):=by
 unfold Yq;rw[zo4 h,zqN,zpt]
 congr 1
 by_cases q:body[i].k=3
 ·rw[if_pos q,zpU (by simp[q])];rfl
 ·rw[if_neg q,zqe (by simpa using q)];rfl
theorem zhU(body:List Li):(Yq body).length<=body.length:=by
 unfold Yq;rw[zph];exact zql _ _
theorem zmL(w:World)(B:Option Addr)(zM U:Nat)(body:List Li)(hB:zY Li.cells w B body)(hn:body.length=U)(ao:U<=1048576):Calls prog 56 #[.slice B U zM] w (Xo At.cells 38 2 (Yq body) w):=by
 have ak:=zz hB;have Hn:=zz hn;clear hB hn;go_enter func56,ntmps56;go_wp2
 go_loopg[3,5,8] U (fun gk I N r q=>∃(i:Nat) (A:Option Addr) (n L:Nat) (ys:List At),i<=U/\gk=U-i/\r=.int .i64 (i:Int)/\I=.slice A n L/\ys.length=n/\n<=i/\ys=Yq (body.take i)/\Own At.cells 38 2 q A L ys/\(∀g∈zw A,w.heap.size<=g)/\Bl w q)
 case atStart=>exact⟨0,none,0,0,[],zo5 _,rfl,rfl,rfl,rfl,zoZ _,rfl,Own.qC _,by simp[zw],Below.refl _ _⟩
 case round=>
  obtain⟨i,A,n,L,ys,hi,rfl,rfl,rfl,q,r,I,O,N,hB⟩:=hrel;have V:=zz q;have Y:=zz I;have Ho:=zz O;have Hg:=zz N;have HB:=zz hB;have X:=zz r;clear q I O N hB r
  by_cases W:i<U
  ·have aa:i<body.length:=by rw[Hn.o];exact W
   obtain⟨b,o,rfl,an,r⟩:=(ak.o.below HB.o).at Li.xF i aa;have q:=zhz body i aa;generalize body[i]=x at r q
   replace r:wr.rangeAt b (o+i*16) x.cells:=r
   have Hr:=zz r;clear r;go_upto_region 5 with(first
    |(refine xV 50 _ rfl ?_;refine wpList_load_mid rfl 50 _ rfl b (o+i*16) rfl x.cells _ Hr.o underlying50 rfl (qV x) ?_)
    |(refine xy 50 _ _ rfl ?_;refine XE rfl 50 _ _ rfl _ x.cells rfl rfl ?z (qV x) ?one ?_))
   case z=>rw[Li.xF];rfl
   case one=>exact x.Yh
   intro W5 r;have c0:W5.cell? ⟨wr.heap.size,0,none⟩=some (.int .i8 x.k):=r.b0.cell 0;have c1:W5.cell? ⟨wr.heap.size,1,none⟩=some (.string x.a.p):=r.b0.cell 1;have c2:W5.cell? ⟨wr.heap.size,2,none⟩=some (.slice x.a.A x.a.args.length x.a.cap):=r.b0.cell 2;have O:Kz (Bl wr W5):=r.below;have am:wr.heap.size<W5.heap.size:=r.b0.lt;clear r
   by_cases h3:x.k=3
   ·rw[if_pos h3,zpw]at q;have N:=zz q;have k1:(x.k != 3)=false:=by simp[h3]
    clear q h3;go_wp2
    go_roundg (U-(i+1))
    case measure=>omega
    case rel=>exact⟨i+1,A,n,L,ys,W,rfl,ze,rfl,V.o,by have:=X.o;omega,by rw[N.o];exact Y.o,Ho.o.below O.o,Hg.o,zu HB.o O.o⟩
   ·rw[if_neg h3]at q;have N:=zz q;have k1:(x.k != 3)=true:=by simpa using h3
    have al:n<=1048576:=by have:=X.o;omega
    obtain⟨⟨xp,xA,R,r⟩,Z⟩:∃a,x.a=a:=⟨_,rfl⟩;rw[Z]at c1 c2;have N:=zz (show Yq (body.take (i+1))=Yq (body.take i)++[⟨xp,xA,R,r⟩]from by rw[N.o,Z]);simp only at c1 c2;clear q h3 Z
    go_wp2_with (at_builtin;refine ZG zaR (f:=At.cells) (xs:=ys) ((Ho.o.below O.o).alloc _) V.o ⟨xp,xA,R,r⟩ ?_)
    intro g ac w6 Z ae ab;have af:zh (·∈zw A) wr w6:=(((zh.xi (·∈zw A) O.o).alloc _)).trans ae (fun x hx _=>hx);have ag:Bl w w6:=af.qq HB.o (zoZ _) Hg.o;have ad:w.heap.size<=g:=by
     rcases ab with h|h
     ·exact Hg.o g h
     ·have h4:=HB.o.size;have h5:=O.o.size;try simp at h
      omega
    have ai:=zz Z;have ah:=zz ag;have aj:=zz ad;clear Z ae ab af ag ad c0 c1 c2 k1;go_wp2
    go_roundg (U-(i+1))
    case measure=>omega
    case rel=>exact⟨i+1,some ⟨g,0,none⟩,n+1,ac,ys++[⟨xp,xA,R,r⟩],W,rfl,ze,rfl,by simp[V.o],by have:=X.o;omega,by rw[N.o,Y.o],ai.o,xW aj.o,ah.o⟩
  ·obtain rfl:i=U:=zd;have I:=Y.o;rw[zpm (zqC Hn.o)]at I;have q:=zz I;clear I;go_wp2;go_returns;exact⟨A,L,n,rfl,by rw[<-q.o];exact V.o,by rw[<-q.o];exact Ho.o,HB.o,Hg.o⟩
theorem zfX(h:yd w wb G S N)(B F T:Option Addr)(zM an ai r:Nat)(body:List Li)(V L:List Nat)(hB:zY Li.cells w B body)(hF:zY y5 w F V)(hT:zY y5 w T L)(hn:body.length=r)(aj:V.length=r)(ap:L.length=r)(aB:r<=1048576)(hp:∀x∈body,x.a.p.size<=maxLen)(aq:∀i (q:i<body.length),V.getD i 0<=L.getD i 0/\L.getD i 0<=if body[i].k=1 then YW G body[i].a.p else 0):
 Calls prog 57 #[.pointer (some ⟨wb,0,none⟩),.slice B r zM,.slice F r an,.slice T r ai] w fun e q=>e=.returned (.bool true)/\Bl w q:=by
 have av:=zz hB;have HF:=zz hF;have HT:=zz hT;have Hn:=zz (zpf hn (zpf aj ap));have Hp:=zz hp;have aw:=zz aq;have X:=zz (fun W (hW:Bl w W) p (hp:p.size<=maxLen)=>Dh (h.below hW) p hp);clear h hB hF hT hn aj ap hp aq;go_enter func57,ntmps57;go_wp2
 go_loopg[9,10,11,26] r (fun gk U O R q I=>∃i:Nat,i<=r/\gk=r-i/\q=.int .i64 (i:Int)/\Bl w I)
 case atStart=>exact⟨0,zo5 _,rfl,rfl,Below.refl _ _⟩
 case round=>
  obtain⟨i,az,rfl,rfl,hB⟩:=hrel;have HB:=zz hB;clear hB
  by_cases I:i<r
  ·have aa:i<body.length:=by rw[Hn.o.1];exact I
   have ar:i<V.length:=by rw[Hn.o.2.1];exact I
   have ac:i<L.length:=by rw[Hn.o.2.2];exact I
   obtain⟨b,o,rfl,aA,hr⟩:=(av.o.below HB.o).at Li.xF i aa;obtain⟨fb,fo,rfl,ae,Z⟩:=(HF.o.below HB.o).at (c:=0) (fun _=>rfl) i ar;obtain⟨tb,R,rfl,ab,q⟩:=(HT.o.below HB.o).at (c:=0) (fun _=>rfl) i ac;obtain⟨ad,O⟩:=aw.o i aa;rw[getD_at _ ar,getD_at _ ac]at ad;rw[getD_at _ ac]at O;have ak:=Hp.o _ (zo3 aa);generalize body[i]=x at hr O ak;generalize V[i]=Y at Z ad;generalize L[i]=U at q ad O;have am:=zz (show wr.cell? ⟨fb,fo+i,none⟩=some (.int .i64 (Y:Int)) by simpa using Z 0 _ rfl);have ag:=zz (show wr.cell? ⟨tb,R+i,none⟩=some (.int .i64 (U:Int)) by simpa using q 0 _ rfl);have ao:=zz ae;have ah:=zz ab
   replace hr:wr.rangeAt b (o+i*16) x.cells:=hr
   have Hr:=zz hr;clear hr Z q ae ab;go_upto_region 7 with(first
    |(refine xV 50 _ rfl ?_;refine wpList_load_mid rfl 50 _ rfl b (o+i*16) rfl x.cells _ Hr.o underlying50 rfl (qV x) ?_)
    |(refine xy 50 _ _ rfl ?_;refine XE rfl 50 _ _ rfl _ x.cells rfl rfl ?z (qV x) ?one ?_))
   case z=>rw[Li.xF];rfl
   case one=>exact x.Yh
   intro W5 q;have c0:W5.cell? ⟨wr.heap.size,0,none⟩=some (.int .i8 x.k):=q.b0.cell 0;have c1:W5.cell? ⟨wr.heap.size,1,none⟩=some (.string x.a.p):=q.b0.cell 1;have ab:Kz (Bl wr W5):=q.below;have aD:decide ((Y:Int)<0)=false:=zp;have aC:decide ((U:Int)<(Y:Int))=false:=zb;have ax:decide (U<Y)=false:=zb;have ay:¬((U:Int)<(Y:Int)):=zd;clear q
   by_cases h1:x.k=1
   ·have k1:(x.k==1)=true:=by simp[h1]
    rw[if_pos h1]at O;have af:=zz (X.o W5 (zu HB.o ab.o) x.a.p ak);obtain⟨n,hn⟩:∃n,YW G x.a.p=n:=⟨_,rfl⟩;rw[hn]at af O;have au:decide ((n:Int)<(U:Int))=false:=zb;have ae:decide (n<U)=false:=zb;clear hn h1;go_upto_region 9 with(go_at_call 15;refine af.o.mono ?_;rintro e w6⟨rfl,al⟩;have q:=zz (zu ab.o al);clear al c0 c1)
    have H9:=zz (show ∀W,Bl w6 W->W.cell? ⟨fb,fo+i,none⟩=some (.int .i64 (Y:Int))/\W.cell? ⟨tb,R+i,none⟩=some (.int .i64 (U:Int))/\(i:Int)<(r:Int)/\i<r from fun W hW=>
     ⟨((q.o.trans (hW.mono q.o.size)).cell (p:=⟨fb,fo+i,none⟩) ao.o).trans am.o,((q.o.trans (hW.mono q.o.size)).cell (p:=⟨tb,R+i,none⟩) ah.o).trans ag.o,zd,I⟩)
    refine xX [0,0,0,0,0,0,0,0,0,0,0,0,0,0,0,0,0,0,0,0,0,0,0,0] (fun W=>Bl w6 W) ?_
    repeat refine zT H9.o ?_
    refine xu ?_;have Z:Kz (Bl w w6.drew):=zu HB.o (zu q.o (Below.refl _ _).drew);go_wp2
    go_roundg (r-(i+1))
    case measure=>omega
    case rel=>exact⟨i+1,I,rfl,ze,Z.o⟩
   ·have k1:(x.k==1)=false:=by simp[h1]
    rw[if_neg h1]at O;have au:decide ((0:Int)<(U:Int))=false:=zb;have ae:decide (0<U)=false:=zb;have af:¬0<U:=zd;have q:=zz ab.o;clear h1;go_upto_region 9 with fail
    clear c0 c1;have H9:=zz (show ∀W,Bl W5 W->W.cell? ⟨fb,fo+i,none⟩=some (.int .i64 (Y:Int))/\W.cell? ⟨tb,R+i,none⟩=some (.int .i64 (U:Int))/\(i:Int)<(r:Int)/\i<r from fun W hW=>
     ⟨((q.o.trans (hW.mono q.o.size)).cell (p:=⟨fb,fo+i,none⟩) ao.o).trans am.o,((q.o.trans (hW.mono q.o.size)).cell (p:=⟨tb,R+i,none⟩) ah.o).trans ag.o,zd,I⟩)
    refine xX [0,0,0,0,0,0,0,0,0,0,0,0,0,0,0,0,0,0,0,0,0,0,0,0] (fun W=>Bl W5 W) ?_
    repeat refine zT H9.o ?_
    refine xu ?_;have Z:Kz (Bl w W5.drew):=zu HB.o (zu q.o (Below.refl _ _).drew);go_wp2
    go_roundg (r-(i+1))
    case measure=>omega
    case rel=>exact⟨i+1,I,rfl,ze,Z.o⟩
  ·obtain rfl:i=r:=zd;go_wp2;go_returns;exact⟨rfl,HB.o⟩
theorem JW(h:-9223372036854775808<=n)(q:n<=9223372036854775807):(Lit.int .i64 n).wf=true:=by
 simp[Lit.wf,IntKind.min,IntKind.max,IntKind.signed,IntKind.bits];omega
theorem zmu(h:(Lit.int .i64 n).wf=true):-9223372036854775808<=n/\n<=9223372036854775807:=by
 simp[Lit.wf,IntKind.min,IntKind.max,IntKind.signed,IntKind.bits]at h;omega
theorem VH(h:(Lit.int .i64 n).wf=true):(Vl.num n).val.wf:=⟨show(Lit.int .i8 1).wf=true from zr,h,show(⟨#[]⟩:ByteArray).size<=maxLen from zr⟩
theorem zlF{s:ByteArray}(h:s.size<=200):(Vl.YI s).val.wf:=⟨show(Lit.int .i8 2).wf=true from zr,show(Lit.int .i64 0).wf=true from zr,zpd (show s.size<=200 from h) zr⟩
theorem zgN{tk:Nat->Int}{q:Nat}{l:List Vl}{x:Vl}(h:qI tk q l=some x)(R:∀v∈l,v.ok/\v.val.wf):x.val.wf:=by
 have r:∀i,(Lit.int .i64 (l.getD i Vl.zero).n).wf=true/\(l.getD i Vl.zero).s.size<=200:=fun i=>by
  rw[zo8]
  rcases hq:l[i]? with _|v
  ·exact⟨zr,zr⟩
  ·have:=R v (zp8 hq);exact⟨this.2.2.1,Vl.Yo this.1⟩
 have I:∀(s:ByteArray)(y:Vl),(if s.size<=200 then some (Vl.YI s)else none)=some y->y.val.wf:=fun s y L=>by
  split at L
  next hs=>cases L;exact zlF hs
  ·cases L
 unfold qI at h;split at h
 ·split at h
  ·cases h;exact VH (wrap64_wf _)
  ·split at h
   ·cases h;exact VH (wrap64_wf _)
   ·split at h
    ·cases h;exact VH (wrap64_wf _)
    ·split at h
     ·cases h;exact VH (wrap64_wf _)
     ·split at h
      ·split at h
       ·cases h
       ·cases h
        split
        ·exact VH (wrap64_wf _)
        ·obtain⟨O,L⟩:=zmu (r 0).1;refine VH (JW ?_ ?_)
         ·generalize(l.getD 0 Vl.zero).n=a at O L ⊢;generalize(l.getD 1 Vl.zero).n=b;have U:(a.tmod b).natAbs<=a.natAbs:=by rw[Int.natAbs_tmod];exact Nat.mod_le _ _
          have N:0<=a->0<=a.tmod b:=fun h=>Int.tmod_nonneg b h
          omega
         ·generalize(l.getD 0 Vl.zero).n=a at O L ⊢;generalize(l.getD 1 Vl.zero).n=b;have U:(a.tmod b).natAbs<=a.natAbs:=by rw[Int.natAbs_tmod];exact Nat.mod_le _ _
          by_cases V:0<=a
          ·omega
          ·have N:0<=(-a).tmod b:=Int.tmod_nonneg b zd;rw[Int.neg_tmod]at N;omega
      ·split at h
       ·exact I _ _ h
       ·split at h
        ·cases h
         have:=(r 0).2;exact VH (JW zd (zd))
        ·split at h
         ·cases h
          have:=(r 0).2;have L:=Lib.runeCount_le (l.getD 0 Vl.zero).s;exact VH (JW zd (zd))
         ·exact I _ _ h
 ·cases h
mutual
def Ex.Zc:Ex->Prop
 |.mk _ t _ _ h=>t.x.val.wf/\Ex.Zu h
def Ex.Zu:List Ex->Prop
 |[]=>True
 |e::h=>Ex.Zc e/\Ex.Zu h
end
theorem Ex.zeW:∀{l:List Ex},Ex.Zu l↔∀e∈l,e.Zc
 |[]=>by unfold Ex.Zu;simp
 |e::h=>by unfold Ex.Zu;rw[Ex.zeW];simp
theorem zcn{tk:Nat->Int}{ρ:Env}(U:X4 ρ):∀{d:Nat}{e:Ex}{x:Vl},e.ok d->e.Zc->e.ev tk ρ=some x->x.val.wf
 |0,.mk q t A O I,x,h,_,_=>by unfold Ex.ok at h;exact h.elim
 |d+1,.mk q t A O I,x,h,R,N=>by
  unfold Ex.ok at h;unfold Ex.ev at N;unfold Ex.Zc at R
  rcases h with⟨rfl,-,h⟩ |⟨X,-,-,V⟩
  ·rw[if_pos rfl]at N;split at N
   next r=>cases N;exact R.1
   ·exact(U _ _ N).2
  ·rw[if_neg X]at N;obtain⟨l,Y,h⟩:=zqF.1 N;obtain⟨h1,W⟩:=Gd.1 Y;refine zgN h fun v r=>?_
   obtain⟨i,Z,rfl⟩:=zpl.1 r;have r:i<I.length:=zd;have L:=W i r;rw[zo6 Z]at L;exact⟨JM U.ok (V _ (zo3 r)) L,zcn U (V _ (zo3 r)) (Ex.zeW.1 R.2 _ (zo3 r)) L⟩
theorem za3{e:Ex}(h:e.ok 8)(hw:e.Zc):JP c e:=fun _ _ q r=>zcn q h hw r
end
section
open Go Go.RowKit Go.Maps Go.ChangeMaps Go.MapKept
section
variable {P:Program}{k t e:TypeId}{w:World}{b r:Nat}{f:Value->Option Value}{n:Nat}
def X3(P:Program)(k:TypeId)(w:World)(b r:Nat)(f:Value->Option Value)(n:Nat):Prop:=
 ∃I q h seen L,w.heap[b]? = some (.map I q)/\Yj P k I.toList f/\MapKept.Stamped I q/\w.heap[r]? = some (.mapIter (some b) h seen L)/\(∀x∈I.toList,x.born<h)/\(leftOf I seen).size=n/\h<=L/\h<=q
theorem X3.map(h:X3 P k w b r f n):xv P k w b f:=by
 obtain⟨N,q,_,_,_,O,L,I,_⟩:=h;exact⟨N,q,O,L,I⟩
theorem X3.lt(h:X3 P k w b r f n):r<w.heap.size:=by
 obtain⟨_,_,_,_,_,_,_,_,q,_⟩:=h;exact(zpb.1 q).1
theorem X3.ne(h:X3 P k w b r f n):r≠b:=by
 obtain⟨_,_,_,_,_,I,_,_,q,_⟩:=h;intro e1;subst e1;rw[I]at q
 cases q
theorem X3.same(h:X3 P k w b r f n)(X:w'.heap[b]? = w.heap[b]?)(O:w'.heap[r]? = w.heap[r]?):X3 P k w' b r f n:=by
 obtain⟨U,I,q,seen,Y,R,L,W,N,V⟩:=h;exact⟨U,I,q,seen,Y,X.trans R,L,W,O.trans N,V⟩
theorem xv.range(h:xv P k w b f)(U:P.underlying t=some (.map k e)):
 ∃q n,(Instr.range t (.map (some b))).run P w=.ok (.pointer (some ⟨w.heap.size,0,none⟩)) q/\X3 P k q b w.heap.size f n/\Bl w q/\q.heap.size=w.heap.size+1:=by
 have L:=h.lt;obtain⟨N,q,O,R,I⟩:=h;exact⟨_,_,run_range_map w t k e b N q U O,⟨N,q,q,#[],q,((MapKept.heap_alloc w _).2 b L).trans O,R,I,(MapKept.heap_alloc w _).1,I.1,rfl,zoZ _,zoZ _⟩,xo w _,zp⟩
theorem X3.next(h:X3 P k w b r f n)(ty:TypeId):
 (n=0/\(Instr.next (.pointer (some ⟨r,0,none⟩)) false ty).run P w=.ok (.tuple #[.bool false]) w)\/
 ∃O v q I,f O=some v/\(Instr.next (.pointer (some ⟨r,0,none⟩)) false ty).run P w=.ok (.tuple #[.bool true,O,v]) q/\X3 P k q b r f I/\I<n/\zh (·=r) w q/\q.heap.size=w.heap.size/\(Instr.entry (.pointer (some ⟨r,0,none⟩))).run P q=.ok (.tuple #[O,v]) q:=by
 have aa:=h.ne;obtain⟨V,q,I,seen,c0,hb,hm,X,hr,U,rfl,ac,W⟩:=h
 rcases run_next_at (P:=P) w ty r b I c0 seen V q hr hb U ac with⟨h0,N⟩ |⟨e,he,w1,R,N⟩
 ·exact .inl ⟨h0,N⟩
 ·obtain⟨Y,ae⟩:=mem_left he;have ab:w1.heap[r]? = some (.mapIter (some b) I seen c0):=by rcases R with rfl|rfl<;>exact hr
  have ad:w1.heap[b]? = some (.map V q):=by rcases R with rfl|rfl<;>exact hb
  have L:=heap_set (o':=.mapIter (some b) I (seen.push e.born) q) ab;have Z:(setBlock w1 r (.mapIter (some b) I (seen.push e.born) q)).heap[b]? = some (.map V q):=(L.2 b (fun e1=>aa e1.symm)).trans ad;refine .inr ⟨e.key,e.val,_,_,hm.has e Y,N,⟨V,q,I,seen.push e.born,q,Z,hm,X,L.1,U,rfl,W,W⟩,left_shrinks V seen e he,?_,?_,run_entry_at _ r b I seen V q e L.1 Z Y ((stamped_iff V q).1 X).2.1⟩
  ·rcases R with rfl|rfl<;>exact⟨rfl,rfl,rfl,by simp[setBlock],fun i _ O=>L.2 i O⟩
  ·rcases R with rfl|rfl<;>simp[setBlock]
section
variable {ops:Array Oper}{rest:List Oper}{o:Oper}{a:Act}{Q:Exit->Act->World->Prop}
theorem zlL(X:o.guard=none)(m:Operand)(t:TypeId)(N:o.op=Op.range t m)(Y:P.underlying t=some (.map k e))(R:a.eval m=.map (some b))(h:xv P k w b f)(W:∀q n,X3 P k q b w.heap.size f n->Bl w q->q.heap.size=w.heap.size+1->wpList P ops Q rest (a.put o.dst (.pointer (some ⟨w.heap.size,0,none⟩))) q):wpList P ops Q (o::rest) a w:=by
 refine wpList_plain X fun Z L=>?_
 obtain⟨q,n,I,V,O,U⟩:=h.range Y;unfold Oper.wp;simp[execOp,N,R,I,Result.andThen];exact L _ _ (W q n V O U)
theorem znz(hg:o.guard=none)(it:Operand)(R:o.op=Op.next it false)(U:a.eval it=.pointer (some ⟨r,0,none⟩))(h:X3 P k w b r f n)(N:n=0->wpList P ops Q rest (a.put o.dst (.tuple #[.bool false])) w)(O:∀q v L W,f q=some v->X3 P k L b r f W->W<n->zh (·=r) w L->L.heap.size=w.heap.size->(Instr.entry (.pointer (some ⟨r,0,none⟩))).run P L=.ok (.tuple #[q,v]) L->wpList P ops Q rest (a.put o.dst (.tuple #[.bool true,q,v])) L):wpList P ops Q (o::rest) a w:=by
 refine wpList_plain hg fun K' V=>?_
 unfold Oper.wp
 rcases h.next o.type with⟨h0,I⟩ |⟨q,v,L,W,hf,I,hr,X,hc,Z,Y⟩
 ·simp[execOp,R,U,I,Result.andThen];exact V _ _ (N h0)
 ·simp[execOp,R,U,I,Result.andThen];exact V _ _ (O q v L W hf hr X hc Z Y)
end
end
end
section
def JT(h:ByteArray->Nat)(f:Value->Option Value):Prop:=∀p v,f (.string p)=some v->v=.int .i64 (h p:Int)
theorem JT.put{I:ByteArray->Nat}{f:Value->Option Value}(h:JT I f)(p:ByteArray):JT I (yg f (.string p) (.int .i64 (I p:Int))):=fun q v r=>by
 by_cases L:q=p
 ·subst L;rw[Yi]at r;injection r with r;exact r.symm
 ·rw[XG (fun e=>L (by injection e))]at r;exact h q v r
theorem zjW(h:yd w wb G S N)(Z:ByteArray->Nat)(hG:∀p a R,G p=some (a,R)->a=Z p)(A:Option Addr)(cap n:Nat)(l:List At)(hl:zY At.cells w A l)(hn:l.length=n)(I:∀a∈l,a.args.length=Z a.p)(hp:∀a∈l,a.p.size<=maxLen)(aF:n<=1048576):
 Calls prog 55 #[.pointer (some ⟨wb,0,none⟩),.slice A n cap] w fun e q=>e=.returned (.bool true)/\Bl w q:=by
 have aG:=@run_makeMap prog;obtain⟨tb,pb,vs,f,D,T,own,h,q,-⟩:=h;have Hw:=zz h;have aw:Kz (∀p d,D p=some d->d.ar=Z p):=fun p d hd=>hG p d.ar (rowsOf vs d.ar d.R) (by rw[q,hd];rfl)
 have HL:=zz hl;have Hn:=zz hn;have aA:=zz I;have Hp:=zz hp;clear h hG hl hn I hp q;obtain⟨W1,q⟩:∃W1,w.alloc (.map #[] 0)=W1:=⟨_,rfl⟩;have r:Bl w W1:=q▸xo w _;have L:W1.heap.size=w.heap.size+1:=by rw[<-q];simp
 have O:xv prog 9 W1 w.heap.size fun _=>none:=by rw[<-q];exact xv.new w 0
 have ay:=zz q;have ap:=zz r;have aD:=zz O;have ac:=zz L;have U:=(Hw.o.zG.below r).cell 1;clear q r L O;go_enter func55,ntmps55;go_upto_region 2 with fail
 rw[ay.o]
 go_wp2_with (at_range;refine zlL rfl _ _ rfl underlying115 rfl (Hw.o.map.below ap.o) ?_;intro w2 n2 Y al ag;have ax:=zz Y;have ak:=zz al;have aE:=zz ag;clear Y al ag U)
 go_frame
 go_loopg[6,7] n2 (fun gk r L q=>X3 prog 9 q pb W1.heap.size f gk/\(∃fN,xv prog 9 q w.heap.size fN/\JT Z fN)/\Bl w q)
 case atStart=>exact⟨ax.o,⟨_,aD.o.below ak.o,fun p v hv=>by cases hv⟩,zu ap.o ak.o⟩
 case round=>
  obtain⟨Y,⟨fN,L,r⟩,O⟩:=hrel;have az:=zz Y;have au:=zz L;have aj:=zz r;have HB:=zz O;clear Y L r O
  go_wp2_with (at_next;refine znz rfl _ rfl rfl az.o ?_ ?_)
  ·intro r;clear r;go_wp2
   go_loopg[9,10,11,30] n (fun gk U L O r q=>∃(i:Nat) (fN:Value->Option Value),i<=n/\gk=n-i/\r=.int .i64 (i:Int)/\xv prog 9 q w.heap.size fN/\JT Z fN/\Bl w q)
   case atStart=>exact⟨0,fN,zo5 _,rfl,rfl,au.o,aj.o,HB.o⟩
   case round=>
    obtain⟨i,f2,hi,rfl,rfl,q,L,r⟩:=hrel;have ab:=zz q;have ad:=zz L;have O:=zz r;clear q L r
    by_cases U:i<n
    ·have af:i<l.length:=by rw[Hn.o];exact U
     obtain⟨b,o,rfl,ao,r⟩:=(HL.o.below O.o).at (c:=1) (fun _=>rfl) i af;have I:=aA.o _ (zo3 af);have q:=Hp.o _ (zo3 af);generalize l[i]=x at r I q;obtain⟨p,A2,am,ai⟩:=x;simp only[At.cells]at r I q;rw[I]at r;generalize L:Z p=an at r
     replace r:wr.rangeAt b (o+i*2) _:=r
     obtain⟨d0,d1⟩:=two r;have aa:=zz q;have X:=zz L;have V:=fun W (hW:Bl wr W)=>(ab.o.below hW).look qT underlying219 (z:=.int .i64 0) zo (qY q) true
     have ah:=fun o=>V (wr.alloc o) (xo _ _)
     clear r I q L V;have ae:=ad.o p
     rcases hq:f2 (.string p)with _|v
     ·simp only[hq,if_true,Option.getD_none,Option.isSome_none]at ah;clear ae hq
      go_wp2_with (at_mapUpdate;refine Ue rfl _ _ _ rfl (ab.o.below (xo _ _)) qT underlying219 rfl (.string p) (.int .i64 (an:Int)) _ rfl rfl (qY aa.o) ?_;intro w5 r q;have V:=zz r;have L:=zz (show zh (·=w.heap.size) wr w5 from((zh.refl _ wr).alloc _).yi q fun _=>rfl);clear r q)
      go_roundg (n-(i+1))
      case measure=>omega
      case rel=>exact⟨i+1,_,U,rfl,ze,V.o,by have:=ad.o.put p;rw[X.o]at this;exact this,L.o.qq O.o (zoZ _) fun x hx=>zd⟩
     ·obtain rfl:=ae v hq;rw[X.o]at hq;simp only[hq,if_true,zpT,Option.isSome_some]at ah;clear ae hq
      go_wp2_with (at_mapUpdate;refine Ue rfl _ _ _ rfl (ab.o.below (xo _ _)) qT underlying219 rfl (.string p) (.int .i64 (an:Int)) _ rfl rfl (qY aa.o) ?_;intro w5 r q;have V:=zz r;have L:=zz (show zh (·=w.heap.size) wr w5 from((zh.refl _ wr).alloc _).yi q fun _=>rfl);clear r q)
      go_roundg (n-(i+1))
      case measure=>omega
      case rel=>exact⟨i+1,_,U,rfl,ze,V.o,by have:=ad.o.put p;rw[X.o]at this;exact this,L.o.qq O.o (zoZ _) fun x hx=>zd⟩
    ·obtain rfl:i=n:=zd;go_wp2;go_returns;exact⟨rfl,O.o⟩
  ·intro aB v w3 n3 X am U ad av aq;obtain⟨p,rfl⟩:=Hw.o.only aB v X;rw[Hw.o.XB p]at X;obtain⟨d,hd,rfl⟩:=Option.map_eq_some_iff.1 X;unfold Pd.kept at aq ⊢;have ao:Kz (Bl w w3):=ad.qq HB.o (zoZ _) fun x hx=>by have:=ac.o;omega
   have ah:=zz (au.o.zC ad (by have:=ac.o;omega));have ae:=zz am;have aC:=zz U;have ab:=zz (aw.o p d hd);have aa:=zz (Hw.o.small p d hd);have O:=zz (fun W (hW:Bl w W)=>T6 ((Hw.o.rel p d hd).below hW));obtain⟨an,af⟩:∃n,d.ar=n:=⟨_,rfl⟩;rw[af]at O ab;have aH:=d.rb;clear X hd am U ad av af
   go_wp2_with (first
    |(go_at_call 70;refine(O.o _ (zu ao.o (xo _ _))).mono ?_;rintro e w4⟨rfl,U⟩;have ad:=zz U;clear U aq)
    |(at_mapUpdate;rw[ad.o];refine Ue rfl _ _ _ rfl (ah.o.below (xo _ _)) qT underlying219 rfl (.string p) (.int .i64 (an:Int)) _ rfl rfl (qY aa.o) ?_;intro w5 r q;have V:=zz r;have af:=zz q;clear r q))
   have X:zh (·=w.heap.size) w3 w5:=((zh.refl _ w3).alloc _).yi af.o fun _=>rfl
   have L:=zz X;clear X
   go_roundg n3
   case measure=>exact aC.o
   case rel=>
    have X:=Hw.o.map.lt;refine⟨ae.o.same (L.o.block _ ae.o.map.lt zd) (L.o.block _ ae.o.lt (by have:=ac.o;omega)),⟨_,V.o,by have:=aj.o.put p;rw[<-ab.o]at this;exact this⟩,L.o.qq ao.o (zoZ _) fun x hx=>zd⟩
noncomputable def zcC(h:At)(ρ:Env):ByteArray×List Vl:=(h.p,h.args.map fun t=>t.at ρ)
def yf(f:Fa):ByteArray×List Vl:=(f.p,f.args)
structure TJ (h:At) (b10 b13 b12 sb:Nat) (A:Option Addr) (cap:Nat) (fs:List Fa) (O:List Env) (U:Nat->Prop) (w:World):Prop where
 ZF:zD w b10 38 h.cells.toArray
 Zj:zD w b13 139 #[.pointer (some ⟨sb,0,none⟩)]
 Y7:zD w b12 26 #[.slice A fs.length cap]
 own:Own Fa.cells 71 2 w A cap fs
 XB:fs.map yf=O.map (zcC h)
 args:∀f∈fs,zY Vl.cells w f.A f.args
 head:zY Tm.cells w h.A h.args
 DH:U b10
 D6:U b13
 GQ:U b12
 uA:∀g∈zw A,U g
 uF:∀f∈fs,∀g∈zw f.A,U g
 uH:∀g∈zw h.A,U g
 JC:∀f∈fs,∀g∈zw f.A,g≠b12/\g∉zw A
 J9:∀g∈zw h.A,g≠b12/\g∉zw A
 lt:∀g,U g->g<w.heap.size
def Ta(h:At)(I L q R:Nat)(O:List Env)(U:Nat->Prop)(w:World):Prop:=∃A r N,TJ h I L q R A r N O U w
theorem TJ.zC{R X:Nat}{cap:Nat}{fs:List Fa}{O:List Env}{U Q:Nat->Prop}(k:TJ h L N R X A cap fs O U w)(r:zh Q w w')(I:∀g,U g->¬Q g):TJ h L N R X A cap fs O U w':=
 ⟨k.ZF.zC r (I _ k.DH),k.Zj.zC r (I _ k.D6),k.Y7.zC r (I _ k.GQ),by
  rcases k.own.form with⟨rfl,rfl,rfl⟩ |⟨g,rfl,q,_⟩
  ·exact Own.qC _
  ·refine k.own.same fun x W=>r.block x ?_ (I x (k.uA x W))
   obtain rfl:x=g:=by simpa[zw]using W
   exact q,k.XB,fun f V=>(k.args f V).kept r fun g q=>I g (k.uF f V g q),k.head.kept r fun g q=>I g (k.uH g q),k.DH,k.D6,k.GQ,k.uA,k.uF,k.uH,k.JC,k.J9,fun g q=>zo0 (k.lt g q) r.size⟩
theorem znR{I:Nat}(V:c.Out=Ta h N I L c.sb):c.qL where
 zC:=fun O U Q w r q W X=>by
  rw[V]at q ⊢;obtain⟨A,r,R,k⟩:=q;exact⟨A,r,R,k.zC W X⟩
 lt:=fun O U w q=>by
  rw[V]at q;obtain⟨A,r,R,k⟩:=q;exact k.lt
theorem znj(w:World)(A B:Option Addr)(n m yc zM:Nat)(a b:List Vl)(ha:zY Vl.cells w A a)(hb:zY Vl.cells w B b)(hn:a.length=n)(hm:b.length=m)(ad:n<=140737488351232):
 Calls prog 86 #[.slice A n yc,.slice B m zM] w fun e q=>e=.returned (.bool (tf (a=b)))/\Bl w q:=by
 have Ha:=zz ha;have Hb:=zz hb;have O:=zz (zpf hn hm);clear ha hb hn hm;go_enter func86,ntmps86
 by_cases aa:n=m
 ·subst aa;go_wp2
  go_loopg[5] n (fun gk r q=>∃i:Nat,i<=n/\gk=n-i/\r=.int .i64 (i:Int)/\(∀j (V:j<a.length) (h2:j<b.length),j<i->a[j]=b[j])/\Bl w q)
  case atStart=>exact⟨0,zo5 _,rfl,rfl,fun j V h2 h=>absurd h (zqR _),Below.refl _ _⟩
  case round=>
   obtain⟨i,hi,rfl,rfl,q,r⟩:=hrel;have Hs:=zz q;have HB:=zz r;clear q r
   by_cases q:i<n
   ·have ac:i<a.length:=by rw[O.o.1];exact q
    have ab:i<b.length:=by rw[O.o.2];exact q
    obtain⟨Y,Z,rfl,I,r⟩:=(Ha.o.below HB.o).at (c:=2) (fun _=>rfl) i ac;obtain⟨R,X,rfl,N,L⟩:=(Hb.o.below HB.o).at (c:=2) (fun _=>rfl) i ab;obtain⟨x,hx⟩:∃x,a[i]=x:=⟨_,rfl⟩;obtain⟨y,hy⟩:∃y,b[i]=y:=⟨_,rfl⟩;rw[hx]at r;rw[hy]at L;have Hx:=zz (zpf hx hy);obtain⟨k1,n1,s1⟩:=x;obtain⟨k2,n2,s2⟩:=y;obtain⟨a0,a1,a2⟩:=three r;obtain⟨b0,b1,b2⟩:=three L;have H6:Kz (∀W,Bl wr W->W.cell? ⟨Y,Z+i*3,none⟩=some (.int .i8 k1)/\W.cell? ⟨Y,Z+i*3+1,none⟩=some (.int .i64 n1)/\W.cell? ⟨Y,Z+i*3+2,none⟩=some (.string s1)/\W.cell? ⟨R,X+i*3,none⟩=some (.int .i8 k2)/\W.cell? ⟨R,X+i*3+1,none⟩=some (.int .i64 n2)/\W.cell? ⟨R,X+i*3+2,none⟩=some (.string s2)/\(i:Int)<(n:Int)/\i<n):=fun W U=>⟨(U.cell (p:=⟨Y,Z+i*3,none⟩) I).trans a0,(U.cell (p:=⟨Y,Z+i*3+1,none⟩) I).trans a1,(U.cell (p:=⟨Y,Z+i*3+2,none⟩) I).trans a2,(U.cell (p:=⟨R,X+i*3,none⟩) N).trans b0,(U.cell (p:=⟨R,X+i*3+1,none⟩) N).trans b1,(U.cell (p:=⟨R,X+i*3+2,none⟩) N).trans b2,zd,q⟩
    clear r L a0 a1 a2 b0 b1 b2 hx hy;go_upto_region 6 with fail
    refine xX [0,0,0,0,0,0,0,0,0] (fun W=>Bl wr W) ?_
    repeat refine zT H6.o ?_
    refine xu ?_;have L:=zz (zu HB.o (Below.refl _ _).drew);obtain⟨v,U⟩:∃v,Zn ⟨k1,n1,s1⟩ ⟨k2,n2,s2⟩=v:=⟨_,rfl⟩;rw[U]
    cases v with
    |true=>
     have r:=zz (Vq.1 U);clear U;go_wp2
     go_roundg (n-(i+1))
     case measure=>omega
     case rel=>exact⟨i+1,q,rfl,ze,fun j V h2 hj=>by
      rcases zq2 j i with h|h
      ·exact Hs.o j V h2 h
      ·obtain rfl:j=i:=zd;rw[Hx.o.1,Hx.o.2];exact r.o,L.o⟩
    |false=>
     have r:=zz (show ¬a=b from fun e=>by
      have h:Zn ⟨k1,n1,s1⟩ ⟨k2,n2,s2⟩=true:=Vq.2 (by rw[<-Hx.o.1,<-Hx.o.2];subst e;rfl);rw[U]at h;cases h)
     clear U;go_wp2;go_returns;exact⟨by rw[qt r.o];rfl,L.o⟩
   ·obtain rfl:i=n:=zd;have r:Kz (a=b):=zqM (O.o.1.trans O.o.2.symm) fun j V h2=>Hs.o j V h2 (by rw[<-O.o.1];exact V)
    go_wp2;go_returns;exact⟨by rw[qs r.o];rfl,HB.o⟩
 ·have r:Kz (¬a=b):=fun e=>aa (by rw[<-O.o.1,<-O.o.2,e])
  have q:¬((n:Int)=(m:Int)):=zd;go_wp2;go_returns;exact⟨by rw[qt r.o];rfl,Below.refl _ _⟩
theorem zeN(w:World)(f g:Fa)(W:zY Vl.cells w f.A f.args)(V:zY Vl.cells w g.A g.args)(O:f.args.length<=140737488351232):
 Calls prog 38 #[.agg f.cells.toArray,.agg g.cells.toArray] w fun e h=>e=.returned (.bool (tf (yf f=yf g)))/\Bl w h:=by
 obtain⟨p,A,yc,a⟩:=f;obtain⟨q,B,zM,b⟩:=g;have Hf:=zz W;have Hg:=zz V;have Hn:=zz O;clear W V O;go_enter func38,ntmps38;obtain⟨W1,Z,r⟩:=xj w 71 #[.string p,.slice A a.length yc];obtain⟨X,Y,I⟩:=xj W1 71 #[.string q,.slice B b.length zM];have L:=I.below;have h:Bl w X:=zu r.below L;have R:=r.b0.below L;have U:=I.b0;have c0:=R.cell 0;have c1:=R.cell 1;have d0:=U.cell 0;have d1:=U.cell 1;have N:=zz h;have HC:=zz (znj X A B a.length b.length yc zM a b (Hf.o.below h) (Hg.o.below h) rfl rfl Hn.o);clear r I L h R U
 by_cases h:p=q
 ·subst h
  go_wp2_with (go_at_call 86;refine HC.o.mono ?_;rintro e L⟨rfl,r⟩;have I:=zz r;clear r)
  go_returns;exact⟨congrArg (fun x=>Ending.returned (Value.bool x)) (show tf (a=b)=tf (yf ⟨p,A,yc,a⟩=yf ⟨p,B,zM,b⟩)from by rw[Bool.eq_iff_iff,Zf,Zf];exact⟨fun e=>by show(p,a)=(p,b);rw[e],fun e=>congrArg Prod.snd e⟩),zu N.o I.o⟩
 ·have r:Kz (¬(yf ⟨p,A,yc,a⟩=yf ⟨q,B,zM,b⟩)):=fun e=>h (congrArg Prod.fst e)
  have I:(p.toList==q.toList)=false:=by rw[bytes_beq,qt h]
  have L:¬(p.toList=q.toList):=fun e=>h (UO e)
  go_wp2;go_returns;exact⟨by rw[qt r.o];rfl,N.o⟩
noncomputable def Zk(f:Fa)(l:List Fa):Nat:=l.countP fun y=>tf (yf f=yf y)
theorem zlK(f:Fa)(l:List Fa)(y:Fa):Zk f (l++[y])=Zk f l+if tf (yf f=yf y)=true then 1 else 0:=by
 unfold Zk;rw[List.countP_append,List.countP_cons,List.countP_nil,zpx]
theorem zlW(f:Fa){a b:List Fa}(h:(a.map yf).Perm (b.map yf)):Zk f a=Zk f b:=by
 have q:∀l:List Fa,Zk f l=(l.map yf).countP fun y=>tf (yf f=y):=fun l=>by unfold Zk;rw[List.countP_map];rfl
 rw[q,q];exact h.countP_eq _
structure Ug (w:World) (A:Option Addr) (l:List Fa):Prop where
 rd:zY Fa.cells w A l
 each:∀f∈l,zY Vl.cells w f.A f.args
 Zt:∀f∈l,f.args.length<=140737488351232
theorem Ug.below{l:List Fa}(h:Ug w A l)(q:Bl w w'):Ug w' A l:=⟨h.rd.below q,fun f r=>(h.each f r).below q,h.Zt⟩
theorem zeV(w:World)(f:Fa)(hf:zY Vl.cells w f.A f.args)(aa:f.args.length<=140737488351232)(A:Option Addr)(n yc:Nat)(l:List Fa)(hl:Ug w A l)(hn:l.length=n)(ac:n<=9007199254740992):
 Calls prog 24 #[.agg f.cells.toArray,.slice A n yc] w fun e h=>e=.returned (.int .i64 (Zk f l:Int))/\Bl w h:=by
 have Y:=zz (fun(W:World) (I:Bl w W) (y:Fa) (h:y∈l)=>zeN W f y (hf.below I) ((hl.each y h).below I) aa);have Hl:=zz hl;have Hn:=zz hn;clear hf hl hn;go_enter func24,ntmps24;obtain⟨W1,q,h⟩:=xj w 71 f.cells.toArray;have Hk:=zz h.b0;have X:=zz h.below;clear h;go_wp2;clear q
 go_loopg[5,6] n (fun gk r h q=>∃i k:Nat,i<=n/\gk=n-i/\r=.int .i64 (k:Int)/\h=.int .i64 (i:Int)/\k=Zk f (l.take i)/\k<=i/\Bl W1 q)
 case atStart=>exact⟨0,0,zo5 _,rfl,rfl,rfl,rfl,zoZ _,Below.refl _ _⟩
 case round=>
  obtain⟨i,k,hi,rfl,rfl,rfl,h,ab,q⟩:=hrel;have V:=zz q;have HK:=zz h;clear q h
  by_cases r:i<n
  ·have L:i<l.length:=by rw[Hn.o];exact r
   have U:Kz (Bl w wr):=zu X.o V.o;obtain⟨N,h,rfl,O,q⟩:=(Hl.o.rd.below U.o).at (c:=1) (fun _=>rfl) i L;have HO:=zz (Y.o wr.drew (zu U.o (Below.refl _ _).drew) l[i] (zo3 L));have R:Zk f (l.take (i+1))=Zk f (l.take i)+if tf (yf f=yf l[i])=true then 1 else 0:=by
    rw[zo4 L,zlK]
   have Z:=zz R;have q0:wr.cell? ⟨N,h+i*2,none⟩=some (.string l[i].p):=by simpa using q 0 _ rfl
   have q1:wr.cell? ⟨N,h+i*2+1,none⟩=some (.slice l[i].A l[i].args.length l[i].cap):=q 1 _ rfl;have H5:Kz (∀W,Bl wr W->W.cell? ⟨N,h+i*2,none⟩=some (.string l[i].p)/\W.cell? ⟨N,h+i*2+1,none⟩=some (.slice l[i].A l[i].args.length l[i].cap)/\W.cell? ⟨w.heap.size,0,none⟩=some (.string f.p)/\W.cell? ⟨w.heap.size,1,none⟩=some (.slice f.A f.args.length f.cap)/\(i:Int)<(n:Int)/\i<n):=fun W I=>⟨(I.cell (p:=⟨N,h+i*2,none⟩) O).trans q0,(I.cell (p:=⟨N,h+i*2+1,none⟩) O).trans q1,(Hk.o.below (zu V.o I)).cell 0,(Hk.o.below (zu V.o I)).cell 1,zd,r⟩
   clear q q0 q1 R;go_upto_region 5 with fail
   refine xX [0,0,0,0,0,2] (fun W=>Bl wr W) ?_
   repeat refine zT H5.o ?_
   refine xc fun K I=>?_
   go_simp;refine HO.o.mono ?_;rintro e w5⟨rfl,q⟩;have R:=zz (show Bl wr w5 from(Below.refl _ _).drew.trans q);refine I.out _ _ R.o (fun _=>trivial) ?_;clear I K q;try refine zQ ?_
   repeat refine zT H5.o ?_
   refine xu ?_;have I:Kz (Bl W1 w5):=zu V.o R.o;obtain⟨v,hv⟩:∃v,tf (yf f=yf l[i])=v:=⟨_,rfl⟩;have q:=Z.o;rw[hv]at q ⊢
   cases v with
   |true=>
    rw[if_pos rfl]at q;clear hv;go_wp2
    go_roundg (n-(i+1))
    case measure=>omega
    case rel=>exact⟨i+1,k+1,r,rfl,ze,ze,by rw[q,<-HK.o],zd,I.o⟩
   |false=>
    rw[if_neg zr]at q;clear hv;go_wp2
    go_roundg (n-(i+1))
    case measure=>omega
    case rel=>exact⟨i+1,k,r,rfl,rfl,ze,by rw[q,<-HK.o];rfl,zd,I.o⟩
  ·obtain rfl:i=n:=zd;have h:=zz (show k=Zk f l by have:=HK.o;rwa [zpm (zqC Hn.o)]at this);go_wp2;go_returns;exact⟨by rw[<-h.o];rfl,zu X.o V.o⟩
theorem zgR(w:World)(A B:Option Addr)(n yc zM:Nat)(a b:List Fa)(N:Ug w A a)(hb:Ug w B b)(hp:(a.map yf).Perm (b.map yf))(hn:a.length=n)(Y:n<=9007199254740992):
 Calls prog 18 #[.slice A n yc,.slice B n zM] w fun e h=>e=.returned (.bool true)/\Bl w h:=by
 have r:b.length=n:=by have:=hp.length_eq;simp only[zph]at this;omega
 have ab:=zz (fun(W:World) (q:Bl w W) (y:Fa) (h:y∈a)=>zeV W y ((N.each y h).below q) (N.Zt y h) A n yc a (N.below q) hn Y);have aa:=zz (fun(W:World) (q:Bl w W) (y:Fa) (h:y∈a)=>zeV W y ((N.each y h).below q) (N.Zt y h) B n zM b (hb.below q) r Y);have ae:=zz (fun y:Fa=>zlW y hp);have Ha:=zz N;have Hn:=zz hn;clear N hb hp hn r;go_enter func18,ntmps18;go_wp2
 go_loopg[5] n (fun gk r h=>∃i:Nat,i<=n/\gk=n-i/\r=.int .i64 (i:Int)/\Bl w h)
 case atStart=>exact⟨0,zo5 _,rfl,rfl,Below.refl _ _⟩
 case round=>
  obtain⟨i,hi,rfl,rfl,h⟩:=hrel;have V:=zz h;clear h
  by_cases I:i<n
  ·have L:i<a.length:=by rw[Hn.o];exact I
   obtain⟨O,h,rfl,R,r⟩:=(Ha.o.rd.below V.o).at (c:=1) (fun _=>rfl) i L;have U:wr.cell? ⟨O,h+i*2,none⟩=some (.string a[i].p):=by simpa using r 0 _ rfl
   have X:wr.cell? ⟨O,h+i*2+1,none⟩=some (.slice a[i].A a[i].args.length a[i].cap):=r 1 _ rfl;have Z:Kz (∀W,Bl wr W->W.cell? ⟨O,h+i*2,none⟩=some (.string a[i].p)/\W.cell? ⟨O,h+i*2+1,none⟩=some (.slice a[i].A a[i].args.length a[i].cap)/\(i:Int)<(n:Int)/\i<n):=fun W q=>⟨(q.cell (p:=⟨O,h+i*2,none⟩) R).trans U,(q.cell (p:=⟨O,h+i*2+1,none⟩) R).trans X,zd,I⟩
   have ad:=zz (fun W (q:Bl wr W)=>ab.o W (zu V.o q) a[i] (zo3 L));have ac:=zz (fun W (q:Bl wr W)=>aa.o W (zu V.o q) a[i] (zo3 L));have he:=ae.o a[i];clear r U X;go_upto_region 6 with fail
   refine Vc [(0,0),(1,0),(2,0),(3,0),(4,0),(6,0),(7,0),(8,0),(9,0),(10,0),(5,2),(11,2),(12,0)] (fun W=>Bl wr W) ?_
   repeat refine zT Z.o ?_
   refine xc fun K X=>?_
   go_simp;refine(ad.o _ (Below.refl _ _).drew).mono ?_;rintro e w5⟨rfl,r⟩;have q:=zz (show Bl wr w5 from(Below.refl _ _).drew.trans r);refine X.out _ _ q.o (fun _=>trivial) ?_;clear X K r;try refine zQ ?_
   repeat refine zT Z.o ?_
   refine xc fun K X=>?_
   go_simp;refine(ac.o _ q.o).mono ?_;rintro e w6⟨rfl,U⟩;have r:=zz (zu q.o U);refine X.out _ _ r.o (fun _=>trivial) ?_;clear X K U;try refine zQ ?_
   repeat refine zT Z.o ?_
   refine xu ?_;have U:Kz (Bl w w6):=zu V.o r.o;go_wp2
   go_roundg (n-(i+1))
   case measure=>omega
   case rel=>exact⟨i+1,I,rfl,ze,U.o⟩
  ·obtain rfl:i=n:=zd;go_wp2;go_returns;exact⟨rfl,V.o⟩
theorem zhR(w:World)(r:Ru)(hl:r.zO w)(hf:r.fits)(ht:r.zN.length<=1048576)(hh:r.head.length<=1048576)(hb:r.body.length<=1048575)(F:Option Addr)(U nf:Nat)(fs:List Fa)(hF:zY Fa.cells w F fs)(ah:∀f∈fs,f.zO w)(ad:∀f∈fs,f.p.size<=maxLen)(ab:fs.length=nf)(an:nf<=1048576):
 Calls prog 12 #[.agg r.cells.toArray,.slice F nf U] w (xY ((∀a∈r.head,a.g=0)/\Dc [r] fs) w):=by
 obtain⟨W1,ac,N⟩:=xj w 25 r.cells.toArray;have O:=N.below;have ak:=zz O;have Y:=zz N.b0;have HH:=zz (zgr W1 r (hl.below O) hh);have HJ:=zz (fun(W:World) (R:Option Addr) (X:Bl w W) (hR:zY Ru.cells W R [r])=>zko W R 1 [r] hR (fun x V=>by rw[zo2.1 V];exact hl.below X) 1 rfl (fun x V=>by rw[zo2.1 V];exact hf) (fun x V=>by rw[zo2.1 V];exact ht)
  (fun x V=>by rw[zo2.1 V];omega) F U fs (hF.below X) (fun f hf=>(ah f hf).below X) ad nf ab (by
   have:(qW r).length<=1+r.body.length:=by have:=zk6 r.body;simp only[qW,zpn];omega
   simp only[zps,zqX,zpw];omega))
 clear N O hl hf ht hh hb hF ah ad ab;obtain⟨p,A,yc,L,B,zM,I⟩:=r;have V:=Y.o.cell 0;have c1:=Y.o.cell 1;have c2:=Y.o.cell 2;go_enter func12,ntmps12
 go_wp2_with (go_at_call 39;refine HH.o.mono ?_;rintro e w2⟨q,C,n2,af,pl,rfl,Z,N⟩;have al:=zz Z;have ai:=zz (zu ak.o N);obtain⟨W3,am,O⟩:=xj w2 38 #[.string q,.slice C n2 af];obtain⟨W4,aj,ag⟩:=xj W3 25 #[.string p,.slice A L.length yc,.slice B I.length zM];have r0:=(Y.o.below (zu N O.below)).cell 0;have r1:=(Y.o.below (zu N O.below)).cell 1;have r2:=(Y.o.below (zu N O.below)).cell 2;have aa:=zz O;have X:=zz ag;clear V c1 c2 N Z ac O ag)
 ·have V:Kz (Bl w W4):=zu ai.o (zu aa.o.below X.o.below);have hR:zY Ru.cells W4 (some ⟨W3.heap.size,0,none⟩) [⟨p,A,yc,L,B,zM,I⟩]:=fun _=>⟨W3.heap.size,0,rfl,X.o.b0.lt,fun i v hi=>by
   have:=X.o.b0.cell i;rw[zpx,this];simpa using hi⟩
  refine(HJ.o W4 _ V.o hR).mono ?_;rintro e w5⟨c,rfl,hc,ae⟩;have Hc:=zz hc;have ac:=zz ae;clear hc ae r0 r1 r2 am aj hR
  by_cases h0:c=0
  ·subst h0;go_wp2;go_returns;exact⟨true,rfl,fun _=>⟨al.o za,Hc.o (by first|trivial|rfl)⟩,zu V.o ac.o⟩
  ·have ae:(c==0)=false:=by simpa using h0
   go_wp2;go_returns;exact⟨false,rfl,(fun h=>nomatch h),zu V.o ac.o⟩
 ·go_returns;exact⟨false,rfl,(fun h=>nomatch h),zu ai.o aa.o.below⟩
theorem zeb:∀(n:Nat),(List.replicate n Vl.zero).flatMap Vl.cells=(List.range (n*3)).map fun i=>Vl.zero.cells.getD (i % 3) undef
 |0=>rfl
 |n+1=>by
  rw[List.replicate_succ',zpq,zeb n,zqS,List.range_add,zpt,List.map_map]
  congr 1
  show Vl.zero.cells++[]=_;have e:∀j,(n*3+j) % 3=j % 3:=fun j=>zd
  simp only[Function.comp_def,e];rfl
theorem zgF(n:Nat):(madeCells Vl.zero.cells.toArray (n*3)).toList=(List.replicate n Vl.zero).flatMap Vl.cells:=by
 rw[zeb];unfold madeCells;simp only[Array.toList_map,Array.toList_range];refine zqU fun i _=>?_
 have h:i % 3<3:=Nat.mod_lt _ zr;show(Vl.zero.cells.toArray)[i % 3]! = _;generalize i % 3=j at h
 match j,h with
 |0,_=>rfl
 |1,_=>rfl
 |2,_=>rfl
theorem zer(n:Nat)(X:n<=4194304)(W:World):∃q,(Instr.makeSlice 69 (.int .i64 (n:Int)) (.int .i64 (n:Int))).run prog W=.ok (.slice (some ⟨W.heap.size,0,none⟩) n n) q/\
 Own Vl.cells 43 3 q (some ⟨W.heap.size,0,none⟩) n (List.replicate n Vl.zero)/\Bl W q:=by
 obtain⟨N,V,I,L,r⟩:=info_parts (show(prog.info? 43).map (fun i=>(i.zero,i.size,i.bytes))=some (some (.agg Vl.zero.cells.toArray),3,32) from zo);obtain⟨q,U,R,h⟩:=run_make_full (P:=prog) (w:=W) 0 69 43 N (.agg Vl.zero.cells.toArray) 3 underlying69 V I L .i64 .i64 n (by rw[r];omega) (zpd X zr) (zo5 _);refine⟨q,U,?_,⟨h.os,h.tape,h.output,h.size,fun k O=>h.block k O zp⟩⟩;unfold Own;rw[zqm,<-zgF];exact R
end
