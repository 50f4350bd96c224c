/-
  A run: the atoms that a body asks for. A run: spans that are
-/
import Derived.Test.YtfdickkdlcgicaaGreatDoorQ36
import Derived.Maps.RangeWalk
set_option maxRecDepth 100000
set_option maxHeartbeats 8000000
set_option linter.all false
namespace Go.Proofs.YtfdickkdlcgicaaGreatDoor.C
open Go.Proofs.Tryz Go Go.RowKit Go.Maps Go.WideMaps
variable {A:Option Addr}{G:yW}{N R wb:Nat}{S:Nat->Prop}{c:Cx}{h:At}{n:Int}{w w':World}
section
theorem zbi:qB prog 136 38 2 40:=qB.of (z:=.agg #[.string ⟨#[]⟩,.slice none 0 0]) underlying136 zo rfl zr
def Yy(body:List Li):List At:=(body.filter fun x=>x.k != 3).map (·.a)
theorem zh9(body:List Li)(i:Nat)(h:i<body.length):Yy (body.take (i+1))=Yy (body.take i)++(if body[i].k=3 then []else [body[i].a]):=by
 unfold Yy;rw[zpC h,zrk,zp1]
 congr 1
 by_cases q:body[i].k=3
 ·rw[if_pos q,zqp (by simp[q])];rfl
 ·rw[if_neg q,zqK (by simpa using q)];rfl
theorem ziu(body:List Li):(Yy body).length<=body.length:=by
 unfold Yy;rw[zpO];exact zqS _ _
theorem znk(w:World)(B:Option Addr)(zM V:Nat)(body:List Li)(hB:zZ Li.cells w B body)(hn:body.length=V)(ap:V<=1048576):Calls prog 56 #[.slice B V zM] w (XA At.cells 38 2 (Yy body) w):=by
 have al:=zz hB;have Hn:=zz hn;clear hB hn;go_enter func56,ntmps56;go_wp2
 go_loopg[3,5,8] V (fun gk L O I q=>∃(i:Nat) (A:Option Addr) (n N:Nat) (ys:List At),i<=V/\gk=V-i/\I=.int .i64 (i:Int)/\L=.slice A n N/\ys.length=n/\n<=i/\ys=Yy (body.take i)/\Own At.cells 38 2 q A N ys/\(∀g∈zw A,w.heap.size<=g)/\Bl w q)
 case atStart=>exact⟨0,none,0,0,[],zpD _,rfl,rfl,rfl,rfl,zpx _,rfl,Own.qz _,by simp[zw],Below.refl _ _⟩
 case round=>
  obtain⟨i,A,n,N,ys,hi,rfl,rfl,rfl,q,I,L,R,O,hB⟩:=hrel;have W:=zz q;have Z:=zz L;have Ho:=zz R;have Hg:=zz O;have HB:=zz hB;have Y:=zz I;clear q L R O hB I
  by_cases X:i<V
  ·have ab:i<body.length:=by rw[Hn.o];exact X
   obtain⟨b,o,rfl,ao,I⟩:=(al.o.below HB.o).at Li.xG i ab;have q:=zh9 body i ab;generalize body[i]=x at I q
   replace I:wr.rangeAt b (o+i*16) x.cells:=I
   have Hr:=zz I;clear I;go_upto_region 5 with(first
    |(refine xW 50 _ rfl ?_;refine wpList_load_mid rfl 50 _ rfl b (o+i*16) rfl x.cells _ Hr.o underlying50 rfl (q9 x) ?_)
    |(refine xy 50 _ _ rfl ?_;refine XP rfl 50 _ _ rfl _ x.cells rfl rfl ?z (q9 x) ?one ?_))
   case z=>rw[Li.xG];rfl
   case one=>exact x.Ys
   intro W5 I;have c0:W5.cell? ⟨wr.heap.size,0,none⟩=some (.int .i8 x.k):=I.b0.cell 0;have c1:W5.cell? ⟨wr.heap.size,1,none⟩=some (.string x.a.p):=I.b0.cell 1;have c2:W5.cell? ⟨wr.heap.size,2,none⟩=some (.slice x.a.A x.a.args.length x.a.cap):=I.b0.cell 2;have R:Kz (Bl wr W5):=I.below;have an:wr.heap.size<W5.heap.size:=I.b0.lt;clear I
   by_cases h3:x.k=3
   ·rw[if_pos h3,zp7]at q;have O:=zz q;have k1:(x.k != 3)=false:=by simp[h3]
    clear q h3;go_wp2
    go_roundg (V-(i+1))
    case measure=>omega
    case rel=>exact⟨i+1,A,n,N,ys,X,rfl,ze,rfl,W.o,by have:=Y.o;omega,by rw[O.o];exact Z.o,Ho.o.below R.o,Hg.o,zl HB.o R.o⟩
   ·rw[if_neg h3]at q;have O:=zz q;have k1:(x.k != 3)=true:=by simpa using h3
    have am:n<=1048576:=by have:=Y.o;omega
    obtain⟨⟨xp,xA,U,I⟩,aa⟩:∃a,x.a=a:=⟨_,rfl⟩;rw[aa]at c1 c2;have O:=zz (show Yy (body.take (i+1))=Yy (body.take i)++[⟨xp,xA,U,I⟩]from by rw[O.o,aa]);simp only at c1 c2;clear q h3 aa
    go_wp2_with (at_builtin;refine ZP zbi (f:=At.cells) (xs:=ys) ((Ho.o.below R.o).alloc _) W.o ⟨xp,xA,U,I⟩ ?_)
    intro g ad w6 aa af ac;have ag:zh (·∈zw A) wr w6:=(((zh.xj (·∈zw A) R.o).alloc _)).trans af (fun x hx _=>hx);have ah:Bl w w6:=ag.qt HB.o (zpx _) Hg.o;have ae:w.heap.size<=g:=by
     rcases ac with h|h
     ·exact Hg.o g h
     ·have h4:=HB.o.size;have h5:=R.o.size;try simp at h
      omega
    have aj:=zz aa;have ai:=zz ah;have ak:=zz ae;clear aa af ac ag ah ae c0 c1 c2 k1;go_wp2
    go_roundg (V-(i+1))
    case measure=>omega
    case rel=>exact⟨i+1,some ⟨g,0,none⟩,n+1,ad,ys++[⟨xp,xA,U,I⟩],X,rfl,ze,rfl,by simp[W.o],by have:=Y.o;omega,by rw[O.o,Z.o],aj.o,xY ak.o,ai.o⟩
  ·obtain rfl:i=V:=zd;have L:=Z.o;rw[zpT (zq4 Hn.o)]at L;have q:=zz L;clear L;go_wp2;go_returns;exact⟨A,N,n,rfl,by rw[<-q.o];exact W.o,by rw[<-q.o];exact Ho.o,HB.o,Hg.o⟩
theorem zgy(h:yd w wb G S N)(B F T:Option Addr)(zM ao aj I:Nat)(body:List Li)(X O:List Nat)(hB:zZ Li.cells w B body)(hF:zZ yX w F X)(hT:zZ yX w T O)(hn:body.length=I)(ak:X.length=I)(aq:O.length=I)(aC:I<=1048576)(hp:∀x∈body,x.a.p.size<=maxLen)(ar:∀i (q:i<body.length),X.getD i 0<=O.getD i 0/\O.getD i 0<=if body[i].k=1 then YF G body[i].a.p else 0):
 Calls prog 57 #[.pointer (some ⟨wb,0,none⟩),.slice B I zM,.slice F I ao,.slice T I aj] w fun e q=>e=.returned (.bool true)/\Bl w q:=by
 have aw:=zz hB;have HF:=zz hF;have HT:=zz hT;have Hn:=zz (zpG hn (zpG ak aq));have Hp:=zz hp;have ax:=zz ar;have Y:=zz (fun W (hW:Bl w W) p (hp:p.size<=maxLen)=>JY (h.below hW) p hp);clear h hB hF hT hn ak aq hp ar;go_enter func57,ntmps57;go_wp2
 go_loopg[9,10,11,26] I (fun gk V R U q L=>∃i:Nat,i<=I/\gk=I-i/\q=.int .i64 (i:Int)/\Bl w L)
 case atStart=>exact⟨0,zpD _,rfl,rfl,Below.refl _ _⟩
 case round=>
  obtain⟨i,aA,rfl,rfl,hB⟩:=hrel;have HB:=zz hB;clear hB
  by_cases L:i<I
  ·have ab:i<body.length:=by rw[Hn.o.1];exact L
   have au:i<X.length:=by rw[Hn.o.2.1];exact L
   have ad:i<O.length:=by rw[Hn.o.2.2];exact L
   obtain⟨b,o,rfl,aB,hr⟩:=(aw.o.below HB.o).at Li.xG i ab;obtain⟨fb,fo,rfl,af,aa⟩:=(HF.o.below HB.o).at (c:=0) (fun _=>rfl) i au;obtain⟨tb,U,rfl,ac,q⟩:=(HT.o.below HB.o).at (c:=0) (fun _=>rfl) i ad;obtain⟨ae,R⟩:=ax.o i ab;rw[getD_at _ au,getD_at _ ad]at ae;rw[getD_at _ ad]at R;have al:=Hp.o _ (zpB ab);generalize body[i]=x at hr R al;generalize X[i]=Z at aa ae;generalize O[i]=V at q ae R;have an:=zz (show wr.cell? ⟨fb,fo+i,none⟩=some (.int .i64 (Z:Int)) by simpa using aa 0 _ rfl);have ah:=zz (show wr.cell? ⟨tb,U+i,none⟩=some (.int .i64 (V:Int)) by simpa using q 0 _ rfl);have ap:=zz af;have ai:=zz ac
   replace hr:wr.rangeAt b (o+i*16) x.cells:=hr
   have Hr:=zz hr;clear hr aa q af ac;go_upto_region 7 with(first
    |(refine xW 50 _ rfl ?_;refine wpList_load_mid rfl 50 _ rfl b (o+i*16) rfl x.cells _ Hr.o underlying50 rfl (q9 x) ?_)
    |(refine xy 50 _ _ rfl ?_;refine XP rfl 50 _ _ rfl _ x.cells rfl rfl ?z (q9 x) ?one ?_))
   case z=>rw[Li.xG];rfl
   case one=>exact x.Ys
   intro W5 q;have c0:W5.cell? ⟨wr.heap.size,0,none⟩=some (.int .i8 x.k):=q.b0.cell 0;have c1:W5.cell? ⟨wr.heap.size,1,none⟩=some (.string x.a.p):=q.b0.cell 1;have ac:Kz (Bl wr W5):=q.below;have aE:decide ((Z:Int)<0)=false:=zp;have aD:decide ((V:Int)<(Z:Int))=false:=zb;have ay:decide (V<Z)=false:=zb;have az:¬((V:Int)<(Z:Int)):=zd;clear q
   by_cases h1:x.k=1
   ·have k1:(x.k==1)=true:=by simp[h1]
    rw[if_pos h1]at R;have ag:=zz (Y.o W5 (zl HB.o ac.o) x.a.p al);obtain⟨n,hn⟩:∃n,YF G x.a.p=n:=⟨_,rfl⟩;rw[hn]at ag R;have av:decide ((n:Int)<(V:Int))=false:=zb;have af:decide (n<V)=false:=zb;clear hn h1;go_upto_region 9 with(go_at_call 15;refine ag.o.mono ?_;rintro e w6⟨rfl,am⟩;have q:=zz (zl ac.o am);clear am c0 c1)
    have H9:=zz (show ∀W,Bl w6 W->W.cell? ⟨fb,fo+i,none⟩=some (.int .i64 (Z:Int))/\W.cell? ⟨tb,U+i,none⟩=some (.int .i64 (V:Int))/\(i:Int)<(I:Int)/\i<I from fun W hW=>
     ⟨((q.o.trans (hW.mono q.o.size)).cell (p:=⟨fb,fo+i,none⟩) ap.o).trans an.o,((q.o.trans (hW.mono q.o.size)).cell (p:=⟨tb,U+i,none⟩) ai.o).trans ah.o,zd,L⟩)
    refine xX [0,0,0,0,0,0,0,0,0,0,0,0,0,0,0,0,0,0,0,0,0,0,0,0] (fun W=>Bl w6 W) ?_
    repeat refine zS H9.o ?_
    refine xt ?_;have aa:Kz (Bl w w6.drew):=zl HB.o (zl q.o (Below.refl _ _).drew);go_wp2
    go_roundg (I-(i+1))
    case measure=>omega
    case rel=>exact⟨i+1,L,rfl,ze,aa.o⟩
   ·have k1:(x.k==1)=false:=by simp[h1]
    rw[if_neg h1]at R;have av:decide ((0:Int)<(V:Int))=false:=zb;have af:decide (0<V)=false:=zb;have ag:¬0<V:=zd;have q:=zz ac.o;clear h1;go_upto_region 9 with fail
    clear c0 c1;have H9:=zz (show ∀W,Bl W5 W->W.cell? ⟨fb,fo+i,none⟩=some (.int .i64 (Z:Int))/\W.cell? ⟨tb,U+i,none⟩=some (.int .i64 (V:Int))/\(i:Int)<(I:Int)/\i<I from fun W hW=>
     ⟨((q.o.trans (hW.mono q.o.size)).cell (p:=⟨fb,fo+i,none⟩) ap.o).trans an.o,((q.o.trans (hW.mono q.o.size)).cell (p:=⟨tb,U+i,none⟩) ai.o).trans ah.o,zd,L⟩)
    refine xX [0,0,0,0,0,0,0,0,0,0,0,0,0,0,0,0,0,0,0,0,0,0,0,0] (fun W=>Bl W5 W) ?_
    repeat refine zS H9.o ?_
    refine xt ?_;have aa:Kz (Bl w W5.drew):=zl HB.o (zl q.o (Below.refl _ _).drew);go_wp2
    go_roundg (I-(i+1))
    case measure=>omega
    case rel=>exact⟨i+1,L,rfl,ze,aa.o⟩
  ·obtain rfl:i=I:=zd;go_wp2;go_returns;exact⟨rfl,HB.o⟩
theorem Ga(h:-9223372036854775808<=n)(q:n<=9223372036854775807):(Lit.int .i64 n).wf=true:=by
 simp[Lit.wf,IntKind.min,IntKind.max,IntKind.signed,IntKind.bits];omega
theorem zm2(h:(Lit.int .i64 n).wf=true):-9223372036854775808<=n/\n<=9223372036854775807:=by
 simp[Lit.wf,IntKind.min,IntKind.max,IntKind.signed,IntKind.bits]at h;omega
theorem VS(h:(Lit.int .i64 n).wf=true):(Vl.num n).val.wf:=⟨show(Lit.int .i8 1).wf=true from zr,h,show(⟨#[]⟩:ByteArray).size<=maxLen from zr⟩
theorem zmd{s:ByteArray}(h:s.size<=200):(Vl.YU s).val.wf:=⟨show(Lit.int .i8 2).wf=true from zr,show(Lit.int .i64 0).wf=true from zr,zpK (show s.size<=200 from h) zr⟩
theorem zhl{tk:Nat->Int}{q:Nat}{l:List Vl}{x:Vl}(h:qQ tk q l=some x)(U:∀v∈l,v.ok/\v.val.wf):x.val.wf:=by
 have I:∀i,(Lit.int .i64 (l.getD i Vl.zero).n).wf=true/\(l.getD i Vl.zero).s.size<=200:=fun i=>by
  rw[zpW]
  rcases hq:l[i]? with _|v
  ·exact⟨zr,zr⟩
  ·have:=U v (zqE hq);exact⟨this.2.2.1,Vl.Yw this.1⟩
 have L:∀(s:ByteArray)(y:Vl),(if s.size<=200 then some (Vl.YU s)else none)=some y->y.val.wf:=fun s y N=>by
  split at N
  next hs=>cases N;exact zmd hs
  ·cases N
 unfold qQ at h;split at h
 ·split at h
  ·cases h;exact VS (wrap64_wf _)
  ·split at h
   ·cases h;exact VS (wrap64_wf _)
   ·split at h
    ·cases h;exact VS (wrap64_wf _)
    ·split at h
     ·cases h;exact VS (wrap64_wf _)
     ·split at h
      ·split at h
       ·cases h
       ·cases h
        split
        ·exact VS (wrap64_wf _)
        ·obtain⟨R,N⟩:=zm2 (I 0).1;refine VS (Ga ?_ ?_)
         ·generalize(l.getD 0 Vl.zero).n=a at R N ⊢;generalize(l.getD 1 Vl.zero).n=b;have V:(a.tmod b).natAbs<=a.natAbs:=by rw[Int.natAbs_tmod];exact Nat.mod_le _ _
          have O:0<=a->0<=a.tmod b:=fun h=>Int.tmod_nonneg b h
          omega
         ·generalize(l.getD 0 Vl.zero).n=a at R N ⊢;generalize(l.getD 1 Vl.zero).n=b;have V:(a.tmod b).natAbs<=a.natAbs:=by rw[Int.natAbs_tmod];exact Nat.mod_le _ _
          by_cases W:0<=a
          ·omega
          ·have O:0<=(-a).tmod b:=Int.tmod_nonneg b zd;rw[Int.neg_tmod]at O;omega
      ·split at h
       ·exact L _ _ h
       ·split at h
        ·cases h
         have:=(I 0).2;exact VS (Ga zd (zd))
        ·split at h
         ·cases h
          have:=(I 0).2;have N:=Lib.runeCount_le (l.getD 0 Vl.zero).s;exact VS (Ga zd (zd))
         ·exact L _ _ h
 ·cases h
mutual
def Ex.Zk:Ex->Prop
 |.mk _ t _ _ h=>t.x.val.wf/\Ex.ZD h
def Ex.ZD:List Ex->Prop
 |[]=>True
 |e::h=>Ex.Zk e/\Ex.ZD h
end
theorem Ex.zfz:∀{l:List Ex},Ex.ZD l↔∀e∈l,e.Zk
 |[]=>by unfold Ex.ZD;simp
 |e::h=>by unfold Ex.ZD;rw[Ex.zfz];simp
theorem zcY{tk:Nat->Int}{ρ:Env}(V:Yj ρ):∀{d:Nat}{e:Ex}{x:Vl},e.ok d->e.Zk->e.ev tk ρ=some x->x.val.wf
 |0,.mk q t A R L,x,h,_,_=>by unfold Ex.ok at h;exact h.elim
 |d+1,.mk q t A R L,x,h,U,O=>by
  unfold Ex.ok at h;unfold Ex.ev at O;unfold Ex.Zk at U
  rcases h with⟨rfl,-,h⟩ |⟨Z,-,-,W⟩
  ·rw[if_pos rfl]at O;split at O
   next X=>cases O;exact U.1
   ·exact(V _ _ O).2
  ·rw[if_neg Z]at O;obtain⟨l,hl,h⟩:=zra.1 O;obtain⟨h1,Y⟩:=Gt.1 hl;refine zhl h fun v X=>?_
   obtain⟨i,hi,rfl⟩:=zpS.1 X;have I:i<L.length:=zd;have N:=Y i I;rw[zpF hi]at N;exact⟨J1 V.ok (W _ (zpB I)) N,zcY V (W _ (zpB I)) (Ex.zfz.1 U.2 _ (zpB I)) N⟩
theorem zbw{e:Ex}(h:e.ok 8)(hw:e.Zk):J4 c e:=fun _ _ q I=>zcY q h hw I
end
section
open Go Go.RowKit Go.Maps Go.ChangeMaps Go.MapKept
section
variable {P:Program}{k t e:TypeId}{w:World}{b r:Nat}{f:Value->Option Value}{n:Nat}
def Yi(P:Program)(k:TypeId)(w:World)(b r:Nat)(f:Value->Option Value)(n:Nat):Prop:=
 ∃I q h seen L,w.heap[b]? = some (.map I q)/\Yu P k I.toList f/\MapKept.Stamped I q/\w.heap[r]? = some (.mapIter (some b) h seen L)/\(∀x∈I.toList,x.born<h)/\(leftOf I seen).size=n/\h<=L/\h<=q
theorem Yi.map(h:Yi P k w b r f n):xv P k w b f:=by
 obtain⟨N,q,_,_,_,O,L,I,_⟩:=h;exact⟨N,q,O,L,I⟩
theorem Yi.lt(h:Yi P k w b r f n):r<w.heap.size:=by
 obtain⟨_,_,_,_,_,_,_,_,q,_⟩:=h;exact(zpN.1 q).1
theorem Yi.ne(h:Yi P k w b r f n):r≠b:=by
 obtain⟨_,_,_,_,_,I,_,_,q,_⟩:=h;intro e1;subst e1;rw[I]at q
 cases q
theorem Yi.same(h:Yi P k w b r f n)(X:w'.heap[b]? = w.heap[b]?)(O:w'.heap[r]? = w.heap[r]?):Yi P k w' b r f n:=by
 obtain⟨U,I,q,seen,Y,R,L,W,N,V⟩:=h;exact⟨U,I,q,seen,Y,X.trans R,L,W,O.trans N,V⟩
theorem xv.range(h:xv P k w b f)(U:P.underlying t=some (.map k e)):
 ∃q n,(Instr.range t (.map (some b))).run P w=.ok (.pointer (some ⟨w.heap.size,0,none⟩)) q/\Yi P k q b w.heap.size f n/\Bl w q/\q.heap.size=w.heap.size+1:=by
 have L:=h.lt;obtain⟨N,q,O,R,I⟩:=h;exact⟨_,_,run_range_map w t k e b N q U O,⟨N,q,q,#[],q,((MapKept.heap_alloc w _).2 b L).trans O,R,I,(MapKept.heap_alloc w _).1,I.1,rfl,zpx _,zpx _⟩,xq w _,zp⟩
theorem Yi.next(h:Yi P k w b r f n)(ty:TypeId):
 (n=0/\(Instr.next (.pointer (some ⟨r,0,none⟩)) false ty).run P w=.ok (.tuple #[.bool false]) w)\/
 ∃O v q I,f O=some v/\(Instr.next (.pointer (some ⟨r,0,none⟩)) false ty).run P w=.ok (.tuple #[.bool true,O,v]) q/\Yi P k q b r f I/\I<n/\zh (·=r) w q/\q.heap.size=w.heap.size/\(Instr.entry (.pointer (some ⟨r,0,none⟩))).run P q=.ok (.tuple #[O,v]) q:=by
 have aa:=h.ne;obtain⟨V,q,I,seen,c0,hb,hm,X,hr,U,rfl,ac,W⟩:=h
 rcases run_next_at (P:=P) w ty r b I c0 seen V q hr hb U ac with⟨h0,N⟩ |⟨e,he,w1,R,N⟩
 ·exact .inl ⟨h0,N⟩
 ·obtain⟨Y,ae⟩:=mem_left he;have ab:w1.heap[r]? = some (.mapIter (some b) I seen c0):=by rcases R with rfl|rfl<;>exact hr
  have ad:w1.heap[b]? = some (.map V q):=by rcases R with rfl|rfl<;>exact hb
  have L:=heap_set (o':=.mapIter (some b) I (seen.push e.born) q) ab;have Z:(setBlock w1 r (.mapIter (some b) I (seen.push e.born) q)).heap[b]? = some (.map V q):=(L.2 b (fun e1=>aa e1.symm)).trans ad;refine .inr ⟨e.key,e.val,_,_,hm.has e Y,N,⟨V,q,I,seen.push e.born,q,Z,hm,X,L.1,U,rfl,W,W⟩,left_shrinks V seen e he,?_,?_,run_entry_at _ r b I seen V q e L.1 Z Y ((stamped_iff V q).1 X).2.1⟩
  ·rcases R with rfl|rfl<;>exact⟨rfl,rfl,rfl,by simp[setBlock],fun i _ O=>L.2 i O⟩
  ·rcases R with rfl|rfl<;>simp[setBlock]
section
variable {ops:Array Oper}{rest:List Oper}{o:Oper}{a:Act}{Q:Exit->Act->World->Prop}
theorem zmj(X:o.guard=none)(m:Operand)(t:TypeId)(N:o.op=Op.range t m)(Y:P.underlying t=some (.map k e))(R:a.eval m=.map (some b))(h:xv P k w b f)(W:∀q n,Yi P k q b w.heap.size f n->Bl w q->q.heap.size=w.heap.size+1->wpList P ops Q rest (a.put o.dst (.pointer (some ⟨w.heap.size,0,none⟩))) q):wpList P ops Q (o::rest) a w:=by
 refine wpList_plain X fun Z L=>?_
 obtain⟨q,n,I,V,O,U⟩:=h.range Y;unfold Oper.wp;simp[execOp,N,R,I,Result.andThen];exact L _ _ (W q n V O U)
theorem zn7(hg:o.guard=none)(it:Operand)(R:o.op=Op.next it false)(U:a.eval it=.pointer (some ⟨r,0,none⟩))(h:Yi P k w b r f n)(N:n=0->wpList P ops Q rest (a.put o.dst (.tuple #[.bool false])) w)(O:∀q v L W,f q=some v->Yi P k L b r f W->W<n->zh (·=r) w L->L.heap.size=w.heap.size->(Instr.entry (.pointer (some ⟨r,0,none⟩))).run P L=.ok (.tuple #[q,v]) L->wpList P ops Q rest (a.put o.dst (.tuple #[.bool true,q,v])) L):wpList P ops Q (o::rest) a w:=by
 refine wpList_plain hg fun K' V=>?_
 unfold Oper.wp
 rcases h.next o.type with⟨h0,I⟩ |⟨q,v,L,W,hf,I,hr,X,hc,Z,Y⟩
 ·simp[execOp,R,U,I,Result.andThen];exact V _ _ (N h0)
 ·simp[execOp,R,U,I,Result.andThen];exact V _ _ (O q v L W hf hr X hc Z Y)
end
end
end
section
def J7(h:ByteArray->Nat)(f:Value->Option Value):Prop:=∀p v,f (.string p)=some v->v=.int .i64 (h p:Int)
theorem J7.put{L:ByteArray->Nat}{f:Value->Option Value}(h:J7 L f)(p:ByteArray):J7 L (yp f (.string p) (.int .i64 (L p:Int))):=fun q v I=>by
 by_cases N:q=p
 ·subst N;rw[Yt]at I;injection I with I;exact I.symm
 ·rw[XR (fun e=>N (by injection e))]at I;exact h q v I
theorem zkt(h:yd w wb G S N)(ar:ByteArray->Nat)(hG:∀p a R,G p=some (a,R)->a=ar p)(A:Option Addr)(cap n:Nat)(l:List At)(hl:zZ At.cells w A l)(hn:l.length=n)(L:∀a∈l,a.args.length=ar a.p)(hp:∀a∈l,a.p.size<=maxLen)(aF:n<=1048576):
 Calls prog 55 #[.pointer (some ⟨wb,0,none⟩),.slice A n cap] w fun e q=>e=.returned (.bool true)/\Bl w q:=by
 have aG:=@run_makeMap prog;obtain⟨tb,pb,vs,f,D,T,own,h,q,-⟩:=h;have Hw:=zz h;have aw:Kz (∀p d,D p=some d->d.ar=ar p):=fun p d hd=>hG p d.ar (rowsOf vs d.ar d.R) (by rw[q,hd];rfl)
 have HL:=zz hl;have Hn:=zz hn;have aA:=zz L;have Hp:=zz hp;clear h hG hl hn L hp q;obtain⟨W1,q⟩:∃W1,w.alloc (.map #[] 0)=W1:=⟨_,rfl⟩;have I:Bl w W1:=q▸xq w _;have O:W1.heap.size=w.heap.size+1:=by rw[<-q];simp
 have U:xv prog 9 W1 w.heap.size fun _=>none:=by rw[<-q];exact xv.new w 0
 have ay:=zz q;have ap:=zz I;have aD:=zz U;have ac:=zz O;have V:=(Hw.o.zH.below I).cell 1;clear q I O U;go_enter func55,ntmps55;go_upto_region 2 with fail
 rw[ay.o]
 go_wp2_with (at_range;refine zmj rfl _ _ rfl underlying115 rfl (Hw.o.map.below ap.o) ?_;intro w2 n2 Z al ag;have ax:=zz Z;have ak:=zz al;have aE:=zz ag;clear Z al ag V)
 go_frame
 go_loopg[6,7] n2 (fun gk I O q=>Yi prog 9 q pb W1.heap.size f gk/\(∃fN,xv prog 9 q w.heap.size fN/\J7 ar fN)/\Bl w q)
 case atStart=>exact⟨ax.o,⟨_,aD.o.below ak.o,fun p v hv=>by cases hv⟩,zl ap.o ak.o⟩
 case round=>
  obtain⟨Z,⟨fN,O,I⟩,U⟩:=hrel;have az:=zz Z;have au:=zz O;have aj:=zz I;have HB:=zz U;clear Z O I U
  go_wp2_with (at_next;refine zn7 rfl _ rfl rfl az.o ?_ ?_)
  ·intro I;clear I;go_wp2
   go_loopg[9,10,11,30] n (fun gk V O U I q=>∃(i:Nat) (fN:Value->Option Value),i<=n/\gk=n-i/\I=.int .i64 (i:Int)/\xv prog 9 q w.heap.size fN/\J7 ar fN/\Bl w q)
   case atStart=>exact⟨0,fN,zpD _,rfl,rfl,au.o,aj.o,HB.o⟩
   case round=>
    obtain⟨i,f2,hi,rfl,rfl,q,O,I⟩:=hrel;have ab:=zz q;have ad:=zz O;have U:=zz I;clear q O I
    by_cases V:i<n
    ·have af:i<l.length:=by rw[Hn.o];exact V
     obtain⟨b,o,rfl,ao,I⟩:=(HL.o.below U.o).at (c:=1) (fun _=>rfl) i af;have L:=aA.o _ (zpB af);have q:=Hp.o _ (zpB af);generalize l[i]=x at I L q;obtain⟨p,A2,am,ai⟩:=x;simp only[At.cells]at I L q;rw[L]at I;generalize O:ar p=an at I
     replace I:wr.rangeAt b (o+i*2) _:=I
     obtain⟨d0,d1⟩:=two I;have aa:=zz q;have Y:=zz O;have X:=fun W (hW:Bl wr W)=>(ab.o.below hW).look q8 underlying219 (z:=.int .i64 0) zo (ye q) true
     have ah:=fun o=>X (wr.alloc o) (xq _ _)
     clear I L q O X;have ae:=ad.o p
     rcases hq:f2 (.string p)with _|v
     ·simp only[hq,if_true,Option.getD_none,Option.isSome_none]at ah;clear ae hq
      go_wp2_with (at_mapUpdate;refine Us rfl _ _ _ rfl (ab.o.below (xq _ _)) q8 underlying219 rfl (.string p) (.int .i64 (an:Int)) _ rfl rfl (ye aa.o) ?_;intro w5 I q;have X:=zz I;have O:=zz (show zh (·=w.heap.size) wr w5 from((zh.refl _ wr).alloc _).yu q fun _=>rfl);clear I q)
      go_roundg (n-(i+1))
      case measure=>omega
      case rel=>exact⟨i+1,_,V,rfl,ze,X.o,by have:=ad.o.put p;rw[Y.o]at this;exact this,O.o.qt U.o (zpx _) fun x hx=>zd⟩
     ·obtain rfl:=ae v hq;rw[Y.o]at hq;simp only[hq,if_true,zqr,Option.isSome_some]at ah;clear ae hq
      go_wp2_with (at_mapUpdate;refine Us rfl _ _ _ rfl (ab.o.below (xq _ _)) q8 underlying219 rfl (.string p) (.int .i64 (an:Int)) _ rfl rfl (ye aa.o) ?_;intro w5 I q;have X:=zz I;have O:=zz (show zh (·=w.heap.size) wr w5 from((zh.refl _ wr).alloc _).yu q fun _=>rfl);clear I q)
      go_roundg (n-(i+1))
      case measure=>omega
      case rel=>exact⟨i+1,_,V,rfl,ze,X.o,by have:=ad.o.put p;rw[Y.o]at this;exact this,O.o.qt U.o (zpx _) fun x hx=>zd⟩
    ·obtain rfl:i=n:=zd;go_wp2;go_returns;exact⟨rfl,U.o⟩
  ·intro aB v w3 n3 Y am V ad av aq;obtain⟨p,rfl⟩:=Hw.o.only aB v Y;rw[Hw.o.XM p]at Y;obtain⟨d,hd,rfl⟩:=Option.map_eq_some_iff.1 Y;unfold Pd.kept at aq ⊢;have ao:Kz (Bl w w3):=ad.qt HB.o (zpx _) fun x hx=>by have:=ac.o;omega
   have ah:=zz (au.o.zC ad (by have:=ac.o;omega));have ae:=zz am;have aC:=zz V;have ab:=zz (aw.o p d hd);have aa:=zz (Hw.o.small p d hd);have U:=zz (fun W (hW:Bl w W)=>Dv ((Hw.o.rel p d hd).below hW));obtain⟨an,af⟩:∃n,d.ar=n:=⟨_,rfl⟩;rw[af]at U ab;have aH:=d.rb;clear Y hd am V ad av af
   go_wp2_with (first
    |(go_at_call 70;refine(U.o _ (zl ao.o (xq _ _))).mono ?_;rintro e w4⟨rfl,V⟩;have ad:=zz V;clear V aq)
    |(at_mapUpdate;rw[ad.o];refine Us rfl _ _ _ rfl (ah.o.below (xq _ _)) q8 underlying219 rfl (.string p) (.int .i64 (an:Int)) _ rfl rfl (ye aa.o) ?_;intro w5 I q;have X:=zz I;have af:=zz q;clear I q))
   have Y:zh (·=w.heap.size) w3 w5:=((zh.refl _ w3).alloc _).yu af.o fun _=>rfl
   have O:=zz Y;clear Y
   go_roundg n3
   case measure=>exact aC.o
   case rel=>
    have Y:=Hw.o.map.lt;refine⟨ae.o.same (O.o.block _ ae.o.map.lt zd) (O.o.block _ ae.o.lt (by have:=ac.o;omega)),⟨_,X.o,by have:=aj.o.put p;rw[<-ab.o]at this;exact this⟩,O.o.qt ao.o (zpx _) fun x hx=>zd⟩
noncomputable def zdd(h:At)(ρ:Env):ByteArray×List Vl:=(h.p,h.args.map fun t=>t.at ρ)
def qO(f:Fa):ByteArray×List Vl:=(f.p,f.args)
structure T5 (h:At) (b10 b13 b12 sb:Nat) (A:Option Addr) (cap:Nat) (fs:List Fa) (O:List Env) (U:Nat->Prop) (w:World):Prop where
 ZO:zD w b10 38 h.cells.toArray
 Zs:zD w b13 139 #[.pointer (some ⟨sb,0,none⟩)]
 Zf:zD w b12 26 #[.slice A fs.length cap]
 own:Own Fa.cells 71 2 w A cap fs
 XM:fs.map qO=O.map (zdd h)
 args:∀f∈fs,zZ Vl.cells w f.A f.args
 head:zZ Tm.cells w h.A h.args
 D7:U b10
 u13:U b13
 Tb:U b12
 uA:∀g∈zw A,U g
 uF:∀f∈fs,∀g∈zw f.A,U g
 uH:∀g∈zw h.A,U g
 JP:∀f∈fs,∀g∈zw f.A,g≠b12/\g∉zw A
 Gp:∀g∈zw h.A,g≠b12/\g∉zw A
 lt:∀g,U g->g<w.heap.size
def Tx(h:At)(L N q V:Nat)(O:List Env)(U:Nat->Prop)(w:World):Prop:=∃A I R,T5 h L N q V A I R O U w
theorem T5.zC{V Y:Nat}{cap:Nat}{fs:List Fa}{O:List Env}{U Q:Nat->Prop}(k:T5 h N R V Y A cap fs O U w)(I:zh Q w w')(L:∀g,U g->¬Q g):T5 h N R V Y A cap fs O U w':=
 ⟨k.ZO.zC I (L _ k.D7),k.Zs.zC I (L _ k.u13),k.Zf.zC I (L _ k.Tb),by
  rcases k.own.form with⟨rfl,rfl,rfl⟩ |⟨g,rfl,q,_⟩
  ·exact Own.qz _
  ·refine k.own.same fun x X=>I.block x ?_ (L x (k.uA x X))
   obtain rfl:x=g:=by simpa[zw]using X
   exact q,k.XM,fun f W=>(k.args f W).kept I fun g q=>L g (k.uF f W g q),k.head.kept I fun g q=>L g (k.uH g q),k.D7,k.u13,k.Tb,k.uA,k.uF,k.uH,k.JP,k.Gp,fun g q=>zpz (k.lt g q) I.size⟩
theorem zop{L:Nat}(W:c.Out=Tx h R L N c.sb):c.qT where
 zC:=fun O U Q w I q X Y=>by
  rw[W]at q ⊢;obtain⟨A,I,V,k⟩:=q;exact⟨A,I,V,k.zC X Y⟩
 lt:=fun O U w q=>by
  rw[W]at q;obtain⟨A,I,V,k⟩:=q;exact k.lt
theorem znR(w:World)(A B:Option Addr)(n m qM zM:Nat)(a b:List Vl)(ha:zZ Vl.cells w A a)(hb:zZ Vl.cells w B b)(hn:a.length=n)(hm:b.length=m)(ad:n<=140737488351232):
 Calls prog 86 #[.slice A n qM,.slice B m zM] w fun e q=>e=.returned (.bool (tf (a=b)))/\Bl w q:=by
 have Ha:=zz ha;have Hb:=zz hb;have R:=zz (zpG hn hm);clear ha hb hn hm;go_enter func86,ntmps86
 by_cases aa:n=m
 ·subst aa;go_wp2
  go_loopg[5] n (fun gk I q=>∃i:Nat,i<=n/\gk=n-i/\I=.int .i64 (i:Int)/\(∀j (X:j<a.length) (h2:j<b.length),j<i->a[j]=b[j])/\Bl w q)
  case atStart=>exact⟨0,zpD _,rfl,rfl,fun j X h2 h=>absurd h (Nat.not_lt_zero _),Below.refl _ _⟩
  case round=>
   obtain⟨i,hi,rfl,rfl,q,I⟩:=hrel;have Hs:=zz q;have HB:=zz I;clear q I
   by_cases q:i<n
   ·have ac:i<a.length:=by rw[R.o.1];exact q
    have ab:i<b.length:=by rw[R.o.2];exact q
    obtain⟨Z,oa,rfl,L,I⟩:=(Ha.o.below HB.o).at (c:=2) (fun _=>rfl) i ac;obtain⟨U,Y,rfl,O,N⟩:=(Hb.o.below HB.o).at (c:=2) (fun _=>rfl) i ab;obtain⟨x,hx⟩:∃x,a[i]=x:=⟨_,rfl⟩;obtain⟨y,hy⟩:∃y,b[i]=y:=⟨_,rfl⟩;rw[hx]at I;rw[hy]at N;have Hx:=zz (zpG hx hy);obtain⟨k1,n1,s1⟩:=x;obtain⟨k2,n2,s2⟩:=y;obtain⟨a0,a1,a2⟩:=three I;obtain⟨b0,b1,b2⟩:=three N;have H6:Kz (∀W,Bl wr W->W.cell? ⟨Z,oa+i*3,none⟩=some (.int .i8 k1)/\W.cell? ⟨Z,oa+i*3+1,none⟩=some (.int .i64 n1)/\W.cell? ⟨Z,oa+i*3+2,none⟩=some (.string s1)/\W.cell? ⟨U,Y+i*3,none⟩=some (.int .i8 k2)/\W.cell? ⟨U,Y+i*3+1,none⟩=some (.int .i64 n2)/\W.cell? ⟨U,Y+i*3+2,none⟩=some (.string s2)/\(i:Int)<(n:Int)/\i<n):=fun W V=>⟨(V.cell (p:=⟨Z,oa+i*3,none⟩) L).trans a0,(V.cell (p:=⟨Z,oa+i*3+1,none⟩) L).trans a1,(V.cell (p:=⟨Z,oa+i*3+2,none⟩) L).trans a2,(V.cell (p:=⟨U,Y+i*3,none⟩) O).trans b0,(V.cell (p:=⟨U,Y+i*3+1,none⟩) O).trans b1,(V.cell (p:=⟨U,Y+i*3+2,none⟩) O).trans b2,zd,q⟩
    clear I N a0 a1 a2 b0 b1 b2 hx hy;go_upto_region 6 with fail
    refine xX [0,0,0,0,0,0,0,0,0] (fun W=>Bl wr W) ?_
    repeat refine zS H6.o ?_
    refine xt ?_;have N:=zz (zl HB.o (Below.refl _ _).drew);obtain⟨v,V⟩:∃v,Zw ⟨k1,n1,s1⟩ ⟨k2,n2,s2⟩=v:=⟨_,rfl⟩;rw[V]
    cases v with
    |true=>
     have I:=zz (VB.1 V);clear V;go_wp2
     go_roundg (n-(i+1))
     case measure=>omega
     case rel=>exact⟨i+1,q,rfl,ze,fun j X h2 hj=>by
      rcases zrz j i with h|h
      ·exact Hs.o j X h2 h
      ·obtain rfl:j=i:=zd;rw[Hx.o.1,Hx.o.2];exact I.o,N.o⟩
    |false=>
     have I:=zz (show ¬a=b from fun e=>by
      have h:Zw ⟨k1,n1,s1⟩ ⟨k2,n2,s2⟩=true:=VB.2 (by rw[<-Hx.o.1,<-Hx.o.2];subst e;rfl);rw[V]at h;cases h)
     clear V;go_wp2;go_returns;exact⟨by rw[qu I.o];rfl,N.o⟩
   ·obtain rfl:i=n:=zd;have I:Kz (a=b):=zrj (R.o.1.trans R.o.2.symm) fun j X h2=>Hs.o j X h2 (by rw[<-R.o.1];exact X)
    go_wp2;go_returns;exact⟨by rw[qs I.o];rfl,HB.o⟩
 ·have I:Kz (¬a=b):=fun e=>aa (by rw[<-R.o.1,<-R.o.2,e])
  have q:¬((n:Int)=(m:Int)):=zd;go_wp2;go_returns;exact⟨by rw[qu I.o];rfl,Below.refl _ _⟩
theorem za8(w:World)(f g:Fa)(X:zZ Vl.cells w f.A f.args)(W:zZ Vl.cells w g.A g.args)(R:f.args.length<=140737488351232):
 Calls prog 38 #[.agg f.cells.toArray,.agg g.cells.toArray] w fun e h=>e=.returned (.bool (tf (qO f=qO g)))/\Bl w h:=by
 obtain⟨p,A,qM,a⟩:=f;obtain⟨q,B,zM,b⟩:=g;have Hf:=zz X;have Hg:=zz W;have Hn:=zz R;clear X W R;go_enter func38,ntmps38;obtain⟨W1,aa,I⟩:=xi w 71 #[.string p,.slice A a.length qM];obtain⟨Y,Z,L⟩:=xi W1 71 #[.string q,.slice B b.length zM];have N:=L.below;have h:Bl w Y:=zl I.below N;have U:=I.b0.below N;have V:=L.b0;have c0:=U.cell 0;have c1:=U.cell 1;have d0:=V.cell 0;have d1:=V.cell 1;have O:=zz h;have HC:=zz (znR Y A B a.length b.length qM zM a b (Hf.o.below h) (Hg.o.below h) rfl rfl Hn.o);clear I L N h U V
 by_cases h:p=q
 ·subst h
  go_wp2_with (go_at_call 86;refine HC.o.mono ?_;rintro e N⟨rfl,I⟩;have L:=zz I;clear I)
  go_returns;exact⟨congrArg (fun x=>Ending.returned (Value.bool x)) (show tf (a=b)=tf (qO ⟨p,A,qM,a⟩=qO ⟨p,B,zM,b⟩)from by rw[Bool.eq_iff_iff,Zn,Zn];exact⟨fun e=>by show(p,a)=(p,b);rw[e],fun e=>congrArg Prod.snd e⟩),zl O.o L.o⟩
 ·have I:Kz (¬(qO ⟨p,A,qM,a⟩=qO ⟨q,B,zM,b⟩)):=fun e=>h (congrArg Prod.fst e)
  have L:(p.toList==q.toList)=false:=by rw[bytes_beq,qu h]
  have N:¬(p.toList=q.toList):=fun e=>h (U7 e)
  go_wp2;go_returns;exact⟨by rw[qu I.o];rfl,O.o⟩
noncomputable def Zt(f:Fa)(l:List Fa):Nat:=l.countP fun y=>tf (qO f=qO y)
theorem zmi(f:Fa)(l:List Fa)(y:Fa):Zt f (l++[y])=Zt f l+if tf (qO f=qO y)=true then 1 else 0:=by
 unfold Zt;rw[List.countP_append,List.countP_cons,List.countP_nil,zp6]
theorem zmu(f:Fa){a b:List Fa}(h:(a.map qO).Perm (b.map qO)):Zt f a=Zt f b:=by
 have q:∀l:List Fa,Zt f l=(l.map qO).countP fun y=>tf (qO f=y):=fun l=>by unfold Zt;rw[List.countP_map];rfl
 rw[q,q];exact h.countP_eq _
structure Vw (w:World) (A:Option Addr) (l:List Fa):Prop where
 rd:zZ Fa.cells w A l
 each:∀f∈l,zZ Vl.cells w f.A f.args
 Ze:∀f∈l,f.args.length<=140737488351232
theorem Vw.below{l:List Fa}(h:Vw w A l)(q:Bl w w'):Vw w' A l:=⟨h.rd.below q,fun f I=>(h.each f I).below q,h.Ze⟩
theorem zfx(w:World)(f:Fa)(hf:zZ Vl.cells w f.A f.args)(ab:f.args.length<=140737488351232)(A:Option Addr)(n qM:Nat)(l:List Fa)(hl:Vw w A l)(hn:l.length=n)(ad:n<=9007199254740992):
 Calls prog 24 #[.agg f.cells.toArray,.slice A n qM] w fun e h=>e=.returned (.int .i64 (Zt f l:Int))/\Bl w h:=by
 have Z:=zz (fun(W:World) (L:Bl w W) (y:Fa) (h:y∈l)=>za8 W f y (hf.below L) ((hl.each y h).below L) ab);have Hl:=zz hl;have Hn:=zz hn;clear hf hl hn;go_enter func24,ntmps24;obtain⟨W1,q,h⟩:=xi w 71 f.cells.toArray;have Hk:=zz h.b0;have Y:=zz h.below;clear h;go_wp2;clear q
 go_loopg[5,6] n (fun gk I h q=>∃i k:Nat,i<=n/\gk=n-i/\I=.int .i64 (k:Int)/\h=.int .i64 (i:Int)/\k=Zt f (l.take i)/\k<=i/\Bl W1 q)
 case atStart=>exact⟨0,0,zpD _,rfl,rfl,rfl,rfl,zpx _,Below.refl _ _⟩
 case round=>
  obtain⟨i,k,hi,rfl,rfl,rfl,h,ac,q⟩:=hrel;have X:=zz q;have HK:=zz h;clear q h
  by_cases I:i<n
  ·have N:i<l.length:=by rw[Hn.o];exact I
   have V:Kz (Bl w wr):=zl Y.o X.o;obtain⟨O,h,rfl,R,q⟩:=(Hl.o.rd.below V.o).at (c:=1) (fun _=>rfl) i N;have HO:=zz (Z.o wr.drew (zl V.o (Below.refl _ _).drew) l[i] (zpB N));have U:Zt f (l.take (i+1))=Zt f (l.take i)+if tf (qO f=qO l[i])=true then 1 else 0:=by
    rw[zpC N,zmi]
   have aa:=zz U;have q0:wr.cell? ⟨O,h+i*2,none⟩=some (.string l[i].p):=by simpa using q 0 _ rfl
   have q1:wr.cell? ⟨O,h+i*2+1,none⟩=some (.slice l[i].A l[i].args.length l[i].cap):=q 1 _ rfl;have H5:Kz (∀W,Bl wr W->W.cell? ⟨O,h+i*2,none⟩=some (.string l[i].p)/\W.cell? ⟨O,h+i*2+1,none⟩=some (.slice l[i].A l[i].args.length l[i].cap)/\W.cell? ⟨w.heap.size,0,none⟩=some (.string f.p)/\W.cell? ⟨w.heap.size,1,none⟩=some (.slice f.A f.args.length f.cap)/\(i:Int)<(n:Int)/\i<n):=fun W L=>⟨(L.cell (p:=⟨O,h+i*2,none⟩) R).trans q0,(L.cell (p:=⟨O,h+i*2+1,none⟩) R).trans q1,(Hk.o.below (zl X.o L)).cell 0,(Hk.o.below (zl X.o L)).cell 1,zd,I⟩
   clear q q0 q1 U;go_upto_region 5 with fail
   refine xX [0,0,0,0,0,2] (fun W=>Bl wr W) ?_
   repeat refine zS H5.o ?_
   refine xf fun K L=>?_
   go_simp;refine HO.o.mono ?_;rintro e w5⟨rfl,q⟩;have U:=zz (show Bl wr w5 from(Below.refl _ _).drew.trans q);refine L.out _ _ U.o (fun _=>trivial) ?_;clear L K q;try refine zQ ?_
   repeat refine zS H5.o ?_
   refine xt ?_;have L:Kz (Bl W1 w5):=zl X.o U.o;obtain⟨v,hv⟩:∃v,tf (qO f=qO l[i])=v:=⟨_,rfl⟩;have q:=aa.o;rw[hv]at q ⊢
   cases v with
   |true=>
    rw[if_pos rfl]at q;clear hv;go_wp2
    go_roundg (n-(i+1))
    case measure=>omega
    case rel=>exact⟨i+1,k+1,I,rfl,ze,ze,by rw[q,<-HK.o],zd,L.o⟩
   |false=>
    rw[if_neg zr]at q;clear hv;go_wp2
    go_roundg (n-(i+1))
    case measure=>omega
    case rel=>exact⟨i+1,k,I,rfl,rfl,ze,by rw[q,<-HK.o];rfl,zd,L.o⟩
  ·obtain rfl:i=n:=zd;have h:=zz (show k=Zt f l by have:=HK.o;rwa [zpT (zq4 Hn.o)]at this);go_wp2;go_returns;exact⟨by rw[<-h.o];rfl,zl Y.o X.o⟩
theorem zcd(w:World)(A B:Option Addr)(n qM zM:Nat)(a b:List Fa)(O:Vw w A a)(hb:Vw w B b)(hp:(a.map qO).Perm (b.map qO))(hn:a.length=n)(Z:n<=9007199254740992):
 Calls prog 18 #[.slice A n qM,.slice B n zM] w fun e h=>e=.returned (.bool true)/\Bl w h:=by
 have I:b.length=n:=by have:=hp.length_eq;simp only[zpO]at this;omega
 have ab:=zz (fun(W:World) (q:Bl w W) (y:Fa) (h:y∈a)=>zfx W y ((O.each y h).below q) (O.Ze y h) A n qM a (O.below q) hn Z);have aa:=zz (fun(W:World) (q:Bl w W) (y:Fa) (h:y∈a)=>zfx W y ((O.each y h).below q) (O.Ze y h) B n zM b (hb.below q) I Z);have ae:=zz (fun y:Fa=>zmu y hp);have Ha:=zz O;have Hn:=zz hn;clear O hb hp hn I;go_enter func18,ntmps18;go_wp2
 go_loopg[5] n (fun gk I h=>∃i:Nat,i<=n/\gk=n-i/\I=.int .i64 (i:Int)/\Bl w h)
 case atStart=>exact⟨0,zpD _,rfl,rfl,Below.refl _ _⟩
 case round=>
  obtain⟨i,hi,rfl,rfl,h⟩:=hrel;have X:=zz h;clear h
  by_cases L:i<n
  ·have N:i<a.length:=by rw[Hn.o];exact L
   obtain⟨R,h,rfl,U,I⟩:=(Ha.o.rd.below X.o).at (c:=1) (fun _=>rfl) i N;have V:wr.cell? ⟨R,h+i*2,none⟩=some (.string a[i].p):=by simpa using I 0 _ rfl
   have Y:wr.cell? ⟨R,h+i*2+1,none⟩=some (.slice a[i].A a[i].args.length a[i].cap):=I 1 _ rfl;have H6:Kz (∀W,Bl wr W->W.cell? ⟨R,h+i*2,none⟩=some (.string a[i].p)/\W.cell? ⟨R,h+i*2+1,none⟩=some (.slice a[i].A a[i].args.length a[i].cap)/\(i:Int)<(n:Int)/\i<n):=fun W q=>⟨(q.cell (p:=⟨R,h+i*2,none⟩) U).trans V,(q.cell (p:=⟨R,h+i*2+1,none⟩) U).trans Y,zd,L⟩
   have ad:=zz (fun W (q:Bl wr W)=>ab.o W (zl X.o q) a[i] (zpB N));have ac:=zz (fun W (q:Bl wr W)=>aa.o W (zl X.o q) a[i] (zpB N));have he:=ae.o a[i];clear I V Y;go_upto_region 6 with fail
   refine Vm [(0,0),(1,0),(2,0),(3,0),(4,0),(6,0),(7,0),(8,0),(9,0),(10,0),(5,2),(11,2),(12,0)] (fun W=>Bl wr W) ?_
   repeat refine zS H6.o ?_
   refine xf fun K Y=>?_
   go_simp;refine(ad.o _ (Below.refl _ _).drew).mono ?_;rintro e w5⟨rfl,I⟩;have q:=zz (show Bl wr w5 from(Below.refl _ _).drew.trans I);refine Y.out _ _ q.o (fun _=>trivial) ?_;clear Y K I;try refine zQ ?_
   repeat refine zS H6.o ?_
   refine xf fun K Y=>?_
   go_simp;refine(ac.o _ q.o).mono ?_;rintro e w6⟨rfl,V⟩;have I:=zz (zl q.o V);refine Y.out _ _ I.o (fun _=>trivial) ?_;clear Y K V;try refine zQ ?_
   repeat refine zS H6.o ?_
   refine xt ?_;have V:Kz (Bl w w6):=zl X.o I.o;go_wp2
   go_roundg (n-(i+1))
   case measure=>omega
   case rel=>exact⟨i+1,L,rfl,ze,V.o⟩
  ·obtain rfl:i=n:=zd;go_wp2;go_returns;exact⟨rfl,X.o⟩
theorem zcN(w:World)(r:Ru)(hl:r.zN w)(hf:r.fits)(ht:r.zO.length<=1048576)(hh:r.head.length<=1048576)(hb:r.body.length<=1048575)(F:Option Addr)(U nf:Nat)(fs:List Fa)(hF:zZ Fa.cells w F fs)(ah:∀f∈fs,f.zN w)(ad:∀f∈fs,f.p.size<=maxLen)(ab:fs.length=nf)(an:nf<=1048576):
 Calls prog 12 #[.agg r.cells.toArray,.slice F nf U] w (xZ ((∀a∈r.head,a.g=0)/\Dy [r] fs) w):=by
 obtain⟨W1,ac,N⟩:=xi w 25 r.cells.toArray;have O:=N.below;have ak:=zz O;have Y:=zz N.b0;have HH:=zz (zg1 W1 r (hl.below O) hh);have HJ:=zz (fun(W:World) (R:Option Addr) (X:Bl w W) (hR:zZ Ru.cells W R [r])=>zkX W R 1 [r] hR (fun x V=>by rw[zpy.1 V];exact hl.below X) 1 rfl (fun x V=>by rw[zpy.1 V];exact hf) (fun x V=>by rw[zpy.1 V];exact ht)
  (fun x V=>by rw[zpy.1 V];omega) F U fs (hF.below X) (fun f hf=>(ah f hf).below X) ad nf ab (by
   have:(ya r).length<=1+r.body.length:=by have:=zlE r.body;simp only[ya,zpV];omega
   simp only[zpZ,zru,zp7];omega))
 clear N O hl hf ht hh hb hF ah ad ab;obtain⟨p,A,qM,L,B,zM,I⟩:=r;have V:=Y.o.cell 0;have c1:=Y.o.cell 1;have c2:=Y.o.cell 2;go_enter func12,ntmps12
 go_wp2_with (go_at_call 39;refine HH.o.mono ?_;rintro e w2⟨q,C,n2,af,pl,rfl,Z,N⟩;have al:=zz Z;have ai:=zz (zl ak.o N);obtain⟨W3,am,O⟩:=xi w2 38 #[.string q,.slice C n2 af];obtain⟨W4,aj,ag⟩:=xi W3 25 #[.string p,.slice A L.length qM,.slice B I.length zM];have r0:=(Y.o.below (zl N O.below)).cell 0;have r1:=(Y.o.below (zl N O.below)).cell 1;have r2:=(Y.o.below (zl N O.below)).cell 2;have aa:=zz O;have X:=zz ag;clear V c1 c2 N Z ac O ag)
 ·have V:Kz (Bl w W4):=zl ai.o (zl aa.o.below X.o.below);have hR:zZ Ru.cells W4 (some ⟨W3.heap.size,0,none⟩) [⟨p,A,qM,L,B,zM,I⟩]:=fun _=>⟨W3.heap.size,0,rfl,X.o.b0.lt,fun i v hi=>by
   have:=X.o.b0.cell i;rw[zp6,this];simpa using hi⟩
  refine(HJ.o W4 _ V.o hR).mono ?_;rintro e w5⟨c,rfl,hc,ae⟩;have Hc:=zz hc;have ac:=zz ae;clear hc ae r0 r1 r2 am aj hR
  by_cases h0:c=0
  ·subst h0;go_wp2;go_returns;exact⟨true,rfl,fun _=>⟨al.o za,Hc.o (by first|trivial|rfl)⟩,zl V.o ac.o⟩
  ·have ae:(c==0)=false:=by simpa using h0
   go_wp2;go_returns;exact⟨false,rfl,(fun h=>nomatch h),zl V.o ac.o⟩
 ·go_returns;exact⟨false,rfl,(fun h=>nomatch h),zl ai.o aa.o.below⟩
theorem zeN:∀(n:Nat),(List.replicate n Vl.zero).flatMap Vl.cells=(List.range (n*3)).map fun i=>Vl.zero.cells.getD (i % 3) undef
 |0=>rfl
 |n+1=>by
  rw[List.replicate_succ',zp2,zeN n,zrq,List.range_add,zp1,List.map_map]
  congr 1
  show Vl.zero.cells++[]=_;have e:∀j,(n*3+j) % 3=j % 3:=fun j=>zd
  simp only[Function.comp_def,e];rfl
theorem zhe(n:Nat):(madeCells Vl.zero.cells.toArray (n*3)).toList=(List.replicate n Vl.zero).flatMap Vl.cells:=by
 rw[zeN];unfold madeCells;simp only[Array.toList_map,Array.toList_range];refine zrh fun i _=>?_
 have h:i % 3<3:=Nat.mod_lt _ zr;show(Vl.zero.cells.toArray)[i % 3]! = _;generalize i % 3=j at h
 match j,h with
 |0,_=>rfl
 |1,_=>rfl
 |2,_=>rfl
theorem ze3(n:Nat)(Y:n<=4194304)(W:World):∃q,(Instr.makeSlice 69 (.int .i64 (n:Int)) (.int .i64 (n:Int))).run prog W=.ok (.slice (some ⟨W.heap.size,0,none⟩) n n) q/\
 Own Vl.cells 43 3 q (some ⟨W.heap.size,0,none⟩) n (List.replicate n Vl.zero)/\Bl W q:=by
 obtain⟨O,X,L,N,I⟩:=info_parts (show(prog.info? 43).map (fun i=>(i.zero,i.size,i.bytes))=some (some (.agg Vl.zero.cells.toArray),3,32) from zo);obtain⟨q,V,U,h⟩:=run_make_full (P:=prog) (w:=W) 0 69 43 O (.agg Vl.zero.cells.toArray) 3 underlying69 X L N .i64 .i64 n (by rw[I];omega) (zpK Y zr) (zpD _);refine⟨q,V,?_,⟨h.os,h.tape,h.output,h.size,fun k R=>h.block k R zp⟩⟩;unfold Own;rw[zqT,<-zhe];exact U
end
