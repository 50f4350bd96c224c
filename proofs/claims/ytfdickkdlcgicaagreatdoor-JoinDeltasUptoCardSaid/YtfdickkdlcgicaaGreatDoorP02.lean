/-
  Walks: the document's lists of terms, variables. A region th
-/
import Derived.Test.YtfdickkdlcgicaaGreatDoorP01
import Derived.Maps.Own
import Derived.StringKeys
set_option maxRecDepth 100000
set_option maxHeartbeats 8000000
set_option linter.all false
namespace Go.Proofs.YtfdickkdlcgicaaGreatDoor.C
open Go.Proofs.Tryz Go Go.RowKit Go.Maps Go.WideMaps
variable {A:Option Addr}{K:Act->World->Prop}{Q:Exit->Act->World->Prop}{S:Nat->Prop}{a:Act}{cap g size:Nat}{f m:Value->Option Value}{o:Oper}{vs:List ByteArray}{w':World}{α:Type}
section
theorem Ji:qy prog 36 45 4 48:=qy.of (z:=.agg #[.string ⟨#[]⟩,.int .i8 0,.int .i64 0,.string ⟨#[]⟩]) underlying36 zo rfl zr
theorem Z7:qy prog 86 9 1 16:=qy.of (z:=.string ⟨#[]⟩) underlying86 zo rfl zr
theorem Ts(e:Ex)(Y w:World)(A:Option Addr)(cap:Nat)(L:List Tm)(hl:e.zO Y)(hw:Bl Y w)(V:Own Tm.cells 45 4 w A cap L)(hA:∀g∈zw A,Y.heap.size<=g)(hb:L.length+e.zN.length<=1048576)(M:Nat)(hM:L.length=M):
 Calls prog 198 #[.slice A M cap,.agg e.cells.toArray] w (Acc Tm.cells 45 4 A (L++e.zN) w):=by
 match e,hl,hb with
 |.mk q ⟨v,k,n,s⟩ B zM r,hl,hb=>
  have IH:=zz (show ∀k∈r,∀(w:World)(A:Option Addr)(cap:Nat)(L:List Tm),k.zO Y->Bl Y w->Own Tm.cells 45 4 w A cap L->(∀g∈zw A,Y.heap.size<=g)->L.length+k.zN.length<=1048576->∀M,L.length=M->
   Calls prog 198 #[.slice A M cap,.agg k.cells.toArray] w (Acc Tm.cells 45 4 A (L++k.zN) w)from fun k hk w A cap L W R I U O M hM=>Ts k Y w A cap L W R I U O M hM)
  unfold Ex.zO at hl;obtain⟨X,ad,hk⟩:=hl;unfold Ex.zN at hb ⊢;rw[zpn]at hb;have I:=V.lt;have Hr:=zz X;have Hk:=zz hk;have Hw:=zz hw;have Ho:=zz V;have HA:=zz hA;have ak:=zz I;have Hb:=zz hb;have hn:M<=1048576:=zd;have HM:=zz hM;clear X hk hw V hA hb I hM;simp only[Ex.cells];obtain⟨N,I⟩:∃N,r.length=N:=⟨_,rfl⟩;rw[I]at ad ⊢;have HN:=zz I;clear I;obtain⟨W0,O,I⟩:=Vm w #[.int .i8 q,.string v,.int .i8 k,.int .i64 n,.string s,.slice B N zM] 48;have x1:=I.one 1;have x2:=I.one 2;have x3:=I.one 3;have x4:=I.one 4;have HX:=zz I;have an:=zz O;clear I O;go_enter func198,ntmps198
  go_wp2_with (at_builtin;refine X0 rfl _ _ rfl Ji (f:=Tm.cells) (xs:=L) ?own HM.o ⟨v,k,n,s⟩ _ 0 1 rfl rfl rfl ?news ?one ?le zr ?_)
  case own=>exact(Ho.o.alloc _).alloc _
  case news=>exact yp _ _ _ zp
  case one=>simp[Value.oneCell']
  case le=>omega
  intro g I w1 Z O W;rw[an.o]at O;have U:=HX.o.size;have aj:=zz (((zh.refl (·∈zw A) W0).alloc _).trans O (fun x R _=>R));have ai:=zz Z;have ap:Kz (g∈zw A\/W0.heap.size<=g):=W.imp id (fun h=>zd);have ac:=zz U;clear Z O W x1 x2 x3 x4 U;go_wp2
  go_loopg[0,5] N (fun gk U W O=>∃(i:Nat) (A':Option Addr) (I:Nat) (M':Nat),i<=N/\gk=N-i/\W=.int .i64 (i:Int)/\U=.slice A' M' I/\
   (L++(⟨v,k,n,s⟩::Ex.qp (r.take i))).length=M'/\Own Tm.cells 45 4 O A' I (L++(⟨v,k,n,s⟩::Ex.qp (r.take i)))/\zh (·∈zw A) W0 O/\∀g∈zw A',g∈zw A\/W0.heap.size<=g)
  case atStart=>exact⟨0,some ⟨g,0,none⟩,I,M+1,zo5 _,rfl,rfl,rfl,by simp[Ex.qp,HM.o],by simpa[Ex.qp]using ai.o,aj.o,xW ap.o⟩
  case round=>
   obtain⟨i,A',I,M',hi,rfl,rfl,rfl,O,V,U,W⟩:=hrel;have x5:=DK HX.o ak.o U 5;have Z:Bl Y wr:=U.qq (Hw.o.trans (HX.o.below.mono Hw.o.size)) (zoZ _) HA.o;have ag:=zz O;have HO:=zz V;have HC:=zz U;have HG:=zz W;have HB:=zz Z;clear O V U W Z
   by_cases af:i<N
   ·have ab:i<r.length:=by rw[HN.o];exact af
    obtain⟨b,o,rfl,aq,X⟩:=(Hr.o.below HB.o).at Ex.xF i ab;have hm:=zo3 ab;have W:r.take (i+1)=r.take i++[r[i]]:=zo4 ab;have aa:(Ex.qp (r.take (i+1))).length<=(Ex.qp r).length:=by
     have:r=r.take (i+1)++r.drop (i+1):=(zpL _ _).symm;rw[congrArg Ex.qp this,Ex.Gq,zo1];omega
    have ah:=Ex.qB.mem Hk.o _ hm;have U:=IH.o r[i] hm wr A' I _ ah HB.o HO.o (by
     intro x R
     rcases HG.o x R with h|h
     ·exact HA.o _ h
     ·have:=ac.o;have:=Hw.o.size;omega)
    generalize r[i]=kk at X W U;rw[W,Ex.Gq,zo1]at aa;have Z:Ex.qp [kk]=kk.zN:=by simp[Ex.qp]
    rw[Z]at aa
    replace U:=U (by
     have:=Hb.o;rw[zo1,zpn];omega) M' ag.o
    have ae:=zz U;clear U;have al:=zz (show Ex.qp (r.take (i+1))=Ex.qp (r.take i)++kk.zN by rw[W,Ex.Gq,Z]);clear W aa ah hm Z;obtain⟨q2,⟨v2,k2,m2,s2⟩,A2,Z,U⟩:=kk;simp only[Ex.cells]at X ae
    replace X:wr.rangeAt b (o+i*6) _:=X
    obtain⟨d0,d1,d2,d3,d4,d5⟩:=JI X;clear X
    go_wp2_with (go_at_call 198;refine ae.o.mono ?_;rintro e w2⟨A3,W,M3,rfl,X,am,ah,aa⟩)
    have ao:=zz X;clear X
    go_roundg (N-(i+1))
    case measure=>omega
    case rel=>
     have X:L++(⟨v,k,n,s⟩::Ex.qp (r.take (i+1)))=L++(⟨v,k,n,s⟩::Ex.qp (r.take i))++(Ex.mk q2 ⟨v2,k2,m2,s2⟩ A2 Z U).zN:=by rw[al.o,zpo];rfl
     refine⟨i+1,A3,W,M3,zd,rfl,ze,rfl,by rw[X];exact ao.o,by rw[X];exact am,HC.o.trans ah (fun x R af=>?_),fun x R=>?_⟩
     ·rcases HG.o x R with h|h
      ·exact h
      ·omega
     ·rcases aa x R with h|h
      ·exact HG.o x h
      ·right;have:=HC.o.size;omega
   ·obtain rfl:i=N:=zd;go_wp2;go_returns;have W:r.take r.length=r:=zpz;have U:r.take i=r:=by rw[<-HN.o];exact W
    have V:=HO.o;have O:=ag.o;rw[U]at V O;exact⟨A',I,M',rfl,O,V,(zh.xi _ HX.o.below).trans HC.o (fun x R _=>R),fun x R=>(HG.o x R).imp id (fun h=>by have:=ac.o;omega)⟩
termination_by e
decreasing_by
 have:=List.sizeOf_lt_of_mem hk
 simp_wf
 omega
theorem Li.JQ(x:Li):∃U V N n1 X O L h q2 W Y n2 R Z I q,x.l.cells=[.int .i8 U,.string V,.int .i8 N,.int .i64 n1,.string X,.slice O L h]/\x.r.cells=[.int .i8 q2,.string W,.int .i8 Y,.int .i64 n2,.string R,.slice Z I q]:=by
 obtain⟨_,_,_,⟨U,⟨V,N,n1,X⟩,O,h,L⟩,⟨q2,⟨W,Y,n2,R⟩,Z,q,I⟩⟩:=x;exact⟨_,_,_,_,_,_,_,_,_,_,_,_,_,_,_,_,rfl,rfl⟩
theorem zjp(x:Li)(w0 w:World)(A:Option Addr)(cap:Nat)(W:List Tm)(hl:x.zO w0)(hw:Bl w0 w)(ho:Own Tm.cells 45 4 w A cap W)(hA:∀g∈zw A,w0.heap.size<=g)(hb:W.length+x.zN.length<=1048576)(M:Nat)(hM:W.length=M):
 Calls prog 139 #[.slice A M cap,.agg x.cells.toArray] w (Acc Tm.cells 45 4 A (W++x.zN) w):=by
 obtain⟨k,⟨p,B,zM,q⟩,rl,l,r⟩:=x;obtain⟨⟨I,af⟩,L,O⟩:=hl;simp only at I af L O;unfold Li.zN at hb ⊢;simp only at hb ⊢;rw[zo1,zo1]at hb;have R:=ho.lt;have Hr:=zz I;have Hw:=zz hw;have HA:=zz hA;have ah:=zz R;have HL:=zz (fun(w:World) (A:Option Addr) (cap:Nat) (W:List Tm) h2 h3 V U M hM=>Ts l w0 w A cap W L h2 h3 V U M hM);have HR:=zz (fun(w:World) (A:Option Addr) (cap:Nat) (W:List Tm) h2 h3 V U M hM=>Ts r w0 w A cap W O h2 h3 V U M hM);have Ho:=zz ho;have Hb:=zz hb;have hn:M<=1048576:=zd;have HM:=zz hM;clear I hw ho hA hb R L O hM;obtain⟨q1,v1,k1,n1,s1,A1,N1,al,q2,v2,k2,n2,s2,A2,N2,am,O,L⟩:=Li.JQ ⟨k,⟨p,B,zM,q⟩,rl,l,r⟩;simp only at O L;simp only[Li.cells,O,L,zpc,zpa]at HL HR ⊢;clear O L;obtain⟨N,L⟩:∃N,q.length=N:=⟨_,rfl⟩;rw[L]at af ⊢;have HN:=zz L;clear L;obtain⟨W0,L,O⟩:=Vm w #[.int .i8 k,.string p,.slice B N zM,.int .i8 rl,.int .i8 q1,.string v1,.int .i8 k1,.int .i64 n1,.string s1,.slice A1 N1 al,.int .i8 q2,.string v2,.int .i8 k2,.int .i64 n2,.string s2,.slice A2 N2 am] 50;have HX:=zz O;have aw:=zz L;have R:=zz O.size;have aq:=zz (Own.below Ho.o O.below);clear O L;go_enter func139,ntmps139;go_wp2;rw[aw.o]
 go_loopg[0,5] N (fun gk O U L=>∃(i:Nat) (Y:Option Addr) (X:Nat) (M':Nat),i<=N/\gk=N-i/\U=.int .i64 (i:Int)/\O=.slice Y M' X/\M'=M+i/\
  (W++q.take i).length=M'/\Own Tm.cells 45 4 L Y X (W++q.take i)/\zh (·∈zw A) W0 L/\∀g∈zw Y,g∈zw A\/W0.heap.size<=g)
 case atStart=>exact⟨0,A,cap,M,zo5 _,rfl,rfl,rfl,rfl,by simp[HM.o],by simpa using aq.o,zh.refl _ _,fun g hg=>.inl hg⟩
 case round=>
  obtain⟨i,Y,X,M',hi,rfl,rfl,rfl,L,U,ho,O,hg⟩:=hrel;have x2:=DK HX.o ah.o O 2;have V:Bl w0 wr:=O.qq (Hw.o.trans (HX.o.below.mono Hw.o.size)) (zoZ _) HA.o;have aB:M'<=1048576:=by have:=Hb.o;have:=HM.o;have:=HN.o;omega
  have aj:=zz L;have ag:=zz U;have HO:=zz ho;have HC:=zz O;have HG:=zz hg;have HB:=zz V;clear U ho O hg V L
  by_cases Z:i<N
  ·have ae:i<q.length:=by rw[HN.o];exact Z
   obtain⟨b,o,rfl,an,I⟩:=(Hr.o.below HB.o).at Tm.xF i ae;have L:q.take (i+1)=q.take i++[q[i]]:=zo4 ae;generalize q[i]=t at I L;have ak:=zz L;clear L;obtain⟨v3,k3,m3,s3⟩:=t
   replace I:wr.rangeAt b (o+i*4) _:=I
   obtain⟨d0,d1,d2,d3⟩:=four I;clear I
   go_wp2_with (at_builtin;refine X0 rfl _ _ rfl Ji (f:=Tm.cells) (xs:=W++q.take i) ?own ag.o ⟨v3,k3,m3,s3⟩ _ 0 1 rfl rfl rfl ?news ?one ?le zr ?_)
   case own=>exact HO.o.alloc _
   case news=>exact yp _ _ _ zp
   case one=>simp[Value.oneCell']
   case le=>omega
   intro g O V ac ab aa;have ai:=zz ac;have L:=zz (((zh.refl (·∈zw Y) wr).alloc _).trans ab (fun x hx _=>hx));have ad:Kz (g∈zw Y\/wr.heap.size<=g):=aa.imp id (fun h=>zd);clear ac ab aa;go_wp2
   go_roundg (N-(i+1))
   case measure=>omega
   case rel=>
    have I:W++q.take (i+1)=W++q.take i++[⟨v3,k3,m3,s3⟩]:=by rw[ak.o,zpo]
    refine⟨i+1,_,O,M'+1,zd,rfl,ze,rfl,by have:=aj.o;omega,by rw[I,zo1,ag.o];rfl,by rw[I];simpa only[zpo]using ai.o,HC.o.trans L.o (fun x hx Z=>?_),xW ?_⟩
    ·rcases HG.o x hx with h|h
     ·exact h
     ·omega
    ·rcases ad.o with h|h
     ·exact HG.o g h
     ·right;have:=HC.o.size;omega
  ·obtain rfl:i=N:=zd;have ht:q.take i=q:=by rw[<-HN.o];exact zpz
   have ho:=HO.o;have U:=ag.o;rw[ht]at ho U;have ae:∀g∈zw Y,w0.heap.size<=g:=fun g hg=>by
    rcases HG.o g hg with h|h
    ·exact HA.o g h
    ·have:=R.o;have:=Hw.o.size;omega
   have an:=HL.o wr Y X _ HB.o ho ae (by rw[U];have:=Hb.o;have:=aj.o;have:=HM.o;have:=HN.o;omega) M' U;have ao:=zz (fun(V:World) (A3:Option Addr) (O:Nat) (I:Own Tm.cells 45 4 V A3 O (W++q++l.zN)) (h2:zh (·∈zw Y) wr V) (h3:∀g∈zw A3,g∈zw Y\/wr.heap.size<=g)=>
    HR.o V A3 O _ (h2.qq HB.o (zoZ _) ae) I (fun g hg=>by
     rcases h3 g hg with h|h
     ·exact ae g h
     ·have:=HB.o.size;omega) (by rw[zo1,U];have:=Hb.o;have:=aj.o;have:=HM.o;have:=HN.o;omega))
   have au:=zz an;have ak:∀j,∀V,zh (·∈zw Y) wr V->V.cell? ⟨w.heap.size,j,none⟩=_:=fun j V h3=>(h3.cell (p:=⟨w.heap.size,j,none⟩) (by have:=HC.o.size;have:=R.o;show w.heap.size<_;omega) (fun I=>by
    rcases HG.o _ I with h|h
    ·have:=ah.o _ h;simp at this
    ·have:=R.o;simp only at h;omega)).trans (DK HX.o ah.o HC.o j)
   have I:=zz ak;clear an ak ho U ht ae;have x4:=I.o 4 wr (zh.refl _ _);have x5:=I.o 5 wr (zh.refl _ _);have x6:=I.o 6 wr (zh.refl _ _);have x7:=I.o 7 wr (zh.refl _ _);have x8:=I.o 8 wr (zh.refl _ _);have x9:=I.o 9 wr (zh.refl _ _)
   go_wp2_with (first
    |(go_at_call 198;refine(ao.o V A3 O ai.o L.o ad.o M3 ay.o).mono ?_;rintro e w4⟨A4,ae,M4,rfl,an,ax,ap,av⟩)
    |(go_at_call 198;refine au.o.mono ?_;rintro e V⟨A3,O,M3,rfl,U,ac,ab,aa⟩;have ay:=zz U;have ai:=zz ac;have L:=zz ab;have ad:=zz aa;clear U ac ab aa x2 x4 x5 x6 x7 x8 x9;have aA:=I.o 10 V L.o;have aE:=I.o 11 V L.o;have az:=I.o 12 V L.o;have aD:=I.o 13 V L.o;have aF:=I.o 14 V L.o;have aC:=I.o 15 V L.o))
   go_returns;have ak:∀x,x∈zw Y->x<w.heap.size->x∈zw A:=fun x hx Z=>by
    rcases HG.o x hx with h|h
    ·exact h
    ·have:=R.o;omega
   have ar:∀x,x∈zw A3->x<w.heap.size->x∈zw A:=fun x hx Z=>by
    rcases ad.o x hx with h|h
    ·exact ak x h Z
    ·have:=HC.o.size;have:=R.o;omega
   refine⟨A4,ae,M4,rfl,by rw[<-an];simp only[zo1,zpo],by simpa only[zpo]using ax,?_,fun g hg=>?_⟩
   ·exact(((zh.xi _ HX.o.below).trans HC.o (fun x hx _=>hx)).trans L.o ak).trans ap ar
   ·rcases av g hg with h|h
    ·rcases ad.o g h with h|h
     ·exact(HG.o g h).imp id (fun h=>by have:=R.o;omega)
     ·right;have:=HC.o.size;have:=R.o;omega
    ·right;have:=L.o.size;have:=HC.o.size;have:=R.o;omega
end
end Go.Proofs.YtfdickkdlcgicaaGreatDoor.C
namespace Go.Proofs.YtfdickkdlcgicaaGreatDoor
open Go.Proofs.Tryz Go Go.RowKit Go.Maps Go.WideMaps
variable {F G:World->Prop}{L rest:List (Nat×Oper)}{a r:Act}{id t:Nat}{o:Oper}{q:List (Nat×Nat)}{v:Value}{w:World}
section
section
variable {P:Program}{ops:Array Oper}{md:Region.Mode}{Q:Exit->Act->World->Prop}
def YK(md:Region.Mode)(ops:Array Oper)(l:Array Bool):Prop:=∀j h,ops[j]? = some h->l.getD j false=true->∀e∈h.after,Region.binds md e=true->l.getD e.on false=true
theorem zfs{l:Array Bool}{i:Nat}(h:l.getD i true=false):l.getD i false=false:=by
 by_cases q:i<l.size
 ·simp[q]at h ⊢;exact h
 ·simp[q]at h
theorem zbr{l:Array Bool}{i:Nat}(h:l.getD i true=false):i<l.size:=by
 by_cases q:i<l.size
 ·exact q
 ·simp[q]at h
theorem zdW{l:Array Bool}{i:Nat}(hi:i<l.size)(d:Bool):(l.setIfInBounds i true).getD i d=true:=by simp[hi]
theorem YK.start(n:Nat):YK md ops (Array.replicate n false):=fun j q _ h=>by
 exfalso
 by_cases q:j<n
 ·simp[q]at h
 ·simp[q]at h
theorem YK.step{l:Array Bool}{i:Nat}(h:YK md ops l)(hi:i∈Region.ready md ops l):YK md ops (l.setIfInBounds i true):=fun j U r N e O R=>by
 by_cases I:j=i
 ·subst I;obtain⟨_,o,L,q⟩:=mem_ready.1 hi;rw[r]at L;injection L with L
  subst L;exact getD_set_true (q e O R)
 ·rw[getD_set_ne false (Ne.symm I)]at N;exact getD_set_true (h j U r N e O R)
def U0(md:Region.Mode)(ops:Array Oper):Nat->Nat->Nat->Bool
 |0,_,_=>false
 |f+1,k,i=>match ops[k]? with
  |none=>false
  |some h=>h.after.any fun e=>Region.binds md e&&(e.on==i||U0 md ops f e.on i)
theorem zaa{l:Array Bool}(h:YK md ops l):∀(f k i:Nat),U0 md ops f k i=true->l.getD k false=true->l.getD i false=true
 |0,_,_,q,_=>by simp[U0]at q
 |f+1,k,i,q,L=>by
  unfold U0 at q
  rcases hok:ops[k]? with _|N
  ·rw[hok]at q;cases q
  ·rw[hok]at q;simp only at q;rw[Array.any_eq_true']at q;obtain⟨e,O,I⟩:=q;rw[zpZ,Bool.or_eq_true]at I;have:=h k N hok L e O I.1
   rcases I.2 with r|r
   ·rw[beq_iff_eq]at r;rw[<-r];exact this
   ·exact zaa h f e.on i r this
def Z8(P:Program)(md:Region.Mode)(ops:Array Oper)(Q:Exit->Act->World->Prop)(S:Array Bool->World->Prop):Nat->Array Bool->Act->World->Prop
 |0,h,a,w=>Region.ready md ops h=[]/\Q .normal a w
 |q+1,h,a,w=>
  (Region.ready md ops h=[]->Q .normal a w)/\
  ∀i∈Region.ready md ops h,wpOp P ops Q i (fun I r=>S (h.setIfInBounds i true) r/\Z8 P md ops Q S q (h.setIfInBounds i true) I r) a w
theorem J6{S:Array Bool->World->Prop}:∀(q:Nat)(r:Array Bool)(a:Act)(w:World),Z8 P md ops Q S q r a w->wpAny P md ops Q q r a w
 |0,_,_,_,h=>h
 |q+1,_,_,_,h=>⟨h.1,fun i N=>wpOp_mono (fun L I r=>J6 q _ L I r.2) (h.2 i N)⟩
theorem TF{S:Array Bool->World->Prop}{i:Nat}{Z:Oper}(hi:ops[i]? = some Z)(U:∀(j:Nat)(o:Oper) N b,ops[j]? = some o->o.op≠.select N b)(hQ:∀c a w,Q (.panic c) (a.put Z.dst v) w->Q (.panic c) a w)(V:∀l w,S (l.setIfInBounds i true) w↔S l w):
 ∀(I:Nat)(q:Array Bool)(a:Act)(w:World),YK md ops q->
  (∀j oj,ops[j]? = some oj->j≠i->q.getD j true=false->(∀e∈oj.after,Region.binds md e=true->e.on≠i)->Z.apart ops oj=true)->
  i∈Region.ready md ops q->YieldsIf P ops (fun w=>∃r,YK md ops r/\r.getD i false=false/\S r w) Z v a->S q w->
  Z8 P md ops Q S I (q.setIfInBounds i true) (a.put Z.dst v) w->Z8 P md ops Q S (I+1) q a w:=by
 intro I
 induction I with
 |zero=>
  intro q a w hd _ O hy hS H;refine⟨fun h=>(by rw[h]at O;cases O),fun j hj=>?_⟩
  by_cases r:j=i
  ·subst r;exact hy.wpOp hi ⟨q,hd,zfs (mem_ready.1 O).1,hS⟩ ⟨(V _ _).2 hS,H⟩
  ·have:=ready_mono hj r;rw[H.1]at this
   cases this
 |succ I ih=>
  intro q a w hd L O hy hS H;refine⟨fun h=>(by rw[h]at O;cases O),fun j hj=>?_⟩
  by_cases r:j=i
  ·subst r;exact hy.wpOp hi ⟨q,hd,zfs (mem_ready.1 O).1,hS⟩ ⟨(V _ _).2 hS,H⟩
  ·have Y:=H.2 j (ready_mono hj r);obtain⟨R,oj,X,ad⟩:=mem_ready.1 hj;have ab:∀e∈oj.after,Region.binds md e=true->e.on≠i:=fun e he hb W=>by
    have Y:=ad e he hb;have h0:=(mem_ready.1 O).1;rw[W]at Y
    rcases zq2 i q.size with W|W
    ·simp[W]at h0 Y;rw[h0]at Y;cases Y
    ·simp[zqL W]at Y
   have h2:=wpOp_putIf X (L j oj X r R ab) (fun N b=>U i Z N b hi) (fun N b=>U j oj N b X) hQ hy Y;have N:∀k ok,ops[k]? = some ok->k≠i->(q.setIfInBounds j true).getD k true=false->
    (∀e∈ok.after,Region.binds md e=true->e.on≠i)->Z.apart ops ok=true:=fun k ok hk ac W aa=>by
    refine L k ok hk ac ?_ aa
    by_cases aa:j=k
    ·subst aa;exact R
    ·rw[getD_set_ne true aa]at W;exact W
   have ac:∀W,S ((q.setIfInBounds i true).setIfInBounds j true) W->S (q.setIfInBounds j true) W:=fun W h=>by
    rw[Array.setIfInBounds_comm _ _ (Ne.symm r)]at h;exact(V _ _).1 h
   refine wpOp_mono (fun a' W h3=>⟨ac W h3.2.1,ih (q.setIfInBounds j true) a' W (hd.step hj) N (ready_mono O (Ne.symm r)) h3.1 (ac W h3.2.1) ?_⟩) h2;rw[Array.setIfInBounds_comm _ _ r];exact h3.2.2
def xQ(P:Program)(ops:Array Oper)(Q:Exit->Act->World->Prop)(S0 S1:World->Prop):Bool->List (Nat×Oper)->Act->World->Prop
 |_,[],a,w=>Q .normal a w
 |d,(0,o)::h,a,w=>∃v,YieldsIf P ops S0 o v a/\xQ P ops Q S0 S1 d h (a.put o.dst v) w
 |d,(1,o)::h,a,w=>∃v,YieldsIf P ops (fun w=>S0 w/\S1 w) o v a/\xQ P ops Q S0 S1 d h (a.put o.dst v) w
 |d,(2,o)::h,a,w=>if Region.wanted o (yielded ops a.tmps)=true then o.wp P a w (fun r q=>(S0 q/\(d=false->S1 q))/\xQ P ops Q S0 S1 d h r q) Q else xQ P ops Q S0 S1 d h (a.put o.dst undef) w
 |_,(_+3,o)::h,a,w=>if Region.wanted o (yielded ops a.tmps)=true then o.wp P a w (fun r q=>S0 q/\xQ P ops Q S0 S1 true h r q) Q else xQ P ops Q S0 S1 true h (a.put o.dst undef) w
def Xv(md:Region.Mode)(ops:Array Oper)(k:Nat):List (Nat×Nat)->Array Bool->Bool
 |[],h=>(Region.ready md ops h).isEmpty
 |(i,0)::q,h=>(Region.ready md ops h).contains i&&Region.free md ops h i&&i != k&&Xv md ops k q (h.setIfInBounds i true)
 |(i,1)::q,h=>(Region.ready md ops h).contains i&&Region.free md ops h i&&i != k&&U0 md ops 40 k i&&Xv md ops k q (h.setIfInBounds i true)
 |(i,2)::q,h=>Region.ready md ops h==[i]&&i != k&&Xv md ops k q (h.setIfInBounds i true)
 |(i,_+3)::q,h=>Region.ready md ops h==[i]&&i==k&&Xv md ops k q (h.setIfInBounds i true)
def xM(ops:Array Oper)(h:List (Nat×Nat)):List (Nat×Oper):=h.filterMap fun p=>(ops[p.1]?).map fun o=>(p.2,o)
theorem qP{i:Tmp}:a.put (some i) v={ a with tmps:=a.tmps.setIfInBounds i v }:=rfl
theorem qN:a.put none v=a:=rfl
section
variable {α β:Type}{l:List α}{i:Nat}{x y:α}{f:α->Option β}{g:α->β}
theorem qA:l.toArray.setIfInBounds i x=(l.set i x).toArray:=zpy _ _ _
theorem qZ:(x::l).set 0 y=y::l:=zpQ
theorem qS:(x::l).set (i+1) y=x::l.set i y:=zp0
theorem qa:(x::l).filterMap f=match f x with|none=>l.filterMap f|some b=>b::l.filterMap f:=List.filterMap_cons
theorem qb:[].filterMap f=[]:=List.filterMap_nil
theorem qc:l.toArray[i]? = l[i]?:=zpe
theorem qd:(x::l)[i+1]? = l[i]?:=zpg
theorem qe:(x::l)[0]? = some x:=zo9
theorem qf:(some x).map g=some (g x):=rfl
end
theorem Z2{S0 S1:World->Prop}{k:Nat}(Y:Region.noSelect ops=true)(Z:∀c a d v w,Q (.panic c) (a.put d v) w->Q (.panic c) a w):∀(r:List (Nat×Nat))(q:Array Bool)(d:Bool)(a:Act)(w:World),
 Xv md ops k r q=true->YK md ops q->q.getD k false=d->S0 w->(d=false->S1 w)->xQ P ops Q S0 S1 d (xM ops r) a w->Z8 P md ops Q (fun l w=>S0 w/\(l.getD k false=false->S1 w)) r.length q a w
 |[],q,d,a,w,R,_,_,_,_,h=>⟨by simpa[Xv]using R,h⟩
 |(i,0)::r,q,d,a,w,R,U,W,V,X,h=>by
  simp only[Xv,zpZ,bne_iff_ne,ne_eq]at R;obtain⟨⟨⟨c1,c2⟩,c3⟩,c4⟩:=R;have L:i∈Region.ready md ops q:=by simpa using c1
  obtain⟨_,o,O,_⟩:=mem_ready.1 L;have hp:xM ops ((i,0)::r)=(0,o)::xM ops r:=by simp[xM,O]
  rw[hp]at h;obtain⟨v,hy,N⟩:=h;have I:∀l:Array Bool,(l.setIfInBounds i true).getD k false=l.getD k false:=fun l=>getD_set_ne false c3
  exact TF O (Region.noSelect_spec Y) (fun c a w h=>Z _ _ _ _ _ h) (fun l w=>by rw[I]) _ _ _ _ U (Region.free_spec O c2) L
   (hy.imp (fun⟨x,y⟩=>⟨x,fun w ⟨l',_,_,hS⟩=>y w hS.1⟩) id) ⟨V,fun e=>X (W▸e)⟩ (Z2 Y Z r _ d _ _ c4 (U.step L) ((I _).trans W) V X N)
 |(i,1)::r,q,d,a,w,R,U,W,V,X,h=>by
  simp only[Xv,zpZ,bne_iff_ne,ne_eq]at R;obtain⟨⟨⟨⟨c1,c2⟩,c3⟩,c5⟩,c4⟩:=R;have L:i∈Region.ready md ops q:=by simpa using c1
  obtain⟨_,o,O,_⟩:=mem_ready.1 L;have hp:xM ops ((i,1)::r)=(1,o)::xM ops r:=by simp[xM,O]
  rw[hp]at h;obtain⟨v,hy,N⟩:=h;have I:∀l:Array Bool,(l.setIfInBounds i true).getD k false=l.getD k false:=fun l=>getD_set_ne false c3
  exact TF O (Region.noSelect_spec Y) (fun c a w h=>Z _ _ _ _ _ h) (fun l w=>by rw[I]) _ _ _ _ U (Region.free_spec O c2) L
   (hy.imp (fun⟨x,y⟩=>⟨x,fun w ⟨l',ab,aa,hS⟩=>y w ⟨hS.1,hS.2 (by
    rcases hkl:l'.getD k false with _|_
    ·rfl
    ·rw[zaa ab 40 k i c5 hkl]at aa;cases aa)⟩⟩) id) ⟨V,fun e=>X (W▸e)⟩ (Z2 Y Z r _ d _ _ c4 (U.step L) ((I _).trans W) V X N)
 |(i,2)::r,q,d,a,w,R,U,W,V,X,h=>by
  simp only[Xv,zpZ,bne_iff_ne,ne_eq]at R;obtain⟨⟨c1,c3⟩,c4⟩:=R;have c1:Region.ready md ops q=[i]:=by simpa using c1
  have L:i∈Region.ready md ops q:=by rw[c1];simp
  obtain⟨_,o,O,_⟩:=mem_ready.1 L;have hp:xM ops ((i,2)::r)=(2,o)::xM ops r:=by simp[xM,O]
  rw[hp]at h;have I:∀l:Array Bool,(l.setIfInBounds i true).getD k false=l.getD k false:=fun l=>getD_set_ne false c3
  refine⟨fun e=>(by rw[c1]at e;cases e),fun j hj=>?_⟩;rw[c1]at hj;obtain rfl:=zo2.1 hj;unfold wpOp;simp only[O];unfold xQ at h;split
  ·rename_i hw;rw[if_pos hw]at h;exact .inl (Oper.wp_mono (fun a' w' N=>⟨⟨N.1.1,fun e=>N.1.2 (by rw[I,W]at e;exact e)⟩,Z2 Y Z r _ d _ _ c4 (U.step L) ((I _).trans W) N.1.1 N.1.2 N.2⟩) h)
  ·rename_i hw;rw[if_neg hw]at h;exact⟨⟨V,fun e=>X (by rw[I,W]at e;exact e)⟩,Z2 Y Z r _ d _ _ c4 (U.step L) ((I _).trans W) V X h⟩
 |(i,t+3)::r,q,d,a,w,R,U,W,V,X,h=>by
  simp only[Xv,zpZ,beq_iff_eq]at R;obtain⟨⟨c1,c3⟩,c4⟩:=R;subst c3;have c1:Region.ready md ops q=[i]:=by simpa using c1
  have L:i∈Region.ready md ops q:=by rw[c1];simp
  have aa:=zbr (mem_ready.1 L).1;obtain⟨_,o,O,_⟩:=mem_ready.1 L;have hp:xM ops ((i,t+3)::r)=(t+3,o)::xM ops r:=by simp[xM,O]
  rw[hp]at h;have I:(q.setIfInBounds i true).getD i false=true:=zdW aa false;refine⟨fun e=>(by rw[c1]at e;cases e),fun j hj=>?_⟩;rw[c1]at hj;obtain rfl:=zo2.1 hj;unfold wpOp;simp only[O];unfold xQ at h;split
  ·rename_i hw;rw[if_pos hw]at h;exact .inl (Oper.wp_mono (fun a' w' N=>⟨⟨N.1,fun e=>by rw[I]at e;cases e⟩,Z2 Y Z r _ true _ _ c4 (U.step L) I N.1 (fun e=>by cases e) N.2⟩) h)
  ·rename_i hw;rw[if_neg hw]at h;exact⟨⟨V,fun e=>by rw[I]at e;cases e⟩,Z2 Y Z r _ true _ _ c4 (U.step L) I V (fun e=>by cases e) h⟩
theorem zcP(q:List (Nat×Nat))(k:Nat)(S0 S1:World->Prop)(N:P.follows .mixedOrders=true)(R:Region.noSelect ops=true)(L:q.length=ops.size)(I:Xv .any ops k q (Array.replicate ops.size false)=true)(h0:S0 w.drew)(O:S1 w.drew)(h:xQ P ops (NoPanic Q) S0 S1 false (xM ops q) a w.drew):(Code.region id ops true).wp P Q a w:=
 wp_region_noPanic (wp_region_any N (J6 _ _ _ _ (by
  rw[<-L];rw[<-L]at I;have r:(Array.replicate q.length false).getD k false=false:=by
   by_cases r:k<q.length
   ·simp[r]
   ·simp[r]
  exact Z2 R (fun _ _ _ _ _ h=>(h:False).elim) q _ false a _ I (YK.start _) r h0 (fun _=>O) h)))
theorem GU(q:List (Nat×Nat))(k:Nat)(S0 S1:World->Prop)(h0:S0 w.drew)(N:S1 w.drew)(h:xQ P ops (NoPanic Q) S0 S1 false L a w.drew)(r:xM ops q=L:=by simp only[xM,qa,qb,qc,qd,qe,qf];exact rfl)(I:P.follows .mixedOrders=true:=by kernel_rfl)(O:Region.noSelect ops=true:=by kernel_rfl)(U:q.length=ops.size:=by rfl)(R:Xv .any ops k q (Array.replicate ops.size false)=true:=by kernel_rfl):
 (Code.region id ops true).wp P Q a w:=zcP q k S0 S1 I O U R h0 N (r▸h)
theorem Vc(q:List (Nat×Nat))(S0:World->Prop)(h:xQ P ops (NoPanic Q) S0 (fun _=>True) false L a w.drew)(h0:S0 w.drew:=by first|exact(RowKit.Below.refl _ _).drew|exact(zh.refl _ _).drew)(r:xM ops q=L:=by simp only[xM,qa,qb,qc,qd,qe,qf];exact rfl)(I:P.follows .mixedOrders=true:=by kernel_rfl)(N:Region.noSelect ops=true:=by kernel_rfl)(R:q.length=ops.size:=by rfl)(O:Xv .any ops 9999 q (Array.replicate ops.size false)=true:=by kernel_rfl):
 (Code.region id ops true).wp P Q a w:=zcP q 9999 S0 (fun _=>True) I N R O h0 trivial (r▸h)
def J2:Nat->List Nat->List (Nat×Nat)
 |_,[]=>[]
 |i,k::r=>(i,k)::J2 (i+1) r
theorem XH(R:List Nat)(k:Nat)(S0 S1:World->Prop)(h0:S0 w.drew)(O:S1 w.drew)(h:xQ P ops (NoPanic Q) S0 S1 false L a w.drew)(N:J2 0 R=q:=by simp only[J2,zpx,Nat.reduceAdd];exact rfl)(r:xM ops q=L:=by simp only[xM,qa,qb,qc,qd,qe,qf];exact rfl)(I:P.follows .mixedOrders=true:=by kernel_rfl)(U:Region.noSelect ops=true:=by kernel_rfl)(W:q.length=ops.size:=by rfl)(V:Xv .any ops k q (Array.replicate ops.size false)=true:=by kernel_rfl):
 (Code.region id ops true).wp P Q a w:=have _:=N;GU q k S0 S1 h0 O h r I U W V
theorem xX(O:List Nat)(S0:World->Prop)(h:xQ P ops (NoPanic Q) S0 (fun _=>True) false L a w.drew)(h0:S0 w.drew:=by first|exact(RowKit.Below.refl _ _).drew|exact(zh.refl _ _).drew)(N:J2 0 O=q:=by simp only[J2,zpx,Nat.reduceAdd];exact rfl)(r:xM ops q=L:=by simp only[xM,qa,qb,qc,qd,qe,qf];exact rfl)(I:P.follows .mixedOrders=true:=by kernel_rfl)(R:Region.noSelect ops=true:=by kernel_rfl)(V:q.length=ops.size:=by rfl)(U:Xv .any ops 9999 q (Array.replicate ops.size false)=true:=by kernel_rfl):
 (Code.region id ops true).wp P Q a w:=have _:=N;Vc q S0 h h0 r I R V U
variable {S0 S1:World->Prop}{d:Bool}
theorem TG(hw:Region.wanted o (yielded ops a.tmps)=true)(hy:∀w,S0 w->(execOp a.eval o).run P w=.ok (.value v) w)(h:xQ P ops Q S0 S1 d rest (a.put o.dst v) w):
 xQ P ops Q S0 S1 d ((0,o)::rest) a w:=⟨v,.inl ⟨hw,hy⟩,h⟩
theorem zaW(hw:Region.wanted o (yielded ops a.tmps)=true)(hy:∀w,S0 w/\S1 w->(execOp a.eval o).run P w=.ok (.value v) w)(h:xQ P ops Q S0 S1 d rest (a.put o.dst v) w):
 xQ P ops Q S0 S1 d ((1,o)::rest) a w:=⟨v,.inl ⟨hw,hy⟩,h⟩
theorem ziP(hw:Region.wanted o (yielded ops a.tmps)=false)(h:xQ P ops Q S0 S1 d rest (a.put o.dst undef) w):
 xQ P ops Q S0 S1 d ((0,o)::rest) a w:=⟨undef,.inr ⟨hw,rfl⟩,h⟩
theorem zjs(hw:Region.wanted o (yielded ops a.tmps)=false)(h:xQ P ops Q S0 S1 d rest (a.put o.dst undef) w):
 xQ P ops Q S0 S1 d ((1,o)::rest) a w:=⟨undef,.inr ⟨hw,rfl⟩,h⟩
theorem zjl(hw:Region.wanted o (yielded ops a.tmps)=true)(h:∀K:Act->World->Prop,Shut (∀a w,S0 w->(d=false->S1 w)->xQ P ops Q S0 S1 d rest a w->K a w)->o.wp P a w K Q):xQ P ops Q S0 S1 d ((2,o)::rest) a w:=by
 unfold xQ;rw[if_pos hw];exact h _ (fun a w r q h=>⟨⟨r,q⟩,h⟩)
theorem y7(hw:Region.wanted o (yielded ops a.tmps)=true)(h:∀K:Act->World->Prop,Shut (∀a w,S0 w->xQ P ops Q S0 S1 true rest a w->K a w)->o.wp P a w K Q):xQ P ops Q S0 S1 d ((3,o)::rest) a w:=by
 unfold xQ;rw[if_pos hw];exact h _ (fun a w q h=>⟨q,h⟩)
theorem znD(hw:Region.wanted o (yielded ops a.tmps)=false)(h:xQ P ops Q S0 S1 d rest (a.put o.dst undef) w):xQ P ops Q S0 S1 d ((2,o)::rest) a w:=by
 unfold xQ;rw[if_neg (by rw[hw];exact zqp)];exact h
theorem zaO(q:t<3)(hw:Region.wanted o (yielded ops a.tmps)=false)(h:xQ P ops Q S0 S1 d rest (a.put o.dst undef) w):xQ P ops Q S0 S1 d ((t,o)::rest) a w:=
 match t,q with
 |0,_=>ziP hw h
 |1,_=>zjs hw h
 |2,_=>znD hw h
 |n+3,h=>absurd h zd
theorem zQ{q:Act}(h:xQ P ops Q S0 S1 d L q w)(e:a=q:=by simp only[qP,qN,qA,qZ,qS];exact rfl):xQ P ops Q S0 S1 d L a w:=e▸h
theorem xc(h:∀K:Act->World->Prop,Shut (∀a w,S0 w->(d=false->S1 w)->xQ P ops Q S0 S1 d rest a w->K a w)->o.wp P a w K Q)(hw:Region.wanted o (yielded ops a.tmps)=true:=by rfl):xQ P ops Q S0 S1 d ((2,o)::rest) a w:=zjl hw h
theorem zog(h:xQ P ops Q S0 S1 d rest (a.put o.dst undef) w)(q:t<3:=by decide)(hw:Region.wanted o (yielded ops a.tmps)=false:=by rfl):xQ P ops Q S0 S1 d ((t,o)::rest) a w:=zaO q hw h
theorem zn9(k:∀w,S0 w->F w)(h:xQ P ops Q S0 S1 d rest (a.put o.dst v) w)(hw:Region.wanted o (yielded ops a.tmps)=true:=by rfl)(hy:∀w,F w->(execOp a.eval o).run P w=.ok (.value v) w:=by intro r q;go_simp;try exact rfl):xQ P ops Q S0 S1 d ((0,o)::rest) a w:=TG hw (fun w hw=>hy w (k w hw)) h
theorem zoY(k:∀w,S0 w->F w)(q:∀w,S1 w->G w)(h:xQ P ops Q S0 S1 d rest (a.put o.dst v) w)(hw:Region.wanted o (yielded ops a.tmps)=true:=by rfl)(hy:∀w,F w->G w->(execOp a.eval o).run P w=.ok (.value v) w:=by intro L I r;go_simp;try exact rfl):xQ P ops Q S0 S1 d ((1,o)::rest) a w:=zaW hw (fun w hw=>hy w (k w hw.1) (q w hw.2)) h
theorem yj{p:Prop}(h:p:=by first|exact(RowKit.Below.refl _ _).drew|exact(zh.refl _ _).drew):p:=h
theorem zT(k:∀w,S0 w->F w)(h:xQ P ops Q S0 S1 d rest r w)(c:(t=0/\Region.wanted o (yielded ops a.tmps)=true/\∃v,(∀w,F w->(execOp a.eval o).run P w=.ok (.value v) w)/\a.put o.dst v=r)\/(t<3/\Region.wanted o (yielded ops a.tmps)=false/\a.put o.dst undef=r):=by
  first
   |(refine .inr ⟨zr,zj,?_⟩;first |(simp only[qP,qN,qA,qZ,qS];exact rfl)|exact rfl)
   |(refine .inl ⟨rfl,zj,_,by intro I q;go_simp;try exact rfl,?_⟩;first |(simp only[qP,qN,qA,qZ,qS];exact rfl)|exact rfl)):xQ P ops Q S0 S1 d ((t,o)::rest) a w:=by
 rcases c with⟨rfl,q,v,I,rfl⟩ |⟨L,q,rfl⟩
 ·exact TG q (fun w q=>I w (k w q)) h
 ·exact zaO L q h
theorem xK(k:∀w,S0 w->F w)(L:∀w,S1 w->G w)(h:xQ P ops Q S0 S1 d rest r w)(c:(t=0/\Region.wanted o (yielded ops a.tmps)=true/\∃v,(∀w,F w->(execOp a.eval o).run P w=.ok (.value v) w)/\a.put o.dst v=r)\/(t=1/\Region.wanted o (yielded ops a.tmps)=true/\∃v,(∀w,F w->G w->(execOp a.eval o).run P w=.ok (.value v) w)/\a.put o.dst v=r)\/(t<3/\Region.wanted o (yielded ops a.tmps)=false/\a.put o.dst undef=r):=by
  first
   |(refine .inr (.inr ⟨zr,zj,?_⟩);first |(simp only[qP,qN,qA,qZ,qS];exact rfl)|exact rfl)
   |(refine .inl ⟨rfl,zj,_,by intro I q;go_simp;try exact rfl,?_⟩;first |(simp only[qP,qN,qA,qZ,qS];exact rfl)|exact rfl)
   |(refine .inr (.inl ⟨rfl,zj,_,by intro I q N;go_simp;try exact rfl,?_⟩);first |(simp only[qP,qN,qA,qZ,qS];exact rfl)|exact rfl)):xQ P ops Q S0 S1 d ((t,o)::rest) a w:=by
 rcases c with⟨rfl,q,v,I,rfl⟩ |⟨rfl,q,v,I,rfl⟩ |⟨N,q,rfl⟩
 ·exact TG q (fun w q=>I w (k w q)) h
 ·exact zaW q (fun w q=>I w (k w q.1) (L w q.2)) h
 ·exact zaO N q h
theorem xu(h:Q .normal a w):xQ P ops (NoPanic Q) S0 S1 d [] a w:=h
end
end
end Go.Proofs.YtfdickkdlcgicaaGreatDoor
namespace Go.Proofs.YtfdickkdlcgicaaGreatDoor.C
open Go.Proofs.Tryz Go Go.RowKit Go.Maps Go.WideMaps
variable {A:Option Addr}{K:Act->World->Prop}{Q:Exit->Act->World->Prop}{S:Nat->Prop}{a:Act}{cap g size:Nat}{f m:Value->Option Value}{o:Oper}{vs:List ByteArray}{w':World}{α:Type}
section
section
variable {P:Program}{k t e:TypeId}{w:World}{b:Nat}{f:Value->Option Value}
open Classical in
noncomputable def yg(f:Value->Option Value)(x v:Value):Value->Option Value:=fun y=>if y=x then some v else f y
open Classical in
noncomputable def del(f:Value->Option Value)(x:Value):Value->Option Value:=fun y=>if y=x then none else f y
theorem Zp(m x v:Operand)(N:o.op=.mapUpdate t m x v)(h:xv P k w b f)(U:Keyed P k)(R:P.underlying t=some (.map k e))(Z:a.eval m=.map (some b))(r q:Value)(l:Lit)(Y:a.eval x=r)(hv:a.eval v=q)(L:keyOf P k r=some l)(W:∀I,xv P k I b (yg f r q)->w.mapTurned I b->K (a.put o.dst undef) I):Oper.wp P o a w K Q:=by
 obtain⟨I,X,V,O⟩:=h.put U R L q;unfold Oper.wp;simp[execOp,N,Z,Y,hv,X,Result.andThen];exact W I V O
theorem Ue{N:Array Oper}{rest:List Oper}(X:o.guard=none)(m x v:Operand)(O:o.op=.mapUpdate t m x v)(h:xv P k w b f)(W:Keyed P k)(V:P.underlying t=some (.map k e))(hm:a.eval m=.map (some b))(q r:Value)(l:Lit)(hx:a.eval x=q)(hv:a.eval v=r)(L:keyOf P k q=some l)(Z:∀I,xv P k I b (yg f q r)->w.mapTurned I b->wpList P N Q rest (a.put o.dst undef) I):wpList P N Q (o::rest) a w:=
 wpList_plain X fun _ R=>Zp m x v O h W V hm q r l hx hv L fun I Y U=>R _ _ (Z I Y U)
theorem zdV(m x:Operand)(L:o.op=.call { callee:=.builtin .delete,args:=#[m,x],argTypes:=#[t,k]})(h:xv P k w b f)(R:Keyed P k)(O:P.underlying t=some (.map k e))(Y:a.eval m=.map (some b))(q:Value)(l:Lit)(X:a.eval x=q)(I:keyOf P k q=some l)(V:∀r,xv P k r b (del f q)->w.mapTurned r b->K (a.put o.dst (.tuple #[])) r):Oper.wp P o a w K Q:=by
 obtain⟨r,W,U,N⟩:=h.drop R O I o.type;unfold Oper.wp execOp;simp only[L,resolve,invoke,builtin,Sem.run_bind,Sem.run_pure,Result.andThen_ok,zqh,zpM,zqG,Y,X,W];exact V r U N
theorem xv.new(w:World)(n:Nat):xv P k (w.alloc (.map #[] n)) w.heap.size fun _=>none:=⟨#[],n,heap_alloc_new w _,Yj.none_,MapKept.stamped_empty n⟩
theorem xv.zC(h:xv P k w b f)(q:zh S w w')(r:¬S b):xv P k w' b f:=h.same (q.block b h.lt r)
theorem xv.below(h:xv P k w b f)(q:Bl w w'):xv P k w' b f:=h.same (q.block b h.lt)
theorem Yi(f:Value->Option Value)(x v:Value):yg f x v x=some v:=if_pos rfl
theorem XG{f:Value->Option Value}{x v y:Value}(h:y≠x):yg f x v y=f y:=if_neg h
end
theorem Own.yB{f:α->List Value}{e t:TypeId}{w:World}{xs:List α}{N:Array Value}(h:Own f e size w A cap xs)(k:zD w g t N)(q:e≠t):g∉zw A:=by
 intro r
 rcases h.2 with⟨L,_⟩ |⟨U,V,O,L,_,R,_⟩
 ·injection L with I;subst I;simp[zw]at r
 ·injection L with I;subst I
  simp[zw]at r;subst r;unfold zD at k;rw[R]at k;injection k with k
  injection k with _ k
  exact q k
theorem Own.qM{f:α->List Value}{e R:TypeId}{b:Nat}{P:Program}{w:World}{xs:List α}(h:Own f e size w A cap xs)(k:xv P R w b m):b∉zw A:=by
 intro q;obtain⟨X,I,O,_⟩:=k
 rcases h.2 with⟨L,_⟩ |⟨V,W,U,L,_,N,_⟩
 ·injection L with r;subst r;simp[zw]at q
 ·injection L with r;subst r
  simp[zw]at q;subst q;rw[O]at N;cases N
theorem zD.qM{r t:TypeId}{b:Nat}{P:Program}{w:World}{I:Array Value}(h:zD w g t I)(k:xv P r w b m):g≠b:=by
 rintro rfl;obtain⟨N,q,L,_⟩:=k;unfold zD at h;rw[L]at h;cases h
theorem zh.zna{a w:World}{b:Nat}(h:zh S a w)(q:w.mapTurned w' b)(r:b<a.heap.size->S b):zh S a w':=h.yi q r
end
section
structure Vj (vs:List ByteArray) (f:Value->Option Value):Prop where
 yes:∀s∈vs,∃j:Nat,f (.string s)=some (.int .i64 ((j:Int)+1))/\j<vs.length
 no:∀s,s∉vs->f (.string s)=none
theorem Vj.qC:Vj [] fun _=>none:=⟨fun s h=>(by cases h),fun _ _=>rfl⟩
theorem Vj.push(h:Vj vs f)(v:ByteArray):Vj (vs++[v]) (yg f (.string v) (.int .i64 ((vs.length:Int)+1))):=
 ⟨fun s q=>by
  by_cases e:s=v
  ·subst e;exact⟨vs.length,by rw[Yi],by rw[zo1,zpD];omega⟩
  ·rcases zo7.1 q with q|q
   ·obtain⟨j,r,I⟩:=h.yes s q;exact⟨j,by rw[XG (by simpa using e)];exact r,by rw[zo1];omega⟩
   ·exact(e (zo2.1 q)).elim,fun s q=>by
  rw[zo7,zo2]at q;rw[XG (fun e=>q (.inr (by injection e)))];exact h.no s (fun h=>q (.inl h))⟩
theorem qT:Keyed prog 9:=string_keyed underlying9
theorem qY{s:ByteArray}(h:s.size<=maxLen):keyOf prog 9 (.string s)=some (.string s.data.toList):=keyOf_string_mk underlying9 h
structure TD (n0:Nat) (w:World) (bt bl:Nat) (mb:Nat) (A:Option Addr) (cap:Nat) (f:Value->Option Value) (vs:List ByteArray) (n:Nat):Prop where
 len:vs.length=n
 t:zD w bt 219 #[.map (some mb)]
 l:zD w bl 86 #[.slice A n cap]
 m:xv prog 9 w mb f
 n:Vj vs f
 own:Own xC 9 1 w A cap vs
 ge:n0<=bt/\n0<=bl/\n0<=mb/\∀g∈zw A,n0<=g
def zaN(r:Nat)(w:World)(I L:Nat)(vs:List ByteArray):Prop:=∃q A h f n,TD r w I L q A h f vs n
theorem TD.same{r:Nat}{w:World}{I L q:Nat}{n:Nat}(h:TD r w I L q A cap f vs n)(hw:w'.heap=w.heap):TD r w' I L q A cap f vs n:=
 ⟨h.len,h.t.same (by rw[hw]),h.l.same (by rw[hw]),h.m.same (by rw[hw]),h.n,h.own.same (fun g _=>by rw[hw]),h.ge⟩
def U6(h:Nat)(q r:Nat)(vs:List ByteArray)(w:World)(e:Ending)(w':World):Prop:=e=.returned (.tuple #[])/\zaN h w' q r vs/\Below h w w'
theorem zgw(n0:Nat)(w:World)(bt r:Nat)(vs:List ByteArray)(h:zaN n0 w bt r vs)(b o:Nat)(t:Tm)(hb:b<n0)(am:b<w.heap.size)(av:n0<=w.heap.size)(hc:w.rangeAt b o t.cells)(hn:vs.length<=1048576)(hv:t.v.size<=maxLen):
 Calls prog 179 #[.pointer (some ⟨b,o,none⟩),.pointer (some ⟨bt,0,none⟩),.pointer (some ⟨r,0,none⟩)] w (U6 n0 bt r (addVar vs t.v) w):=by
 obtain⟨R,A,au,f,n,h⟩:=h;obtain⟨v,k,m,s⟩:=t;simp only at hv;obtain⟨c0,-,-,-⟩:=four hc;simp only at c0;have I:=qY hv;have ao:=zz I;have H:=zz h;have aA:n<=1048576:=by rw[<-h.len];exact hn
 have L:∀W,Bl w W->(Instr.lookup 219 (.map (some R)) (.string v) false).run prog W=.ok ((f (.string v)).getD (.int .i64 0)) W:=fun W U=>by
  simpa using(h.m.below U).look qT underlying219 (z:=.int .i64 0) zo I false
 have mk:=fun(z:Value) (q:(f (.string v)).getD (.int .i64 0)=z)=>(show ∀W,Bl w W->_ from fun W U=>zpf (show W.cell? ⟨bt,0,none⟩=some (.map (some R))from(h.t.below U).cell 0) (zpf (show W.cell? ⟨b,o,none⟩=some (.string v)from(U.cell (p:=⟨b,o,none⟩) am).trans c0) (show(Instr.lookup 219 (.map (some R)) (.string v) false).run prog W=.ok z W from q▸L W U)))
 have N:U6 n0 bt r vs w (.returned (.tuple #[])) w.drew:=⟨rfl,⟨R,A,au,f,n,h.same rfl⟩,⟨rfl,rfl,rfl,zoZ _,fun _ _=>rfl⟩⟩;have X:=zz N;unfold addVar
 by_cases V:v.toList=[]
 ·rw[if_neg (fun h=>h.1.1 V)];have H0:=zz (mk _ rfl);have b1:v.toList.isEmpty=true:=by simp[V]
  have b2:(v.toList==([]:List UInt8))=true:=by simp[V]
  clear V c0 h mk L hc I hn N;go_enter func179,ntmps179;go_wp2;refine xX [0,0,0,0,0,0,0,0,0,0,0,0,0,0,0,0,0,0,0,0,0] (fun W=>Bl w W) ?_
  repeat refine zT H0.o ?_
  refine xu ?_;go_wp2;go_returns;exact X.o
 by_cases O:v.toList=[95]
 ·rw[if_neg (fun h=>h.1.2 O)];have H0:=zz (mk _ rfl);have b1:v.toList.isEmpty=false:=by simp[V]
  have b2:(v.toList==([]:List UInt8))=false:=by simp[V]
  have b3:(v.toList==([95]:List UInt8))=true:=by simp[O]
  clear V O c0 h mk L hc I hn N;go_enter func179,ntmps179;go_wp2;refine xX [0,0,0,0,0,0,0,0,0,0,0,0,0,0,0,0,0,0,0,0,0] (fun W=>Bl w W) ?_
  repeat refine zT H0.o ?_
  refine xu ?_;go_wp2;go_returns;exact X.o
 have b1:v.toList.isEmpty=false:=by simp[V]
 have b2:(v.toList==([]:List UInt8))=false:=by simp[V]
 have b3:(v.toList==([95]:List UInt8))=false:=by simp[O]
 by_cases h3:v∈vs
 ·rw[if_neg (fun h=>h.2 h3)];obtain⟨j,q,-⟩:=h.n.yes v h3;have H0:=zz (mk (.int .i64 ((j:Int)+1)) (by rw[q];rfl));have Y:decide ((0:Int)<(j:Int)+1)=true:=zp;clear V O c0 h mk L hc I hn N q h3;go_enter func179,ntmps179;go_wp2;refine xX [0,0,0,0,0,0,0,0,0,0,0,0,0,0,0,0,0,0,0,0,0] (fun W=>Bl w W) ?_
  repeat refine zT H0.o ?_
  refine xu ?_;go_wp2;go_returns;exact X.o
 ·rw[if_pos ⟨⟨V,O⟩,h3⟩];have H0:=zz (mk (.int .i64 0) (by rw[h.n.no v h3];rfl));have ax:b∉zw A:=fun q=>by have:=h.ge.2.2.2 b q;omega
  have ak:=h.own.yB h.l zr;have ap:=h.own.yB h.t zr;have aj:=h.own.qM h.m;have ar:bt≠r:=h.t.yD h.l zr;have af:r≠R:=h.l.qM h.m;have an:bt≠R:=h.t.qM h.m;have az:b≠r:=by have:=h.ge.2.1;omega
  have H1:Kz (∀W,zh (fun g=>g∈zw A\/g=r) w.drew W->_):=fun W U=>(show W.cell? ⟨b,o,none⟩=some (.string v)from(U.cell (p:=⟨b,o,none⟩) am (fun h=>by rcases h with h|h;exact ax h;exact az h)).trans c0)
  have H2:Kz (∀W:World,W.heap[r]? = w.drew.heap[r]?->_):=fun W U=>(show W.cell? ⟨r,0,none⟩=some (.slice A n au)from(h.l.same (w':=W) U).cell 0)
  clear V O c0 h mk L hc I hn N h3;go_enter func179,ntmps179;go_wp2;refine xX [0,0,0,0,0,0,0,0,0,0,0,0,0,0,0,0,0,0,0,0,0] (fun W=>Bl w W) ?_
  repeat refine zT H0.o ?_
  refine xu ?_;go_wp2;refine XH [1,0,0,0,1,2,2,3] 7 (fun W=>zh (fun g=>g∈zw A\/g=r) w.drew W) (fun W=>W.heap[r]? = w.drew.heap[r]?) ?s0 ?s1 ?_
  case s0=>exact yj
  case s1=>rfl
  try refine zQ ?_
  repeat refine xK H1.o H2.o ?_
  refine xc fun K Z=>?_
  go_simp;refine Z.out _ _ (((zh.refl _ _).drew).alloc _) (fun _=>by exact Below.heap_alloc _ _ _ H.o.l.lt) ?_;clear Z K;refine xc fun K Z=>?_
  refine Zv _ _ rfl Z7 (f:=xC) (xs:=vs) ((H.o.own.same (w':=w.drew.drew) fun _ _=>rfl).alloc _) H.o.len v _ 0 1 rfl rfl rfl (yp _ _ _ rfl) zt (zd) zr ?_;intro g q w3 aq ag al;have ab:zh (fun g=>g∈zw A\/g=r) w.drew w3:=(((zh.refl _ w.drew).drew).alloc _).trans ag (fun x hx _=>.inl hx);have ad:w3.heap[r]? = w.drew.heap[r]?:=(ag.block r (by have:=H.o.l.lt;simp;omega) ak).trans (Below.heap_alloc _ _ _ H.o.l.lt);refine Z.out _ _ ab (fun _=>ad) ?_;clear Z K;refine y7 zj (fun K Z=>?_);have kl:=H.o.l.same (w':=w3) ad;have cl:=kl.cell 0;have fl:=kl.frozen 0;go_simp;have aa:g∈zw A\/w.heap.size<=g:=al.imp id (fun h=>by simp at h;omega);have aw:g≠r:=fun e=>by
   rcases aa with h|h
   ·exact ak (e▸h)
   ·have:=H.o.l.lt;omega
  have ay:g≠R:=fun e=>by
   rcases aa with h|h
   ·exact aj (e▸h)
   ·have:=H.o.m.lt;omega
  have aB:g≠bt:=fun e=>by
   rcases aa with h|h
   ·exact ap (e▸h)
   ·have:=H.o.t.lt;omega
  have Y:=ab.setCell (p:=⟨r,0,none⟩) (fun _=>.inr rfl) (.slice (some ⟨g,0,none⟩) (n+1) q);refine Z.out _ _ Y ?_;clear Z K;refine xu ?_;have ae:=kl.qE 0 (.slice (some ⟨g,0,none⟩) (n+1) q);have ai:=((H.o.t.same (w':=w.drew) rfl).zC ab (fun h=>by rcases h with h|h;exact ap h;exact ar h)).XQ (p:=⟨r,0,none⟩) ar (.slice (some ⟨g,0,none⟩) (n+1) q);have m5:xv prog 9 (w3.setCell ⟨r,0,none⟩ (.slice (some ⟨g,0,none⟩) (n+1) q)) R f:=(H.o.m.same (w':=w.drew) rfl).zC Y (fun h=>by rcases h with h|h;exact aj h;exact af h.symm);have ac:Own xC 9 1 (w3.setCell ⟨r,0,none⟩ (.slice (some ⟨g,0,none⟩) (n+1) q)) (some ⟨g,0,none⟩) q (vs++[v]):=aq.same (xW (Below.heap_setCell _ _ _ _ aw));have c5:=H1.o _ Y;have ah:=zz (show zh (fun g=>g∈zw A\/g=r) w _ from((zh.refl _ w).drew).trans Y (fun x hx _=>hx));clear cl fl kl ad ab Y aq ag al;generalize w3.setCell ⟨r,0,none⟩ (.slice (some ⟨g,0,none⟩) (n+1) q)=w5 at ae ai m5 ac c5 ah ⊢;have ab:b<w5.heap.size:=by have:=ah.o.size;omega
  have ad:b≠R:=by have:=H.o.ge.2.2.1;omega
  have H5:=zz (show ∀W,zh (fun x=>x=R) w5 W->_ from fun W U=>zpf (show W.cell? ⟨bt,0,none⟩=some (.map (some R))from(ai.zC U an).cell 0)
   (zpf (show W.cell? ⟨r,0,none⟩=some (.slice (some ⟨g,0,none⟩) (n+1) q)from(ae.zC U af).cell 0) (show W.cell? ⟨b,o,none⟩=some (.string v)from(U.cell (p:=⟨b,o,none⟩) ab ad).trans c5)))
  have M5:=zz m5;clear c5;go_wp2;refine xX [0,0,0,0,0,0,0,2] (fun W=>zh (fun x=>x=R) w5 W) ?_
  repeat refine zT H5.o ?_
  refine xc fun K Z=>?_
  refine Zp _ _ _ rfl (M5.o.same (w':=w5.drew) rfl) qT underlying219 rfl (.string v) (.int .i64 ((n:Int)+1)) _ rfl rfl ao.o ?_;intro w6 m6 t6;have U:zh (fun x=>x=R) w5 w6:=((zh.refl _ w5).drew).yi t6 (fun _=>rfl);refine Z.out _ _ U (fun _=>trivial) ?_;clear Z K;refine xu ?_;have Y:U6 n0 bt r (vs++[v]) w (.returned (.tuple #[])) w6:=⟨rfl,⟨R,some ⟨g,0,none⟩,q,_,n+1,by rw[zo1,H.o.len];rfl,ai.zC U an,ae.zC U af,m6,by rw[<-H.o.len];exact H.o.n.push v,ac.zC U (xW ay),H.o.ge.1,H.o.ge.2.1,H.o.ge.2.2.1,xW (by
   rcases aa with h|h
   ·exact H.o.ge.2.2.2 g h
   ·omega)⟩,((ah.o.mono (S':=fun x=>n0<=x) (fun x hx _=>by rcases hx with h|h;exact H.o.ge.2.2.2 x h;(rw[h];exact H.o.ge.2.1))).trans U (fun x hx _=>by rw[hx];exact H.o.ge.2.2.1)).below av (fun x hx=>hx)⟩
  have Z:=zz Y;clear Y;go_wp2;go_returns;exact Z.o
theorem Dn(s:ByteArray):(xC s).length=0+1:=rfl
theorem Ar.xF(a:Ar):a.cells.length=4+1:=rfl
theorem Li.Yn(x:Li):x.cells.length=15+1:=Li.xF x
theorem T8:(prog.info? 50).map (·.size)=some 16:=zo
theorem qV(x:Li):(prog.info? 50).map (·.size)=some x.cells.length:=by rw[Li.xF];exact T8
theorem DP:(prog.info? 48).map (·.size)=some 6:=zo
theorem GB(x:Ex):(prog.info? 48).map (·.size)=some x.cells.length:=by rw[Ex.xF];exact DP
theorem GR(s:ByteArray)(w:World)(A:Option Addr)(cap:Nat)(l:List ByteArray)(h:zY xC w A l)(n:Nat)(U:l.length=n)(hb:n<=4194304):
 Calls prog 138 #[.string s,.slice A n cap] w fun e q=>e=.returned (.bool (tf (s∈l)))/\q=w:=by
 have H:=zz h;have V:=zz U;clear h U;go_enter func138,ntmps138;go_wp2
 go_loopg[5] n (fun gk r q=>∃i:Nat,i<=n/\gk=n-i/\r=.int .i64 (i:Int)/\q=w/\∀j (h:j<l.length),j<i->l[j]≠s)
 case atStart=>exact⟨0,zo5 _,rfl,rfl,rfl,fun j _ h=>zd⟩
 case round=>
  obtain⟨i,hi,rfl,rfl,rfl,r⟩:=hrel;have q:=zz r;clear r
  by_cases N:i<n
  ·have I:i<l.length:=by rw[V.o];exact N
   obtain⟨b,o,rfl,X,O⟩:=H.o.at Dn i I;have r:=zo3 I;generalize L:l[i]=u at O r;have Z:=zz L;clear L
   replace O:wr.cell? ⟨b,o+i,none⟩=some (.string u):=by have:=O 0 _ rfl;simpa using this
   by_cases e:u=s
   ·subst e;have R:(u.toList==u.toList)=true:=zp;have L:tf (u∈l)=true:=qs r;have W:=zz L;clear L r;go_wp2;go_returns;exact⟨by rw[W.o];rfl,rfl⟩
   ·have R:(u.toList==s.toList)=false:=by rw[bytes_beq];exact qt e
    have Y:=zz e;clear e r;go_wp2
    go_roundg (n-(i+1))
    case measure=>omega
    case rel=>exact⟨i+1,zd,rfl,ze,rfl,fun j L W=>by
     by_cases W:j=i
     ·subst W;rw[Z.o];exact Y.o
     ·exact q.o j L zd⟩
  ·obtain rfl:i=n:=zd;have I:tf (s∈l)=false:=qt fun r=>by
    obtain⟨j,L,rfl⟩:=zpl.1 r;exact q.o j L (by rw[<-V.o];exact L) rfl
   have r:=zz I;clear I;go_wp2;go_returns;exact⟨by rw[r.o];rfl,rfl⟩
theorem zae(w:World)(A:Option Addr)(cap:Nat)(r:List Tm)(h:zY Tm.cells w A r)(n:Nat)(hn:r.length=n)(hb:n<=1048576):
 Calls prog 77 #[.slice A n cap] w (Xo xC 9 1 (varsOf [] r) w):=by
 have H:=zz h;have Hn:=zz hn;clear h hn;go_enter func77,ntmps77;go_wp2
 go_loopg[3,4] n (fun gk s3 L I=>∃(i:Nat) (N:Option Addr) (q m:Nat),i<=n/\gk=n-i/\L=.int .i64 (i:Int)/\s3=.slice N m q/\(varsOf [] (r.take i)).length=m/\m<=i/\Own xC 9 1 I N q (varsOf [] (r.take i))/\Bl w I/\∀g∈zw N,w.heap.size<=g)
 case atStart=>exact⟨0,none,0,0,zo5 _,rfl,rfl,rfl,rfl,zoZ _,Own.qC w,Below.refl _ _,fun g I=>by simp[zw]at I⟩
 case round=>
  obtain⟨i,N,q,m,hi,rfl,rfl,rfl,O,ah,L,R,I⟩:=hrel;have X:=zz O;have Ho:=zz L;have HB:=zz R;have Hg:=zz I;clear O L R I
  by_cases ad:i<n
  ·have aa:i<r.length:=by rw[Hn.o];exact ad
   obtain⟨b,o,rfl,ai,L⟩:=(H.o.below HB.o).at Tm.xF i aa;have I:r.take (i+1)=r.take i++[r[i]]:=zo4 aa;generalize r[i]=t at L I;obtain⟨v,k3,m3,s3⟩:=t;have O:varsOf [] (r.take (i+1))=addVar (varsOf [] (r.take i)) v:=by rw[I,Uc];rfl
   replace L:wr.rangeAt b (o+i*4) _:=L
   obtain⟨d0,-,-,-⟩:=four L;simp only at d0;clear L I;have R:=zz O;clear O;have I:∀w2,Bl wr w2->addVar (varsOf [] (r.take i)) v=varsOf [] (r.take i)->∃(O:Nat) (W:Option Addr) (L V:Nat),O<=n/\n-(i+1)=n-O/\Value.int .i64 ((i:Int)+1)=.int .i64 (O:Int)/\Value.slice N m q=.slice W V L/\(varsOf [] (r.take O)).length=V/\V<=O/\Own xC 9 1 w2 W L (varsOf [] (r.take O))/\Bl w w2/\∀g∈zw W,w.heap.size<=g:=fun w2 U e=>
    ⟨i+1,N,q,m,zd,rfl,ze,rfl,by rw[R.o,e];exact X.o,zd,by rw[R.o,e];exact Ho.o.below U,zu HB.o U,Hg.o⟩
   have L:=zz I;clear I
   by_cases U:v.toList=[]
   ·have Y:=zz (L.o wr (Below.refl _ _) (by unfold addVar;rw[if_neg (fun h=>h.1.1 U)]));have b9:v.toList.isEmpty=true:=by simp[U]
    clear U;go_wp2
    go_roundg (n-(i+1))
    case measure=>omega
    case rel=>exact Y.o
   by_cases O:v.toList=[95]
   ·have Y:=zz (L.o wr (Below.refl _ _) (by unfold addVar;rw[if_neg (fun h=>h.1.2 O)]));have b9:v.toList.isEmpty=false:=by simp[U]
    have b1:(v.toList==([95]:List UInt8))=true:=by simp[O]
    have b2:(v.toList !=([95]:List UInt8))=false:=by simp[O]
    clear U O;go_wp2
    go_roundg (n-(i+1))
    case measure=>omega
    case rel=>exact Y.o
   have b9:v.toList.isEmpty=false:=by simp[U]
   have b1:(v.toList==([95]:List UInt8))=false:=by simp[O]
   have b2:(v.toList !=([95]:List UInt8))=true:=by simp[O]
   have I:=GR v wr N q _ Ho.o.xI m X.o zd
   by_cases W:v∈varsOf [] (r.take i)
   ·have Y:=zz (L.o wr (Below.refl _ _) (by unfold addVar;rw[if_neg (fun h=>h.2 W)]));rw[qs W]at I;have V:=zz I;clear U O W I
    go_wp2_with (go_at_call 138;refine V.o.mono ?_;rintro e w1⟨rfl,rfl⟩)
    go_roundg (n-(i+1))
    case measure=>omega
    case rel=>exact Y.o
   ·have Ha:=zz (show addVar (varsOf [] (r.take i)) v=varsOf [] (r.take i)++[v] by unfold addVar;rw[if_pos ⟨⟨U,O⟩,W⟩]);rw[qt W]at I;have V:=zz I;clear U O W I
    go_wp2_with (first
     |(go_at_call 138;refine V.o.mono ?_;rintro e w1⟨rfl,rfl⟩)
     |(at_builtin;refine X0 rfl _ _ rfl Z7 (f:=xC) (xs:=varsOf [] (r.take i)) ?own X.o v _ 0 1 rfl rfl rfl ?news ?one ?le zr ?_))
    case own=>exact Ho.o.alloc _
    case news=>exact yp _ _ _ rfl
    case one=>simp[Value.oneCell']
    case le=>omega
    intro g ab w3 Y ac Z;have ae:=zz Y;have af:=zz (((zh.refl (·∈zw N) w1).alloc _).trans ac (fun x hx _=>hx));have ag:Kz (g∈zw N\/w1.heap.size<=g):=Z.imp id (fun h=>zd);clear Y ac Z;go_wp2
    go_roundg (n-(i+1))
    case measure=>omega
    case rel=>
     refine⟨i+1,_,ab,m+1,zd,rfl,ze,rfl,by rw[R.o,Ha.o,zo1,X.o];rfl,zd,by rw[R.o,Ha.o];exact ae.o,af.o.qq HB.o (zoZ _) Hg.o,xW ?_⟩
     rcases ag.o with h|h
     ·exact Hg.o g h
     ·have:=HB.o.size;omega
  ·obtain rfl:i=n:=zd;have I:r.take i=r:=by rw[<-Hn.o];exact zpz
   rw[I]at Ho X;go_wp2;go_returns;exact⟨N,q,m,rfl,X.o,Ho.o,HB.o,Hg.o⟩
theorem ziR(w:World)(r:Ru)(hl:r.zO w)(hb:r.zN.length<=1048576):
 Calls prog 78 #[.agg r.cells.toArray] w (Xo Tm.cells 45 4 r.zN w):=by
 obtain⟨p,B,zM,L,C,al,q⟩:=r;obtain⟨R,ah,O,ai,I⟩:=hl;simp only at R ah O ai I;unfold Ru.zN at hb ⊢;simp only at hb ⊢;rw[zo1,zph]at hb;have Hh:=zz R;have ao:=zz O;have HL:=zz (fun(x:Li) (hx:x∈q) (W:World) (A:Option Addr) (U:Nat) (X:List Tm) Z V h4 Y M hM=>zjp x w W A U X (I x hx) Z V h4 Y M hM);have Hb:=zz hb;clear R O I hb;obtain⟨T,I⟩:∃T,L.map (·.t)=T:=⟨_,rfl⟩;have HT:Kz (∀i (h:i<L.length),∃O:i<T.length,T[i]=L[i].t):=fun i h=>by subst I;exact⟨by simpa using h,zp⟩
 have ae:=zz (show T.length=L.length by subst I;simp);rw[I];clear I;simp only[Ru.cells];obtain⟨N,I⟩:∃N,L.length=N:=⟨_,rfl⟩;rw[I]at ah ⊢;have HN:=zz I;clear I;obtain⟨N2,I⟩:∃N,q.length=N:=⟨_,rfl⟩;rw[I]at ai ⊢;have aj:=zz I;clear I;obtain⟨W0,I,O⟩:=Vm w #[.string p,.slice B N zM,.slice C N2 al] 25;have HX:=zz O;have aq:=zz I;have ag:=zz O.size;clear O I;go_enter func78,ntmps78;go_wp2;rw[aq.o]
 go_loopg[3,4] N (fun gk s3 O wx=>∃(i:Nat) (U:Option Addr) (I:Nat),i<=N/\gk=N-i/\O=.int .i64 (i:Int)/\s3=.slice U i I/\
  Own Tm.cells 45 4 wx U I (T.take i)/\Bl W0 wx/\∀g∈zw U,W0.heap.size<=g)
 case atStart=>exact⟨0,none,0,zo5 _,rfl,rfl,rfl,Own.qC _,Below.refl _ _,fun g V=>by simp[zw]at V⟩
 case round=>
  obtain⟨i,U,I,hi,rfl,rfl,rfl,ho,O,V⟩:=hrel;have x1:=HX.o.at O 1;have x2:=HX.o.at O 2;have Ho:=zz ho;have Z:=zz O;have Hg:=zz V;clear ho O V;have au:N<=1048576:=by have:=Hb.o;have:=HN.o;omega
  by_cases ap:i<N
  ·have X:i<L.length:=by rw[HN.o];exact ap
   obtain⟨b,o,rfl,an,hr⟩:=(Hh.o.below (HX.o.in Z.o)).at Ar.xF i X;obtain⟨qR,aa⟩:=HT.o i X;have R:T.take (i+1)=T.take i++[L[i].t]:=by rw[zo4 qR,aa]
   have Y:(T.take i).length=i:=by rw[zpv];omega
   clear aa qR;generalize L[i]=t at hr R;obtain⟨g5,v3,k3,m3,s3⟩:=t;simp only at R
   replace hr:wr.rangeAt b (o+i*5) _:=hr
   obtain⟨d0,d1,d2,d3,d4⟩:=ZP hr;have ac:=zz R;have ak:=zz Y;clear hr R Y
   go_wp2_with (at_builtin;refine X0 rfl _ _ rfl Ji (f:=Tm.cells) (xs:=T.take i) ?own ak.o ⟨v3,k3,m3,s3⟩ _ 0 1 rfl rfl rfl ?news ?one ?le zr ?_)
   case own=>exact Ho.o.alloc _
   case news=>exact yp _ _ _ zp
   case one=>simp[Value.oneCell']
   case le=>omega
   intro g Y w3 ad ab aa;have am:=zz ad;have af:=zz (((zh.refl (·∈zw U) wr).alloc _).trans ab (fun x hx _=>hx));have ar:Kz (g∈zw U\/wr.heap.size<=g):=aa.imp id (fun h=>zd);clear ad ab aa;go_wp2
   go_roundg (N-(i+1))
   case measure=>omega
   case rel=>
    refine⟨i+1,_,Y,zd,rfl,ze,rfl,by rw[ac.o];exact am.o,af.o.qq Z.o (zoZ _) Hg.o,xW ?_⟩
    rcases ar.o with h|h
    ·exact Hg.o g h
    ·have:=Z.o.size;omega
  ·obtain rfl:i=N:=zd;have ht:T.take i=T:=zpm (by rw[ae.o,HN.o];exact zoZ _);rw[ht]at Ho;clear ht;go_wp2
   go_loopg[3,5] N2 (fun gk s3 s5 wx=>∃(j:Nat) (U:Option Addr) (I m:Nat),j<=N2/\gk=N2-j/\s5=.int .i64 (j:Int)/\s3=.slice U m I/\(T++(q.take j).flatMap Li.zN).length=m/\
    Own Tm.cells 45 4 wx U I (T++(q.take j).flatMap Li.zN)/\Bl W0 wx/\∀g∈zw U,W0.heap.size<=g)
   case atStart=>exact⟨0,U,I,i,zo5 _,rfl,rfl,rfl,by simp[ae.o,HN.o],by simpa using Ho.o,Z.o,Hg.o⟩
   case round=>
    clear x1 x2;clear Z Hg Ho;obtain⟨j,U,I,m,hj,rfl,rfl,rfl,hm,ho,O,V⟩:=hrel;have x2:=HX.o.at O 2;have Hm:=zz hm;have Ho:=zz ho;have Z:=zz O;have Hg:=zz V;clear ho O V hm
    by_cases am:j<N2
    ·have X:j<q.length:=by rw[aj.o];exact am
     obtain⟨b,o,rfl,an,hr⟩:=(ao.o.below (HX.o.in Z.o)).at Li.Yn j X;have R:(q.take (j+1)).flatMap Li.zN=(q.take j).flatMap Li.zN++q[j].zN:=by rw[zo4 X,zpq];simp
     have ak:((q.take (j+1)).flatMap Li.zN).length<=(q.flatMap Li.zN).length:=by
      have:q=q.take (j+1)++q.drop (j+1):=(zpL _ _).symm;rw[congrArg (List.flatMap Li.zN) this,zpq,zo1];omega
     have O:=HL.o q[j] (zo3 X) wr U I _ (HX.o.in Z.o) Ho.o (fun g V=>by have:=Hg.o g V;have:=ag.o;omega);generalize q[j]=x at hr R O
     replace hr:wr.rangeAt b (o+j*16) x.cells:=hr
     have O:=O (by
      rw[R,zo1]at ak;have:=Hb.o;have:=HN.o;rw[zo1,ae.o];omega) m Hm.o
     have af:=zz O;have ac:=zz R;have Hr:=zz hr;clear O R ak hr
     go_wp2_with (first
      |(refine xV 50 _ rfl ?_;refine wpList_load_mid rfl 50 _ rfl b (o+j*16) rfl x.cells _ Hr.o underlying50 rfl (qV x) ?_)
      |(go_at_call 139;refine af.o.mono ?_;rintro e w3⟨R,Y,M3,rfl,O,ad,ab,aa⟩))
     go_roundg (N2-(j+1))
     case measure=>omega
     case rel=>
      refine⟨j+1,R,Y,M3,zd,rfl,ze,rfl,by rw[ac.o,<-zpo];exact O,by rw[ac.o,<-zpo];exact ad,ab.qq Z.o (zoZ _) Hg.o,fun g V=>?_⟩
      rcases aa g V with h|h
      ·exact Hg.o g h
      ·have:=Z.o.size;omega
    ·obtain rfl:j=N2:=zd;have ht:q.take j=q:=by rw[<-aj.o];exact zpz
     rw[ht]at Ho Hm;go_wp2;go_returns;exact⟨U,I,m,rfl,Hm.o,Ho.o,HX.o.in Z.o,fun g V=>by have:=Hg.o g V;have:=ag.o;omega⟩
theorem zba(w:World)(r:Ru)(hl:r.zO w)(R:r.zN.length<=1048576):
 Calls prog 29 #[.agg r.cells.toArray] w (Xo xC 9 1 r.vars w):=by
 have H:=zz (fun W (q:Bl w W)=>ziR W r (hl.below q) R);have Hb:=zz R;have HV:=zz (fun(W:World) (A:Option Addr) (q:Nat) (h:zY Tm.cells W A r.zN) n I=>zae W A q r.zN h n I (by rw[<-I];exact Hb.o));clear hl R;go_enter func29,ntmps29
 go_wp2_with (first
  |(go_at_call 77;refine(HV.o w1 A1 q Y.o M1 Z.o).mono ?_;rintro e w2⟨A2,L,M2,rfl,V,aa,X,U⟩)
  |(go_at_call 78;refine(H.o _ (xo _ _)).mono ?_;rintro e w1⟨A1,q,M1,rfl,I,N,O,ab⟩;have Z:=zz I;have Y:=zz N.xI;clear I N))
 go_returns;exact⟨A2,L,M2,rfl,V,aa,q6 (zu O X),fun g hg=>by have:=U g hg;have:=O.size;simp at this;omega⟩
theorem znH(w:World)(a:At)(V:a.zO w)(U:a.args.length<=1048576):
 Calls prog 239 #[.agg a.cells.toArray] w (Xo xC 9 1 a.vars w):=by
 have X:=zz (fun(W:World) (I:Bl w W) n q=>zae W a.A a.cap a.args (V.rd.below I) n q (by rw[<-q];exact U));clear V U;obtain⟨p,A,r,h⟩:=a;simp only[At.cells]at X ⊢;obtain⟨N,q⟩:∃N,h.length=N:=⟨_,rfl⟩;rw[q];have Z:=zz q;clear q;go_enter func239,ntmps239
 go_wp2_with (go_at_call 77;refine(X.o _ (xo _ _) _ Z.o).mono ?_;rintro e w2⟨A2,q,M2,rfl,L,R,O,I⟩)
 go_returns;exact⟨A2,q,M2,rfl,L,R,q6 O,fun g Y=>by have:=I g Y;simp at this;omega⟩
theorem zkS(w:World)(x:Ex)(hl:x.zO w)(V:x.zN.length<=1048576):
 Calls prog 241 #[.agg x.cells.toArray] w (Xo xC 9 1 x.vars w):=by
 have H:=zz (fun W (r:Bl w W)=>Ts x w W none 0 [] hl r (Own.qC W) (fun g X=>by simp[zw]at X) (by simpa using V) 0 rfl);have Hb:=zz V;have HV:=zz (fun(W:World) (A:Option Addr) (r:Nat) (h:zY Tm.cells W A x.zN) n I=>zae W A r x.zN h n I (by rw[<-I];exact Hb.o));clear hl V;have I:∃q v k m s A n r,x.cells=[.int .i8 q,.string v,.int .i8 k,.int .i64 m,.string s,.slice A n r]:=by cases x;exact⟨_,_,_,_,_,_,_,_,rfl⟩
 obtain⟨q,v,k,m,s,A,n,r,I⟩:=I;rw[I]at H ⊢;clear I;go_enter func241,ntmps241
 go_wp2_with (first
  |(go_at_call 77;refine(HV.o w1 A1 I ab.o M1 ac.o).mono ?_;rintro e w2⟨A2,N,M2,rfl,Z,ad,aa,Y⟩)
  |(go_at_call 198;refine(H.o _ (xo _ _)).mono ?_;rintro e w1 R;obtain⟨A1,I,M1,rfl,L,O,U,ae⟩:=Acc.gives R;have ac:=zz L;have ab:=zz O.xI;clear L O R))
 go_returns;exact⟨A2,N,M2,rfl,Z,ad,q6 (zu U aa),fun g X=>by have:=Y g X;have:=U.size;simp at this;omega⟩
theorem zkC(w:World)(b:Bool):Calls prog 192 #[.bool b] w fun e h=>e=.returned (.int .i64 (if b then 0 else 40))/\h=w:=by
 cases b
 all_goals
  go_enter func192,ntmps192;go_wp2;go_returns;exact⟨rfl,rfl⟩
end
