/-
  Walks: the document's lists of terms, variables. A region th
-/
import Derived.Test.YtfdickkdlcgicaaGreatDoorQ01
import Derived.Maps.Own
import Derived.StringKeys
set_option maxRecDepth 100000
set_option maxHeartbeats 8000000
set_option linter.all false
namespace Go.Proofs.YtfdickkdlcgicaaGreatDoor.C
open Go.Proofs.Tryz Go Go.RowKit Go.Maps Go.WideMaps
variable {A:Option Addr}{K:Act->World->Prop}{Q:Exit->Act->World->Prop}{S:Nat->Prop}{a:Act}{cap g size:Nat}{f m:Value->Option Value}{o:Oper}{vs:List ByteArray}{w':World}{α:Type}
section
theorem Jz:qB prog 36 45 4 48:=qB.of (z:=.agg #[.string ⟨#[]⟩,.int .i8 0,.int .i64 0,.string ⟨#[]⟩]) underlying36 zo rfl zr
theorem Vh:qB prog 86 9 1 16:=qB.of (z:=.string ⟨#[]⟩) underlying86 zo rfl zr
theorem TN(e:Ex)(Z w:World)(A:Option Addr)(cap:Nat)(O:List Tm)(hl:e.zN Z)(hw:Bl Z w)(W:Own Tm.cells 45 4 w A cap O)(hA:∀g∈zw A,Z.heap.size<=g)(hb:O.length+e.zO.length<=1048576)(M:Nat)(hM:O.length=M):
 Calls prog 198 #[.slice A M cap,.agg e.cells.toArray] w (Acc Tm.cells 45 4 A (O++e.zO) w):=by
 match e,hl,hb with
 |.mk q ⟨v,k,n,s⟩ B zM I,hl,hb=>
  have IH:=zz (show ∀k∈I,∀(w:World)(A:Option Addr)(cap:Nat)(O:List Tm),k.zN Z->Bl Z w->Own Tm.cells 45 4 w A cap O->(∀g∈zw A,Z.heap.size<=g)->O.length+k.zO.length<=1048576->∀M,O.length=M->
   Calls prog 198 #[.slice A M cap,.agg k.cells.toArray] w (Acc Tm.cells 45 4 A (O++k.zO) w)from fun k hk w A cap O X U L V R M hM=>TN k Z w A cap O X U L V R M hM)
  unfold Ex.zN at hl;obtain⟨Y,ae,hk⟩:=hl;unfold Ex.zO at hb ⊢;rw[zpV]at hb;have L:=W.lt;have Hr:=zz Y;have Hk:=zz hk;have Hw:=zz hw;have Ho:=zz W;have HA:=zz hA;have al:=zz L;have Hb:=zz hb;have hn:M<=1048576:=zd;have HM:=zz hM;clear Y hk hw W hA hb L hM;simp only[Ex.cells];obtain⟨N,L⟩:∃N,I.length=N:=⟨_,rfl⟩;rw[L]at ae ⊢;have HN:=zz L;clear L;obtain⟨W0,R,L⟩:=Vx w #[.int .i8 q,.string v,.int .i8 k,.int .i64 n,.string s,.slice B N zM] 48;have x1:=L.one 1;have x2:=L.one 2;have x3:=L.one 3;have x4:=L.one 4;have HX:=zz L;have ao:=zz R;clear L R;go_enter func198,ntmps198
  go_wp2_with (at_builtin;refine X9 rfl _ _ rfl Jz (f:=Tm.cells) (xs:=O) ?own HM.o ⟨v,k,n,s⟩ _ 0 1 rfl rfl rfl ?news ?one ?le zr ?_)
  case own=>exact(Ho.o.alloc _).alloc _
  case news=>exact yt _ _ _ zp
  case one=>simp[Value.oneCell']
  case le=>omega
  intro g L w1 aa R X;rw[ao.o]at R;have V:=HX.o.size;have ak:=zz (((zh.refl (·∈zw A) W0).alloc _).trans R (fun x U _=>U));have aj:=zz aa;have aq:Kz (g∈zw A\/W0.heap.size<=g):=X.imp id (fun h=>zd);have ad:=zz V;clear aa R X x1 x2 x3 x4 V;go_wp2
  go_loopg[0,5] N (fun gk V X R=>∃(i:Nat) (A':Option Addr) (L:Nat) (M':Nat),i<=N/\gk=N-i/\X=.int .i64 (i:Int)/\V=.slice A' M' L/\
   (O++(⟨v,k,n,s⟩::Ex.qq (I.take i))).length=M'/\Own Tm.cells 45 4 R A' L (O++(⟨v,k,n,s⟩::Ex.qq (I.take i)))/\zh (·∈zw A) W0 R/\∀g∈zw A',g∈zw A\/W0.heap.size<=g)
  case atStart=>exact⟨0,some ⟨g,0,none⟩,L,M+1,zpD _,rfl,rfl,rfl,by simp[Ex.qq,HM.o],by simpa[Ex.qq]using aj.o,ak.o,xY aq.o⟩
  case round=>
   obtain⟨i,A',L,M',hi,rfl,rfl,rfl,R,W,V,X⟩:=hrel;have x5:=zaa HX.o al.o V 5;have hB:Bl Z wr:=V.qt (Hw.o.trans (HX.o.below.mono Hw.o.size)) (zpx _) HA.o;have ah:=zz R;have HO:=zz W;have HC:=zz V;have HG:=zz X;have HB:=zz hB;clear R W V X hB
   by_cases ag:i<N
   ·have ac:i<I.length:=by rw[HN.o];exact ag
    obtain⟨b,o,rfl,ar,Y⟩:=(Hr.o.below HB.o).at Ex.xG i ac;have hm:=zpB ac;have X:I.take (i+1)=I.take i++[I[i]]:=zpC ac;have ab:(Ex.qq (I.take (i+1))).length<=(Ex.qq I).length:=by
     have:I=I.take (i+1)++I.drop (i+1):=(zqi _ _).symm;rw[congrArg Ex.qq this,Ex.GI,zpA];omega
    have ai:=Ex.qG.mem Hk.o _ hm;have V:=IH.o I[i] hm wr A' L _ ai HB.o HO.o (by
     intro x U
     rcases HG.o x U with h|h
     ·exact HA.o _ h
     ·have:=ad.o;have:=Hw.o.size;omega)
    generalize I[i]=kk at Y X V;rw[X,Ex.GI,zpA]at ab;have aa:Ex.qq [kk]=kk.zO:=by simp[Ex.qq]
    rw[aa]at ab
    replace V:=V (by
     have:=Hb.o;rw[zpA,zpV];omega) M' ah.o
    have af:=zz V;clear V;have am:=zz (show Ex.qq (I.take (i+1))=Ex.qq (I.take i)++kk.zO by rw[X,Ex.GI,aa]);clear X ab ai hm aa;obtain⟨q2,⟨v2,k2,m2,s2⟩,A2,aa,V⟩:=kk;simp only[Ex.cells]at Y af
    replace Y:wr.rangeAt b (o+i*6) _:=Y
    obtain⟨d0,d1,d2,d3,d4,d5⟩:=JW Y;clear Y
    go_wp2_with (go_at_call 198;refine af.o.mono ?_;rintro e w2⟨A3,X,M3,rfl,Y,an,ai,ab⟩)
    have ap:=zz Y;clear Y
    go_roundg (N-(i+1))
    case measure=>omega
    case rel=>
     have Y:O++(⟨v,k,n,s⟩::Ex.qq (I.take (i+1)))=O++(⟨v,k,n,s⟩::Ex.qq (I.take i))++(Ex.mk q2 ⟨v2,k2,m2,s2⟩ A2 aa V).zO:=by rw[am.o,zpX];rfl
     refine⟨i+1,A3,X,M3,zd,rfl,ze,rfl,by rw[Y];exact ap.o,by rw[Y];exact an,HC.o.trans ai (fun x U ag=>?_),fun x U=>?_⟩
     ·rcases HG.o x U with h|h
      ·exact h
      ·omega
     ·rcases ab x U with h|h
      ·exact HG.o x h
      ·right;have:=HC.o.size;omega
   ·obtain rfl:i=N:=zd;go_wp2;go_returns;have X:I.take I.length=I:=zp5;have V:I.take i=I:=by rw[<-HN.o];exact X
    have W:=HO.o;have R:=ah.o;rw[V]at W R;exact⟨A',L,M',rfl,R,W,(zh.xj _ HX.o.below).trans HC.o (fun x U _=>U),fun x U=>(HG.o x U).imp id (fun h=>by have:=ad.o;omega)⟩
termination_by e
decreasing_by
 have:=List.sizeOf_lt_of_mem hk
 simp_wf
 omega
theorem Li.J5(x:Li):∃U V N n1 X O L h q2 W Y n2 R Z I q,x.l.cells=[.int .i8 U,.string V,.int .i8 N,.int .i64 n1,.string X,.slice O L h]/\x.r.cells=[.int .i8 q2,.string W,.int .i8 Y,.int .i64 n2,.string R,.slice Z I q]:=by
 obtain⟨_,_,_,⟨U,⟨V,N,n1,X⟩,O,h,L⟩,⟨q2,⟨W,Y,n2,R⟩,Z,q,I⟩⟩:=x;exact⟨_,_,_,_,_,_,_,_,_,_,_,_,_,_,_,_,rfl,rfl⟩
theorem zjV(x:Li)(w0 w:World)(A:Option Addr)(cap:Nat)(W:List Tm)(hl:x.zN w0)(hw:Bl w0 w)(ho:Own Tm.cells 45 4 w A cap W)(hA:∀g∈zw A,w0.heap.size<=g)(hb:W.length+x.zO.length<=1048576)(M:Nat)(hM:W.length=M):
 Calls prog 139 #[.slice A M cap,.agg x.cells.toArray] w (Acc Tm.cells 45 4 A (W++x.zO) w):=by
 obtain⟨k,⟨p,B,zM,q⟩,rl,l,r⟩:=x;obtain⟨⟨I,af⟩,L,O⟩:=hl;simp only at I af L O;unfold Li.zO at hb ⊢;simp only at hb ⊢;rw[zpA,zpA]at hb;have R:=ho.lt;have Hr:=zz I;have Hw:=zz hw;have HA:=zz hA;have ah:=zz R;have HL:=zz (fun(w:World) (A:Option Addr) (cap:Nat) (W:List Tm) h2 h3 V U M hM=>TN l w0 w A cap W L h2 h3 V U M hM);have HR:=zz (fun(w:World) (A:Option Addr) (cap:Nat) (W:List Tm) h2 h3 V U M hM=>TN r w0 w A cap W O h2 h3 V U M hM);have Ho:=zz ho;have Hb:=zz hb;have hn:M<=1048576:=zd;have HM:=zz hM;clear I hw ho hA hb R L O hM;obtain⟨q1,v1,k1,n1,s1,A1,N1,al,q2,v2,k2,n2,s2,A2,N2,am,O,L⟩:=Li.J5 ⟨k,⟨p,B,zM,q⟩,rl,l,r⟩;simp only at O L;simp only[Li.cells,O,L,zpJ,zpI]at HL HR ⊢;clear O L;obtain⟨N,L⟩:∃N,q.length=N:=⟨_,rfl⟩;rw[L]at af ⊢;have HN:=zz L;clear L;obtain⟨W0,L,O⟩:=Vx w #[.int .i8 k,.string p,.slice B N zM,.int .i8 rl,.int .i8 q1,.string v1,.int .i8 k1,.int .i64 n1,.string s1,.slice A1 N1 al,.int .i8 q2,.string v2,.int .i8 k2,.int .i64 n2,.string s2,.slice A2 N2 am] 50;have HX:=zz O;have aw:=zz L;have R:=zz O.size;have aq:=zz (Own.below Ho.o O.below);clear O L;go_enter func139,ntmps139;go_wp2;rw[aw.o]
 go_loopg[0,5] N (fun gk O U L=>∃(i:Nat) (Y:Option Addr) (X:Nat) (M':Nat),i<=N/\gk=N-i/\U=.int .i64 (i:Int)/\O=.slice Y M' X/\M'=M+i/\
  (W++q.take i).length=M'/\Own Tm.cells 45 4 L Y X (W++q.take i)/\zh (·∈zw A) W0 L/\∀g∈zw Y,g∈zw A\/W0.heap.size<=g)
 case atStart=>exact⟨0,A,cap,M,zpD _,rfl,rfl,rfl,rfl,by simp[HM.o],by simpa using aq.o,zh.refl _ _,fun g hg=>.inl hg⟩
 case round=>
  obtain⟨i,Y,X,M',hi,rfl,rfl,rfl,L,U,ho,O,hg⟩:=hrel;have x2:=zaa HX.o ah.o O 2;have V:Bl w0 wr:=O.qt (Hw.o.trans (HX.o.below.mono Hw.o.size)) (zpx _) HA.o;have aB:M'<=1048576:=by have:=Hb.o;have:=HM.o;have:=HN.o;omega
  have aj:=zz L;have ag:=zz U;have HO:=zz ho;have HC:=zz O;have HG:=zz hg;have HB:=zz V;clear U ho O hg V L
  by_cases Z:i<N
  ·have ae:i<q.length:=by rw[HN.o];exact Z
   obtain⟨b,o,rfl,an,I⟩:=(Hr.o.below HB.o).at Tm.xG i ae;have L:q.take (i+1)=q.take i++[q[i]]:=zpC ae;generalize q[i]=t at I L;have ak:=zz L;clear L;obtain⟨v3,k3,m3,s3⟩:=t
   replace I:wr.rangeAt b (o+i*4) _:=I
   obtain⟨d0,d1,d2,d3⟩:=four I;clear I
   go_wp2_with (at_builtin;refine X9 rfl _ _ rfl Jz (f:=Tm.cells) (xs:=W++q.take i) ?own ag.o ⟨v3,k3,m3,s3⟩ _ 0 1 rfl rfl rfl ?news ?one ?le zr ?_)
   case own=>exact HO.o.alloc _
   case news=>exact yt _ _ _ zp
   case one=>simp[Value.oneCell']
   case le=>omega
   intro g O V ac ab aa;have ai:=zz ac;have L:=zz (((zh.refl (·∈zw Y) wr).alloc _).trans ab (fun x hx _=>hx));have ad:Kz (g∈zw Y\/wr.heap.size<=g):=aa.imp id (fun h=>zd);clear ac ab aa;go_wp2
   go_roundg (N-(i+1))
   case measure=>omega
   case rel=>
    have I:W++q.take (i+1)=W++q.take i++[⟨v3,k3,m3,s3⟩]:=by rw[ak.o,zpX]
    refine⟨i+1,_,O,M'+1,zd,rfl,ze,rfl,by have:=aj.o;omega,by rw[I,zpA,ag.o];rfl,by rw[I];simpa only[zpX]using ai.o,HC.o.trans L.o (fun x hx Z=>?_),xY ?_⟩
    ·rcases HG.o x hx with h|h
     ·exact h
     ·omega
    ·rcases ad.o with h|h
     ·exact HG.o g h
     ·right;have:=HC.o.size;omega
  ·obtain rfl:i=N:=zd;have ht:q.take i=q:=by rw[<-HN.o];exact zp5
   have ho:=HO.o;have U:=ag.o;rw[ht]at ho U;have ae:∀g∈zw Y,w0.heap.size<=g:=fun g hg=>by
    rcases HG.o g hg with h|h
    ·exact HA.o g h
    ·have:=R.o;have:=Hw.o.size;omega
   have an:=HL.o wr Y X _ HB.o ho ae (by rw[U];have:=Hb.o;have:=aj.o;have:=HM.o;have:=HN.o;omega) M' U;have ao:=zz (fun(V:World) (A3:Option Addr) (O:Nat) (I:Own Tm.cells 45 4 V A3 O (W++q++l.zO)) (h2:zh (·∈zw Y) wr V) (h3:∀g∈zw A3,g∈zw Y\/wr.heap.size<=g)=>
    HR.o V A3 O _ (h2.qt HB.o (zpx _) ae) I (fun g hg=>by
     rcases h3 g hg with h|h
     ·exact ae g h
     ·have:=HB.o.size;omega) (by rw[zpA,U];have:=Hb.o;have:=aj.o;have:=HM.o;have:=HN.o;omega))
   have au:=zz an;have ak:∀j,∀V,zh (·∈zw Y) wr V->V.cell? ⟨w.heap.size,j,none⟩=_:=fun j V h3=>(h3.cell (p:=⟨w.heap.size,j,none⟩) (by have:=HC.o.size;have:=R.o;show w.heap.size<_;omega) (fun I=>by
    rcases HG.o _ I with h|h
    ·have:=ah.o _ h;simp at this
    ·have:=R.o;simp only at h;omega)).trans (zaa HX.o ah.o HC.o j)
   have I:=zz ak;clear an ak ho U ht ae;have x4:=I.o 4 wr (zh.refl _ _);have x5:=I.o 5 wr (zh.refl _ _);have x6:=I.o 6 wr (zh.refl _ _);have x7:=I.o 7 wr (zh.refl _ _);have x8:=I.o 8 wr (zh.refl _ _);have x9:=I.o 9 wr (zh.refl _ _)
   go_wp2_with (first
    |(go_at_call 198;refine(ao.o V A3 O ai.o L.o ad.o M3 ay.o).mono ?_;rintro e w4⟨A4,ae,M4,rfl,an,ax,ap,av⟩)
    |(go_at_call 198;refine au.o.mono ?_;rintro e V⟨A3,O,M3,rfl,U,ac,ab,aa⟩;have ay:=zz U;have ai:=zz ac;have L:=zz ab;have ad:=zz aa;clear U ac ab aa x2 x4 x5 x6 x7 x8 x9;have aA:=I.o 10 V L.o;have aE:=I.o 11 V L.o;have az:=I.o 12 V L.o;have aD:=I.o 13 V L.o;have aF:=I.o 14 V L.o;have aC:=I.o 15 V L.o))
   go_returns;have ak:∀x,x∈zw Y->x<w.heap.size->x∈zw A:=fun x hx Z=>by
    rcases HG.o x hx with h|h
    ·exact h
    ·have:=R.o;omega
   have ar:∀x,x∈zw A3->x<w.heap.size->x∈zw A:=fun x hx Z=>by
    rcases ad.o x hx with h|h
    ·exact ak x h Z
    ·have:=HC.o.size;have:=R.o;omega
   refine⟨A4,ae,M4,rfl,by rw[<-an];simp only[zpA,zpX],by simpa only[zpX]using ax,?_,fun g hg=>?_⟩
   ·exact(((zh.xj _ HX.o.below).trans HC.o (fun x hx _=>hx)).trans L.o ak).trans ap ar
   ·rcases av g hg with h|h
    ·rcases ad.o g h with h|h
     ·exact(HG.o g h).imp id (fun h=>by have:=R.o;omega)
     ·right;have:=HC.o.size;have:=R.o;omega
    ·right;have:=L.o.size;have:=HC.o.size;have:=R.o;omega
end
end Go.Proofs.YtfdickkdlcgicaaGreatDoor.C
namespace Go.Proofs.YtfdickkdlcgicaaGreatDoor
open Go.Proofs.Tryz Go Go.RowKit Go.Maps Go.WideMaps
variable {F G:World->Prop}{I a:Act}{L rest:List (Nat×Oper)}{id t:Nat}{o:Oper}{q:List (Nat×Nat)}{v:Value}{w:World}
section
section
variable {P:Program}{ops:Array Oper}{md:Region.Mode}{Q:Exit->Act->World->Prop}
def YX(md:Region.Mode)(ops:Array Oper)(l:Array Bool):Prop:=∀j h,ops[j]? = some h->l.getD j false=true->∀e∈h.after,Region.binds md e=true->l.getD e.on false=true
theorem zf3{l:Array Bool}{i:Nat}(h:l.getD i true=false):l.getD i false=false:=by
 by_cases q:i<l.size
 ·simp[q]at h ⊢;exact h
 ·simp[q]at h
theorem zbU{l:Array Bool}{i:Nat}(h:l.getD i true=false):i<l.size:=by
 by_cases q:i<l.size
 ·exact q
 ·simp[q]at h
theorem zew{l:Array Bool}{i:Nat}(hi:i<l.size)(d:Bool):(l.setIfInBounds i true).getD i d=true:=by simp[hi]
theorem YX.start(n:Nat):YX md ops (Array.replicate n false):=fun j q _ h=>by
 exfalso
 by_cases q:j<n
 ·simp[q]at h
 ·simp[q]at h
theorem YX.step{l:Array Bool}{i:Nat}(h:YX md ops l)(hi:i∈Region.ready md ops l):YX md ops (l.setIfInBounds i true):=fun j V I O e R U=>by
 by_cases L:j=i
 ·subst L;obtain⟨_,o,N,q⟩:=mem_ready.1 hi;rw[I]at N;injection N with N
  subst N;exact getD_set_true (q e R U)
 ·rw[getD_set_ne false (zrA L)]at O;exact getD_set_true (h j V I O e R U)
def Ji(md:Region.Mode)(ops:Array Oper):Nat->Nat->Nat->Bool
 |0,_,_=>false
 |f+1,k,i=>match ops[k]? with
  |none=>false
  |some h=>h.after.any fun e=>Region.binds md e&&(e.on==i||Ji md ops f e.on i)
theorem zax{l:Array Bool}(h:YX md ops l):∀(f k i:Nat),Ji md ops f k i=true->l.getD k false=true->l.getD i false=true
 |0,_,_,q,_=>by simp[Ji]at q
 |f+1,k,i,q,N=>by
  unfold Ji at q
  rcases hok:ops[k]? with _|O
  ·rw[hok]at q;cases q
  ·rw[hok]at q;simp only at q;rw[Array.any_eq_true']at q;obtain⟨e,R,L⟩:=q;rw[zqu,Bool.or_eq_true]at L;have:=h k O hok N e R L.1
   rcases L.2 with I|I
   ·rw[beq_iff_eq]at I;rw[<-I];exact this
   ·exact zax h f e.on i I this
def Vi(P:Program)(md:Region.Mode)(ops:Array Oper)(Q:Exit->Act->World->Prop)(S:Array Bool->World->Prop):Nat->Array Bool->Act->World->Prop
 |0,h,a,w=>Region.ready md ops h=[]/\Q .normal a w
 |q+1,h,a,w=>
  (Region.ready md ops h=[]->Q .normal a w)/\
  ∀i∈Region.ready md ops h,wpOp P ops Q i (fun L I=>S (h.setIfInBounds i true) I/\Vi P md ops Q S q (h.setIfInBounds i true) L I) a w
theorem Gl{S:Array Bool->World->Prop}:∀(q:Nat)(I:Array Bool)(a:Act)(w:World),Vi P md ops Q S q I a w->wpAny P md ops Q q I a w
 |0,_,_,_,h=>h
 |q+1,_,_,_,h=>⟨h.1,fun i O=>wpOp_mono (fun N L I=>Gl q _ N L I.2) (h.2 i O)⟩
theorem TZ{S:Array Bool->World->Prop}{i:Nat}{oi:Oper}(hi:ops[i]? = some oi)(V:∀(j:Nat)(o:Oper) O b,ops[j]? = some o->o.op≠.select O b)(hQ:∀c a w,Q (.panic c) (a.put oi.dst v) w->Q (.panic c) a w)(W:∀l w,S (l.setIfInBounds i true) w↔S l w):
 ∀(L:Nat)(q:Array Bool)(a:Act)(w:World),YX md ops q->
  (∀j oj,ops[j]? = some oj->j≠i->q.getD j true=false->(∀e∈oj.after,Region.binds md e=true->e.on≠i)->oi.apart ops oj=true)->
  i∈Region.ready md ops q->YieldsIf P ops (fun w=>∃I,YX md ops I/\I.getD i false=false/\S I w) oi v a->S q w->
  Vi P md ops Q S L (q.setIfInBounds i true) (a.put oi.dst v) w->Vi P md ops Q S (L+1) q a w:=by
 intro L
 induction L with
 |zero=>
  intro q a w hd _ R hy hS H;refine⟨fun h=>(by rw[h]at R;cases R),fun j hj=>?_⟩
  by_cases I:j=i
  ·subst I;exact hy.wpOp hi ⟨q,hd,zf3 (mem_ready.1 R).1,hS⟩ ⟨(W _ _).2 hS,H⟩
  ·have:=ready_mono hj I;rw[H.1]at this
   cases this
 |succ L ih=>
  intro q a w hd N R hy hS H;refine⟨fun h=>(by rw[h]at R;cases R),fun j hj=>?_⟩
  by_cases I:j=i
  ·subst I;exact hy.wpOp hi ⟨q,hd,zf3 (mem_ready.1 R).1,hS⟩ ⟨(W _ _).2 hS,H⟩
  ·have Z:=H.2 j (ready_mono hj I);obtain⟨U,oj,Y,ad⟩:=mem_ready.1 hj;have ab:∀e∈oj.after,Region.binds md e=true->e.on≠i:=fun e he hb X=>by
    have Z:=ad e he hb;have h0:=(mem_ready.1 R).1;rw[X]at Z
    rcases zrz i q.size with X|X
    ·simp[X]at h0 Z;rw[h0]at Z;cases Z
    ·simp[zqN X]at Z
   have h2:=wpOp_putIf Y (N j oj Y I U ab) (fun O b=>V i oi O b hi) (fun O b=>V j oj O b Y) hQ hy Z;have O:∀k ok,ops[k]? = some ok->k≠i->(q.setIfInBounds j true).getD k true=false->
    (∀e∈ok.after,Region.binds md e=true->e.on≠i)->oi.apart ops ok=true:=fun k ok hk ac X aa=>by
    refine N k ok hk ac ?_ aa
    by_cases aa:j=k
    ·subst aa;exact U
    ·rw[getD_set_ne true aa]at X;exact X
   have ac:∀X,S ((q.setIfInBounds i true).setIfInBounds j true) X->S (q.setIfInBounds j true) X:=fun X h=>by
    rw[Array.setIfInBounds_comm _ _ (zrA I)]at h;exact(W _ _).1 h
   refine wpOp_mono (fun a' X h3=>⟨ac X h3.2.1,ih (q.setIfInBounds j true) a' X (hd.step hj) O (ready_mono R (zrA I)) h3.1 (ac X h3.2.1) ?_⟩) h2;rw[Array.setIfInBounds_comm _ _ I];exact h3.2.2
def xS(P:Program)(ops:Array Oper)(Q:Exit->Act->World->Prop)(S0 S1:World->Prop):Bool->List (Nat×Oper)->Act->World->Prop
 |_,[],a,w=>Q .normal a w
 |d,(0,o)::h,a,w=>∃v,YieldsIf P ops S0 o v a/\xS P ops Q S0 S1 d h (a.put o.dst v) w
 |d,(1,o)::h,a,w=>∃v,YieldsIf P ops (fun w=>S0 w/\S1 w) o v a/\xS P ops Q S0 S1 d h (a.put o.dst v) w
 |d,(2,o)::h,a,w=>if Region.wanted o (yielded ops a.tmps)=true then o.wp P a w (fun I q=>(S0 q/\(d=false->S1 q))/\xS P ops Q S0 S1 d h I q) Q else xS P ops Q S0 S1 d h (a.put o.dst undef) w
 |_,(_+3,o)::h,a,w=>if Region.wanted o (yielded ops a.tmps)=true then o.wp P a w (fun I q=>S0 q/\xS P ops Q S0 S1 true h I q) Q else xS P ops Q S0 S1 true h (a.put o.dst undef) w
def XH(md:Region.Mode)(ops:Array Oper)(k:Nat):List (Nat×Nat)->Array Bool->Bool
 |[],h=>(Region.ready md ops h).isEmpty
 |(i,0)::q,h=>(Region.ready md ops h).contains i&&Region.free md ops h i&&i != k&&XH md ops k q (h.setIfInBounds i true)
 |(i,1)::q,h=>(Region.ready md ops h).contains i&&Region.free md ops h i&&i != k&&Ji md ops 40 k i&&XH md ops k q (h.setIfInBounds i true)
 |(i,2)::q,h=>Region.ready md ops h==[i]&&i != k&&XH md ops k q (h.setIfInBounds i true)
 |(i,_+3)::q,h=>Region.ready md ops h==[i]&&i==k&&XH md ops k q (h.setIfInBounds i true)
def xO(ops:Array Oper)(h:List (Nat×Nat)):List (Nat×Oper):=h.filterMap fun p=>(ops[p.1]?).map fun o=>(p.2,o)
theorem qP{i:Tmp}:a.put (some i) v={ a with tmps:=a.tmps.setIfInBounds i v }:=rfl
theorem qN:a.put none v=a:=rfl
section
variable {α β:Type}{l:List α}{i:Nat}{x y:α}{f:α->Option β}{g:α->β}
theorem qA:l.toArray.setIfInBounds i x=(l.set i x).toArray:=zp4 _ _ _
theorem qZ:(x::l).set 0 y=y::l:=zqm
theorem qS:(x::l).set (i+1) y=x::l.set i y:=zqv
theorem qa:(x::l).filterMap f=match f x with|none=>l.filterMap f|some b=>b::l.filterMap f:=List.filterMap_cons
theorem qb:[].filterMap f=[]:=List.filterMap_nil
theorem qc:l.toArray[i]? = l[i]?:=zpL
theorem qd:(x::l)[i+1]? = l[i]?:=zpM
theorem qe:(x::l)[0]? = some x:=zpH
theorem qf:(some x).map g=some (g x):=rfl
end
theorem Vd{S0 S1:World->Prop}{k:Nat}(Z:Region.noSelect ops=true)(hP:∀c a d v w,Q (.panic c) (a.put d v) w->Q (.panic c) a w):∀(I:List (Nat×Nat))(q:Array Bool)(d:Bool)(a:Act)(w:World),
 XH md ops k I q=true->YX md ops q->q.getD k false=d->S0 w->(d=false->S1 w)->xS P ops Q S0 S1 d (xO ops I) a w->Vi P md ops Q (fun l w=>S0 w/\(l.getD k false=false->S1 w)) I.length q a w
 |[],q,d,a,w,U,_,_,_,_,h=>⟨by simpa[XH]using U,h⟩
 |(i,0)::I,q,d,a,w,U,V,X,W,Y,h=>by
  simp only[XH,zqu,bne_iff_ne,ne_eq]at U;obtain⟨⟨⟨c1,c2⟩,c3⟩,c4⟩:=U;have N:i∈Region.ready md ops q:=by simpa using c1
  obtain⟨_,o,R,_⟩:=mem_ready.1 N;have hp:xO ops ((i,0)::I)=(0,o)::xO ops I:=by simp[xO,R]
  rw[hp]at h;obtain⟨v,hy,O⟩:=h;have L:∀l:Array Bool,(l.setIfInBounds i true).getD k false=l.getD k false:=fun l=>getD_set_ne false c3
  exact TZ R (Region.noSelect_spec Z) (fun c a w h=>hP _ _ _ _ _ h) (fun l w=>by rw[L]) _ _ _ _ V (Region.free_spec R c2) N
   (hy.imp (fun⟨x,y⟩=>⟨x,fun w ⟨l',_,_,hS⟩=>y w hS.1⟩) id) ⟨W,fun e=>Y (X▸e)⟩ (Vd Z hP I _ d _ _ c4 (V.step N) ((L _).trans X) W Y O)
 |(i,1)::I,q,d,a,w,U,V,X,W,Y,h=>by
  simp only[XH,zqu,bne_iff_ne,ne_eq]at U;obtain⟨⟨⟨⟨c1,c2⟩,c3⟩,c5⟩,c4⟩:=U;have N:i∈Region.ready md ops q:=by simpa using c1
  obtain⟨_,o,R,_⟩:=mem_ready.1 N;have hp:xO ops ((i,1)::I)=(1,o)::xO ops I:=by simp[xO,R]
  rw[hp]at h;obtain⟨v,hy,O⟩:=h;have L:∀l:Array Bool,(l.setIfInBounds i true).getD k false=l.getD k false:=fun l=>getD_set_ne false c3
  exact TZ R (Region.noSelect_spec Z) (fun c a w h=>hP _ _ _ _ _ h) (fun l w=>by rw[L]) _ _ _ _ V (Region.free_spec R c2) N
   (hy.imp (fun⟨x,y⟩=>⟨x,fun w ⟨l',ab,aa,hS⟩=>y w ⟨hS.1,hS.2 (by
    rcases hkl:l'.getD k false with _|_
    ·rfl
    ·rw[zax ab 40 k i c5 hkl]at aa;cases aa)⟩⟩) id) ⟨W,fun e=>Y (X▸e)⟩ (Vd Z hP I _ d _ _ c4 (V.step N) ((L _).trans X) W Y O)
 |(i,2)::I,q,d,a,w,U,V,X,W,Y,h=>by
  simp only[XH,zqu,bne_iff_ne,ne_eq]at U;obtain⟨⟨c1,c3⟩,c4⟩:=U;have c1:Region.ready md ops q=[i]:=by simpa using c1
  have N:i∈Region.ready md ops q:=by rw[c1];simp
  obtain⟨_,o,R,_⟩:=mem_ready.1 N;have hp:xO ops ((i,2)::I)=(2,o)::xO ops I:=by simp[xO,R]
  rw[hp]at h;have L:∀l:Array Bool,(l.setIfInBounds i true).getD k false=l.getD k false:=fun l=>getD_set_ne false c3
  refine⟨fun e=>(by rw[c1]at e;cases e),fun j hj=>?_⟩;rw[c1]at hj;obtain rfl:=zpy.1 hj;unfold wpOp;simp only[R];unfold xS at h;split
  ·rename_i hw;rw[if_pos hw]at h;exact .inl (Oper.wp_mono (fun a' w' O=>⟨⟨O.1.1,fun e=>O.1.2 (by rw[L,X]at e;exact e)⟩,Vd Z hP I _ d _ _ c4 (V.step N) ((L _).trans X) O.1.1 O.1.2 O.2⟩) h)
  ·rename_i hw;rw[if_neg hw]at h;exact⟨⟨W,fun e=>Y (by rw[L,X]at e;exact e)⟩,Vd Z hP I _ d _ _ c4 (V.step N) ((L _).trans X) W Y h⟩
 |(i,t+3)::I,q,d,a,w,U,V,X,W,Y,h=>by
  simp only[XH,zqu,beq_iff_eq]at U;obtain⟨⟨c1,c3⟩,c4⟩:=U;subst c3;have c1:Region.ready md ops q=[i]:=by simpa using c1
  have N:i∈Region.ready md ops q:=by rw[c1];simp
  have aa:=zbU (mem_ready.1 N).1;obtain⟨_,o,R,_⟩:=mem_ready.1 N;have hp:xO ops ((i,t+3)::I)=(t+3,o)::xO ops I:=by simp[xO,R]
  rw[hp]at h;have L:(q.setIfInBounds i true).getD i false=true:=zew aa false;refine⟨fun e=>(by rw[c1]at e;cases e),fun j hj=>?_⟩;rw[c1]at hj;obtain rfl:=zpy.1 hj;unfold wpOp;simp only[R];unfold xS at h;split
  ·rename_i hw;rw[if_pos hw]at h;exact .inl (Oper.wp_mono (fun a' w' O=>⟨⟨O.1,fun e=>by rw[L]at e;cases e⟩,Vd Z hP I _ true _ _ c4 (V.step N) L O.1 (fun e=>by cases e) O.2⟩) h)
  ·rename_i hw;rw[if_neg hw]at h;exact⟨⟨W,fun e=>by rw[L]at e;cases e⟩,Vd Z hP I _ true _ _ c4 (V.step N) L W (fun e=>by cases e) h⟩
theorem zdp(q:List (Nat×Nat))(k:Nat)(S0 S1:World->Prop)(O:P.follows .mixedOrders=true)(U:Region.noSelect ops=true)(N:q.length=ops.size)(L:XH .any ops k q (Array.replicate ops.size false)=true)(h0:S0 w.drew)(R:S1 w.drew)(h:xS P ops (NoPanic Q) S0 S1 false (xO ops q) a w.drew):(Code.region id ops true).wp P Q a w:=
 wp_region_noPanic (wp_region_any O (Gl _ _ _ _ (by
  rw[<-N];rw[<-N]at L;have I:(Array.replicate q.length false).getD k false=false:=by
   by_cases I:k<q.length
   ·simp[I]
   ·simp[I]
  exact Vd U (fun _ _ _ _ _ h=>(h:False).elim) q _ false a _ L (YX.start _) I h0 (fun _=>R) h)))
theorem Te(q:List (Nat×Nat))(k:Nat)(S0 S1:World->Prop)(h0:S0 w.drew)(O:S1 w.drew)(h:xS P ops (NoPanic Q) S0 S1 false L a w.drew)(I:xO ops q=L:=by simp only[xO,qa,qb,qc,qd,qe,qf];exact rfl)(N:P.follows .mixedOrders=true:=by kernel_rfl)(R:Region.noSelect ops=true:=by kernel_rfl)(V:q.length=ops.size:=by rfl)(U:XH .any ops k q (Array.replicate ops.size false)=true:=by kernel_rfl):
 (Code.region id ops true).wp P Q a w:=zdp q k S0 S1 N R V U h0 O (I▸h)
theorem Vm(q:List (Nat×Nat))(S0:World->Prop)(h:xS P ops (NoPanic Q) S0 (fun _=>True) false L a w.drew)(h0:S0 w.drew:=by first|exact(RowKit.Below.refl _ _).drew|exact(zh.refl _ _).drew)(I:xO ops q=L:=by simp only[xO,qa,qb,qc,qd,qe,qf];exact rfl)(N:P.follows .mixedOrders=true:=by kernel_rfl)(O:Region.noSelect ops=true:=by kernel_rfl)(U:q.length=ops.size:=by rfl)(R:XH .any ops 9999 q (Array.replicate ops.size false)=true:=by kernel_rfl):
 (Code.region id ops true).wp P Q a w:=zdp q 9999 S0 (fun _=>True) N O U R h0 trivial (I▸h)
def Gg:Nat->List Nat->List (Nat×Nat)
 |_,[]=>[]
 |i,k::r=>(i,k)::Gg (i+1) r
theorem XT(U:List Nat)(k:Nat)(S0 S1:World->Prop)(h0:S0 w.drew)(R:S1 w.drew)(h:xS P ops (NoPanic Q) S0 S1 false L a w.drew)(O:Gg 0 U=q:=by simp only[Gg,zp6,Nat.reduceAdd];exact rfl)(I:xO ops q=L:=by simp only[xO,qa,qb,qc,qd,qe,qf];exact rfl)(N:P.follows .mixedOrders=true:=by kernel_rfl)(V:Region.noSelect ops=true:=by kernel_rfl)(X:q.length=ops.size:=by rfl)(W:XH .any ops k q (Array.replicate ops.size false)=true:=by kernel_rfl):
 (Code.region id ops true).wp P Q a w:=have _:=O;Te q k S0 S1 h0 R h I N V X W
theorem xX(R:List Nat)(S0:World->Prop)(h:xS P ops (NoPanic Q) S0 (fun _=>True) false L a w.drew)(h0:S0 w.drew:=by first|exact(RowKit.Below.refl _ _).drew|exact(zh.refl _ _).drew)(O:Gg 0 R=q:=by simp only[Gg,zp6,Nat.reduceAdd];exact rfl)(I:xO ops q=L:=by simp only[xO,qa,qb,qc,qd,qe,qf];exact rfl)(N:P.follows .mixedOrders=true:=by kernel_rfl)(U:Region.noSelect ops=true:=by kernel_rfl)(W:q.length=ops.size:=by rfl)(V:XH .any ops 9999 q (Array.replicate ops.size false)=true:=by kernel_rfl):
 (Code.region id ops true).wp P Q a w:=have _:=O;Vm q S0 h h0 I N U W V
variable {S0 S1:World->Prop}{d:Bool}
theorem T0(hw:Region.wanted o (yielded ops a.tmps)=true)(hy:∀w,S0 w->(execOp a.eval o).run P w=.ok (.value v) w)(h:xS P ops Q S0 S1 d rest (a.put o.dst v) w):
 xS P ops Q S0 S1 d ((0,o)::rest) a w:=⟨v,.inl ⟨hw,hy⟩,h⟩
theorem zbo(hw:Region.wanted o (yielded ops a.tmps)=true)(hy:∀w,S0 w/\S1 w->(execOp a.eval o).run P w=.ok (.value v) w)(h:xS P ops Q S0 S1 d rest (a.put o.dst v) w):
 xS P ops Q S0 S1 d ((1,o)::rest) a w:=⟨v,.inl ⟨hw,hy⟩,h⟩
theorem zjk(hw:Region.wanted o (yielded ops a.tmps)=false)(h:xS P ops Q S0 S1 d rest (a.put o.dst undef) w):
 xS P ops Q S0 S1 d ((0,o)::rest) a w:=⟨undef,.inr ⟨hw,rfl⟩,h⟩
theorem zjY(hw:Region.wanted o (yielded ops a.tmps)=false)(h:xS P ops Q S0 S1 d rest (a.put o.dst undef) w):
 xS P ops Q S0 S1 d ((1,o)::rest) a w:=⟨undef,.inr ⟨hw,rfl⟩,h⟩
theorem zjR(hw:Region.wanted o (yielded ops a.tmps)=true)(h:∀K:Act->World->Prop,Shut (∀a w,S0 w->(d=false->S1 w)->xS P ops Q S0 S1 d rest a w->K a w)->o.wp P a w K Q):xS P ops Q S0 S1 d ((2,o)::rest) a w:=by
 unfold xS;rw[if_pos hw];exact h _ (fun a w I q h=>⟨⟨I,q⟩,h⟩)
theorem Xf(hw:Region.wanted o (yielded ops a.tmps)=true)(h:∀K:Act->World->Prop,Shut (∀a w,S0 w->xS P ops Q S0 S1 true rest a w->K a w)->o.wp P a w K Q):xS P ops Q S0 S1 d ((3,o)::rest) a w:=by
 unfold xS;rw[if_pos hw];exact h _ (fun a w q h=>⟨q,h⟩)
theorem zob(hw:Region.wanted o (yielded ops a.tmps)=false)(h:xS P ops Q S0 S1 d rest (a.put o.dst undef) w):xS P ops Q S0 S1 d ((2,o)::rest) a w:=by
 unfold xS;rw[if_neg (by rw[hw];exact zqV)];exact h
theorem zbf(q:t<3)(hw:Region.wanted o (yielded ops a.tmps)=false)(h:xS P ops Q S0 S1 d rest (a.put o.dst undef) w):xS P ops Q S0 S1 d ((t,o)::rest) a w:=
 match t,q with
 |0,_=>zjk hw h
 |1,_=>zjY hw h
 |2,_=>zob hw h
 |n+3,h=>absurd h zd
theorem zQ{q:Act}(h:xS P ops Q S0 S1 d L q w)(e:a=q:=by simp only[qP,qN,qA,qZ,qS];exact rfl):xS P ops Q S0 S1 d L a w:=e▸h
theorem xf(h:∀K:Act->World->Prop,Shut (∀a w,S0 w->(d=false->S1 w)->xS P ops Q S0 S1 d rest a w->K a w)->o.wp P a w K Q)(hw:Region.wanted o (yielded ops a.tmps)=true:=by rfl):xS P ops Q S0 S1 d ((2,o)::rest) a w:=zjR hw h
theorem zoO(h:xS P ops Q S0 S1 d rest (a.put o.dst undef) w)(q:t<3:=by decide)(hw:Region.wanted o (yielded ops a.tmps)=false:=by rfl):xS P ops Q S0 S1 d ((t,o)::rest) a w:=zbf q hw h
theorem zoH(k:∀w,S0 w->F w)(h:xS P ops Q S0 S1 d rest (a.put o.dst v) w)(hw:Region.wanted o (yielded ops a.tmps)=true:=by rfl)(hy:∀w,F w->(execOp a.eval o).run P w=.ok (.value v) w:=by intro I q;go_simp;try exact rfl):xS P ops Q S0 S1 d ((0,o)::rest) a w:=T0 hw (fun w hw=>hy w (k w hw)) h
theorem zpw(k:∀w,S0 w->F w)(q:∀w,S1 w->G w)(h:xS P ops Q S0 S1 d rest (a.put o.dst v) w)(hw:Region.wanted o (yielded ops a.tmps)=true:=by rfl)(hy:∀w,F w->G w->(execOp a.eval o).run P w=.ok (.value v) w:=by intro N L I;go_simp;try exact rfl):xS P ops Q S0 S1 d ((1,o)::rest) a w:=zbo hw (fun w hw=>hy w (k w hw.1) (q w hw.2)) h
theorem yw{p:Prop}(h:p:=by first|exact(RowKit.Below.refl _ _).drew|exact(zh.refl _ _).drew):p:=h
theorem zS(k:∀w,S0 w->F w)(h:xS P ops Q S0 S1 d rest I w)(c:(t=0/\Region.wanted o (yielded ops a.tmps)=true/\∃v,(∀w,F w->(execOp a.eval o).run P w=.ok (.value v) w)/\a.put o.dst v=I)\/(t<3/\Region.wanted o (yielded ops a.tmps)=false/\a.put o.dst undef=I):=by
  first
   |(refine .inr ⟨zr,zj,?_⟩;first |(simp only[qP,qN,qA,qZ,qS];exact rfl)|exact rfl)
   |(refine .inl ⟨rfl,zj,_,by intro L q;go_simp;try exact rfl,?_⟩;first |(simp only[qP,qN,qA,qZ,qS];exact rfl)|exact rfl)):xS P ops Q S0 S1 d ((t,o)::rest) a w:=by
 rcases c with⟨rfl,q,v,L,rfl⟩ |⟨N,q,rfl⟩
 ·exact T0 q (fun w q=>L w (k w q)) h
 ·exact zbf N q h
theorem xM(k:∀w,S0 w->F w)(N:∀w,S1 w->G w)(h:xS P ops Q S0 S1 d rest I w)(c:(t=0/\Region.wanted o (yielded ops a.tmps)=true/\∃v,(∀w,F w->(execOp a.eval o).run P w=.ok (.value v) w)/\a.put o.dst v=I)\/(t=1/\Region.wanted o (yielded ops a.tmps)=true/\∃v,(∀w,F w->G w->(execOp a.eval o).run P w=.ok (.value v) w)/\a.put o.dst v=I)\/(t<3/\Region.wanted o (yielded ops a.tmps)=false/\a.put o.dst undef=I):=by
  first
   |(refine .inr (.inr ⟨zr,zj,?_⟩);first |(simp only[qP,qN,qA,qZ,qS];exact rfl)|exact rfl)
   |(refine .inl ⟨rfl,zj,_,by intro L q;go_simp;try exact rfl,?_⟩;first |(simp only[qP,qN,qA,qZ,qS];exact rfl)|exact rfl)
   |(refine .inr (.inl ⟨rfl,zj,_,by intro L q O;go_simp;try exact rfl,?_⟩);first |(simp only[qP,qN,qA,qZ,qS];exact rfl)|exact rfl)):xS P ops Q S0 S1 d ((t,o)::rest) a w:=by
 rcases c with⟨rfl,q,v,L,rfl⟩ |⟨rfl,q,v,L,rfl⟩ |⟨O,q,rfl⟩
 ·exact T0 q (fun w q=>L w (k w q)) h
 ·exact zbo q (fun w q=>L w (k w q.1) (N w q.2)) h
 ·exact zbf O q h
theorem xt(h:Q .normal a w):xS P ops (NoPanic Q) S0 S1 d [] a w:=h
end
end
end Go.Proofs.YtfdickkdlcgicaaGreatDoor
namespace Go.Proofs.YtfdickkdlcgicaaGreatDoor.C
open Go.Proofs.Tryz Go Go.RowKit Go.Maps Go.WideMaps
variable {A:Option Addr}{K:Act->World->Prop}{Q:Exit->Act->World->Prop}{S:Nat->Prop}{a:Act}{cap g size:Nat}{f m:Value->Option Value}{o:Oper}{vs:List ByteArray}{w':World}{α:Type}
section
section
variable {P:Program}{k t e:TypeId}{w:World}{b:Nat}{f:Value->Option Value}
open Classical in
noncomputable def yp(f:Value->Option Value)(x v:Value):Value->Option Value:=fun y=>if y=x then some v else f y
open Classical in
noncomputable def del(f:Value->Option Value)(x:Value):Value->Option Value:=fun y=>if y=x then none else f y
theorem Zy(m x v:Operand)(O:o.op=.mapUpdate t m x v)(h:xv P k w b f)(V:Keyed P k)(U:P.underlying t=some (.map k e))(hm:a.eval m=.map (some b))(I q:Value)(l:Lit)(Z:a.eval x=I)(hv:a.eval v=q)(N:keyOf P k I=some l)(X:∀L,xv P k L b (yp f I q)->w.mapTurned L b->K (a.put o.dst undef) L):Oper.wp P o a w K Q:=by
 obtain⟨L,Y,W,R⟩:=h.put V U N q;unfold Oper.wp;simp[execOp,O,hm,Z,hv,Y,Result.andThen];exact X L W R
theorem Us{O:Array Oper}{rest:List Oper}(Y:o.guard=none)(m x v:Operand)(R:o.op=.mapUpdate t m x v)(h:xv P k w b f)(X:Keyed P k)(W:P.underlying t=some (.map k e))(hm:a.eval m=.map (some b))(q I:Value)(l:Lit)(hx:a.eval x=q)(hv:a.eval v=I)(N:keyOf P k q=some l)(hK:∀L,xv P k L b (yp f q I)->w.mapTurned L b->wpList P O Q rest (a.put o.dst undef) L):wpList P O Q (o::rest) a w:=
 wpList_plain Y fun _ U=>Zy m x v R h X W hm q I l hx hv N fun L Z V=>U _ _ (hK L Z V)
theorem zev(m x:Operand)(N:o.op=.call { callee:=.builtin .delete,args:=#[m,x],argTypes:=#[t,k]})(h:xv P k w b f)(U:Keyed P k)(R:P.underlying t=some (.map k e))(Z:a.eval m=.map (some b))(q:Value)(l:Lit)(Y:a.eval x=q)(L:keyOf P k q=some l)(W:∀I,xv P k I b (del f q)->w.mapTurned I b->K (a.put o.dst (.tuple #[])) I):Oper.wp P o a w K Q:=by
 obtain⟨I,X,V,O⟩:=h.drop U R L o.type;unfold Oper.wp execOp;simp only[N,resolve,invoke,builtin,Sem.run_bind,Sem.run_pure,Result.andThen_ok,zqJ,zqb,zq3,Z,Y,X];exact W I V O
theorem xv.new(w:World)(n:Nat):xv P k (w.alloc (.map #[] n)) w.heap.size fun _=>none:=⟨#[],n,heap_alloc_new w _,Yu.none_,MapKept.stamped_empty n⟩
theorem xv.zC(h:xv P k w b f)(q:zh S w w')(I:¬S b):xv P k w' b f:=h.same (q.block b h.lt I)
theorem xv.below(h:xv P k w b f)(q:Bl w w'):xv P k w' b f:=h.same (q.block b h.lt)
theorem Yt(f:Value->Option Value)(x v:Value):yp f x v x=some v:=if_pos rfl
theorem XR{f:Value->Option Value}{x v y:Value}(h:y≠x):yp f x v y=f y:=if_neg h
end
theorem Own.yD{f:α->List Value}{e t:TypeId}{w:World}{xs:List α}{O:Array Value}(h:Own f e size w A cap xs)(k:zD w g t O)(q:e≠t):g∉zw A:=by
 intro I
 rcases h.2 with⟨N,_⟩ |⟨V,W,R,N,_,U,_⟩
 ·injection N with L;subst L;simp[zw]at I
 ·injection N with L;subst L
  simp[zw]at I;subst I;unfold zD at k;rw[U]at k;injection k with k
  injection k with _ k
  exact q k
theorem Own.qU{f:α->List Value}{e U:TypeId}{b:Nat}{P:Program}{w:World}{xs:List α}(h:Own f e size w A cap xs)(k:xv P U w b m):b∉zw A:=by
 intro q;obtain⟨Y,L,R,_⟩:=k
 rcases h.2 with⟨N,_⟩ |⟨W,X,V,N,_,O,_⟩
 ·injection N with I;subst I;simp[zw]at q
 ·injection N with I;subst I
  simp[zw]at q;subst q;rw[R]at O;cases O
theorem zD.qU{I t:TypeId}{b:Nat}{P:Program}{w:World}{L:Array Value}(h:zD w g t L)(k:xv P I w b m):g≠b:=by
 rintro rfl;obtain⟨O,q,N,_⟩:=k;unfold zD at h;rw[N]at h;cases h
theorem zh.znI{a w:World}{b:Nat}(h:zh S a w)(q:w.mapTurned w' b)(I:b<a.heap.size->S b):zh S a w':=h.yu q I
end
section
structure Vv (vs:List ByteArray) (f:Value->Option Value):Prop where
 yes:∀s∈vs,∃j:Nat,f (.string s)=some (.int .i64 ((j:Int)+1))/\j<vs.length
 no:∀s,s∉vs->f (.string s)=none
theorem Vv.qz:Vv [] fun _=>none:=⟨fun s h=>(by cases h),fun _ _=>rfl⟩
theorem Vv.push(h:Vv vs f)(v:ByteArray):Vv (vs++[v]) (yp f (.string v) (.int .i64 ((vs.length:Int)+1))):=
 ⟨fun s q=>by
  by_cases e:s=v
  ·subst e;exact⟨vs.length,by rw[Yt],by rw[zpA,zqs];omega⟩
  ·rcases zpE.1 q with q|q
   ·obtain⟨j,I,L⟩:=h.yes s q;exact⟨j,by rw[XR (by simpa using e)];exact I,by rw[zpA];omega⟩
   ·exact(e (zpy.1 q)).elim,fun s q=>by
  rw[zpE,zpy]at q;rw[XR (fun e=>q (.inr (by injection e)))];exact h.no s (fun h=>q (.inl h))⟩
theorem q8:Keyed prog 9:=string_keyed underlying9
theorem ye{s:ByteArray}(h:s.size<=maxLen):keyOf prog 9 (.string s)=some (.string s.data.toList):=keyOf_string_mk underlying9 h
structure TY (n0:Nat) (w:World) (bt bl:Nat) (mb:Nat) (A:Option Addr) (cap:Nat) (f:Value->Option Value) (vs:List ByteArray) (n:Nat):Prop where
 len:vs.length=n
 t:zD w bt 219 #[.map (some mb)]
 l:zD w bl 86 #[.slice A n cap]
 m:xv prog 9 w mb f
 n:Vv vs f
 own:Own xD 9 1 w A cap vs
 ge:n0<=bt/\n0<=bl/\n0<=mb/\∀g∈zw A,n0<=g
def zbe(I:Nat)(w:World)(L N:Nat)(vs:List ByteArray):Prop:=∃q A h f n,TY I w L N q A h f vs n
theorem TY.same{I:Nat}{w:World}{L N q:Nat}{n:Nat}(h:TY I w L N q A cap f vs n)(hw:w'.heap=w.heap):TY I w' L N q A cap f vs n:=
 ⟨h.len,h.t.same (by rw[hw]),h.l.same (by rw[hw]),h.m.same (by rw[hw]),h.n,h.own.same (fun g _=>by rw[hw]),h.ge⟩
def Jl(h:Nat)(q I:Nat)(vs:List ByteArray)(w:World)(e:Ending)(w':World):Prop:=e=.returned (.tuple #[])/\zbe h w' q I vs/\Below h w w'
theorem zg5(n0:Nat)(w:World)(bt I:Nat)(vs:List ByteArray)(h:zbe n0 w bt I vs)(b o:Nat)(t:Tm)(hb:b<n0)(am:b<w.heap.size)(av:n0<=w.heap.size)(hc:w.rangeAt b o t.cells)(hn:vs.length<=1048576)(hv:t.v.size<=maxLen):
 Calls prog 179 #[.pointer (some ⟨b,o,none⟩),.pointer (some ⟨bt,0,none⟩),.pointer (some ⟨I,0,none⟩)] w (Jl n0 bt I (addVar vs t.v) w):=by
 obtain⟨U,A,au,f,n,h⟩:=h;obtain⟨v,k,m,s⟩:=t;simp only at hv;obtain⟨c0,-,-,-⟩:=four hc;simp only at c0;have L:=ye hv;have ao:=zz L;have H:=zz h;have aA:n<=1048576:=by rw[<-h.len];exact hn
 have N:∀W,Bl w W->(Instr.lookup 219 (.map (some U)) (.string v) false).run prog W=.ok ((f (.string v)).getD (.int .i64 0)) W:=fun W V=>by
  simpa using(h.m.below V).look q8 underlying219 (z:=.int .i64 0) zo L false
 have mk:=fun(z:Value) (q:(f (.string v)).getD (.int .i64 0)=z)=>(show ∀W,Bl w W->_ from fun W V=>zpG (show W.cell? ⟨bt,0,none⟩=some (.map (some U))from(h.t.below V).cell 0) (zpG (show W.cell? ⟨b,o,none⟩=some (.string v)from(V.cell (p:=⟨b,o,none⟩) am).trans c0) (show(Instr.lookup 219 (.map (some U)) (.string v) false).run prog W=.ok z W from q▸N W V)))
 have O:Jl n0 bt I vs w (.returned (.tuple #[])) w.drew:=⟨rfl,⟨U,A,au,f,n,h.same rfl⟩,⟨rfl,rfl,rfl,zpx _,fun _ _=>rfl⟩⟩;have Y:=zz O;unfold addVar
 by_cases X:v.toList=[]
 ·rw[if_neg (fun h=>h.1.1 X)];have H0:=zz (mk _ rfl);have b1:v.toList.isEmpty=true:=by simp[X]
  have b2:(v.toList==([]:List UInt8))=true:=by simp[X]
  clear X c0 h mk N hc L hn O;go_enter func179,ntmps179;go_wp2;refine xX [0,0,0,0,0,0,0,0,0,0,0,0,0,0,0,0,0,0,0,0,0] (fun W=>Bl w W) ?_
  repeat refine zS H0.o ?_
  refine xt ?_;go_wp2;go_returns;exact Y.o
 by_cases R:v.toList=[95]
 ·rw[if_neg (fun h=>h.1.2 R)];have H0:=zz (mk _ rfl);have b1:v.toList.isEmpty=false:=by simp[X]
  have b2:(v.toList==([]:List UInt8))=false:=by simp[X]
  have b3:(v.toList==([95]:List UInt8))=true:=by simp[R]
  clear X R c0 h mk N hc L hn O;go_enter func179,ntmps179;go_wp2;refine xX [0,0,0,0,0,0,0,0,0,0,0,0,0,0,0,0,0,0,0,0,0] (fun W=>Bl w W) ?_
  repeat refine zS H0.o ?_
  refine xt ?_;go_wp2;go_returns;exact Y.o
 have b1:v.toList.isEmpty=false:=by simp[X]
 have b2:(v.toList==([]:List UInt8))=false:=by simp[X]
 have b3:(v.toList==([95]:List UInt8))=false:=by simp[R]
 by_cases h3:v∈vs
 ·rw[if_neg (fun h=>h.2 h3)];obtain⟨j,q,-⟩:=h.n.yes v h3;have H0:=zz (mk (.int .i64 ((j:Int)+1)) (by rw[q];rfl));have Z:decide ((0:Int)<(j:Int)+1)=true:=zp;clear X R c0 h mk N hc L hn O q h3;go_enter func179,ntmps179;go_wp2;refine xX [0,0,0,0,0,0,0,0,0,0,0,0,0,0,0,0,0,0,0,0,0] (fun W=>Bl w W) ?_
  repeat refine zS H0.o ?_
  refine xt ?_;go_wp2;go_returns;exact Y.o
 ·rw[if_pos ⟨⟨X,R⟩,h3⟩];have H0:=zz (mk (.int .i64 0) (by rw[h.n.no v h3];rfl));have ax:b∉zw A:=fun q=>by have:=h.ge.2.2.2 b q;omega
  have ak:=h.own.yD h.l zr;have ap:=h.own.yD h.t zr;have aj:=h.own.qU h.m;have ar:bt≠I:=h.t.yK h.l zr;have af:I≠U:=h.l.qU h.m;have an:bt≠U:=h.t.qU h.m;have az:b≠I:=by have:=h.ge.2.1;omega
  have H1:Kz (∀W,zh (fun g=>g∈zw A\/g=I) w.drew W->_):=fun W V=>(show W.cell? ⟨b,o,none⟩=some (.string v)from(V.cell (p:=⟨b,o,none⟩) am (fun h=>by rcases h with h|h;exact ax h;exact az h)).trans c0)
  have H2:Kz (∀W:World,W.heap[I]? = w.drew.heap[I]?->_):=fun W V=>(show W.cell? ⟨I,0,none⟩=some (.slice A n au)from(h.l.same (w':=W) V).cell 0)
  clear X R c0 h mk N hc L hn O h3;go_enter func179,ntmps179;go_wp2;refine xX [0,0,0,0,0,0,0,0,0,0,0,0,0,0,0,0,0,0,0,0,0] (fun W=>Bl w W) ?_
  repeat refine zS H0.o ?_
  refine xt ?_;go_wp2;refine XT [1,0,0,0,1,2,2,3] 7 (fun W=>zh (fun g=>g∈zw A\/g=I) w.drew W) (fun W=>W.heap[I]? = w.drew.heap[I]?) ?s0 ?s1 ?_
  case s0=>exact yw
  case s1=>rfl
  try refine zQ ?_
  repeat refine xM H1.o H2.o ?_
  refine xf fun K hK=>?_
  go_simp;refine hK.out _ _ (((zh.refl _ _).drew).alloc _) (fun _=>by exact Below.heap_alloc _ _ _ H.o.l.lt) ?_;clear hK K;refine xf fun K hK=>?_
  refine ZE _ _ rfl Vh (f:=xD) (xs:=vs) ((H.o.own.same (w':=w.drew.drew) fun _ _=>rfl).alloc _) H.o.len v _ 0 1 rfl rfl rfl (yt _ _ _ rfl) zt (zd) zr ?_;intro g q w3 aq ag al;have ab:zh (fun g=>g∈zw A\/g=I) w.drew w3:=(((zh.refl _ w.drew).drew).alloc _).trans ag (fun x hx _=>.inl hx);have ad:w3.heap[I]? = w.drew.heap[I]?:=(ag.block I (by have:=H.o.l.lt;simp;omega) ak).trans (Below.heap_alloc _ _ _ H.o.l.lt);refine hK.out _ _ ab (fun _=>ad) ?_;clear hK K;refine Xf zj (fun K hK=>?_);have kl:=H.o.l.same (w':=w3) ad;have cl:=kl.cell 0;have fl:=kl.frozen 0;go_simp;have aa:g∈zw A\/w.heap.size<=g:=al.imp id (fun h=>by simp at h;omega);have aw:g≠I:=fun e=>by
   rcases aa with h|h
   ·exact ak (e▸h)
   ·have:=H.o.l.lt;omega
  have ay:g≠U:=fun e=>by
   rcases aa with h|h
   ·exact aj (e▸h)
   ·have:=H.o.m.lt;omega
  have aB:g≠bt:=fun e=>by
   rcases aa with h|h
   ·exact ap (e▸h)
   ·have:=H.o.t.lt;omega
  have Z:=ab.setCell (p:=⟨I,0,none⟩) (fun _=>.inr rfl) (.slice (some ⟨g,0,none⟩) (n+1) q);refine hK.out _ _ Z ?_;clear hK K;refine xt ?_;have ae:=kl.qI 0 (.slice (some ⟨g,0,none⟩) (n+1) q);have ai:=((H.o.t.same (w':=w.drew) rfl).zC ab (fun h=>by rcases h with h|h;exact ap h;exact ar h)).X4 (p:=⟨I,0,none⟩) ar (.slice (some ⟨g,0,none⟩) (n+1) q);have m5:xv prog 9 (w3.setCell ⟨I,0,none⟩ (.slice (some ⟨g,0,none⟩) (n+1) q)) U f:=(H.o.m.same (w':=w.drew) rfl).zC Z (fun h=>by rcases h with h|h;exact aj h;exact af h.symm);have ac:Own xD 9 1 (w3.setCell ⟨I,0,none⟩ (.slice (some ⟨g,0,none⟩) (n+1) q)) (some ⟨g,0,none⟩) q (vs++[v]):=aq.same (xY (Below.heap_setCell _ _ _ _ aw));have c5:=H1.o _ Z;have ah:=zz (show zh (fun g=>g∈zw A\/g=I) w _ from((zh.refl _ w).drew).trans Z (fun x hx _=>hx));clear cl fl kl ad ab Z aq ag al;generalize w3.setCell ⟨I,0,none⟩ (.slice (some ⟨g,0,none⟩) (n+1) q)=w5 at ae ai m5 ac c5 ah ⊢;have ad:b<w5.heap.size:=by have:=ah.o.size;omega
  have ag:b≠U:=by have:=H.o.ge.2.2.1;omega
  have H5:=zz (show ∀W,zh (fun x=>x=U) w5 W->_ from fun W V=>zpG (show W.cell? ⟨bt,0,none⟩=some (.map (some U))from(ai.zC V an).cell 0)
   (zpG (show W.cell? ⟨I,0,none⟩=some (.slice (some ⟨g,0,none⟩) (n+1) q)from(ae.zC V af).cell 0) (show W.cell? ⟨b,o,none⟩=some (.string v)from(V.cell (p:=⟨b,o,none⟩) ad ag).trans c5)))
  have M5:=zz m5;clear c5;go_wp2;refine xX [0,0,0,0,0,0,0,2] (fun W=>zh (fun x=>x=U) w5 W) ?_
  repeat refine zS H5.o ?_
  refine xf fun K hK=>?_
  refine Zy _ _ _ rfl (M5.o.same (w':=w5.drew) rfl) q8 underlying219 rfl (.string v) (.int .i64 ((n:Int)+1)) _ rfl rfl ao.o ?_;intro w6 m6 t6;have V:zh (fun x=>x=U) w5 w6:=((zh.refl _ w5).drew).yu t6 (fun _=>rfl);refine hK.out _ _ V (fun _=>trivial) ?_;clear hK K;refine xt ?_;have Z:Jl n0 bt I (vs++[v]) w (.returned (.tuple #[])) w6:=⟨rfl,⟨U,some ⟨g,0,none⟩,q,_,n+1,by rw[zpA,H.o.len];rfl,ai.zC V an,ae.zC V af,m6,by rw[<-H.o.len];exact H.o.n.push v,ac.zC V (xY ay),H.o.ge.1,H.o.ge.2.1,H.o.ge.2.2.1,xY (by
   rcases aa with h|h
   ·exact H.o.ge.2.2.2 g h
   ·omega)⟩,((ah.o.mono (S':=fun x=>n0<=x) (fun x hx _=>by rcases hx with h|h;exact H.o.ge.2.2.2 x h;(rw[h];exact H.o.ge.2.1))).trans V (fun x hx _=>by rw[hx];exact H.o.ge.2.2.1)).below av (fun x hx=>hx)⟩
  have ab:=zz Z;clear Z;go_wp2;go_returns;exact ab.o
theorem DE(s:ByteArray):(xD s).length=0+1:=rfl
theorem Ar.xG(a:Ar):a.cells.length=4+1:=rfl
theorem Li.Yn(x:Li):x.cells.length=15+1:=Li.xG x
theorem Dw:(prog.info? 50).map (·.size)=some 16:=zo
theorem q9(x:Li):(prog.info? 50).map (·.size)=some x.cells.length:=by rw[Li.xG];exact Dw
theorem zag:(prog.info? 48).map (·.size)=some 6:=zo
theorem GS(x:Ex):(prog.info? 48).map (·.size)=some x.cells.length:=by rw[Ex.xG];exact zag
theorem Tc(s:ByteArray)(w:World)(A:Option Addr)(cap:Nat)(l:List ByteArray)(h:zZ xD w A l)(n:Nat)(V:l.length=n)(hb:n<=4194304):
 Calls prog 138 #[.string s,.slice A n cap] w fun e q=>e=.returned (.bool (tf (s∈l)))/\q=w:=by
 have H:=zz h;have W:=zz V;clear h V;go_enter func138,ntmps138;go_wp2
 go_loopg[5] n (fun gk I q=>∃i:Nat,i<=n/\gk=n-i/\I=.int .i64 (i:Int)/\q=w/\∀j (h:j<l.length),j<i->l[j]≠s)
 case atStart=>exact⟨0,zpD _,rfl,rfl,rfl,fun j _ h=>zd⟩
 case round=>
  obtain⟨i,hi,rfl,rfl,rfl,I⟩:=hrel;have q:=zz I;clear I
  by_cases O:i<n
  ·have L:i<l.length:=by rw[W.o];exact O
   obtain⟨b,o,rfl,Y,R⟩:=H.o.at DE i L;have I:=zpB L;generalize N:l[i]=u at R I;have Hu:=zz N;clear N
   replace R:wr.cell? ⟨b,o+i,none⟩=some (.string u):=by have:=R 0 _ rfl;simpa using this
   by_cases e:u=s
   ·subst e;have U:(u.toList==u.toList)=true:=zp;have N:tf (u∈l)=true:=qs I;have X:=zz N;clear N I;go_wp2;go_returns;exact⟨by rw[X.o];rfl,rfl⟩
   ·have U:(u.toList==s.toList)=false:=by rw[bytes_beq];exact qu e
    have Z:=zz e;clear e I;go_wp2
    go_roundg (n-(i+1))
    case measure=>omega
    case rel=>exact⟨i+1,zd,rfl,ze,rfl,fun j N X=>by
     by_cases X:j=i
     ·subst X;rw[Hu.o];exact Z.o
     ·exact q.o j N zd⟩
  ·obtain rfl:i=n:=zd;have L:tf (s∈l)=false:=qu fun I=>by
    obtain⟨j,N,rfl⟩:=zpS.1 I;exact q.o j N (by rw[<-W.o];exact N) rfl
   have I:=zz L;clear L;go_wp2;go_returns;exact⟨by rw[I.o];rfl,rfl⟩
theorem zaB(w:World)(A:Option Addr)(cap:Nat)(I:List Tm)(h:zZ Tm.cells w A I)(n:Nat)(hn:I.length=n)(hb:n<=1048576):
 Calls prog 77 #[.slice A n cap] w (XA xD 9 1 (varsOf [] I) w):=by
 have H:=zz h;have Hn:=zz hn;clear h hn;go_enter func77,ntmps77;go_wp2
 go_loopg[3,4] n (fun gk s3 N L=>∃(i:Nat) (O:Option Addr) (q m:Nat),i<=n/\gk=n-i/\N=.int .i64 (i:Int)/\s3=.slice O m q/\(varsOf [] (I.take i)).length=m/\m<=i/\Own xD 9 1 L O q (varsOf [] (I.take i))/\Bl w L/\∀g∈zw O,w.heap.size<=g)
 case atStart=>exact⟨0,none,0,0,zpD _,rfl,rfl,rfl,rfl,zpx _,Own.qz w,Below.refl _ _,fun g L=>by simp[zw]at L⟩
 case round=>
  obtain⟨i,O,q,m,hi,rfl,rfl,rfl,R,ai,N,U,L⟩:=hrel;have Y:=zz R;have Ho:=zz N;have HB:=zz U;have Hg:=zz L;clear R N U L
  by_cases ae:i<n
  ·have ab:i<I.length:=by rw[Hn.o];exact ae
   obtain⟨b,o,rfl,aj,N⟩:=(H.o.below HB.o).at Tm.xG i ab;have L:I.take (i+1)=I.take i++[I[i]]:=zpC ab;generalize I[i]=t at N L;obtain⟨v,k3,m3,s3⟩:=t;have R:varsOf [] (I.take (i+1))=addVar (varsOf [] (I.take i)) v:=by rw[L,Uo];rfl
   replace N:wr.rangeAt b (o+i*4) _:=N
   obtain⟨d0,-,-,-⟩:=four N;simp only at d0;clear N L;have U:=zz R;clear R;have L:∀w2,Bl wr w2->addVar (varsOf [] (I.take i)) v=varsOf [] (I.take i)->∃(R:Nat) (X:Option Addr) (N W:Nat),R<=n/\n-(i+1)=n-R/\Value.int .i64 ((i:Int)+1)=.int .i64 (R:Int)/\Value.slice O m q=.slice X W N/\(varsOf [] (I.take R)).length=W/\W<=R/\Own xD 9 1 w2 X N (varsOf [] (I.take R))/\Bl w w2/\∀g∈zw X,w.heap.size<=g:=fun w2 V e=>
    ⟨i+1,O,q,m,zd,rfl,ze,rfl,by rw[U.o,e];exact Y.o,zd,by rw[U.o,e];exact Ho.o.below V,zl HB.o V,Hg.o⟩
   have N:=zz L;clear L
   by_cases V:v.toList=[]
   ·have Z:=zz (N.o wr (Below.refl _ _) (by unfold addVar;rw[if_neg (fun h=>h.1.1 V)]));have b9:v.toList.isEmpty=true:=by simp[V]
    clear V;go_wp2
    go_roundg (n-(i+1))
    case measure=>omega
    case rel=>exact Z.o
   by_cases R:v.toList=[95]
   ·have Z:=zz (N.o wr (Below.refl _ _) (by unfold addVar;rw[if_neg (fun h=>h.1.2 R)]));have b9:v.toList.isEmpty=false:=by simp[V]
    have b1:(v.toList==([95]:List UInt8))=true:=by simp[R]
    have b2:(v.toList !=([95]:List UInt8))=false:=by simp[R]
    clear V R;go_wp2
    go_roundg (n-(i+1))
    case measure=>omega
    case rel=>exact Z.o
   have b9:v.toList.isEmpty=false:=by simp[V]
   have b1:(v.toList==([95]:List UInt8))=false:=by simp[R]
   have b2:(v.toList !=([95]:List UInt8))=true:=by simp[R]
   have L:=Tc v wr O q _ Ho.o.xI m Y.o zd
   by_cases X:v∈varsOf [] (I.take i)
   ·have Z:=zz (N.o wr (Below.refl _ _) (by unfold addVar;rw[if_neg (fun h=>h.2 X)]));rw[qs X]at L;have W:=zz L;clear V R X L
    go_wp2_with (go_at_call 138;refine W.o.mono ?_;rintro e w1⟨rfl,rfl⟩)
    go_roundg (n-(i+1))
    case measure=>omega
    case rel=>exact Z.o
   ·have Ha:=zz (show addVar (varsOf [] (I.take i)) v=varsOf [] (I.take i)++[v] by unfold addVar;rw[if_pos ⟨⟨V,R⟩,X⟩]);rw[qu X]at L;have W:=zz L;clear V R X L
    go_wp2_with (first
     |(go_at_call 138;refine W.o.mono ?_;rintro e w1⟨rfl,rfl⟩)
     |(at_builtin;refine X9 rfl _ _ rfl Vh (f:=xD) (xs:=varsOf [] (I.take i)) ?own Y.o v _ 0 1 rfl rfl rfl ?news ?one ?le zr ?_))
    case own=>exact Ho.o.alloc _
    case news=>exact yt _ _ _ rfl
    case one=>simp[Value.oneCell']
    case le=>omega
    intro g ac w3 Z ad aa;have af:=zz Z;have ag:=zz (((zh.refl (·∈zw O) w1).alloc _).trans ad (fun x hx _=>hx));have ah:Kz (g∈zw O\/w1.heap.size<=g):=aa.imp id (fun h=>zd);clear Z ad aa;go_wp2
    go_roundg (n-(i+1))
    case measure=>omega
    case rel=>
     refine⟨i+1,_,ac,m+1,zd,rfl,ze,rfl,by rw[U.o,Ha.o,zpA,Y.o];rfl,zd,by rw[U.o,Ha.o];exact af.o,ag.o.qt HB.o (zpx _) Hg.o,xY ?_⟩
     rcases ah.o with h|h
     ·exact Hg.o g h
     ·have:=HB.o.size;omega
  ·obtain rfl:i=n:=zd;have L:I.take i=I:=by rw[<-Hn.o];exact zp5
   rw[L]at Ho Y;go_wp2;go_returns;exact⟨O,q,m,rfl,Y.o,Ho.o,HB.o,Hg.o⟩
theorem zjm(w:World)(r:Ru)(hl:r.zN w)(hb:r.zO.length<=1048576):
 Calls prog 78 #[.agg r.cells.toArray] w (XA Tm.cells 45 4 r.zO w):=by
 obtain⟨p,B,zM,L,C,al,q⟩:=r;obtain⟨R,ah,O,ai,I⟩:=hl;simp only at R ah O ai I;unfold Ru.zO at hb ⊢;simp only at hb ⊢;rw[zpA,zpO]at hb;have Hh:=zz R;have ao:=zz O;have HL:=zz (fun(x:Li) (hx:x∈q) (W:World) (A:Option Addr) (U:Nat) (X:List Tm) Z V h4 Y M hM=>zjV x w W A U X (I x hx) Z V h4 Y M hM);have Hb:=zz hb;clear R O I hb;obtain⟨T,I⟩:∃T,L.map (·.t)=T:=⟨_,rfl⟩;have HT:Kz (∀i (h:i<L.length),∃O:i<T.length,T[i]=L[i].t):=fun i h=>by subst I;exact⟨by simpa using h,zp⟩
 have ae:=zz (show T.length=L.length by subst I;simp);rw[I];clear I;simp only[Ru.cells];obtain⟨N,I⟩:∃N,L.length=N:=⟨_,rfl⟩;rw[I]at ah ⊢;have HN:=zz I;clear I;obtain⟨N2,I⟩:∃N,q.length=N:=⟨_,rfl⟩;rw[I]at ai ⊢;have aj:=zz I;clear I;obtain⟨W0,I,O⟩:=Vx w #[.string p,.slice B N zM,.slice C N2 al] 25;have HX:=zz O;have aq:=zz I;have ag:=zz O.size;clear O I;go_enter func78,ntmps78;go_wp2;rw[aq.o]
 go_loopg[3,4] N (fun gk s3 O wx=>∃(i:Nat) (U:Option Addr) (I:Nat),i<=N/\gk=N-i/\O=.int .i64 (i:Int)/\s3=.slice U i I/\
  Own Tm.cells 45 4 wx U I (T.take i)/\Bl W0 wx/\∀g∈zw U,W0.heap.size<=g)
 case atStart=>exact⟨0,none,0,zpD _,rfl,rfl,rfl,Own.qz _,Below.refl _ _,fun g V=>by simp[zw]at V⟩
 case round=>
  obtain⟨i,U,I,hi,rfl,rfl,rfl,ho,O,V⟩:=hrel;have x1:=HX.o.at O 1;have x2:=HX.o.at O 2;have Ho:=zz ho;have Z:=zz O;have Hg:=zz V;clear ho O V;have au:N<=1048576:=by have:=Hb.o;have:=HN.o;omega
  by_cases ap:i<N
  ·have X:i<L.length:=by rw[HN.o];exact ap
   obtain⟨b,o,rfl,an,hr⟩:=(Hh.o.below (HX.o.in Z.o)).at Ar.xG i X;obtain⟨qY,aa⟩:=HT.o i X;have R:T.take (i+1)=T.take i++[L[i].t]:=by rw[zpC qY,aa]
   have Y:(T.take i).length=i:=by rw[zp3];omega
   clear aa qY;generalize L[i]=t at hr R;obtain⟨g5,v3,k3,m3,s3⟩:=t;simp only at R
   replace hr:wr.rangeAt b (o+i*5) _:=hr
   obtain⟨d0,d1,d2,d3,d4⟩:=ZY hr;have ac:=zz R;have ak:=zz Y;clear hr R Y
   go_wp2_with (at_builtin;refine X9 rfl _ _ rfl Jz (f:=Tm.cells) (xs:=T.take i) ?own ak.o ⟨v3,k3,m3,s3⟩ _ 0 1 rfl rfl rfl ?news ?one ?le zr ?_)
   case own=>exact Ho.o.alloc _
   case news=>exact yt _ _ _ zp
   case one=>simp[Value.oneCell']
   case le=>omega
   intro g Y w3 ad ab aa;have am:=zz ad;have af:=zz (((zh.refl (·∈zw U) wr).alloc _).trans ab (fun x hx _=>hx));have ar:Kz (g∈zw U\/wr.heap.size<=g):=aa.imp id (fun h=>zd);clear ad ab aa;go_wp2
   go_roundg (N-(i+1))
   case measure=>omega
   case rel=>
    refine⟨i+1,_,Y,zd,rfl,ze,rfl,by rw[ac.o];exact am.o,af.o.qt Z.o (zpx _) Hg.o,xY ?_⟩
    rcases ar.o with h|h
    ·exact Hg.o g h
    ·have:=Z.o.size;omega
  ·obtain rfl:i=N:=zd;have ht:T.take i=T:=zpT (by rw[ae.o,HN.o];exact zpx _);rw[ht]at Ho;clear ht;go_wp2
   go_loopg[3,5] N2 (fun gk s3 s5 wx=>∃(j:Nat) (U:Option Addr) (I m:Nat),j<=N2/\gk=N2-j/\s5=.int .i64 (j:Int)/\s3=.slice U m I/\(T++(q.take j).flatMap Li.zO).length=m/\
    Own Tm.cells 45 4 wx U I (T++(q.take j).flatMap Li.zO)/\Bl W0 wx/\∀g∈zw U,W0.heap.size<=g)
   case atStart=>exact⟨0,U,I,i,zpD _,rfl,rfl,rfl,by simp[ae.o,HN.o],by simpa using Ho.o,Z.o,Hg.o⟩
   case round=>
    clear x1 x2;clear Z Hg Ho;obtain⟨j,U,I,m,hj,rfl,rfl,rfl,hm,ho,O,V⟩:=hrel;have x2:=HX.o.at O 2;have Hm:=zz hm;have Ho:=zz ho;have Z:=zz O;have Hg:=zz V;clear ho O V hm
    by_cases am:j<N2
    ·have X:j<q.length:=by rw[aj.o];exact am
     obtain⟨b,o,rfl,an,hr⟩:=(ao.o.below (HX.o.in Z.o)).at Li.Yn j X;have R:(q.take (j+1)).flatMap Li.zO=(q.take j).flatMap Li.zO++q[j].zO:=by rw[zpC X,zp2];simp
     have ak:((q.take (j+1)).flatMap Li.zO).length<=(q.flatMap Li.zO).length:=by
      have:q=q.take (j+1)++q.drop (j+1):=(zqi _ _).symm;rw[congrArg (List.flatMap Li.zO) this,zp2,zpA];omega
     have O:=HL.o q[j] (zpB X) wr U I _ (HX.o.in Z.o) Ho.o (fun g V=>by have:=Hg.o g V;have:=ag.o;omega);generalize q[j]=x at hr R O
     replace hr:wr.rangeAt b (o+j*16) x.cells:=hr
     have O:=O (by
      rw[R,zpA]at ak;have:=Hb.o;have:=HN.o;rw[zpA,ae.o];omega) m Hm.o
     have af:=zz O;have ac:=zz R;have Hr:=zz hr;clear O R ak hr
     go_wp2_with (first
      |(refine xW 50 _ rfl ?_;refine wpList_load_mid rfl 50 _ rfl b (o+j*16) rfl x.cells _ Hr.o underlying50 rfl (q9 x) ?_)
      |(go_at_call 139;refine af.o.mono ?_;rintro e w3⟨R,Y,M3,rfl,O,ad,ab,aa⟩))
     go_roundg (N2-(j+1))
     case measure=>omega
     case rel=>
      refine⟨j+1,R,Y,M3,zd,rfl,ze,rfl,by rw[ac.o,<-zpX];exact O,by rw[ac.o,<-zpX];exact ad,ab.qt Z.o (zpx _) Hg.o,fun g V=>?_⟩
      rcases aa g V with h|h
      ·exact Hg.o g h
      ·have:=Z.o.size;omega
    ·obtain rfl:j=N2:=zd;have ht:q.take j=q:=by rw[<-aj.o];exact zp5
     rw[ht]at Ho Hm;go_wp2;go_returns;exact⟨U,I,m,rfl,Hm.o,Ho.o,HX.o.in Z.o,fun g V=>by have:=Hg.o g V;have:=ag.o;omega⟩
theorem zbC(w:World)(r:Ru)(hl:r.zN w)(R:r.zO.length<=1048576):
 Calls prog 29 #[.agg r.cells.toArray] w (XA xD 9 1 r.vars w):=by
 have H:=zz (fun W (q:Bl w W)=>zjm W r (hl.below q) R);have Hb:=zz R;have HV:=zz (fun(W:World) (A:Option Addr) (q:Nat) (h:zZ Tm.cells W A r.zO) n I=>zaB W A q r.zO h n I (by rw[<-I];exact Hb.o));clear hl R;go_enter func29,ntmps29
 go_wp2_with (first
  |(go_at_call 77;refine(HV.o w1 A1 q Y.o M1 Z.o).mono ?_;rintro e w2⟨A2,L,M2,rfl,V,aa,X,U⟩)
  |(go_at_call 78;refine(H.o _ (xq _ _)).mono ?_;rintro e w1⟨A1,q,M1,rfl,I,N,O,ab⟩;have Z:=zz I;have Y:=zz N.xI;clear I N))
 go_returns;exact⟨A2,L,M2,rfl,V,aa,yf (zl O X),fun g hg=>by have:=U g hg;have:=O.size;simp at this;omega⟩
theorem zof(w:World)(a:At)(X:a.zN w)(V:a.args.length<=1048576):
 Calls prog 239 #[.agg a.cells.toArray] w (XA xD 9 1 a.vars w):=by
 have Y:=zz (fun(W:World) (L:Bl w W) n q=>zaB W a.A a.cap a.args (X.rd.below L) n q (by rw[<-q];exact V));clear X V;obtain⟨p,A,I,h⟩:=a;simp only[At.cells]at Y ⊢;obtain⟨N,q⟩:∃N,h.length=N:=⟨_,rfl⟩;rw[q];have HN:=zz q;clear q;go_enter func239,ntmps239
 go_wp2_with (go_at_call 77;refine(Y.o _ (xq _ _) _ HN.o).mono ?_;rintro e w2⟨A2,q,M2,rfl,O,U,R,L⟩)
 go_returns;exact⟨A2,q,M2,rfl,O,U,yf R,fun g Z=>by have:=L g Z;simp at this;omega⟩
theorem zlq(w:World)(x:Ex)(hl:x.zN w)(X:x.zO.length<=1048576):
 Calls prog 241 #[.agg x.cells.toArray] w (XA xD 9 1 x.vars w):=by
 have H:=zz (fun W (I:Bl w W)=>TN x w W none 0 [] hl I (Own.qz W) (fun g Y=>by simp[zw]at Y) (by simpa using X) 0 rfl);have Hb:=zz X;have HV:=zz (fun(W:World) (A:Option Addr) (I:Nat) (h:zZ Tm.cells W A x.zO) n L=>zaB W A I x.zO h n L (by rw[<-L];exact Hb.o));clear hl X;have L:∃q v k m s A n I,x.cells=[.int .i8 q,.string v,.int .i8 k,.int .i64 m,.string s,.slice A n I]:=by cases x;exact⟨_,_,_,_,_,_,_,_,rfl⟩
 obtain⟨q,v,k,m,s,A,n,I,L⟩:=L;rw[L]at H ⊢;clear L;go_enter func241,ntmps241
 go_wp2_with (first
  |(go_at_call 77;refine(HV.o w1 A1 L ac.o M1 ad.o).mono ?_;rintro e w2⟨A2,O,M2,rfl,aa,ae,ab,Z⟩)
  |(go_at_call 198;refine(H.o _ (xq _ _)).mono ?_;rintro e w1 U;obtain⟨A1,L,M1,rfl,N,R,V,af⟩:=Acc.gives U;have ad:=zz N;have ac:=zz R.xI;clear N R U))
 go_returns;exact⟨A2,O,M2,rfl,aa,ae,yf (zl V ab),fun g Y=>by have:=Z g Y;have:=V.size;simp at this;omega⟩
theorem zlb(w:World)(b:Bool):Calls prog 192 #[.bool b] w fun e h=>e=.returned (.int .i64 (if b then 0 else 40))/\h=w:=by
 cases b
 all_goals
  go_enter func192,ntmps192;go_wp2;go_returns;exact⟨rfl,rfl⟩
end
