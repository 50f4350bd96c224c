/-
  Lists of the calls' own: one list behind another. No program
-/
import Derived.Test.YtfdickkdlcgicaaGreatDoorQ38
set_option maxRecDepth 100000
set_option maxHeartbeats 8000000
set_option linter.all false
namespace Go.Proofs.YtfdickkdlcgicaaGreatDoor.C
open Go.Proofs.Tryz Go Go.RowKit Go.Maps Go.WideMaps
variable {A:Option Addr}{Q:Exit->Act->World->Prop}{a:Act}{cap j:Nat}{fs l:List Fa}{o:Oper}{p:Px}{rest:List Oper}{tk:Nat->Int}
section
section
variable {α:Type}{f:α->List Value}{t e:TypeId}{size bytes:Nat}{A B:Option Addr}{cap zM n m:Nat}{xs ys:List α}{P:Program}{w:World}
theorem zfe{f:α->List Value}{size:Nat}:∀{ys:List α},(∀y∈ys,(f y).length=size)->(ys.flatMap f).length=ys.length*size
 |[],_=>zp
 |y::ys,h=>by
  rw[zpZ,zpA,h y zpP,zfe fun x q=>h x (zpQ _ q),zpV,zrq];omega
theorem Own.zb2(h:Own f e size w A cap xs)(k:Own f e size w B zM ys)(E:qB P t e size bytes)(hn:xs.length=n)(hm:ys.length=m)(ty:TypeId)(hl:∀y∈ys,(f y).length=size)(h1:∀y∈ys,∀u∈f y,u.oneCell'=true)(hb:n+m<=4294967296)(Y:bytes<=4096):
 ∃N q O,(Builtin.append_ #[t,t] ty #[.slice A n cap,.slice B m zM]).run P w=.ok (.slice N (n+m) q) O/\Own f e size O N q (xs++ys)/\zh (·∈zw A) w O/\(∀g∈zw N,g∈zw A\/w.heap.size<=g):=by
 subst hn;subst hm;obtain⟨W,⟨i,z,hi,hz,U,h4,L⟩,hp⟩:=E;have I:(xs.length+ys.length)*bytes<=140737488355328:=by
  have:(xs.length+ys.length)*bytes<=4294967296*4096:=zrx hb Y;omega
 rcases k.form with⟨rfl,rfl,rfl⟩ |⟨g,rfl,X,_⟩
 ·refine⟨A,cap,w,?_,by rw[zp7];exact h,zh.refl _ _,fun g X=>.inl X⟩
  rcases h.form with⟨rfl,rfl,rfl⟩ |⟨g,rfl,X,R,_⟩
  ·simp[Builtin.append_,run_underlying W,sizeOf,typeInfo,hi,Builtin.lenOf,Builtin.firstCells,loadCells,loadCellsFrom]
  ·simp[Builtin.append_,run_underlying W,sizeOf,typeInfo,hi,Builtin.lenOf,Builtin.firstCells,loadCells,loadCellsFrom,R,storeCells]
 ·obtain⟨v',O,Z,h2,U,h4,L⟩:=run_append_own_at (P:=P) (w:=w) 0 t ty e i z size bytes W hi hz U h4 L hp _ xs.length (xs.flatMap f) h ⟨g,0,none⟩ ys.length zM (ys.flatMap f) (zfe hl) (fun j u hj=>by
   have R:=k.xI (by intro V;rw[V]at hj;cases hj);obtain⟨b,o,e1,_,Z⟩:=R;injection e1 with e1
   injection e1 with e1 e2 _
   subst e1 e2;have:=Z j u hj
   cases j<;>simpa[Addr.add]using this) (fun u R=>by
   obtain⟨y,hy,R⟩:=zqP.1 R;exact h1 y hy u R) (by unfold maxLen;omega) I (zpD _)
  have R:∃N q,v'=.slice N (xs.length+ys.length) q:=by
   rcases h2.2 with⟨hv,h0⟩ |⟨g',c',aa,hv,_⟩
   ·exact⟨none,0,by rw[hv];congr 1;omega⟩
   ·exact⟨_,_,hv⟩
  obtain⟨N,q,rfl⟩:=R;refine⟨N,q,O,Z,?_,?_,fun g' R=>?_⟩
  ·unfold Own;rw[zpA,zp2];exact h2
  ·have V:(Value.slice A xs.length cap).ownBlock=(zw A).head?:=by cases A<;>rfl
   rw[V]at U;refine(zh.refl _ w).grown U fun k hk _=>?_
   cases A with
   |none=>cases hk
   |some a=>simpa[zw]using hk.symm
  ·cases N with
   |none=>cases R
   |some V=>
    simp only[zw,zqh,zqU,zpy]at R
    rcases L with L|L
    ·left
     cases A with
     |none=>cases L
     |some a=>
      simp only[Value.ownBlock,zqn]at L;simp only[zw,zqh,zqU,zpy];omega
    ·right;simp only[Value.ownBlock,zqn]at L;omega
theorem TE{N:Array Oper}(O:o.guard=none)(s y:Operand)(ho:o.op=.call { callee:=.builtin .append,args:=#[s,y],argTypes:=#[t,t]})(E:qB P t e size bytes)(h:Own f e size w A cap xs)(k:Own f e size w B zM ys)(hn:xs.length=n)(hm:ys.length=m)(hs:a.eval s=.slice A n cap)(hy:a.eval y=.slice B m zM)(hl:∀y∈ys,(f y).length=size)(Z:∀y∈ys,∀u∈f y,u.oneCell'=true)(V:n+m<=4294967296)(R:bytes<=4096)(W:∀L q I l,l=n+m->Own f e size I L q (xs++ys)->zh (·∈zw A) w I->(∀g∈zw L,g∈zw A\/w.heap.size<=g)->wpList P N Q rest (a.put o.dst (.slice L l q)) I):
 wpList P N Q (o::rest) a w:=by
 refine wpList_plain O fun K Y=>?_
 obtain⟨L,q,I,hr,U,h3,X⟩:=h.zb2 (P:=P) k E hn hm o.type hl Z V R;unfold Oper.wp execOp;simp only[ho,resolve,invoke,builtin,Sem.run_bind,Sem.run_pure,Result.andThen_ok,zqJ,zqb,zq3,hs,hy,hr];exact Y _ _ (W L q I _ rfl U h3 X)
end
end
section
section
variable {r:Ru}{fs:List Fa}{tk:Nat->Int}{p:Px}{pb wb m N:Nat}{S S':Nat->Prop}{w w':World}
theorem U0(L:zh S w w')(I:∀g,S' g->(S g\/w.heap.size<=g)/\g<w'.heap.size):∀g,(¬S g/\g<w.heap.size)->¬S' g/\g<w'.heap.size:=fun g q=>
 ⟨fun h=>(I g h).1.elim q.1 fun h=>zd,zpz q.2 L.size⟩
theorem U1.next(h:U1 r p S w)(L:zh S w w')(O:∀g,S' g->(S g\/w.heap.size<=g)/\g<w'.heap.size):U1 r p S' w':=
 ⟨h.copy,⟨h.zN.r.kept L (h.off.XW fun g I=>I.1),h.zN.rd.kept L (fun g I=>(h.DW g I).1),fun s q=>zZ.kept (h.zN.ss s q) L fun g I=>(h.XO s q g I).1⟩,h.right,h.off.XW (U0 L O),fun s q g I=>U0 L O g (h.XO s q g I),fun g I=>U0 L O g (h.DW g I)⟩
structure Live (r:Ru) (fs:List Fa) (tk:Nat->Int) (p:Px) (pb wb m N:Nat) (S:Nat->Prop) (w:World):Prop where
 Xs:yd w wb (yz fs) S N
 lt:∀g,S g->g<w.heap.size
 low:∀g,S g->m<=g
 yS:U1 r p S w
 box:zD w pb 57 p.cells.toArray
 GC:¬S pb
 tk:Tk w tk
 ZI:2<m
 le:m<=w.heap.size
theorem Live.next(h:Live r fs tk p pb wb m N S w)(O:zh S w w')(R:yd w' wb (yz fs) S' N)(L:∀g,S' g->(S g\/w.heap.size<=g)/\g<w'.heap.size):Live r fs tk p pb wb m N S' w' where
 Xs:=R
 lt:=fun g q=>(L g q).2
 low:=fun g q=>by
  have:=h.le
  rcases(L g q).1 with I|I
  ·exact h.low g I
  ·omega
 yS:=h.yS.next O L
 box:=h.box.zC O h.GC
 GC:=fun q=>by
  have:=h.box.lt
  rcases(L _ q).1 with I|I
  ·exact h.GC I
  ·omega
 tk:=h.tk.zC O fun q=>by have:=h.low _ q;have:=h.ZI;omega
 ZI:=h.ZI
 le:=zpK h.le O.size
theorem Live.below(h:Live r fs tk p pb wb m N S w)(q:Bl w w'):Live r fs tk p pb wb m N S w':=
 h.next (zh.xj S q) (h.Xs.below q) fun g I=>⟨.inl I,zpz (h.lt g I) q.size⟩
structure XS (S:Nat->Prop) (w:World) (A:Option Addr) (cap:Nat) (fs:List Fa):Prop where
 own:Own Fa.cells 71 2 w A cap fs
 each:∀f∈fs,zZ Vl.cells w f.A f.args
 off:∀g∈zw A,¬S g/\g<w.heap.size
 XO:∀f∈fs,∀g∈zw f.A,¬S g/\g<w.heap.size
theorem XS.next{A:Option Addr}{cap:Nat}{fs:List Fa}(h:XS S w A cap fs)(L:zh S w w')(O:∀g,S' g->(S g\/w.heap.size<=g)/\g<w'.heap.size):XS S' w' A cap fs:=
 ⟨h.own.zC L (fun g q=>(h.off g q).1),fun f I=>zZ.kept (h.each f I) L fun g q=>(h.XO f I g q).1,fun g q=>U0 L O g (h.off g q),fun f I g q=>U0 L O g (h.XO f I g q)⟩
theorem XS.below{fs:List Fa}(h:XS S w A cap fs)(L:Bl w w'):XS S w' A cap fs:=
 ⟨h.own.below L,fun f I=>(h.each f I).below L,fun g q=>⟨(h.off g q).1,zpz (h.off g q).2 L.size⟩,fun f I g q=>⟨(h.XO f I g q).1,zpz (h.XO f I g q).2 L.size⟩⟩
theorem XS.two{B C:Option Addr}{qM zM I:Nat}{xs U:List Fa}(h:XS S w A qM xs)(k:XS S w B zM U)(R:∀g,S g->g<w.heap.size)(O:Bl w w')(V:Own Fa.cells 71 2 w' C I (xs++U))(W:∀g∈zw C,w.heap.size<=g):XS S w' C I (xs++U):=
 ⟨V,fun f q=>by
  rcases zpE.1 q with q|q
  ·exact(h.each f q).below O
  ·exact(k.each f q).below O,fun g L=>⟨fun X=>by have:=R g X;have:=W g L;omega,V.lt g L⟩,fun f q g L=>by
  rcases zpE.1 q with q|q
  ·exact(h.below O).XO f q g L
  ·exact(k.below O).XO f q g L⟩
theorem XS.rd(h:XS S w A cap l)(q:∀f∈l,f.args.length<=140737488351232):Vw w A l:=⟨h.own.xI,h.each,q⟩
end
end
section
section
variable {r:Ru}{fs:List Fa}{tk:Nat->Int}{px:Px}{c:Nat->Nat}
theorem Z6(tk:Nat->Int)(fs:List Fa)(px:Px)(lo hi:Nat->Nat):Xw tk fs px lo hi=solve (fun ρ e=>e.ev tk ρ) Vg (fun q=>((yz fs q).map (·.2)).getD []) ((px.ss.map (·.s)).map (madeOf px.r.body lo hi)) fun _=>none:=by
 unfold Xw VD;rw[List.map_map];rfl
end
end
section
theorem zhn(w:World)(A B:Option Addr)(n qM zM:Nat)(a b:List Fa)(ha:Vw w A a)(hb:Vw w B b)(he:a.map qO=b.map qO)(hn:a.length=n)(ad:n<=9007199254740992):
 Calls prog 17 #[.slice A n qM,.slice B n zM] w fun e q=>e=.returned (.bool true)/\Bl w q:=by
 have N:b.length=n:=by have:=congrArg List.length he;simp only[zpO]at this;omega
 have ab:=zz (fun(W:World) (L:Bl w W) (i:Nat) (q:i<a.length) (I:i<b.length)=>za8 W a[i] b[i] ((ha.each _ (zpB q)).below L) ((hb.each _ (zpB I)).below L) (ha.Ze _ (zpB q)));have ac:=zz (fun(i:Nat) (q:i<a.length) (I:i<b.length)=>show tf (qO a[i]=qO b[i])=true from qs (by
  have h:=congrArg (fun l=>l[i]?) he;simp only[zqt,zpF q,zpF I,zqh,zqn]at h;exact h))
 have Ha:=zz ha;have Hb:=zz hb;have Hn:=zz (zpG hn N);clear ha hb he hn N;go_enter func17,ntmps17;go_wp2
 go_loopg[5] n (fun gk I q=>∃i:Nat,i<=n/\gk=n-i/\I=.int .i64 (i:Int)/\Bl w q)
 case atStart=>exact⟨0,zpD _,rfl,rfl,Below.refl _ _⟩
 case round=>
  obtain⟨i,hi,rfl,rfl,q⟩:=hrel;have HB:=zz q;clear q
  by_cases q:i<n
  ·have R:i<a.length:=by rw[Hn.o.1];exact q
   have N:i<b.length:=by rw[Hn.o.2];exact q
   obtain⟨X,Y,rfl,Z,I⟩:=(Ha.o.rd.below HB.o).at (c:=1) (fun _=>rfl) i R;obtain⟨U,V,rfl,aa,O⟩:=(Hb.o.rd.below HB.o).at (c:=1) (fun _=>rfl) i N;have a0:wr.cell? ⟨X,Y+i*2,none⟩=some (.string a[i].p):=by simpa using I 0 _ rfl
   have a1:wr.cell? ⟨X,Y+i*2+1,none⟩=some (.slice a[i].A a[i].args.length a[i].cap):=I 1 _ rfl;have b0:wr.cell? ⟨U,V+i*2,none⟩=some (.string b[i].p):=by simpa using O 0 _ rfl
   have b1:wr.cell? ⟨U,V+i*2+1,none⟩=some (.slice b[i].A b[i].args.length b[i].cap):=O 1 _ rfl;have H6:Kz (∀W,Bl wr W->W.cell? ⟨X,Y+i*2,none⟩=some (.string a[i].p)/\W.cell? ⟨X,Y+i*2+1,none⟩=some (.slice a[i].A a[i].args.length a[i].cap)/\W.cell? ⟨U,V+i*2,none⟩=some (.string b[i].p)/\W.cell? ⟨U,V+i*2+1,none⟩=some (.slice b[i].A b[i].args.length b[i].cap)/\(i:Int)<(n:Int)/\i<n):=fun W L=>⟨(L.cell (p:=⟨X,Y+i*2,none⟩) Z).trans a0,(L.cell (p:=⟨X,Y+i*2+1,none⟩) Z).trans a1,(L.cell (p:=⟨U,V+i*2,none⟩) aa).trans b0,(L.cell (p:=⟨U,V+i*2+1,none⟩) aa).trans b1,zd,q⟩
   have HO:=zz (ab.o wr.drew (zl HB.o (Below.refl _ _).drew) i R N);have hv:=ac.o i R N;clear I O a0 a1 b0 b1;go_upto_region 6 with fail
   refine xX [0,0,0,0,0,0,0,0,2,0] (fun W=>Bl wr W) ?_
   repeat refine zS H6.o ?_
   refine xf fun K O=>?_
   go_simp;refine HO.o.mono ?_;rintro e w5⟨rfl,L⟩;have I:=zz (show Bl wr w5 from(Below.refl _ _).drew.trans L);refine O.out _ _ I.o (fun _=>trivial) ?_;clear O K L;try refine zQ ?_
   repeat refine zS H6.o ?_
   refine xt ?_;have L:Kz (Bl w w5):=zl HB.o I.o;try rw[hv]
   clear hv;go_wp2
   go_roundg (n-(i+1))
   case measure=>omega
   case rel=>exact⟨i+1,q,rfl,ze,L.o⟩
  ·obtain rfl:i=n:=zd;go_wp2;go_returns;exact⟨rfl,HB.o⟩
def Xl(h:Int)(f:Nat):Nat->Nat:=fun j=>if(j:Int)=h then f else 0
def Xb(h:Int)(t:Nat)(q:Nat->Nat):Nat->Nat:=fun j=>if(j:Int)=h then t else q j
def zj7(r:Ru)(fs:List Fa)(tk:Nat->Int)(p:Px)(L I m N:Nat)(S:Nat->Prop)(es:List Env)(w:World)(e:Ending)(w':World):Prop:=
 ∃A h l q,e=.returned (.tuple #[.slice A l.length h,.bool true])/\XS q w' A h l/\l.map qO=es.map (fun ρ=>(r.p,(r.head.map (·.t)).map fun t=>t.at ρ))/\Live r fs tk p L I m N q w'/\(∀g,q g->(S g\/w.heap.size<=g)/\g<w'.heap.size)/\zh S w w'
theorem zhL{n:Nat}(O:p.r.body.length=n){lo hi h q:Nat->Nat}(L:∀j,j<n->lo j=h j)(I:∀j,j<n->hi j=q j):Xw tk fs p lo hi=Xw tk fs p h q:=by
 unfold Xw
 congr 1
 refine zrh fun s _=>?_
 unfold madeOf
 rcases hx:p.r.body[s.s.lit]? with _|x
 ·rfl
 ·have N:=(zp9.1 hx).1;simp only;rw[L _ zd,I _ zd]
theorem zlR{r:Ru}{pb wb m N:Nat}{S:Nat->Prop}{w:World}(h:Live r fs tk p pb wb m N S w)(g:VK r fs)(ft:Fit r fs)(ac:mulL (X2 r.body (Yb fs)) (List.range r.body.length)<=2147483647)(av:¬S 2)(I:Int)(f t:Nat)(az:f<=t)(L:∀i,i<r.body.length->(i:Int)=I->t<=Xc r fs i):
 Calls prog 16 #[.pointer (some ⟨wb,0,none⟩),.agg p.cells.toArray,.int .i64 I,.int .i64 (f:Int),.int .i64 (t:Int)] w
  (zj7 r fs tk p pb wb m N S (Xw tk fs p (Xl I f) (Xb I t (Xc r fs))) w):=by
 have hc:=h.yS.copy;have X:=hc.len;have U:=hc.fits g.fits;have ak:=zz (zpG az L);have Hk:=zz (fun(i:Nat) (hi:i<p.r.body.length) (hj:i<r.body.length)=>by
  have e:=congrArg (fun l:List Li=>l[i]?) hc.body;simp only[zqt,zpF hi,zpF hj,zqh,zqn]at e;exact zpG (show p.r.body[i].a.p=r.body[i].a.p from show(p.r.body[i]).bare.a.p=(r.body[i]).bare.a.p from congrArg (fun z:Li=>z.a.p) e)
   (show p.r.body[i].k=r.body[i].k from show(p.r.body[i]).bare.k=(r.body[i]).bare.k from congrArg (fun z:Li=>z.k) e))
 have aD:=zz (fun(x:Li) (hx:x∈p.r.body)=>U.2.1 x hx);have au:=zz h.yS.zN;have HL:=zz h;have ah:=zz (fun(W:World) (V:Bl w W) (F' T':Option Addr) (cf ct:Nat) (R O:List Nat) (h1:zZ yX W F' R) (Z:zZ yX W T' O) (Y:R.length=r.body.length) (h4:O.length=r.body.length) (h5:∀i,i<r.body.length->R.getD i 0<=O.getD i 0/\O.getD i 0<=Xc r fs i)=>
  Dg (h.below V).Xs (fun g hg=>zpz (h.lt g hg) V.size) tk (h.tk.below V (zpx _)) av g ft ac p (h.below V).yS F' T' cf ct r.body.length rfl R O h1 Z Y h4 h5)
 have aE:=g.y8;obtain⟨Z,V⟩:∃Z,Xc r fs=Z:=⟨_,rfl⟩;rw[V]at ak ah ⊢;have ay:=zz V;obtain⟨nb,R⟩:∃nb,r.body.length=nb:=⟨_,rfl⟩;rw[R]at ak ah aE X;have ax:=zz (zpG R X);obtain⟨w1,Y,O⟩:=xi w 57 p.cells.toArray;have am:=zz O.below;have af:=zz O.b0;have c0:=O.b0.cell 0;have c1:=O.b0.cell 1;have c2:=O.b0.cell 2;have c3:=O.b0.cell 3;clear hc X U az L h g ft ac av V R O;obtain⟨⟨pp,pA,aF,aH,pB,aB,q⟩,sA,aG,ss⟩:=p;simp only[Px.cells,Ru.cells]at *;obtain⟨m2,O⟩:∃m2,q.length=m2:=⟨_,rfl⟩;have aC:=zz (show m2=nb from O▸ax.o.2);have al:=zz O;rw[O]at af c2 Y;rw[O];clear O;obtain rfl:m2=nb:=aC.o;go_enter func16,ntmps16;go_upto_region 1 with fail
 clear c0 c1 c2 c3 Y;go_upto_region 3 with fail
 go_loopg[12,13,14,15] m2 (fun gk U R O X V=>∃(i:Nat) (F' T':Option Addr) (cf ct:Nat),i<=m2/\gk=m2-i/\U=.slice F' i cf/\R=.slice T' i ct/\O=.int .i64 (i:Int)/\Yc V w1.heap.size F' T' none cf ct 0 ((List.range i).map (Xl I f)) ((List.range i).map (Xb I t Z)) []/\Bl w1 V)
 case atStart=>exact⟨0,none,none,0,0,zpD _,rfl,rfl,rfl,rfl,Yc.nil _ _,Below.refl _ _⟩
 case round=>
  obtain⟨i,F',T',cf,ct,hi,rfl,rfl,rfl,rfl,O,R⟩:=hrel;have HT:=zz O;have HB:=zz R;clear O R;have c0:=(af.o.below HB.o).cell 0;have c1:=(af.o.below HB.o).cell 1;have c2:=(af.o.below HB.o).cell 2;have c3:=(af.o.below HB.o).cell 3
  by_cases aa:i<m2
  ·have aJ:i<=4194303:=zd;have ar:i<q.length:=by rw[al.o];exact aa
   have ap:i<r.body.length:=by rw[ax.o.1];exact aa
   obtain⟨bb,ob,rfl,aI,O⟩:=(au.o.r.rd.below (zl am.o HB.o)).at Li.xG i ar;obtain⟨an,aj⟩:=Hk.o i ar ap;have p0:wr.cell? ⟨bb,ob+i*16,none⟩=some (.int .i8 q[i].k):=by simpa using O 0 _ rfl
   have p1:wr.cell? ⟨bb,ob+i*16+1,none⟩=some (.string q[i].a.p):=O 1 _ rfl;clear O
   by_cases aw:q[i].k=1
   ·obtain⟨n,R⟩:∃n,YF (yz fs) q[i].a.p=n:=⟨_,rfl⟩;have V:=zz (show n=Z i by rw[<-ay.o,VN ap,<-an,R,<-aj];exact(if_pos aw).symm);have O:=JY (HL.o.below (zl am.o HB.o)).Xs q[i].a.p (aD.o _ (zpB ar));rw[R]at O;have aA:=zz O;clear R O an aj;go_upto_region 8 with(go_at_call 15;refine aA.o.mono ?_;rintro e aK⟨rfl,ag⟩;have U:=zz (zl HB.o ag);have ad:=zz (HT.o.below ag);clear ag p0 p1 c0 c1 c2 c3)
    by_cases L:(i:Int)=I
    ·have ab:((i:Int)==I)=true:=beq_iff_eq.2 L
     go_wp2_with (at_builtin;refine Xg ad U (n:=i) zp f Xn ?_)
     intro g1 ae v1 Y R ao
     go_wp2_with (at_builtin;refine Xg Y R (n:=i) zp t Xn ?_)
     intro g2 ai v2 X O aq;go_wp2
     go_roundg (m2-(i+1))
     case measure=>omega
     case rel=>exact⟨i+1,_,_,_,_,aa,rfl,rfl,rfl,ze,by
      have h:=X.o.V5;rw[zrf,zp1,zp1,zqH,zqH,(show Xl I f i=f from if_pos L),(show Xb I t Z i=t from if_pos L)];exact h,O.o⟩
    ·have ab:((i:Int)==I)=false:=beq_eq_false_iff_ne.2 L
     go_wp2_with (at_builtin;refine Xg ad U (n:=i) zp 0 Xn ?_)
     intro g1 ae v1 Y R ao
     go_wp2_with (at_builtin;refine Xg Y R (n:=i) zp n Xn ?_)
     intro g2 ai v2 X O aq;go_wp2
     go_roundg (m2-(i+1))
     case measure=>omega
     case rel=>exact⟨i+1,_,_,_,_,aa,rfl,rfl,rfl,ze,by
      have h:=X.o.V5;rw[zrf,zp1,zp1,zqH,zqH,(show Xl I f i=0 from if_neg L),(show Xb I t Z i=n from(if_neg L).trans V.o.symm)];exact h,O.o⟩
   ·have V:=zz (show 0=Z i by rw[<-ay.o,VN ap];exact(if_neg (by rw[<-aj];exact aw)).symm);have ad:=HT;have U:=HB;clear an aj;go_upto_region 8 with fail
    by_cases L:(i:Int)=I
    ·have ab:((i:Int)==I)=true:=beq_iff_eq.2 L
     go_wp2_with (at_builtin;refine Xg ad U (n:=i) zp f Xn ?_)
     intro g1 ae v1 Y R ao
     go_wp2_with (at_builtin;refine Xg Y R (n:=i) zp t Xn ?_)
     intro g2 ai v2 X O aq;go_wp2
     go_roundg (m2-(i+1))
     case measure=>omega
     case rel=>exact⟨i+1,_,_,_,_,aa,rfl,rfl,rfl,ze,by
      have h:=X.o.V5;rw[zrf,zp1,zp1,zqH,zqH,(show Xl I f i=f from if_pos L),(show Xb I t Z i=t from if_pos L)];exact h,O.o⟩
    ·have ab:((i:Int)==I)=false:=beq_eq_false_iff_ne.2 L
     go_wp2_with (at_builtin;refine Xg ad U (n:=i) zp 0 Xn ?_)
     intro g1 ae v1 Y R ao
     go_wp2_with (at_builtin;refine Xg Y R (n:=i) zp 0 Xn ?_)
     intro g2 ai v2 X O aq;go_wp2
     go_roundg (m2-(i+1))
     case measure=>omega
     case rel=>exact⟨i+1,_,_,_,_,aa,rfl,rfl,rfl,ze,by
      have h:=X.o.V5;rw[zrf,zp1,zp1,zqH,zqH,(show Xl I f i=0 from if_neg L),(show Xb I t Z i=0 from(if_neg L).trans V.o.symm)];exact h,O.o⟩
  ·obtain rfl:i=m2:=zd;have ai:=zz (fun j (hj:j<i)=>show((List.range i).map (Xl I f)).getD j 0=Xl I f j from by rw[zpW,zqt,List.getElem?_range hj];rfl);have aj:=zz (fun j (hj:j<i)=>show((List.range i).map (Xb I t Z)).getD j 0=Xb I t Z j from by rw[zpW,zqt,List.getElem?_range hj];rfl);have ao:=zz (show ∀j,j<i->((List.range i).map (Xl I f)).getD j 0<=((List.range i).map (Xb I t Z)).getD j 0/\((List.range i).map (Xb I t Z)).getD j 0<=Z j from fun j hj=>by
    rw[ai.o j hj,aj.o j hj];unfold Xl Xb
    by_cases e:(j:Int)=I
    ·rw[if_pos e,if_pos e];exact⟨ak.o.1,ak.o.2 j hj e⟩
    ·rw[if_neg e,if_neg e];exact⟨zpD _,zpx _⟩)
   have Y:Kz (Bl w wr):=zl am.o HB.o;have Hr:=zz (ah.o wr Y.o F' T' cf ct _ _ HT.o.z.xI HT.o.y.xI zp (zp) ao.o);have O:=Hr.o;rw[zhL al.o ai.o aj.o]at O;simp only[Px.cells,Ru.cells,al.o]at O;have an:=zz O;clear O;go_upto_region 14 with(go_at_call 19;refine an.o.mono ?_;rintro e aq⟨A3,ag,ap,S3,rfl,ad,ae,X,U,V,ab,O,R⟩;have HE:=zz (zpG (zpG ad (zpG X (zpG U V))) (zpG ae (zpG ab (zpG O R))));clear ad ae X U V ab O R c0 c1 c2 c3)
   go_wp2;go_returns;obtain⟨⟨ad,X,U,V⟩,ae,ab,O,R⟩:=HE.o;exact⟨A3,ag,ap,S3,rfl,⟨ad,X,U,V⟩,ae,(HL.o.below Y.o).next R ab O,fun g hg=>⟨(O g hg).1.imp id fun h=>zpK Y.o.size h,(O g hg).2⟩,(zh.xj S Y.o).trans R fun x hx _=>hx⟩
section
variable {r:Ru}{fs:List Fa}{tk:Nat->Int}{px:Px}{sp:Nat->Nat}{i k n:Nat}
theorem zdD:Xl (-1) 0=YE:=by funext j;unfold Xl YE;split<;>rfl
theorem zcl:Xb (-1) 0 sp=sp:=by
 funext j
 unfold Xb;rw[if_neg zd]
theorem zch:Xl (i:Int) 0=YE:=by funext j;unfold Xl YE;split<;>rfl
theorem zft(h:sp i=n):Xb (i:Int) n sp=sp:=by
 funext j
 unfold Xb;split
 ·next e=>
   obtain rfl:j=i:=zd;exact h.symm
 ·rfl
theorem zfy(h:j≠i):Xl (i:Int) k j=YE j:=if_neg zd
theorem zey(h:j≠i):Xb (i:Int) k sp j=sp j:=if_neg zd
theorem TW:Xl (i:Int) k i=k:=if_pos rfl
theorem zal:Xb (i:Int) k sp i=k:=if_pos rfl
theorem zbn(q:qE r px.r)(hi:i<r.body.length)(I:r.body[i].k=1):∃h:i<px.r.body.length,px.r.body[i].k=1:=by
 have L:=q.len;exact⟨zd,(q.kind zd hi).trans I⟩
theorem zhq(X:qE r px.r)(O:yi px.r.body [] (List.range r.body.length) (px.ss.map (·.s)))(V:∃s h,px.ss.map (·.s)=s::h/\s.lit=i)(hi:i<r.body.length)(U:r.body[i].k=1)(R:sp i=n)(q:k<=n):
 Xw tk fs px (Xl (-1) 0) (Xb (-1) 0 sp)=Xw tk fs px (Xl (i:Int) 0) (Xb (i:Int) k sp)++Xw tk fs px (Xl (i:Int) k) (Xb (i:Int) n sp):=by
 obtain⟨s,h,e,L⟩:=V;obtain⟨W,I⟩:=zbn X hi U;rw[zdD,zcl,zch,zft R,Z6,Z6,Z6,e];rw[e]at O;subst L;refine zjL _ _ _ O List.nodup_range W I (fun j L=>⟨rfl,zfy L,zey L,rfl⟩) rfl ?_ rfl ?_ ?_ _
 ·rw[zal,TW]
 ·exact zpD _
 ·rw[TW,R];exact q
theorem zhp(V:qE r px.r)(R:yi px.r.body [] (List.range r.body.length) (px.ss.map (·.s)))(hi:i<r.body.length)(O:r.body[i].k=1)(L:sp i=n)(h:k<=n):
 (Xw tk fs px (Xl (-1) 0) (Xb (-1) 0 sp)).Perm (Xw tk fs px (Xl (i:Int) 0) (Xb (i:Int) k sp)++Xw tk fs px (Xl (i:Int) k) (Xb (i:Int) n sp)):=by
 obtain⟨U,q⟩:=zbn V hi O;rw[zdD,zcl,zch,zft L,Z6,Z6,Z6];exact zbG _ _ _ (ze4 R List.nodup_range (zqA.2 hi) U q (lo:=YE) (hi':=sp) (mid:=k) (zpD _) (L▸h) _ _ (fun j I=>zfy I) (fun j I=>zey I) TW zal) _
theorem zkB(O:qE r px.r)(I:yi px.r.body [] (List.range r.body.length) (px.ss.map (·.s)))(hi:i<r.body.length)(q:r.body[i].k=1):Xw tk fs px (Xl (i:Int) k) (Xb (i:Int) k sp)=[]:=by
 obtain⟨L,h⟩:=zbn O hi q;rw[Z6];refine zkQ _ _ _ (zmI I (zqA.2 hi) L h ?_) _;rw[zal,TW];exact zpx _
end
section
variable {r:Ru}{fs:List Fa}{tk:Nat->Int}{p:Px}{pb wb m N:Nat}{S S1 S2:Nat->Prop}{w w1 w2:World}
structure Up (fs:List Fa) (wb N:Nat) (S:Nat->Prop) (w:World) (S':Nat->Prop) (w':World):Prop where
 zC:zh S w w'
 off:∀g,S' g->(S g\/w.heap.size<=g)/\g<w'.heap.size
 Xs:yd w' wb (yz fs) S' N
theorem Up.trans(h:Up fs wb N S w S1 w1)(k:Up fs wb N S1 w1 S2 w2):Up fs wb N S w S2 w2:=
 ⟨h.zC.trans k.zC fun x O L=>(h.off x O).1.elim id fun h=>zd,fun g I=>⟨(k.off g I).1.elim (fun q=>(h.off g q).1) fun q=>.inr (zpK h.zC.size q),(k.off g I).2⟩,k.Xs⟩
theorem Live.on(h:Live r fs tk p pb wb m N S w)(k:Up fs wb N S w S1 w1):Live r fs tk p pb wb m N S1 w1:=h.next k.zC k.Xs k.off
theorem Live.tkS(h:Live r fs tk p pb wb m N S w):¬S 2:=fun q=>by have:=h.low _ q;have:=h.ZI;omega
theorem XS.on{A:Option Addr}{cap:Nat}(h:XS S w A cap l)(k:Up fs wb N S w S1 w1):XS S1 w1 A cap l:=h.next k.zC k.off
def zlX(r:Ru)(fs:List Fa)(tk:Nat->Int)(p:Px)(pb wb m N:Nat)(S:Nat->Prop)(es:List Env)(q:Env->ByteArray×List Vl)(w:World)(e:Ending)(w':World):Prop:=
 ∃A cap l h,e=.returned (.tuple #[.slice A l.length cap,.bool true])/\Kz (XS h w' A cap l)/\Kz (l.map qO=es.map q)/\Kz (Live r fs tk p pb wb m N h w')/\Kz (Up fs wb N S w h w')
theorem UC{sp:Nat->Nat}{W:Env->ByteArray×List Vl}(R:Kz (Xc r fs=sp))(O:Kz ((fun ρ:Env=>(r.p,(r.head.map (·.t)).map fun t=>t.at ρ))=W))(g:Kz (VK r fs))(X:Kz (Fit r fs))(I:Kz (mulL (X2 r.body (Yb fs)) (List.range r.body.length)<=2147483647))(h:Kz (Live r fs tk p pb wb m N S w))(q:Int)(f t:Nat)(U:f<=t)(L:∀i:Nat,(i:Int)=q->t<=sp i):
 Calls prog 16 #[.pointer (some ⟨wb,0,none⟩),.agg p.cells.toArray,.int .i64 q,.int .i64 (f:Int),.int .i64 (t:Int)] w
  (zlX r fs tk p pb wb m N S (Xw tk fs p (Xl q f) (Xb q t sp)) W w):=by
 obtain rfl:=R.out;obtain rfl:=O.out;exact(zlR h.out g.out X.out I.out h.out.tkS q f t U (fun i _=>L i)).mono fun _ _ ⟨A,cap,l,Z,e,hF,hm,V,hS,Y⟩=>⟨A,cap,l,Z,e,hF,hm,V,Y,hS,V.Xs⟩
end
theorem Live.made{r:Ru}{fs:List Fa}{tk:Nat->Int}{px:Px}{wb m N:Nat}{S:Nat->Prop}{O L I W:World}(Z:yd O wb (yz fs) S N)(U:∀g,S g->m<=g/\g<O.heap.size)(hm:m<=O.heap.size)(hT:Tk O tk)(X:2<m)(hA:Bl O L)(hB:Bl L I)(R:G2 I 57 px.cells.toArray W)(hc:qE r px.r)(hl:px.zN I)(hR:yi px.r.body [] (List.range r.body.length) (px.ss.map (·.s)))(ab:px.r.off fun g=>L.heap.size<=g/\g<I.heap.size)(aa:∀s∈px.ss,qV (fun g=>L.heap.size<=g/\g<I.heap.size) s.A)(ac:qV (fun g=>L.heap.size<=g/\g<I.heap.size) px.A):Live r fs tk px I.heap.size wb m N S W:=by
 have h7:Bl O W:=zl hA (zl hB R.below);have k1:=hA.size;have k2:=hB.size;have k3:=R.below.size;have Y:∀g,L.heap.size<=g/\g<I.heap.size->¬S g/\g<W.heap.size:=fun g q=>⟨fun h=>by have:=(U g h).2;omega,zd⟩
 exact {
  Xs:=Z.below h7
  lt:=fun g q=>by have:=(U g q).2;omega
  low:=fun g q=>(U g q).1
  yS:=⟨hc,hl.below R.below,hR,ab.XW Y,fun s V g q=>Y g (aa s V g q),fun g q=>Y g (ac g q)⟩
  box:=R.b0
  GC:=fun q=>by have:=(U _ q).2;omega
  tk:=hT.below h7 (zpx _)
  ZI:=X
  le:=by omega }
section
variable {α:Type}{f:α->List Value}{t e:TypeId}{size bytes:Nat}{A B:Option Addr}{cap zM n m:Nat}{xs ys:List α}{P:Program}{w:World}
theorem zdg{I:Array Oper}(R:Region.wanted o (yielded I a.tmps)=true)(s y:Operand)(ho:o.op=.call { callee:=.builtin .append,args:=#[s,y],argTypes:=#[t,t]})(E:qB P t e size bytes)(h:Own f e size w A cap xs)(k:Own f e size w B zM ys)(hn:xs.length=n)(hm:ys.length=m)(hs:a.eval s=.slice A n cap)(hy:a.eval y=.slice B m zM)(hl:∀y∈ys,(f y).length=size)(h1:∀y∈ys,∀u∈f y,u.oneCell'=true)(W:n+m<=4294967296)(U:bytes<=4096)(X:∀O q L l,l=n+m->Own f e size L O q (xs++ys)->zh (·∈zw A) w L->(∀g∈zw O,g∈zw A\/w.heap.size<=g)->wpList P I Q rest (a.put o.dst (.slice O l q)) L):
 wpList P I Q (o::rest) a w:=by
 refine BigFrame.wpList_want R fun K Z=>?_
 obtain⟨O,q,L,hr,V,h3,Y⟩:=h.zb2 (P:=P) k E hn hm o.type hl h1 W U;unfold Oper.wp execOp;simp only[ho,resolve,invoke,builtin,Sem.run_bind,Sem.run_pure,Result.andThen_ok,zqJ,zqb,zq3,hs,hy,hr];exact Z _ _ (X O q L _ rfl V h3 Y)
end
end
section
end
