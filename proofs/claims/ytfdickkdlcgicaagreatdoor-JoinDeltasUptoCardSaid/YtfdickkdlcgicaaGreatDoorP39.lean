/-
  Lists of the calls' own: one list behind another. No program
-/
import Derived.Test.YtfdickkdlcgicaaGreatDoorP38
set_option maxRecDepth 100000
set_option maxHeartbeats 8000000
set_option linter.all false
namespace Go.Proofs.YtfdickkdlcgicaaGreatDoor.C
open Go.Proofs.Tryz Go Go.RowKit Go.Maps Go.WideMaps
variable {A:Option Addr}{cap i:Nat}
section
section
variable {α:Type}{f:α->List Value}{t e:TypeId}{size bytes:Nat}{A B:Option Addr}{cap zM n m:Nat}{xs ys:List α}{P:Program}{w:World}
theorem zeB{f:α->List Value}{size:Nat}:∀{ys:List α},(∀y∈ys,(f y).length=size)->(ys.flatMap f).length=ys.length*size
 |[],_=>zp
 |y::ys,h=>by
  rw[zps,zo1,h y zpi,zeB fun x q=>h x (zpj _ q),zpn,zqS];omega
theorem Own.zgv(h:Own f e size w A cap xs)(k:Own f e size w B zM ys)(E:qy P t e size bytes)(hn:xs.length=n)(hm:ys.length=m)(ty:TypeId)(hl:∀y∈ys,(f y).length=size)(h1:∀y∈ys,∀u∈f y,u.oneCell'=true)(hb:n+m<=4294967296)(X:bytes<=4096):
 ∃L q N,(Builtin.append_ #[t,t] ty #[.slice A n cap,.slice B m zM]).run P w=.ok (.slice L (n+m) q) N/\Own f e size N L q (xs++ys)/\zh (·∈zw A) w N/\(∀g∈zw L,g∈zw A\/w.heap.size<=g):=by
 subst hn;subst hm;obtain⟨V,⟨i,z,Z,hz,R,h4,I⟩,hp⟩:=E;have r:(xs.length+ys.length)*bytes<=140737488355328:=by
  have:(xs.length+ys.length)*bytes<=4294967296*4096:=zq0 hb X;omega
 rcases k.form with⟨rfl,rfl,rfl⟩ |⟨g,rfl,W,_⟩
 ·refine⟨A,cap,w,?_,by rw[zpw];exact h,zh.refl _ _,fun g W=>.inl W⟩
  rcases h.form with⟨rfl,rfl,rfl⟩ |⟨g,rfl,W,O,_⟩
  ·simp[Builtin.append_,run_underlying V,sizeOf,typeInfo,Z,Builtin.lenOf,Builtin.firstCells,loadCells,loadCellsFrom]
  ·simp[Builtin.append_,run_underlying V,sizeOf,typeInfo,Z,Builtin.lenOf,Builtin.firstCells,loadCells,loadCellsFrom,O,storeCells]
 ·obtain⟨v',N,Y,h2,R,h4,I⟩:=run_append_own_at (P:=P) (w:=w) 0 t ty e i z size bytes V Z hz R h4 I hp _ xs.length (xs.flatMap f) h ⟨g,0,none⟩ ys.length zM (ys.flatMap f) (zeB hl) (fun j u hj=>by
   have O:=k.xI (by intro U;rw[U]at hj;cases hj);obtain⟨b,o,e1,_,Y⟩:=O;injection e1 with e1
   injection e1 with e1 e2 _
   subst e1 e2;have:=Y j u hj
   cases j<;>simpa[Addr.add]using this) (fun u O=>by
   obtain⟨y,hy,O⟩:=zqg.1 O;exact h1 y hy u O) (by unfold maxLen;omega) r (zo5 _)
  have O:∃L q,v'=.slice L (xs.length+ys.length) q:=by
   rcases h2.2 with⟨hv,h0⟩ |⟨g',c',aa,hv,_⟩
   ·exact⟨none,0,by rw[hv];congr 1;omega⟩
   ·exact⟨_,_,hv⟩
  obtain⟨L,q,rfl⟩:=O;refine⟨L,q,N,Y,?_,?_,fun g' O=>?_⟩
  ·unfold Own;rw[zo1,zpq];exact h2
  ·have U:(Value.slice A xs.length cap).ownBlock=(zw A).head?:=by cases A<;>rfl
   rw[U]at R;refine(zh.refl _ w).grown R fun k hk _=>?_
   cases A with
   |none=>cases hk
   |some a=>simpa[zw]using hk.symm
  ·cases L with
   |none=>cases O
   |some U=>
    simp only[zw,zpK,zqo,zo2]at O
    rcases I with I|I
    ·left
     cases A with
     |none=>cases I
     |some a=>
      simp only[Value.ownBlock,zpV]at I;simp only[zw,zpK,zqo,zo2];omega
    ·right;simp only[Value.ownBlock,zpV]at I;omega
theorem zdm{L:Array Oper}{rest:List Oper}{o:Oper}{a:Act}{Q:Exit->Act->World->Prop}(N:o.guard=none)(s y:Operand)(Z:o.op=.call { callee:=.builtin .append,args:=#[s,y],argTypes:=#[t,t]})(E:qy P t e size bytes)(h:Own f e size w A cap xs)(k:Own f e size w B zM ys)(hn:xs.length=n)(hm:ys.length=m)(hs:a.eval s=.slice A n cap)(hy:a.eval y=.slice B m zM)(hl:∀y∈ys,(f y).length=size)(Y:∀y∈ys,∀u∈f y,u.oneCell'=true)(U:n+m<=4294967296)(O:bytes<=4096)(V:∀I q r l,l=n+m->Own f e size r I q (xs++ys)->zh (·∈zw A) w r->(∀g∈zw I,g∈zw A\/w.heap.size<=g)->wpList P L Q rest (a.put o.dst (.slice I l q)) r):
 wpList P L Q (o::rest) a w:=by
 refine wpList_plain N fun K X=>?_
 obtain⟨I,q,r,hr,R,h3,W⟩:=h.zgv (P:=P) k E hn hm o.type hl Y U O;unfold Oper.wp execOp;simp only[Z,resolve,invoke,builtin,Sem.run_bind,Sem.run_pure,Result.andThen_ok,zqh,zpM,zqG,hs,hy,hr];exact X _ _ (V I q r _ rfl R h3 W)
end
end
section
section
variable {r:Ru}{fs:List Fa}{tk:Nat->Int}{p:Px}{pb wb m N:Nat}{S S':Nat->Prop}{w w':World}
theorem UK(L:zh S w w')(I:∀g,S' g->(S g\/w.heap.size<=g)/\g<w'.heap.size):∀g,(¬S g/\g<w.heap.size)->¬S' g/\g<w'.heap.size:=fun g q=>
 ⟨fun h=>(I g h).1.elim q.1 fun h=>zd,zo0 q.2 L.size⟩
theorem UL.next(h:UL r p S w)(L:zh S w w')(O:∀g,S' g->(S g\/w.heap.size<=g)/\g<w'.heap.size):UL r p S' w':=
 ⟨h.copy,⟨h.zO.r.kept L (h.off.Yc fun g I=>I.1),h.zO.rd.kept L (fun g I=>(h.DC g I).1),fun s q=>zY.kept (h.zO.ss s q) L fun g I=>(h.XD s q g I).1⟩,h.right,h.off.Yc (UK L O),fun s q g I=>UK L O g (h.XD s q g I),fun g I=>UK L O g (h.DC g I)⟩
structure Live (r:Ru) (fs:List Fa) (tk:Nat->Int) (p:Px) (pb wb m N:Nat) (S:Nat->Prop) (w:World):Prop where
 Yv:yd w wb (yL fs) S N
 lt:∀g,S g->g<w.heap.size
 low:∀g,S g->m<=g
 Y3:UL r p S w
 box:zD w pb 57 p.cells.toArray
 TM:¬S pb
 tk:Tk w tk
 VP:2<m
 le:m<=w.heap.size
theorem Live.next(h:Live r fs tk p pb wb m N S w)(O:zh S w w')(R:yd w' wb (yL fs) S' N)(L:∀g,S' g->(S g\/w.heap.size<=g)/\g<w'.heap.size):Live r fs tk p pb wb m N S' w' where
 Yv:=R
 lt:=fun g q=>(L g q).2
 low:=fun g q=>by
  have:=h.le
  rcases(L g q).1 with I|I
  ·exact h.low g I
  ·omega
 Y3:=h.Y3.next O L
 box:=h.box.zC O h.TM
 TM:=fun q=>by
  have:=h.box.lt
  rcases(L _ q).1 with I|I
  ·exact h.TM I
  ·omega
 tk:=h.tk.zC O fun q=>by have:=h.low _ q;have:=h.VP;omega
 VP:=h.VP
 le:=zpd h.le O.size
theorem Live.below(h:Live r fs tk p pb wb m N S w)(q:Bl w w'):Live r fs tk p pb wb m N S w':=
 h.next (zh.xi S q) (h.Yv.below q) fun g I=>⟨.inl I,zo0 (h.lt g I) q.size⟩
structure YJ (S:Nat->Prop) (w:World) (A:Option Addr) (cap:Nat) (xs:List Nat):Prop where
 own:Own y5 3 1 w A cap xs
 off:∀g∈zw A,¬S g
theorem YJ.next{A:Option Addr}{cap:Nat}{xs:List Nat}(h:YJ S w A cap xs)(I:zh S w w')(L:∀g,S' g->(S g\/w.heap.size<=g)/\g<w'.heap.size):YJ S' w' A cap xs:=
 ⟨h.own.zC I h.off,fun g q=>(UK I L g ⟨h.off g q,h.own.lt g q⟩).1⟩
theorem YJ.below{xs:List Nat}(h:YJ S w A cap xs)(q:Bl w w'):YJ S w' A cap xs:=⟨h.own.below q,h.off⟩
structure Ym (S:Nat->Prop) (w:World) (A:Option Addr) (cap:Nat) (fs:List Fa):Prop where
 own:Own Fa.cells 71 2 w A cap fs
 each:∀f∈fs,zY Vl.cells w f.A f.args
 off:∀g∈zw A,¬S g/\g<w.heap.size
 XD:∀f∈fs,∀g∈zw f.A,¬S g/\g<w.heap.size
theorem Ym.next{A:Option Addr}{cap:Nat}{fs:List Fa}(h:Ym S w A cap fs)(L:zh S w w')(O:∀g,S' g->(S g\/w.heap.size<=g)/\g<w'.heap.size):Ym S' w' A cap fs:=
 ⟨h.own.zC L (fun g q=>(h.off g q).1),fun f I=>zY.kept (h.each f I) L fun g q=>(h.XD f I g q).1,fun g q=>UK L O g (h.off g q),fun f I g q=>UK L O g (h.XD f I g q)⟩
theorem Ym.below{fs:List Fa}(h:Ym S w A cap fs)(L:Bl w w'):Ym S w' A cap fs:=
 ⟨h.own.below L,fun f I=>(h.each f I).below L,fun g q=>⟨(h.off g q).1,zo0 (h.off g q).2 L.size⟩,fun f I g q=>⟨(h.XD f I g q).1,zo0 (h.XD f I g q).2 L.size⟩⟩
theorem Ym.two{B C:Option Addr}{yc zM I:Nat}{xs U:List Fa}(h:Ym S w A yc xs)(k:Ym S w B zM U)(R:∀g,S g->g<w.heap.size)(O:Bl w w')(V:Own Fa.cells 71 2 w' C I (xs++U))(W:∀g∈zw C,w.heap.size<=g):Ym S w' C I (xs++U):=
 ⟨V,fun f q=>by
  rcases zo7.1 q with q|q
  ·exact(h.each f q).below O
  ·exact(k.each f q).below O,fun g L=>⟨fun X=>by have:=R g X;have:=W g L;omega,V.lt g L⟩,fun f q g L=>by
  rcases zo7.1 q with q|q
  ·exact(h.below O).XD f q g L
  ·exact(k.below O).XD f q g L⟩
theorem Ym.rd{l:List Fa}(h:Ym S w A cap l)(q:∀f∈l,f.args.length<=140737488351232):Ug w A l:=⟨h.own.xI,h.each,q⟩
end
theorem Td(q:Nat)(f:Nat->Nat)(h:∀k,q<=k->f k=0):(fun k=>((List.range q).map f).getD k 0)=f:=by
 funext k
 rw[zo8,zpX]
 by_cases I:k<q
 ·rw[List.getElem?_range I];rfl
 ·rw[zp6 (by simpa using I),h k zd];rfl
end
section
section
variable {r:Ru}{fs:List Fa}{tk:Nat->Int}{px:Px}{c:Nat->Nat}
theorem zah(h:r.body.length<=i):XL r fs i=0:=by
 unfold XL;rw[zp6 h]
theorem zfL(h:i<r.body.length)(q:r.body[i].k≠1):XL r fs i=0:=by
 rw[Ju h,if_neg q]
noncomputable def ZI(tk:Nat->Int)(r:Ru)(fs:List Fa)(px:Px)(c:Nat->Nat)(i:Nat):List Env:=
 if(r.body.map (·.k))[i]? = some 1 then Zz tk fs px (X5 c i) (qR c (XL r fs) i)else []
theorem zhb(h:i<r.body.length)(q:r.body[i].k=1):ZI tk r fs px c i=Zz tk fs px (X5 c i) (qR c (XL r fs) i):=by
 unfold ZI;rw[if_pos];rw[zpX,zo6 h,zpK,q]
theorem zjx(h:i<r.body.length)(q:r.body[i].k≠1):ZI tk r fs px c i=[]:=by
 unfold ZI;rw[if_neg];rw[zpX,zo6 h,zpK];intro e;injection e with e
 exact q e
theorem Db(tk:Nat->Int)(fs:List Fa)(px:Px)(lo hi:Nat->Nat):Zz tk fs px lo hi=solve (fun ρ e=>e.ev tk ρ) Z6 (fun q=>((yL fs q).map (·.2)).getD []) ((px.ss.map (·.s)).map (madeOf px.r.body lo hi)) fun _=>none:=by
 unfold Zz Vt;rw[List.map_map];rfl
theorem zeO(U:q8 r px.r)(W:yu px.r.body [] (List.range r.body.length) (px.ss.map (·.s)))(L:∀i,i<r.body.length->c i<=XL r fs i)(R:∀k,r.body.length<=k->c k=0):
 (Zz tk fs px ZW (XL r fs)).Perm (Zz tk fs px ZW c++(List.range r.body.length).flatMap (ZI tk r fs px c)):=by
 have V:=U.len;rw[<-V]at W;have h:=zcj (fun ρ e=>e.ev tk ρ) Z6 (fun q=>((yL fs q).map (·.2)).getD []) W c (XL r fs) (fun i X=>L i zd) (fun i X N=>by
  have I:i<r.body.length:=zd;have O:r.body[i].k≠1:=fun e=>N ((U.kind X I).trans e)
  have X:=L i I;rw[zfL I O]at X ⊢;omega) (fun _=>none) px.r.body.length (zoZ _)
 have O:qR c (XL r fs) px.r.body.length=c:=by
  funext k
  unfold qR
  by_cases N:k<px.r.body.length
  ·rw[if_pos N]
  ·rw[if_neg N,zah zd,R k zd]
 rw[O,<-Db,<-Db,V]at h;refine h.trans (List.Perm.append_left _ (List.Perm.of_eq ?_));have I:px.r.body.map (·.k)=r.body.map (·.k):=by
  have:=congrArg (List.map (·.k)) U.body;rw[List.map_map,List.map_map]at this;exact this
 congr 1
 funext i
 unfold U4 ZI;rw[I,Db]
theorem zcI{α:Type}(g:Nat->List α):∀n i,i<=n->((List.range i).flatMap g).length<=((List.range n).flatMap g).length
 |0,i,h=>by
  obtain rfl:i=0:=zd;exact zoZ _
 |n+1,i,h=>by
  by_cases e:i=n+1
  ·subst e;exact zoZ _
  ·rw[zp2,zpq,zo1];have:=zcI g n i zd;omega
theorem zc4(L:q8 r px.r)(I:yu px.r.body [] (List.range r.body.length) (px.ss.map (·.s)))(q:∀i,i<r.body.length->c i<=XL r fs i)(h:∀k,r.body.length<=k->c k=0)(O:mulL (X1 r.body (Ye fs)) (List.range r.body.length)<=2147483647)(hi:i<=r.body.length):
 (Zz tk fs px ZW c).length+((List.range i).flatMap (ZI tk r fs px c)).length<=2147483647:=by
 have N:=(zeO (tk:=tk) L I q h).length_eq;have R:=zbT (tk:=tk) (fs:=fs) L I ZW (XL r fs);have U:=zcI (ZI tk r fs px c) r.body.length i hi;rw[zo1]at N;omega
end
end
section
theorem zjh(w:World)(r:Ru)(hl:r.zO w)(hf:r.fits)(ht:r.zN.length<=1048576)(h:r.ok)(hv:∀v∈r.vars,yl r.body v)(hT:Tz w):
 Calls prog 14 #[.agg r.cells.toArray,.slice none 0 0,.int .i64 (-1)] w (zhN r none w):=by
 have U:=h.Xz;have aF:=zz (fun W (L:Bl w W)=>zcG W r (hl.below L) hf ht h hv);have aP:=zz (fun W (L:Bl w W)=>ziG W r (hl.below L) ht zd h.X9);have bM:=zz (fun(q:Ru) (N:q8 r q) W (L:q.zO W)=>N.at L h hf ht);have a9:=zz (fun(q:Ru) (N:q8 r q)=>N.lim hv);have HT:=zz hT;obtain⟨R,O⟩:∃R,r.body.length=R:=⟨_,rfl⟩;have bS:=zz (O▸(fun W=>T3 W r.body.length zd):∀W,Calls prog 47 #[.int .i64 (R:Int)] W fun e L=>e=.returned (.int .u32 ((2 ^ R-1:Nat):Int))/\L=W);have bI:R<=16:=zd;have an:=zz O;have N:r.cells=[.string r.p,.slice r.A r.head.length r.cap,.slice r.B R r.zM]:=by rw[<-O]
 have cc:=zz N;rw[N];obtain⟨W2,V,X⟩:=ya w 25 57 #[.string r.p,.slice r.A r.head.length r.cap,.slice r.B R r.zM] #[.string ⟨#[]⟩,.slice none 0 0,.slice none 0 0,.slice none 0 0];have HX:=zz X;have bK:=zz V;simp only[N]at aF aP;clear X V hl hf ht hv hT O U N;go_enter func14,ntmps14;go_upto_region 4 with(go_at_call 44;rw[bK.o];refine(aF.o _ HX.o.below).mono ?_;rintro e w3⟨rfl,ar⟩;have au:=zz (HX.o.b0.below ar);have bA:=zz (HX.o.b1.below ar);have bs:=zz (zu HX.o.below ar);have O:=au.o.cell 0;have N:=au.o.cell 1;have U:=au.o.cell 2;clear ar)
 have cb:decide ((R:Int)<=-1)=false:=zb;go_upto_region 7 with(go_at_call 45;refine(aP.o _ bs.o).mono ?_;rintro e w4⟨q,rfl,al,bu,bB,az⟩;have HC:=zz (q8.mk al:q8 r q);have aK:q.body.length=R:=(HC.o.len.trans an.o);have aO:q.cells.toArray=#[.string q.p,.slice q.A q.head.length q.cap,.slice q.B R q.zM]:=(by rw[<-aK]);rw[aO];have bV:=zz (au.o.below az);have be:=zz (bA.o.below az);have a3:=zz (zu bs.o az);have aU:=zz bu;have bn:Kz (q.off (fun g=>w.heap.size+1+1<=g/\g<w4.heap.size)):=(bB.Yc fun g Y=>by have:=bA.o.lt;omega);clear O N U al bu bB az aK aO)
 obtain⟨W5,O,N⟩:=xj w4 57 #[.string q.p,.slice q.A q.head.length q.cap,.slice q.B R q.zM,.slice none 0 0];rw[O];have av:=zz N.b0;have ba:=zz N.below;have bR:=zz (bV.o.below N.below);have bY:=zz (be.o.below N.below);have bW:=zz (zu a3.o N.below);have bP:=zz (aU.o.below N.below);have c2:W5.cell? ⟨w4.heap.size,2,none⟩=some (.slice q.B R q.zM):=av.o.cell 2;have bp:=zz N.size;clear N O;go_upto_region 8 with(go_at_call 46;refine(zeG _ _ _ _).mono ?_;rintro e w6⟨sb,mb,f6,rfl,bC,aZ,bD,ac⟩;have aW:=zz bC;have bF:=zz ac;have bQ:=zz aZ;have aV:=zz bD;have bh:=zz (av.o.below ac);have bX:=zz (bR.o.below ac);have b3:=zz (bY.o.below ac);have bd:=zz (zu bW.o ac);have b8:=zz (bP.o.below ac);have b2:=bX.o.cell 2;clear bC aZ bD ac c2)
 go_upto_region 9 with(go_at_call 47;refine(bS.o _).mono ?_;rintro e w7⟨rfl,bZ⟩;obtain rfl:w6=w7:=bZ.symm)
 obtain⟨m0,V⟩:∃m0,2 ^ R-1=m0:=⟨_,rfl⟩;have N:=zcx R zd;have Z:2 ^ R<=2 ^ 24:=zpJ zr (zd);rw[V]at N ⊢;have O:m0<2 ^ 24:=by have:0<2 ^ R:=Nat.pow_pos zr;omega
 have U:=zz N;have bm:=zz O;have X:=zz (bM.o q HC.o w4 aU.o);have ax:Kz (Bl w4 w6):=zu ba.o bF.o;have bv:=zz (a9.o q HC.o);clear V N Z O b2;obtain⟨I,N⟩:∃I,q.body=I:=⟨_,rfl⟩;have a6:=zz N;rw[an.o]at X;rw[N]at X bv;clear N;have N:sb≠w4.heap.size:=by have:=bQ.o;have:=av.o.lt;omega
 have O:mb≠w4.heap.size:=by have:=aV.o;have:=av.o.lt;omega
 have bT:=zz N;have b4:=zz O;have cd:=zz (aW.o.r.qM aW.o.m);have bo:=zz (show w.heap.size+1+1<=w4.heap.size by have:=HX.o.size;have:=be.o.lt;omega);clear N O
 go_loopg[11,12,13,14] R (fun gk N aa Z V O=>∃(m:Nat) (K:List ByteArray) (f:Value->Option Value) (ss:List Sx) (A:Option Addr) (L n:Nat),N=.int .u32 (m:Int)/\gk=(bitsOf m).length/\Z9 w6 sb mb w4.heap.size q.B q.zM R I (.string q.p) (.slice q.A q.head.length q.cap) (.slice q.B R q.zM) none m K f ss A L n O)
 case atStart=>
  refine⟨m0,[],f6,[],none,0,0,rfl,by rw[U.o,zqQ],⟨bm.o,fun i V=>by rw[U.o]at V;exact zqc.1 V,aW.o,bh.o,rfl,by rw[U.o,zqQ,zpx],Own.qC _,fun s Z=>(by cases Z),zh.refl _ _,fun aa N=>?_,fun i V O=>?_,fun j hj=>(by cases hj),fun g Y=>(by simp[zw]at Y),bT.o,b4.o,bh.o.lt,fun s Z=>(by cases Z)⟩⟩
  ·rw[U.o]at N;exact N
  ·rw[U.o,zqc]at O;have:=X.o.len;omega
 case round=>
  obtain⟨m,K,f,ss,A,L,n,rfl,rfl,O⟩:=hrel;have N:=zz O;clear O;have aw:Kz (Bl w4 wr):=ax.o.trans (N.o.zC.below ax.o.size (fun x hx=>by have:=aV.o;have:=bp.o;rcases hx with h|h<;>omega));have bc:Kz (Bl w wr):=a3.o.trans (aw.o.mono a3.o.size);have aT:=zz (X.o.below aw.o);have bU:=zz (HT.o.below bc.o (zoZ _))
  by_cases h0:m=0
  ·have bH:((m:Int) != 0)=false:=by subst h0;rfl
   subst h0;have O:bitsOf 0=[]:=zcO;have ad:=zz (show yu I [] (List.range R) (ss.map (·.s))from by have:=N.o.zfi [] (by rw[O];exact .nil);simpa using this);have af:=zz (show ss.length=R by have:=N.o.le;rw[O]at this;have:=N.o.len;simp at *;omega);have ae:=zz (show ∀j1,none=some j1->∃s aa,ss.map (·.s)=s::aa/\s.lit=j1 from fun j1 ab=>by
    rcases N.o.first j1 ab with⟨_,h⟩ |⟨_,h⟩
    ·rw[O]at h;cases h
    ·exact h)
   have aa:Kz (zD wr (w.heap.size+1) 57 _):=b3.o.zC N.o.zC (fun h=>by have:=aV.o;have:=bo.o;have:=bp.o;rcases h with h|h<;>omega);clear O
   go_wp2_with (first
    |(refine xV 57 _ rfl ?_;refine yZ zj 57 _ rfl w4.heap.size 0 rfl [.string q.p,.slice q.A q.head.length q.cap,.slice q.B R q.zM,.slice A n L] _ N.o.Y3.range underlying57 rfl zo ?_)
    |(refine xy 57 _ _ rfl ?_;refine yE 57 (w.heap.size+1) 0 aa.o [.string q.p,.slice q.A q.head.length q.cap,.slice q.B R q.zM,.slice A n L] ?_;intro ag O;have z0:=O.zG.cell 0;have z1:=O.zG.cell 1;have z2:=O.zG.cell 2;have z3:=O.zG.cell 3;have HF:=zz O;clear O))
   simp only[zpr,zpa,zpe,zpc,zo9,zpg]at z0 z1 z2 z3;refine bodyPost_ret (v:=.tuple #[.agg #[.string q.p,.slice q.A q.head.length q.cap,.slice q.B R q.zM,.slice A n L],.int .i64 0]) (by simp[results,results14,go_sem,z0,z1,z2,z3]) rfl ?_;have ab:=HF.o.below bc.o (zoZ _) zd;refine⟨⟨q,A,L,ss⟩,by rw[Px.cells,HC.o.len,an.o,N.o.len],HC.o,⟨(aU.o.below aw.o).kept HF.o.zC (bn.o.Yc fun g Y e=>zd),(HF.o.own N.o.own (fun g Y e=>?ga)).xI,fun s Z=>Sx.own.zO (HF.o.own (N.o.each s Z) (fun g Y e=>(N.o.each s Z).yB aa.o zr (e▸Y)))⟩,by rw[a6.o,an.o];exact ad.o,by rw[an.o];exact af.o,ae.o,bn.o.Yc (fun g Y=>by have:=aw.o.size;have:=HF.o.zC.size;omega),fun s Z g Y=>⟨zpd bd.o.size (N.o.zb2 s Z g Y),zo0 (Own.lt (N.o.each s Z) g Y) HF.o.zC.size⟩,fun g Y=>⟨zpd bd.o.size (N.o.news g Y),zo0 (N.o.own.lt g Y) HF.o.zC.size⟩,ab⟩
   case ga=>
    have:=N.o.news g Y;have:=ax.o.size;have:=bo.o;omega
  ·have bH:((m:Int) != 0)=true:=zb;obtain⟨i,ad⟩:=N.o.zhX (w9:=w6) (X.o.below ax.o) bv.o h0;obtain⟨V,x,hx,O⟩:=zgJ ad;obtain⟨st,aa⟩:=zpW.1 O;have ab:∀Z:i<I.length,stepOf K i I[i]=some st:=fun Z=>by
    rw[zo6 Z]at hx;injection hx with hx
    rw[hx];exact aa
   have ae:∀j,(none:Option Nat)=some j->j∈bitsOf m->i=j:=fun j hj=>by cases hj
   have a7:=zz (zmq wr sb mb q.B q.zM R f K N.o.st I aT.o m N.o.lt N.o.bits bU.o i ad);clear h0 O aa hx ad;have Hi:=zz V;have bL:=zz ae;have bJ:=zz (show(bitsOf (Xh m i)).length<(bitsOf m).length by rw[VG (Vk.1 V).1,List.length_erase_of_mem V];have:=List.length_pos_of_mem V;omega);have bO:=zz (show ∀u∈st.gives,u.size<=maxLen from fun u hu=>by
    have Z:i<I.length:=by have:=X.o.len;have:=N.o.bits i V;omega
    rw[(Y6 (ab Z)).2]at hu;obtain⟨_,t,O,rfl⟩:=C.qJ.1 (UT.1 hu).1;exact X.o.fits _ (zo3 Z) t O)
   have aA:=zz ab;clear V ae ab;go_upto_region 13 with(go_at_call 48;refine a7.o.mono ?_;rintro e ca⟨rfl,aL⟩;have af:=zz aL;clear aL)
   have Z:i<I.length:=by have:=X.o.len;have:=N.o.bits i Hi.o;omega
   have ak:=zz Z;have O:=N.o.st.below af.o;have b5:=zz O;have a4:=zz ((aT.o.below af.o).step O i Z);have bt:=zz (N.o.Y3.below af.o);have bj:=zz (N.o.own.below af.o);clear O;go_upto_region 14 with(go_at_call 49;refine a4.o.mono ?_;rintro e aY⟨kk,kn,ab,O,ap,b6,rfl,a5,ao,ad⟩;obtain⟨aN,ah,ae,aE,aI⟩:=ao st (aA.o ak.o);have bl:Kz (∀g∈zw ab,w6.heap.size<=g):=fun g Y=>zpd (zpd N.o.zC.size af.o.size) (aI g Y);have a8:=zz (Sx.zkQ (s:=st) (A:=ab) (cap:=O) aN (Y6 (aA.o ak.o)).1 ah ae);have bG:=zz aE;have bq:=zz ae;have bi:Kz (ap<=4194304):=ze0 (X.o) (aA.o ak.o) ae;have bx:=zz (zu af.o ad);have aC:=zz (bt.o.below ad);have aJ:=zz (bj.o.below ad);clear a5 ao aN ah ae aE aI ad)
   obtain⟨bz,ag,V⟩:=xj aY 107 #[.int .i8 kk,.int .i64 (i:Int),.int .u32 (kn:Int),.slice ab ap O];rw[ag];have aa:=zz V.b0;have aR:=zz (bG.o.below V.below);have bk:=zz (aJ.o.below V.below);have aG:=zz (zu bx.o V.below);have bE:=zz (aC.o.below V.below);have p3:bz.cell? ⟨w4.heap.size,3,none⟩=some (.slice A n L):=bE.o.cell 3;have q0:=aa.o.cell 0;have q1:=aa.o.cell 1;have q2:=aa.o.cell 2;have q3:=aa.o.cell 3;clear V ag;have br:=zz (show n<=4194304 by have:=N.o.le;omega);go_upto_region 15 with(first
    |(at_builtin;refine X0 rfl _ _ rfl zlC (f:=Sx.cells) (xs:=ss) (bk.o.alloc _) N.o.len ⟨st,ab,O⟩ _ 0 1 rfl rfl rfl (by rw[a8.o];exact yp _ _ _ rfl) (Sx.one _) br.o zr ?_;intro ay am b9 aM aH aD;have bw:=zz aM;have bf:=zz (show ay∈zw A\/bz.heap.size<=ay by rcases aD with h|h;exact .inl h;right;simp at h;omega);have ai:=zz (zhx aH);have V:=zz (N.o.zeI aG.o aR.o ai.o);clear aM aH aD p3 q0 q1 q2 q3)
    |(refine xy 55 _ _ rfl ?_;refine Xf zj 55 _ _ rfl w4.heap.size 3 _ _ V.o.1 (.slice (some ⟨ay,0,none⟩) (n+1) am) rfl rfl zp (zo) rfl ?_;intro aX aj;have aS:=zz aj;have ag:=zz (N.o.stored V.o.2.1 V.o.1 V.o.2.2 aj);clear aj))
   have aB:zD aX aY.heap.size 107 _:=aS.o.qj (aa.o.zC ai.o (fun hm=>by have:=aJ.o.lt _ hm;omega)) (by have:=aC.o.lt;omega);have q3:aX.cell? ⟨aY.heap.size,3,none⟩=some (.slice ab ap O):=aB.cell 3;have aq:=zz (zax aX sb mb q.B q.zM R f K ag.o.1 ab O ap st.gives bq.o ag.o.2.1.xI (fun g Y e=>ag.o.2.2 (e▸Y)) (fun u hu=>bO.o u hu) bi.o);clear aB;go_upto_region 16 with(go_at_call 50;refine aq.o.mono ?_;rintro e b7⟨rfl,bN,aQ,aB⟩;have HN:=zz (N.o.next Hi.o ak.o (aA.o ak.o) bL.o aG.o aR.o ai.o bw.o bf.o aS.o rfl aQ aB bl.o);clear aQ aB q3)
   have bg:=(Vk.1 Hi.o).1;have aZ:=Dg i m bg N.o.lt;go_wp2
   go_roundg (bitsOf (Xh m i)).length
   case measure=>exact bJ.o
   case rel=>exact⟨Xh m i,K++st.gives,bN,ss++[⟨st,ab,O⟩],some ⟨ay,0,none⟩,am,n+1,rfl,rfl,HN.o⟩
end
