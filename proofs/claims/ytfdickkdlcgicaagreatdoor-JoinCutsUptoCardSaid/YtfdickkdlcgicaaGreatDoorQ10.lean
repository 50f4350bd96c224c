/-
  Walks: a comparison's lone variable. Walks: a plan's state b
-/
import Derived.Test.YtfdickkdlcgicaaGreatDoorQ09
set_option maxRecDepth 100000
set_option maxHeartbeats 8000000
set_option linter.all false
namespace Go.Proofs.YtfdickkdlcgicaaGreatDoor.C
open Go.Proofs.Tryz Go Go.RowKit Go.Maps Go.WideMaps
variable {v:ByteArray}
section
theorem GZ(w:World)(x:Li)(hl:x.zN w)(ht:x.zO.length<=1048576)(hs:∀t∈x.zO,t.v.size<=maxLen)(v:ByteArray):
 Calls prog 105 #[.agg x.cells.toArray,.string v] w (zai (tf (UQ x v)) w):=by
 unfold Li.zO at ht;simp only[zpA]at ht;have h1:=fun W (I:Bl w W) q (L:W.cell? ⟨q,0,none⟩=some (.string v)) (U:q<W.heap.size)=>zff W q v L U x.l x.r (hl.r.below I) zd (fun t h=>hs t (zpR _ (zpR _ h)))
 have h2:=fun W (I:Bl w W) q (L:W.cell? ⟨q,0,none⟩=some (.string v)) (U:q<W.heap.size)=>zff W q v L U x.r x.l (hl.l.below I) zd (fun t h=>hs t (zpR _ (zp0 _ h)))
 obtain⟨Y,q⟩:∃b,tf (V2 x.l x.r v)=b:=⟨_,rfl⟩;obtain⟨b2,I⟩:∃b,tf (V2 x.r x.l v)=b:=⟨_,rfl⟩;have hb:tf (UQ x v)=(Y||b2):=by
  by_cases L:V2 x.l x.r v
  ·rw[<-q,qs L,qs (.inl L)];rfl
  ·by_cases O:V2 x.r x.l v
   ·rw[<-q,<-I,qu L,qs O,qs (.inr O)];rfl
   ·rw[<-q,<-I,qu L,qu O,qu (fun h=>h.elim L O)];rfl
 rw[hb];rw[q]at h1;rw[I]at h2;obtain⟨q1,v1,ab,n1,s1,A1,N1,O,q2,v2,aa,n2,s2,A2,N2,R,X,V⟩:=Li.J5 x;have ac:x.cells.toArray=#[.int .i8 x.k,.string x.a.p,.slice x.a.A x.a.args.length x.a.cap,.int .i8 x.rl,.int .i8 q1,.string v1,.int .i8 ab,.int .i64 n1,.string s1,.slice A1 N1 O,.int .i8 q2,.string v2,.int .i8 aa,.int .i64 n2,.string s2,.slice A2 N2 R]:=by
  rw[Li.split,X,V];rfl
 rw[ac];rw[X,V]at h1 h2;have H1:=zz h1;have H2:=zz h2;generalize x.a.args.length=N at *;obtain⟨W2,Z,hX⟩:=yb w 50 9 #[.int .i8 x.k,.string x.a.p,.slice x.a.A N x.a.cap,.int .i8 x.rl,.int .i8 q1,.string v1,.int .i8 ab,.int .i64 n1,.string s1,.slice A1 N1 O,.int .i8 q2,.string v2,.int .i8 aa,.int .i64 n2,.string s2,.slice A2 N2 R] #[.string v];have L:=zz hX;have ad:=zz Z;have aj:=zz hX.size;clear hX Z h1 h2 q I hb X V ac hl ht hs;go_enter func105,ntmps105
 rcases Y with _|_
 all_goals
  go_wp2_with (first
   |(go_at_call 171;rw[ad.o];refine(H1.o _ L.o.below _ (L.o.b1.cell 0) L.o.b1.lt).mono ?_;rintro e w3⟨rfl,V⟩;have I:=zz V;have q:=L.o.b0.below V;have c4:=q.cell 4;have c5:=q.cell 5;have c6:=q.cell 6;have c7:=q.cell 7;have c8:=q.cell 8;have c9:=q.cell 9;have ah:=q.cell 10;have af:=q.cell 11;have ac:=q.cell 12;have ai:=q.cell 13;have ae:=q.cell 14;have ag:=q.cell 15;clear V q)
   |(go_at_call 171;refine(H2.o _ (zl L.o.below I.o) _ ((L.o.b1.below I.o).cell 0) (L.o.b1.below I.o).lt).mono ?_;rintro e w4⟨rfl,X⟩;have Z:=zz X;clear X))
  go_returns
  first
   |exact⟨Ym rfl,zl L.o.below (zl I.o Z.o)⟩
   |exact⟨Ym rfl,zl L.o.below I.o⟩
def zlZ(B:Option Addr)(zM I:Nat)(w:World)(e:Ending)(w':World):Prop:=
 ∃h q f,e=.returned (.pointer (some ⟨h,0,none⟩))/\yN w' h q B zM I f []/\w.heap.size<=h/\w.heap.size<=q/\Bl w w'
theorem za3(w:World)(B:Option Addr)(zM I:Nat):Calls prog 46 #[.slice B I zM,.slice none 0 0] w (zlZ B zM I w):=by
 have X:=@run_makeMap prog;obtain⟨L,q⟩:∃L,(w.alloc (.map #[] 0)).alloc (.cells #[.slice B I zM,.map (some w.heap.size)] 202)=L:=⟨_,rfl⟩;have O:xv prog 9 L w.heap.size fun _=>none:=by
  rw[<-q];exact(xv.new (P:=prog) (k:=9) w 0).below (xq _ _)
 have N:zD L (w.heap.size+1) 202 #[.slice B I zM,.map (some w.heap.size)]:=by
  have:=zD.new (w.alloc (.map #[] 0)) 202 #[.slice B I zM,.map (some w.heap.size)];rw[q]at this;simpa using this
 have R:Bl w L:=q▸yf (xq _ _);have W:=T1 L (w.heap.size+1) w.heap.size B zM I _ [] ⟨N,O,Vo.qz⟩ none 0 0 [] rfl (fun h=>(h rfl).elim) (fun g U=>by simp[zw]at U) (fun u Z=>(by cases Z)) zd;have Y:=zz W;have V:=zz q;have U:=zz R;clear O N R W q;go_enter func46,ntmps46
 go_wp2_with (go_at_call 50;rw[V.o];refine Y.o.mono ?_;rintro e R⟨rfl,O,N,q⟩)
 go_returns;exact⟨w.heap.size+1,w.heap.size,O,rfl,by simpa using N,zd,zpx _,U.o.trans (q.below U.o.size (fun x W=>zd))⟩
theorem TV{P:Program}{q:Array Oper}{rest:List Oper}{I:Oper}{a:Act}{w:World}{Q:Exit->Act->World->Prop}(hw:Region.wanted I (yielded q a.tmps)=true)(N:TypeId)(x:Operand)(U:I.op=.load N x)(b o:Nat)(W:a.eval x=.pointer (some ⟨b,o,none⟩))(L:List Value)(d:TypeDesc)(X:w.rangeAt b o L)(V:P.underlying N=some d)(O:d.isRow=true)(hi:(P.info? N).map (·.size)=some L.length)(h:wpList P q Q rest (a.put I.dst (.agg L.toArray)) w):wpList P q Q (I::rest) a w:=
 wpList_step fun _ R=>by rw[if_pos hw];exact wp_load_mid N x U b o W L d X V O hi (R _ _ h)
def Vy(K:List ByteArray)(i:Nat)(x:Li)(w:World)(e:Ending)(w':World):Prop:=
 ∃(k:Int) (q:Nat) (A:Option Addr) (h n:Nat) (I:Bool),e=.returned (.tuple #[.agg #[.int .i8 k,.int .i64 (i:Int),.int .u32 (q:Int),.slice A n h],.bool I])/\I=(stepOf K i x).isSome/\
  (∀s,stepOf K i x=some s->s.k=k/\s.known=q/\s.gives.length=n/\Own xD 9 1 w' A h s.gives/\∀g∈zw A,w.heap.size<=g)/\Bl w w'
theorem zgW{K:List ByteArray}{i:Nat}{x:Li}(I:¬x.k=1)(q:¬x.k=2)(h:qF K x=[]):stepOf K i x=some ⟨5,i,0,[]⟩:=by
 unfold stepOf;rw[if_neg I,if_neg q,if_pos h]
theorem zoa(w:World)(sb mb:Nat)(B:Option Addr)(zM nb:Nat)(f:Value->Option Value)(K:List ByteArray)(h:yN w sb mb B zM nb f K)(body:List Li)(hn:body.length=nb)(hB:zZ Li.cells w B body)(i:Nat)(hi:i<body.length)(hl:body[i].zN w)(ac:body[i].ok)(ht:body[i].zO.length<=1048576)(O:∀t∈body[i].zO,t.v.size<=maxLen)(hb:nb<=24)(hk:body[i].k=2):
 Calls prog 49 #[.pointer (some ⟨sb,0,none⟩),.int .i64 (i:Int)] w (Vy K i body[i] w):=by
 obtain⟨b,o,rfl,q,I⟩:=hB.at Li.Yn i hi;have aS:i<nb:=zd;generalize body[i]=x at *
 replace I:w.rangeAt b (o+i*16) x.cells:=I
 have H:=zz h;have Hr:=zz (fun W (N:Bl w W)=>yB I N q);have Hv:=zz (fun W (N:Bl w W)=>UG W x (hl.below N) ht O);have Hu:=zz (fun W (N:Bl w W) (A:Option Addr) (X n:Nat) (hn:x.vars.length=n) (ho:zZ xD W A x.vars)=>Ur W sb mb (some ⟨b,o,none⟩) zM nb f K (h.below N) A X n x.vars hn ho (fun u R=>by
  obtain⟨_,t,L,rfl⟩:=C.qJ.1 R;exact O t L) (by have:=YY x.zO;unfold Li.vars at hn;omega))
 have Hl:=zz hl;have ao:=zz ac;have Hs:=zz O;have Ht:=zz ht;have c0:(w.alloc (.cells #[.int .i8 0,.int .i64 0,.int .u32 0,.slice none 0 0] 107)).cell? ⟨sb,0,none⟩=some (.slice (some ⟨b,o,none⟩) nb zM):=(h.below (xq w _)).r.cell 0;clear h I hl ac O ht hB hn hi q;obtain⟨W1,L,q⟩:=xi w 107 #[.int .i8 0,.int .i64 0,.int .u32 0,.slice none 0 0];have aC:=zz L;have I:=zz q;clear L q;go_enter func49,ntmps49
 go_wp2_with (first
  |(refine xW 50 _ rfl ?_;rw[aC.o];refine wpList_load_mid rfl 50 _ rfl b (o+i*16) rfl x.cells _ (Hr.o _ I.o.below) underlying50 rfl (q9 x) ?_)
  |(refine xy 50 _ _ rfl ?_;refine XP rfl 50 _ _ rfl _ x.cells rfl rfl ?z (q9 x) ?one ?_))
 case z=>rw[Li.xG];rfl
 case one=>exact x.Ys
 intro R L;have q:=zz L;have aF:=zz (zl I.o.below L.below);clear L c0;obtain⟨W6,U,L⟩:=xi R 107 #[.int .i8 0,.int .i64 (i:Int),.int .u32 0,.slice none 0 0];have ar:=zz U;have av:=zz L;have ad:=zz (zl aF.o L.below);have aG:=zz (q.o.b0.below L.below);have aH:=zz ((I.o.b0.below q.o.below).below L.below);clear U L;have V:¬w.heap.size=R.heap.size:=by have:=q.o.size;have:=I.o.size;omega
 have aM:¬R.heap.size=w.heap.size:=fun e=>V e.symm
 have L:x.k=2:=hk;have k1:(x.k==1)=false:=by simp[L]
 have k2:(x.k==2)=true:=by simp[L]
 have U:x.a.ok:=by
  rcases ao.o with⟨_,_,_,_,h⟩ |⟨h,_⟩
  ·exact h
  ·omega
 have Hm:=zz (fun W (N:Bl w W)=>zbY W sb mb (some ⟨b,o,none⟩) zM nb f K (H.o.below N) x.a (Hl.o.a.below N) U.2.1 (fun t ht=>Hs.o t (zp0 _ ht)));have aj:=zz L;clear L U
 go_wp2_with (first
  |(refine xW 50 _ rfl ?_;refine wpList_load_mid rfl 50 _ rfl _ 0 rfl x.cells _ (q.o.b0.below (xq _ _)).range underlying50 rfl (q9 x) ?_)
  |(go_at_call 103;rw[ar.o];refine(Hv.o _ ad.o).mono ?_;rintro e w7⟨A7,aL,n7,rfl,ak,af,U,ay⟩;have ap:=zz ak;have aw:=zz af;have ai:=zz (zl ad.o U);have aE:=zz (aG.o.below U);have aD:=zz (aH.o.below U);have aB:=zz (av.o.b0.below U);clear ak af U ay)
  |(go_at_call 102;refine(Hu.o _ ai.o _ _ _ ap.o aw.o.xI).mono ?_;rintro e w8⟨A8,aN,n8,rfl,ah,ab,L,al⟩;have az:=zz ah;have aI:=zz ab;have ag:=zz (zl ai.o L);have k8:=aE.o.below L;have c0:w8.cell? ⟨W1.heap.size,0,none⟩=some (.int .i8 x.k):=k8.cell 0;have c1:w8.cell? ⟨W1.heap.size,1,none⟩=some (.string x.a.p):=k8.cell 1;have c2:w8.cell? ⟨W1.heap.size,2,none⟩=some (.slice x.a.A x.a.args.length x.a.cap):=k8.cell 2;have aP:=zz k8;have am:=zz (aD.o.below L);have au:=zz (aB.o.below L);have aO:=zz al;clear ah ab L al k8)
  |(go_at_call 104;refine(Hm.o _ ag.o).mono ?_;rintro e w9⟨rfl,N⟩;have X:=au.o.below N;have e0:=X.cell 0;have e1:=X.cell 1;have e2:=X.cell 2;have e3:=X.cell 3;have f0:=X.frozen 0;have f1:=X.frozen 1;have f2:=X.frozen 2;have f3:=X.frozen 3;have Y:=am.o.below N;have g0:=Y.cell 0;have g1:=Y.cell 1;have g2:=Y.cell 2;have g3:=Y.cell 3;have ax:=Y.frozen 0;have aJ:=Y.frozen 1;have aK:=Y.frozen 2;have an:=Y.frozen 3;have aQ:=zz X;have aA:=zz Y;have aq:=zz (zl ag.o N);have aR:=zz (aI.o.below N);clear N X Y))
 have zz:=((((((aA.o.X4 (p:=⟨R.heap.size,0,none⟩) V (.int .i8 4)).X4 (p:=⟨R.heap.size,2,none⟩) V (.int .u32 (qm K 0 x.a.args:Int))).qI 0 (.int .i8 4)).qI 1 (.int .i64 (i:Int))).qI 2 (.int .u32 (qm K 0 x.a.args:Int))).qI 3 (.slice none 0 0));have hB:Bl w _:=(((((aq.o.setCell (p:=⟨R.heap.size,0,none⟩) (by have:=q.o.size;have:=I.o.size;show w.heap.size<=R.heap.size;omega) (.int .i8 4)).setCell (p:=⟨R.heap.size,2,none⟩) (by have:=q.o.size;have:=I.o.size;show w.heap.size<=R.heap.size;omega) (.int .u32 (qm K 0 x.a.args:Int))).setCell (p:=⟨w.heap.size,0,none⟩) (zpx _) (.int .i8 4)).setCell (p:=⟨w.heap.size,1,none⟩) (zpx _) (.int .i64 (i:Int))).setCell (p:=⟨w.heap.size,2,none⟩) (zpx _) (.int .u32 (qm K 0 x.a.args:Int))).setCell (p:=⟨w.heap.size,3,none⟩) (zpx _) (.slice none 0 0);clear c0 c1 c2 e0 e1 e2 e3 f0 f1 f2 f3 g0 g1 g2 g3 ax aJ aK an;generalize((((((w9.setCell ⟨R.heap.size,0,none⟩ (.int .i8 4)).setCell ⟨R.heap.size,2,none⟩ (.int .u32 (qm K 0 x.a.args:Int))).setCell ⟨w.heap.size,0,none⟩ (.int .i8 4)).setCell ⟨w.heap.size,1,none⟩ (.int .i64 (i:Int))).setCell ⟨w.heap.size,2,none⟩ (.int .u32 (qm K 0 x.a.args:Int))).setCell ⟨w.heap.size,3,none⟩ (.slice none 0 0))=Z at zz hB ⊢;have z0:Z.cell? ⟨w.heap.size,0,none⟩=some (.int .i8 4):=zz.cell 0;have z1:Z.cell? ⟨w.heap.size,1,none⟩=some (.int .i64 (i:Int)):=zz.cell 1;have z2:Z.cell? ⟨w.heap.size,2,none⟩=some (.int .u32 (qm K 0 x.a.args:Int)):=zz.cell 2;have z3:Z.cell? ⟨w.heap.size,3,none⟩=some (.slice none 0 0):=zz.cell 3;refine bodyPost_ret (v:=.tuple #[.agg #[.int .i8 4,.int .i64 (i:Int),.int .u32 (qm K 0 x.a.args:Int),.slice none 0 0],.bool ((n8:Int)==0)]) (by simp[results,results49,go_sem,z0,z1,z2,z3]) rfl ?_;have ae:stepOf K i x=if qF K x=[]then some ⟨4,i,qm K 0 x.a.args,[]⟩else none:=by
  unfold stepOf;rw[if_neg (by rw[aj.o];decide),if_pos aj.o]
 have aa:(qF K x).length=n8:=az.o;refine⟨4,qm K 0 x.a.args,none,0,0,_,rfl,?_,fun s O=>?_,hB⟩
 ·rw[ae]
  by_cases ho:qF K x=[]
  ·rw[if_pos ho];rw[ho]at aa;subst aa;rfl
  ·rw[if_neg ho];have:n8≠0:=fun e=>ho (zqg zd)
   simpa using this
 ·rw[ae]at O;split at O
  ·injection O with O;subst O;exact⟨rfl,rfl,rfl,Own.qz _,fun g hg=>by simp[zw]at hg⟩
  ·cases O
theorem zkW(w:World)(sb mb:Nat)(B:Option Addr)(zM Z:Nat)(f:Value->Option Value)(K:List ByteArray)(h:yN w sb mb B zM Z f K)(body:List Li)(hn:body.length=Z)(hB:zZ Li.cells w B body)(i:Nat)(hi:i<body.length)(hl:body[i].zN w)(ac:body[i].ok)(ht:body[i].zO.length<=1048576)(U:∀t∈body[i].zO,t.v.size<=maxLen)(hb:Z<=24)(hk:(body[i].k=3/\qF K body[i]=[])):
 Calls prog 49 #[.pointer (some ⟨sb,0,none⟩),.int .i64 (i:Int)] w (Vy K i body[i] w):=by
 obtain⟨b,o,rfl,q,I⟩:=hB.at Li.Yn i hi;have aN:i<Z:=zd;generalize body[i]=x at *
 replace I:w.rangeAt b (o+i*16) x.cells:=I
 have H:=zz h;have Hr:=zz (fun W (V:Bl w W)=>yB I V q);have Hv:=zz (fun W (V:Bl w W)=>UG W x (hl.below V) ht U);have Hu:=zz (fun W (V:Bl w W) (A:Option Addr) (N n:Nat) (hn:x.vars.length=n) (ho:zZ xD W A x.vars)=>Ur W sb mb (some ⟨b,o,none⟩) zM Z f K (h.below V) A N n x.vars hn ho (fun u O=>by
  obtain⟨_,t,L,rfl⟩:=C.qJ.1 O;exact U t L) (by have:=YY x.zO;unfold Li.vars at hn;omega))
 have Hl:=zz hl;have aK:=zz ac;have Hs:=zz U;have Ht:=zz ht;have c0:(w.alloc (.cells #[.int .i8 0,.int .i64 0,.int .u32 0,.slice none 0 0] 107)).cell? ⟨sb,0,none⟩=some (.slice (some ⟨b,o,none⟩) Z zM):=(h.below (xq w _)).r.cell 0;clear h I hl ac U ht hB hn hi q;obtain⟨W1,I,q⟩:=xi w 107 #[.int .i8 0,.int .i64 0,.int .u32 0,.slice none 0 0];have ay:=zz I;have L:=zz q;clear I q;go_enter func49,ntmps49
 go_wp2_with (first
  |(refine xW 50 _ rfl ?_;rw[ay.o];refine wpList_load_mid rfl 50 _ rfl b (o+i*16) rfl x.cells _ (Hr.o _ L.o.below) underlying50 rfl (q9 x) ?_)
  |(refine xy 50 _ _ rfl ?_;refine XP rfl 50 _ _ rfl _ x.cells rfl rfl ?z (q9 x) ?one ?_))
 case z=>rw[Li.xG];rfl
 case one=>exact x.Ys
 intro Y q;have I:=zz q;have aA:=zz (zl L.o.below q.below);clear q c0;obtain⟨W6,O,q⟩:=xi Y 107 #[.int .i8 0,.int .i64 (i:Int),.int .u32 0,.slice none 0 0];have ap:=zz O;have ar:=zz q;have ad:=zz (zl aA.o q.below);have aB:=zz (I.o.b0.below q.below);have aC:=zz ((L.o.b0.below I.o.below).below q.below);clear O q;have X:¬w.heap.size=Y.heap.size:=by have:=I.o.size;have:=L.o.size;omega
 have aH:¬Y.heap.size=w.heap.size:=fun e=>X e.symm
 obtain⟨hk,q⟩:=hk;have ab:x.k=3:=hk;have R:¬x.k=1:=zd;have O:¬x.k=2:=zd;have k1:(x.k==1)=false:=by simp[R]
 have k2:(x.k==2)=false:=by simp[O]
 have aa:=zz (fun(q:qF K x=[])=>zgW (i:=i) R O q);clear hk R O ab;have aq:=zz (fun W (V:Bl w W) A N n hn ho=>(q▸Hu.o W V A N n hn ho:Calls prog 102 #[.pointer (some ⟨sb,0,none⟩),.slice A n N] W (XA xD 9 1 [] W)));have ag:=zz q;clear q
 go_wp2_with (first
  |(refine xW 50 _ rfl ?_;refine wpList_load_mid rfl 50 _ rfl _ 0 rfl x.cells _ (I.o.b0.below (xq _ _)).range underlying50 rfl (q9 x) ?_)
  |(go_at_call 103;rw[ap.o];refine(Hv.o _ ad.o).mono ?_;rintro e w7⟨A7,aG,n7,rfl,ak,ae,O,ax⟩;have ao:=zz ak;have au:=zz ae;have ah:=zz (zl ad.o O);have az:=zz (aB.o.below O);have aj:=zz (aC.o.below O);have ai:=zz (ar.o.b0.below O);clear ak ae O ax)
  |(go_at_call 102;refine(aq.o _ ah.o _ _ _ ao.o au.o.xI).mono ?_;rintro e w8⟨A8,aI,n8,rfl,af,ab,q,al⟩;have aF:n8=0:=af.symm;subst aF;have R:=ai.o.below q;have e0:=R.cell 0;have e1:=R.cell 1;have e2:=R.cell 2;have e3:=R.cell 3;have f0:=R.frozen 0;have f1:=R.frozen 1;have f2:=R.frozen 2;have f3:=R.frozen 3;have V:=aj.o.below q;have g0:=V.cell 0;have g1:=V.cell 1;have g2:=V.cell 2;have g3:=V.cell 3;have aw:=V.frozen 0;have aD:=V.frozen 1;have aE:=V.frozen 2;have an:=V.frozen 3;clear R V;have aO:=zz ab;have av:=zz (zl ah.o q);have k8:=az.o.below q;have c0:w8.cell? ⟨W1.heap.size,0,none⟩=some (.int .i8 x.k):=k8.cell 0;have c1:w8.cell? ⟨W1.heap.size,1,none⟩=some (.string x.a.p):=k8.cell 1;have c2:w8.cell? ⟨W1.heap.size,2,none⟩=some (.slice x.a.A x.a.args.length x.a.cap):=k8.cell 2;have aM:=zz k8;have am:=zz (aj.o.below q);have aL:=zz (ai.o.below q);have aJ:=zz al;clear ab q al k8 af))
 have zz:=(((((am.o.X4 (p:=⟨Y.heap.size,0,none⟩) X (.int .i8 5)).qI 0 (.int .i8 5)).qI 1 (.int .i64 (i:Int))).qI 2 (.int .u32 0)).qI 3 (.slice none 0 0));have hB:Bl w _:=((((av.o.setCell (p:=⟨Y.heap.size,0,none⟩) (by have:=I.o.size;have:=L.o.size;show w.heap.size<=Y.heap.size;omega) (.int .i8 5)).setCell (p:=⟨w.heap.size,0,none⟩) (zpx _) (.int .i8 5)).setCell (p:=⟨w.heap.size,1,none⟩) (zpx _) (.int .i64 (i:Int))).setCell (p:=⟨w.heap.size,2,none⟩) (zpx _) (.int .u32 0)).setCell (p:=⟨w.heap.size,3,none⟩) (zpx _) (.slice none 0 0);clear c0 c1 c2 e0 e1 e2 e3 f0 f1 f2 f3 g0 g1 g2 g3 aw aD aE an;generalize(((((w8.setCell ⟨Y.heap.size,0,none⟩ (.int .i8 5)).setCell ⟨w.heap.size,0,none⟩ (.int .i8 5)).setCell ⟨w.heap.size,1,none⟩ (.int .i64 (i:Int))).setCell ⟨w.heap.size,2,none⟩ (.int .u32 0)).setCell ⟨w.heap.size,3,none⟩ (.slice none 0 0))=N at zz hB ⊢;have z0:N.cell? ⟨w.heap.size,0,none⟩=some (.int .i8 5):=zz.cell 0;have z1:N.cell? ⟨w.heap.size,1,none⟩=some (.int .i64 (i:Int)):=zz.cell 1;have z2:N.cell? ⟨w.heap.size,2,none⟩=some (.int .u32 0):=zz.cell 2;have z3:N.cell? ⟨w.heap.size,3,none⟩=some (.slice none 0 0):=zz.cell 3;refine bodyPost_ret (v:=.tuple #[.agg #[.int .i8 5,.int .i64 (i:Int),.int .u32 0,.slice none 0 0],.bool true]) (by simp[results,results49,go_sem,z0,z1,z2,z3]) rfl ?_;refine⟨5,0,none,0,0,true,rfl,by rw[aa.o ag.o];rfl,fun s U=>?_,hB⟩;rw[aa.o ag.o]at U;injection U with U
 subst U;exact⟨rfl,rfl,rfl,Own.qz _,fun g hg=>by simp[zw]at hg⟩
theorem TO{r:List ByteArray}{l:List ByteArray}(N:l=v::r)(W:World)(A:Option Addr)(h:zZ xD W A l):∃q I,A=some ⟨q,I,none⟩/\q<W.heap.size/\W.cell? ⟨q,I,none⟩=some (.string v):=by
 subst N;obtain⟨q,I,rfl,L,R⟩:=h.at (c:=0) (fun _=>rfl) 0 zp;have O:=R 0 _ rfl;simp only[zqX,zqk,zqj]at O;exact⟨q,I,rfl,L,O⟩
theorem zio{W:World}{g:Nat}(h:zD W g 9 #[.string v]):Own xD 9 1 W (some ⟨g,0,none⟩) 1 [v]:=
 ⟨rfl,.inr ⟨g,1,#[.string v],rfl,zpD _,h,zpx _,by unfold maxLen;omega,rfl,rfl⟩⟩
theorem zjD(w:World)(sb mb:Nat)(B:Option Addr)(zM nb:Nat)(f:Value->Option Value)(K:List ByteArray)(h:yN w sb mb B zM nb f K)(body:List Li)(hn:body.length=nb)(hB:zZ Li.cells w B body)(i:Nat)(hi:i<body.length)(hl:body[i].zN w)(aq:body[i].ok)(ht:body[i].zO.length<=1048576)(hs:∀t∈body[i].zO,t.v.size<=maxLen)(hb:nb<=24)(hk:(body[i].k=3/\body[i].rl=1/\∃v,qF K body[i]=[v]/\UQ body[i] v)):
 Calls prog 49 #[.pointer (some ⟨sb,0,none⟩),.int .i64 (i:Int)] w (Vy K i body[i] w):=by
 obtain⟨b,o,rfl,ac,q⟩:=hB.at Li.Yn i hi;have ba:i<nb:=zd;generalize body[i]=x at *
 replace q:w.rangeAt b (o+i*16) x.cells:=q
 have H:=zz h;have Hr:=zz (fun W (R:Bl w W)=>yB q R ac);have Hv:=zz (fun W (R:Bl w W)=>UG W x (hl.below R) ht hs);have Hu:=zz (fun W (R:Bl w W) (A:Option Addr) (I n:Nat) (hn:x.vars.length=n) (ho:zZ xD W A x.vars)=>Ur W sb mb (some ⟨b,o,none⟩) zM nb f K (h.below R) A I n x.vars hn ho (fun u L=>by
  obtain⟨_,t,I,rfl⟩:=C.qJ.1 L;exact hs t I) (by have:=YY x.zO;unfold Li.vars at hn;omega))
 have Hl:=zz hl;have a4:=zz aq;have Hs:=zz hs;have Ht:=zz ht;have c0:(w.alloc (.cells #[.int .i8 0,.int .i64 0,.int .u32 0,.slice none 0 0] 107)).cell? ⟨sb,0,none⟩=some (.slice (some ⟨b,o,none⟩) nb zM):=(h.below (xq w _)).r.cell 0;clear h q hl aq hs ht hB hn hi ac;obtain⟨W1,I,q⟩:=xi w 107 #[.int .i8 0,.int .i64 0,.int .u32 0,.slice none 0 0];have aT:=zz I;have V:=zz q;clear I q;go_enter func49,ntmps49
 go_wp2_with (first
  |(refine xW 50 _ rfl ?_;rw[aT.o];refine wpList_load_mid rfl 50 _ rfl b (o+i*16) rfl x.cells _ (Hr.o _ V.o.below) underlying50 rfl (q9 x) ?_)
  |(refine xy 50 _ _ rfl ?_;refine XP rfl 50 _ _ rfl _ x.cells rfl rfl ?z (q9 x) ?one ?_))
 case z=>rw[Li.xG];rfl
 case one=>exact x.Ys
 intro W5 q;have U:=zz q;have aW:=zz (zl V.o.below q.below);clear q c0;obtain⟨W6,I,q⟩:=xi W5 107 #[.int .i8 0,.int .i64 (i:Int),.int .u32 0,.slice none 0 0];have aK:=zz I;have aL:=zz q;have ar:=zz (zl aW.o q.below);have aX:=zz (U.o.b0.below q.below);have aY:=zz ((V.o.b0.below U.o.below).below q.below);clear I q;have ab:¬w.heap.size=W5.heap.size:=by have:=U.o.size;have:=V.o.size;omega
 have a2:¬W5.heap.size=w.heap.size:=fun e=>ab e.symm
 obtain⟨hk,N,v,I,q⟩:=hk;have X:x.k=3:=hk;have O:¬x.k=1:=zd;have L:¬x.k=2:=zd;have k1:(x.k==1)=false:=by simp[O]
 have k2:(x.k==2)=false:=by simp[L]
 have aQ:=zz (fun W A h=>TO I W A h);have Z:=zz (fun W (R:Bl w W)=>GZ W x (Hl.o.below R) Ht.o Hs.o v);rw[qs q]at Z;have r1:(x.rl==1)=true:=by simp[N]
 have Hq:=zz (show ∀n:Nat,(qF K x).length=n->((n:Int)==0)=false/\0<n/\((n:Int)==1)=true from fun n hn=>by
  rw[I]at hn;simp at hn;subst hn;exact⟨rfl,zr,rfl⟩)
 have ak:=zz (show stepOf K i x=some ⟨6,i,0,[v]⟩ by
  unfold stepOf;rw[if_neg O,if_neg L,if_neg (by rw[I];simp),if_pos ⟨v,I,N,q⟩,I])
 clear hk O L X I q N;go_upto_region 22 with(first
  |(refine xW 50 _ rfl ?_;refine wpList_load_mid rfl 50 _ rfl _ 0 rfl x.cells _ (U.o.b0.below (xq _ _)).range underlying50 rfl (q9 x) ?_)
  |(go_at_call 103;rw[aK.o];refine(Hv.o _ ar.o).mono ?_;rintro e w7⟨A7,a1,n7,rfl,aD,aw,aa,aP⟩;have aI:=zz aD;have aO:=zz aw;have az:=zz (zl ar.o aa);have aV:=zz (aX.o.below aa);have aU:=zz (aY.o.below aa);have aS:=zz (aL.o.b0.below aa);clear aD aw aa aP)
  |(go_at_call 102;refine(Hu.o _ az.o _ _ _ aI.o aO.o.xI).mono ?_;rintro e w8⟨A8,a3,n8,rfl,ay,an,X,aZ⟩;have aR:Kz ((qF K x).length=n8):=ay;obtain⟨a5,a7,a8⟩:=Hq.o n8 aR.o;obtain⟨bb,oo,rfl,ac,dd⟩:=aQ.o w8 A8 an.xI;have k8:=aV.o.below X;have c0:w8.cell? ⟨W1.heap.size,0,none⟩=some (.int .i8 x.k):=k8.cell 0;have c3:w8.cell? ⟨W1.heap.size,3,none⟩=some (.int .i8 x.rl):=k8.cell 3;have aN:=zz k8;have ax:=zz (zl az.o X);have I:=zz (aU.o.below X);have Y:=zz (aS.o.below X);have e0:=Y.o.cell 0;have e1:=Y.o.cell 1;have e2:=Y.o.cell 2;have e3:=Y.o.cell 3;have g0:=I.o.cell 0;have g1:=I.o.cell 1;have g2:=I.o.cell 2;have g3:=I.o.cell 3;have ah:=I.o.frozen 0;have ai:=I.o.frozen 1;have aj:=I.o.frozen 2;have ae:=I.o.frozen 3;clear ay an X aZ k8 ac)
  |(refine xW 50 _ rfl ?_;refine TV zj 50 _ rfl _ 0 rfl x.cells _ aN.o.range underlying50 rfl (q9 x) ?_)
  |(go_at_call 105;refine(Z.o _ ax.o).mono ?_;rintro e w9⟨rfl,ad⟩;clear e0 e1 e2 e3 g0 g1 g2 g3 ah ai aj ae;have af:=zz (zl ax.o ad);have R:=zz (Y.o.below ad);have L:=zz (I.o.below ad);have e0:=R.o.cell 0;have e1:=R.o.cell 1;have e2:=R.o.cell 2;have e3:=R.o.cell 3;have f0:=R.o.frozen 0;have f3:=R.o.frozen 3;have g0:=L.o.cell 0;have g1:=L.o.cell 1;have g2:=L.o.cell 2;have g3:=L.o.cell 3;have ah:=L.o.frozen 0;have ai:=L.o.frozen 1;have aj:=L.o.frozen 2;have ae:=L.o.frozen 3;clear ad))
 have O:=R.o.alloc (.cells #[.string v] 9);have ao:=L.o.alloc (.cells #[.string v] 9);have N:=zD.new w9 9 #[.string v];have q:Bl w (w9.alloc (.cells #[.string v] 9)):=af.o.alloc af.o.size _;clear e0 e1 e2 e3 f0 f3 g0 g1 g2 g3 ah ai aj ae c0 c3 dd;have au:=zz O;have av:=zz ao;have am:=zz N;have aA:=zz q;have al:=zz af.o.size;have ag:=zz R.o.lt;clear O ao N q;go_upto_region 23 with(first
  |(refine xy 103 _ _ rfl ?_;refine Xq zj 103 _ _ rfl W5.heap.size 0 _ _ au.o (.int .i8 6) rfl rfl zp (zo) rfl ?_;intro a6 O;have ao:=zz O.zH;have ap:=zz (O.qj av.o ab);have aB:=zz (O.qj am.o (by have:=ag.o;omega));have aC:=zz (O.below aA.o (zpx _) (by have:=U.o.size;have:=V.o.size;omega));clear O)
  |(refine xy 86 _ _ rfl ?_;refine Xq zj 86 _ _ rfl W5.heap.size 3 _ _ ao.o (.slice (some ⟨w9.heap.size,0,none⟩) 1 1) rfl rfl zp (zo) rfl ?_;intro aJ N;have aE:Kz (zD aJ W5.heap.size 107 #[.int .i8 6,.int .i64 (i:Int),.int .u32 0,.slice (some ⟨w9.heap.size,0,none⟩) 1 1]):=N.zH;have aF:=zz (N.qj ap.o ab);have aM:=zz (N.qj aB.o (by have:=ag.o;omega));have aG:=zz (N.below aC.o (zpx _) (by have:=U.o.size;have:=V.o.size;omega));clear N))
 go_wp2_with (first
  |(refine xW 107 _ rfl ?_;refine y7 zj 107 _ rfl W5.heap.size 0 rfl [.int .i8 6,.int .i64 (i:Int),.int .u32 0,.slice (some ⟨w9.heap.size,0,none⟩) 1 1] _ aE.o.range underlying107 rfl zo ?_)
  |(refine xy 107 _ _ rfl ?_;refine yH 107 w.heap.size 0 aF.o [.int .i8 6,.int .i64 (i:Int),.int .u32 0,.slice (some ⟨w9.heap.size,0,none⟩) 1 1] ?_;intro a9 q;have z0:=q.zH.cell 0;have z1:=q.zH.cell 1;have z2:=q.zH.cell 2;have z3:=q.zH.cell 3;have HF:=zz q;clear q))
 simp only[zpY,zpI,zpL,zpJ,zpH,zpM]at z0 z1 z2 z3;refine bodyPost_ret (v:=.tuple #[.agg #[.int .i8 6,.int .i64 (i:Int),.int .u32 0,.slice (some ⟨w9.heap.size,0,none⟩) 1 1],.bool true]) (by simp[results,results49,go_sem,z0,z1,z2,z3]) rfl ?_;have aH:=HF.o.below aG.o (zpx _) (zpx _);refine⟨6,0,_,1,1,true,rfl,by rw[ak.o];rfl,fun s hs=>?_,aH⟩;rw[ak.o]at hs;injection hs with hs
 subst hs;refine⟨rfl,rfl,rfl,?_,xY al.o⟩;exact zio (HF.o.qj aM.o (by have:=al.o;have:=U.o.size;have:=V.o.size;have:=ag.o;omega))
end
