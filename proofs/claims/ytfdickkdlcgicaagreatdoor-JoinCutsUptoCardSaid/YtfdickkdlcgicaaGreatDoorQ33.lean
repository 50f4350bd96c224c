/-
  Has a body too many ways (law13's many)? A run: goes. A run:
-/
import Derived.Test.YtfdickkdlcgicaaGreatDoorQ32
set_option maxRecDepth 100000
set_option maxHeartbeats 8000000
set_option linter.all false
namespace Go.Proofs.YtfdickkdlcgicaaGreatDoor.C
open Go.Proofs.Tryz Go Go.RowKit Go.Maps Go.WideMaps
variable {D:Nat->Prop}{K:List ByteArray}{O:List Env}{c:Cx}{e:Ending}{w w':World}{ρ:Env}
section
theorem zog(w:World)(hP:Pw w)(N I:Nat)(p:ByteArray)(hp:p.size<=1048576)(B:Option Addr)(R zM:Nat)(body:List Li)(hn:body.length=R)(X:R<=1048576)(Z:zD w N 25 #[.string p,.slice none 0 0,.slice B R zM])(F:Option Addr)(U q:Nat)(fs:List Fa)(V:fs.length=U)(L:U<=1048576)(hl:zD w I 26 #[.slice F U q])(Y:Vb (fun _=>False) w B body)(hf:Uv w F fs)(h:Y8 body<=2097152):
 Calls prog 37 #[.int .i64 20000,.slice (some ⟨N,0,none⟩) 1 1,.slice (some ⟨I,0,none⟩) 1 1] w fun e O=>∃a:Int,e=.returned (.int .i64 a)/\Bl w O:=by
 have HC:=zz (zmB w hP N I p hp B R zM body hn X Z F U q fs V L hl Y hf h);clear hP Z hl Y hf h;go_enter func37,ntmps37
 go_wp2_with (go_at_call 85;refine HC.o.mono ?_;rintro e w1⟨a,b,rfl,O⟩;have W:=zz O;clear O)
 go_returns;exact⟨_,rfl,W.o⟩
def Yb(fs:List Fa)(p:ByteArray):Nat:=fs.countP fun f=>decide (f.p=p)
theorem zeG(fs:List Fa)(f:Fa)(p:ByteArray):Yb (fs++[f]) p=Yb fs p+if f.p=p then 1 else 0:=by
 unfold Yb;rw[List.countP_append,List.countP_cons,List.countP_nil];simp
theorem zaj(fs:List Fa)(p:ByteArray):Yb fs p<=fs.length:=List.countP_le_length
def zkf(body:List Li)(fs:List Fa)(w:World)(e:Ending)(w':World):Prop:=
 ∃b:Bool,e=.returned (.bool b)/\(b=false->mulL (X2 body (Yb fs)) (List.range body.length)<=2147483647)/\Bl w w'
theorem zem(w:World)(hP:Pw w)(B:Option Addr)(L zM:Nat)(body:List Li)(hn:body.length=L)(ao:L<=1048576)(F:Option Addr)(N U:Nat)(fs:List Fa)(af:fs.length=N)(Y:N<=1048576)(hb:Vb (fun _=>False) w B body)(hf:Uv w F fs)(R:Y8 body<=2097152):
 Calls prog 10 #[.slice B L zM,.slice F N U] w (zkf body fs w):=by
 have HP:=zz hP;have Hb:=zz hb;have Hf:=zz hf;have Hn:=zz (zpG hn af);have ac:=zz R;clear hP hb hf hn af R;go_enter func10,ntmps10;obtain⟨W1,ab,q⟩:=xi w 25 #[.string ⟨#[32]⟩,.slice none 0 0,.slice B L zM];obtain⟨W2,aa,V⟩:=xi W1 26 #[.slice F N U];have Z:=q.below;have X:=V.below;have k1:=q.b0.below X;have k2:=V.b0;have I:Bl w W2:=zl Z X;have HC:=zz (zog W2 (HP.o.below I) w.heap.size W1.heap.size ⟨#[32]⟩ zr B L zM body Hn.o.1 ao k1 F N U fs Hn.o.2 Y k2 (Hb.o.after ⟨zh.xj _ I,fun g O=>.inl O⟩) (Hf.o.below I) ac.o);have O:=zz I;clear q V Z X k1 k2 I
 go_wp2_with (go_at_call 37;refine HC.o.mono ?_;rintro e w3⟨a,rfl,ah⟩;have aj:=zz (zl O.o ah);clear ah ab aa)
 ·go_returns;exact⟨true,rfl,(fun h=>nomatch h),aj.o⟩
 ·go_loopg[5,6,7,8] L (fun gk V q Z s8 X=>∃(i m:Nat),i<=L/\gk=L-i/\V=.int .i64 (m:Int)/\q=.int .i64 (i:Int)/\m=mulL (X2 body (Yb fs)) (List.range i)/\m<=2147483647/\Bl w X)
  case atStart=>exact⟨0,1,zpD _,rfl,rfl,rfl,rfl,zd,aj.o⟩
  case round=>
   obtain⟨i,m,hi,rfl,rfl,rfl,q,ag,V⟩:=hrel;have HB:=zz V;have HM:=zz q;clear V q
   by_cases V:i<L
   ·have aa:i<body.length:=by rw[Hn.o.1];exact V
    obtain⟨bb,ob,rfl,ad,q⟩:=(Hb.o.rd.below HB.o).at Li.xG i aa;have p0:wr.cell? ⟨bb,ob+i*16,none⟩=some (.int .i8 body[i].k):=by simpa using q 0 _ rfl
    have p1:wr.cell? ⟨bb,ob+i*16+1,none⟩=some (.string body[i].a.p):=q 1 _ rfl
    by_cases ab:body[i].k=1
    ·have al:=zz p1;have ap:=zz ad;clear q p1 ad;go_wp2;clear p0
     go_loopg[7,8] N (fun gk Z s8 X=>∃(j k:Nat),j<=N/\gk=N-j/\Z=.int .i64 (k:Int)/\s8=.int .i64 (j:Int)/\k=Yb (fs.take j) body[i].a.p/\Bl wr X/\k<=j)
     case atStart=>exact⟨0,0,zpD _,rfl,rfl,rfl,rfl,Below.refl _ _,zpx _⟩
     case round=>
      obtain⟨j,k,hj,rfl,rfl,rfl,X,I,ar⟩:=hrel;have Hk:=zz X;have O:=zz I;clear I X
      by_cases I:j<N
      ·have ae:j<fs.length:=by rw[Hn.o.2];exact I
       have ai:Kz (Bl w wr):=zl HB.o O.o;obtain⟨bf,Z,rfl,am,q⟩:=(Hf.o.rd.below ai.o).at (c:=1) (fun _=>rfl) j ae;have q0:wr.cell? ⟨bf,Z+j*2,none⟩=some (.string fs[j].p):=by simpa using q 0 _ rfl
       have an:Kz (∀W,Bl wr W->W.cell? ⟨bf,Z+j*2,none⟩=some (.string fs[j].p)/\W.cell? ⟨bb,ob+i*16+1,none⟩=some (.string body[i].a.p)/\(j:Int)<(N:Int)/\j<N/\(i:Int)<(L:Int)/\i<L):=fun W X=>⟨(X.cell (p:=⟨bf,Z+j*2,none⟩) am).trans q0,((zl O.o X).cell (p:=⟨bb,ob+i*16+1,none⟩) ap.o).trans al.o,zd,I,zd,V⟩
       have X:Yb (fs.take (j+1)) body[i].a.p=Yb (fs.take j) body[i].a.p+if fs[j].p=body[i].a.p then 1 else 0:=by
        rw[zpC ae,zeG]
       have aq:=zz X;clear q0 q X;go_upto_region 12 with fail
       refine xX [0,0,0,0,0,0,0,0,0,0,0,0] (fun W=>Bl wr W) ?_
       repeat refine zS an.o ?_
       refine xt ?_;have ak:=zz (zl O.o (Below.refl _ _).drew);have X:=aq.o
       by_cases he:fs[j].p=body[i].a.p
       ·rw[if_pos he]at X;rw[bytes_beq,qs he];go_wp2
        go_roundg (N-(j+1))
        case measure=>omega
        case rel=>exact⟨j+1,k+1,I,rfl,ze,ze,by rw[X,<-Hk.o],ak.o,zd⟩
       ·rw[if_neg he]at X;rw[bytes_beq,qu he];go_wp2
        go_roundg (N-(j+1))
        case measure=>omega
        case rel=>exact⟨j+1,k,I,rfl,rfl,ze,by rw[X,<-Hk.o];rfl,ak.o,zd⟩
      ·obtain rfl:j=N:=zd;have HK:=zz (show k=Yb fs body[i].a.p by have:=Hk.o;rwa [zpT (zq4 Hn.o.2)]at this);have Z:=zz (zl HB.o O.o);have X:=ze0 (X2 body (Yb fs)) i;rw[GR aa ab,<-HK.o,<-HM.o]at X;have ae:=zz X;have hq:=Nat.div_mul_le_self 2147483647 k;clear X
       by_cases ai:k=0
       ·subst ai;go_wp2
        go_roundg (L-(i+1))
        case measure=>omega
        case rel=>exact⟨i+1,0,V,rfl,by simp[wrap64],ze,by rw[ae.o];rfl,zd,Z.o⟩
       ·have X:((2147483647:Int) / (k:Int))=((2147483647 / k:Nat):Int):=rfl;have ab:0<k:=zd
        by_cases hd:2147483647 / k<m
        ·have am:((2147483647:Int) / (k:Int))<(m:Int):=by rw[X];omega
         clear X;go_wp2;go_returns;exact⟨true,rfl,(fun h=>nomatch h),Z.o⟩
        ·have am:¬(((2147483647:Int) / (k:Int))<(m:Int)):=by rw[X];omega
         clear X;have ak:m*k<=2147483647:=zpK (zqF k (Nat.le_of_not_lt hd)) hq;clear hq;go_wp2
         go_roundg (L-(i+1))
         case measure=>omega
         case rel=>exact⟨i+1,m*k,V,rfl,by exact congrArg (Value.int .i64) (Int.natCast_mul m k).symm,ze,ae.o.symm,ak,Z.o⟩
    ·go_wp2
     go_roundg (L-(i+1))
     case measure=>omega
     case rel=>exact⟨i+1,m,V,rfl,rfl,ze,by rw[ze0,zdQ aa ab,zqI];exact HM.o,ag,HB.o⟩
   ·obtain rfl:i=L:=zd;go_wp2;go_returns;exact⟨false,rfl,fun _=>by rw[Hn.o.1,<-HM.o];exact ag,HB.o⟩
def Sv.agg:Sv->Value
 |.rows x m B h q I L=>.agg #[.string x.p,.slice x.A x.args.length x.cap,.int .u32 (m:Int),.slice B q.length h,.int .i64 (I:Int),.int .i64 (L:Int)]
 |.Xm x m=>.agg #[.string x.p,.slice x.A x.args.length x.cap,.int .u32 (m:Int)]
 |.test x=>.agg x.cells.toArray
 |.set v e=>.agg (.string v::e.cells).toArray
def Sv.fn:Sv->FuncId
 |.rows ..=>330
 |.Xm ..=>319
 |.test ..=>327
 |.set ..=>329
abbrev Gs(q h:Nat):Value:=.func (.func 172) #[] #[.pointer (some ⟨q,0,none⟩),.pointer (some ⟨h,0,none⟩)]
def zec(c:Cx)(K:List ByteArray)(rest:List St)(N O:Nat)(D:Nat->Prop)(w:World):Prop:=∀I L h q,JS c I L h q->Yj h->Ya h K->xB D w q L->I.length+(c.solve rest h).length<=c.M->
 Calls prog 172 #[.pointer (some ⟨N,0,none⟩),.pointer (some ⟨O,0,none⟩)] q (ZV c I L h (c.solve rest h) q)
def UF(c:Cx)(K I:List ByteArray)(s:Sv)(rest:List St):Prop:=∀O D ρ w h q,JS c O D ρ w->Yj ρ->Ya ρ K->s.zN w->(s.off fun g=>¬D g/\g<w.heap.size)->zec c I rest h q D w->O.length+(c.solve (s.st::rest) ρ).length<=c.M->
 Calls prog s.fn #[s.agg,.pointer (some ⟨c.sb,0,none⟩),Gs h q] w (ZV c O D ρ (c.solve (s.st::rest) ρ) w)
def G8(c:Cx)(K:List ByteArray):Prop:=(∀W,(callFunc c.gf c.Uu).run prog W=.ok (.enter c.gf c.Uu) W)/\∀O D ρ w,JS c O D ρ w->Yj ρ->Ya ρ K->O.length+1<=c.M->Calls prog c.gf c.Uu w (ZV c O D ρ [ρ] w)
inductive Jy (c:Cx):List ByteArray->List Sv->Prop
 |nil {K:List ByteArray} (h:G8 c K):Jy c K []
 |cons {K K':List ByteArray} {s:Sv} {l:List Sv} (h:UF c K K' s (l.map Sv.st)) (hr:Jy c K' l):Jy c K (s::l)
theorem JS.drew(q:c.qT)(h:JS c O D ρ w):JS c O D ρ w.drew:=h.below q (Below.refl _ _).drew
theorem Sv.off.mono{Q Q':Nat->Prop}(h:∀g,Q g->Q' g){s:Sv}(q:s.off Q):s.off Q':=by
 cases s with
 |rows x m B N L O R=>exact⟨fun g I=>h g (q.1 g I),fun g I=>h g (q.2 g I)⟩
 |Xm x m=>exact fun g I=>h g (q g I)
 |test x=>exact⟨fun g I=>h g (q.1 g I),q.2.1.mono h,q.2.2.mono h⟩
 |set v e=>exact Ex.off.mono h q
theorem Steps.below{W:World}{A:Option Addr}{l:List Sv}(h:Steps w D A l)(I:Bl w W):Steps W D A l:=
 ⟨h.rd.below I,fun g q=>⟨(h.off g q).1,zpz (h.off g q).2 I.size⟩,fun s L=>(h.zN s L).below I,fun s L=>(h.XO s L).mono fun g q=>⟨q.1,zpz q.2 I.size⟩⟩
theorem ZV.qt{es:List Env}{q:World}(h:ZV c O D ρ es q e w')(N:Bl w q):ZV c O D ρ es w e w':=by
 obtain⟨rfl,R,L,I⟩:=h;exact⟨rfl,R,L,(xB.below N).trans I⟩
theorem znb(hc:c.qT)(L:G8 c K)(O:List Env)(D:Nat->Prop)(ρ:Env)(w:World)(A:Option Addr)(cap:Nat)(h:JS c O D ρ w)(X:Yj ρ)(R:Ya ρ K)(Y:O.length+1<=c.M):
 Calls prog 109 #[.pointer (some ⟨c.sb,0,none⟩),.slice A 0 cap] w (ZV c O D ρ [ρ] w):=by
 obtain⟨V,I,q⟩:=yb w 139 221 #[.pointer (some ⟨c.sb,0,none⟩)] #[.slice A 0 cap];have HX:=zz q;have N:=zz I;have c0:=q.b0.cell 0;have c1:=q.b1.cell 0;have W:=L.1;have Z:=zz (L.2 O D ρ V (h.below hc q.below) X R Y);have hs:V.cell? ⟨c.sb,2,none⟩=some (.func (.func c.gf) #[] c.Uu):=by
  obtain⟨S,U,f,h⟩:=h;exact(h.zH.below q.below).cell 2
 clear q I h X R L;go_enter func109,ntmps109;go_upto_region 1 with fail
 rw[N.o]
 go_wp2_with (refine Z.o.mono ?_;intro e w1 q;have I:=zz (q.qt HX.o.below);obtain⟨rfl,-⟩:=q)
 go_end0;exact I.o
theorem zij{P:Program}{e t:TypeId}{size:Nat}(q:P.underlying t=some (.slice e))(I:∀W,(Go.sizeOf e).run P W=.ok size W)(g o n cap:Nat)(h:n+1<=cap):
 ∃L,(∀W,(Instr.slice t (.slice (some ⟨g,o,none⟩) (n+1) cap) (some (.int .i64 1)) none none).run P W=.ok (.slice (some ⟨g,L,none⟩) n (cap-1)) W)/\(1<=n->L=o+size):=by
 by_cases L:cap=1
 ·refine⟨o,fun W=>?_,fun N=>zd⟩;have N:n=0:=zd;subst N L;simp[Instr.slice,run_underlying q,Instr.sliceBounds,Instr.sliceBound,asIntOf,I,Result.andThen]
 ·refine⟨o+size,fun W=>?_,fun _=>rfl⟩;have e4:(n:Int)+1-1=n:=zd;have e5:¬((n:Int)+1<1):=zd;have e6:(1:Int)<=(n:Int)+1:=zd;simp[Instr.slice,run_underlying q,Instr.sliceBounds,Instr.sliceBound,asIntOf,I,Result.andThen,L,e4,e5,e6,Addr.add_mid,h]
def Dn(c:Cx)(K:List ByteArray)(l:List Sv):Prop:=∀O D ρ w A n h,JS c O D ρ w->Yj ρ->Ya ρ K->Steps w D A l->l.length=n->n<=h->n<=1048576->O.length+(c.solve (l.map Sv.st) ρ).length<=c.M->
 Calls prog 109 #[.pointer (some ⟨c.sb,0,none⟩),.slice A n h] w (ZV c O D ρ (c.solve (l.map Sv.st) ρ) w)
theorem zmy(hc:c.qT){s:Sv}{l:List Sv}(ih:Dn c K l)(b2 b3 n cap:Nat)(g o:Nat)(D:Nat->Prop)(w:World)(U:Steps w D (some ⟨g,o,none⟩) (s::l))(hD:∀x,D x->x<w.heap.size)(hn:l.length=n)(Z:n+1<=cap)(aj:n+1<=1048576)(X:zD w b2 139 #[.pointer (some ⟨c.sb,0,none⟩)])(h3:zD w b3 221 #[.slice (some ⟨g,o,none⟩) (n+1) cap])(V:¬D b2)(Y:¬D b3):zec c K (l.map Sv.st) b2 b3 D w:=by
 intro O1 R ρ1 N hj hv hd O hM;obtain⟨o',ai,aa⟩:=zij (P:=prog) underlying221 (fun W=>sizeOf223 W) g o n cap Z;have L:Steps N R (some ⟨g,o',none⟩) l:=by
  have q:∀x,(¬D x/\x<w.heap.size)->(¬R x/\x<N.heap.size):=fun x I=>⟨fun h=>(O.2 x h).elim I.1 fun ab=>zd,zpz I.2 O.1.size⟩
  refine⟨?_,fun x I=>q x (U.off x I),fun y hy=>(U.zN y (zpQ _ hy)).kept O.1 ((U.XO y (zpQ _ hy)).mono fun x I=>I.1),fun y hy=>(U.XO y (zpQ _ hy)).mono q⟩;have ah:zZ Gj N (some ⟨g,o,none⟩) (s::l):=U.rd.kept O.1 fun x I=>(U.off x I).1
  intro ad;obtain⟨b,o2,hA,ac,hr⟩:=ah zp;injection hA with hA
  injection hA with ae ag
  subst ae ag;have af:1<=n:=by
   rcases l with _ |⟨y,l⟩
   ·exact absurd rfl ad
   ·rw[<-hn];simp
  refine⟨g,o',rfl,ac,?_⟩;rw[aa af];intro j v hj;have:=hr (1+j) v (by rw[zpZ,zqL zp];simpa using hj);rw[zqO];exact this
 have q:∀x,x<w.heap.size->¬D x->¬R x:=fun x I hn h=>(O.2 x h).elim hn fun ab=>zd
 have H0:Kz (∀W,zh R N W->W.cell? ⟨b2,0,none⟩=some (.pointer (some ⟨c.sb,0,none⟩))/\W.cell? ⟨b3,0,none⟩=some (.slice (some ⟨g,o,none⟩) (n+1) cap)):=fun W hW=>⟨((X.zC O.1 V).zC hW (q _ X.lt V)).cell 0,((h3.zC O.1 Y).zC hW (q _ h3.lt Y)).cell 0⟩
 have HG:=zz (ih O1 R ρ1 N.drew (some ⟨g,o',none⟩) n (cap-1) (hj.drew hc) hv hd (L.below (Below.refl _ _).drew) hn zd (zd) hM);clear q hj hv hd O L aa U X h3 ih;go_enter func172,ntmps172;refine xX [0,0,0,2] (fun W=>zh R N W) ?_
 repeat refine zS H0.o ?_
 refine xf fun K L=>?_
 go_simp;refine HG.o.mono ?_;intro e w2 q;have O:=zz (q.qt (Below.refl _ N).drew);obtain⟨rfl,D2,-,X⟩:=q;refine L.out _ _ ((zh.refl R N).drew.trans X.1 fun x I _=>I) (fun _=>trivial) ?_;clear L K;try refine zQ ?_
 repeat refine zS H0.o ?_
 refine xt ?_;go_wp2;go_end0;exact O.o
theorem zi9(hc:c.qT){K':List ByteArray}{s:Sv}{l:List Sv}(ih:Dn c K' l)(ht:UF c K K' s (l.map Sv.st))(n cap g o:Nat)(O:List Env)(D:Nat->Prop)(ρ:Env)(w:World)(hj:JS c O D ρ w)(hv:Yj ρ)(hd:Ya ρ K)(hs:Steps w D (some ⟨g,o,none⟩) (s::l))(hn:l.length=n)(Y:n+1<=cap)(ac:n+1<=1048576)(hM:O.length+(c.solve (s.st::l.map Sv.st) ρ).length<=c.M):
 Calls prog 109 #[.pointer (some ⟨c.sb,0,none⟩),.slice (some ⟨g,o,none⟩) (n+1) cap] w (ZV c O D ρ (c.solve (s.st::l.map Sv.st) ρ) w):=by
 obtain⟨N,aa,R⟩:=yb w 139 221 #[.pointer (some ⟨c.sb,0,none⟩)] #[.slice (some ⟨g,o,none⟩) (n+1) cap];have HX:=zz R;have ae:=zz aa;have Z:=hj.below hc R.below;have q:=hs.below R.below;have I:∀x,D x->x<w.heap.size:=by
  obtain⟨S,U,f,h⟩:=hj;exact h.lt
 have X:=zmy hc ih w.heap.size (w.heap.size+1) n cap g o D N q (fun x L=>zpz (I x L) R.below.size) hn Y ac R.b0 R.b1 (fun h=>zq2 _ (I _ h)) (fun h=>by have:=I _ h;omega);have HT:=zz (ht O D ρ N.drew w.heap.size (w.heap.size+1) (Z.drew hc) hv hd ((q.zN _ zpP).below (Below.refl _ _).drew) ((q.XO _ zpP).mono fun g V=>⟨V.1,V.2⟩) (fun O1 D1 ρ1 w1 a1 a2 a3 a4 a5=>X O1 D1 ρ1 w1 a1 a2 a3 ⟨(zh.refl D N).drew.trans a4.1 fun x L _=>L,a4.2⟩ a5) hM);have ab:N.cell? ⟨g,o,none⟩=some s.val:=by
  obtain⟨b,o2,hA,_,hr⟩:=q.rd zp;injection hA with hA
  injection hA with ad V
  subst ad V;exact hr 0 _ rfl
 have V:¬D g/\g<N.heap.size:=q.off g (by simp[zw]);have H3:=zz (show ∀W,zh D N W->W.cell? ⟨w.heap.size,0,none⟩=some (.pointer (some ⟨c.sb,0,none⟩))/\W.cell? ⟨w.heap.size+1,0,none⟩=some (.slice (some ⟨g,o,none⟩) (n+1) cap)/\W.cell? ⟨g,o,none⟩=some s.val from fun W hW=>
  ⟨(R.b0.zC hW fun h=>zq2 _ (I _ h)).cell 0,(R.b1.zC hW fun h=>by have:=I _ h;omega).cell 0,(hW.cell (p:=⟨g,o,none⟩) V.2 V.1).trans ab⟩)
 have c1:=R.b1.cell 0;have hz:((n:Int)+1==0)=false:=zb;clear R aa Z q I X ab V hj hv hd hs ht ih;go_enter func109,ntmps109;go_upto_region 1 with fail
 rw[ae.o];go_upto_region 3 with fail
 clear c1;have ab:∀(fn:Fn)(first cap:Array Value)(w:World),(Instr.makeFunc fn first cap).run prog w=.ok (.func fn first cap) w:=fun _ _ _ _=>rfl
 refine xX [0,0,0,0,0,2] (fun W=>zh D N W) ?_
 repeat refine zS H3.o ?_
 refine xf fun K I=>?_
 cases s with
 |rows x m B aa X lo hi=>
  simp only[Sv.val];go_simp
  go_invoke
  go_simp;refine HT.o.mono ?_;intro e1 w2 q;have R:=zz (q.qt (zl HX.o.below (Below.refl _ _).drew));obtain⟨rfl,Z,-,V⟩:=q;refine I.out _ _ ((zh.refl D N).drew.trans V.1 fun x L _=>L) (fun _=>trivial) ?_;clear I K;try refine zQ ?_
  repeat refine zS H3.o ?_
  refine xt ?_;go_wp2;go_end0;exact R.o
 |Xm x m=>
  simp only[Sv.val];go_simp
  go_invoke
  go_simp;refine HT.o.mono ?_;intro e1 w2 q;have R:=zz (q.qt (zl HX.o.below (Below.refl _ _).drew));obtain⟨rfl,Z,-,V⟩:=q;refine I.out _ _ ((zh.refl D N).drew.trans V.1 fun x L _=>L) (fun _=>trivial) ?_;clear I K;try refine zQ ?_
  repeat refine zS H3.o ?_
  refine xt ?_;go_wp2;go_end0;exact R.o
 |test x=>
  simp only[Sv.val];go_simp
  go_invoke
  go_simp;refine HT.o.mono ?_;intro e1 w2 q;have R:=zz (q.qt (zl HX.o.below (Below.refl _ _).drew));obtain⟨rfl,Z,-,V⟩:=q;refine I.out _ _ ((zh.refl D N).drew.trans V.1 fun x L _=>L) (fun _=>trivial) ?_;clear I K;try refine zQ ?_
  repeat refine zS H3.o ?_
  refine xt ?_;go_wp2;go_end0;exact R.o
 |set v e=>
  simp only[Sv.val];go_simp
  go_invoke
  go_simp;refine HT.o.mono ?_;intro e1 w2 q;have R:=zz (q.qt (zl HX.o.below (Below.refl _ _).drew));obtain⟨rfl,Z,-,V⟩:=q;refine I.out _ _ ((zh.refl D N).drew.trans V.1 fun x L _=>L) (fun _=>trivial) ?_;clear I K;try refine zQ ?_
  repeat refine zS H3.o ?_
  refine xt ?_;go_wp2;go_end0;exact R.o
theorem zlU(Y:c.qT){l:List Sv}(h:Jy c K l):Dn c K l:=by
 induction h with
 |nil hg=>
  intro O D ρ w A n I W X R V N q L U;obtain rfl:n=0:=N.symm;exact znb Y hg O D ρ w A I W X R U
 |@cons K K' s l Z hr ih=>
  intro O D ρ w A n I W X R V N q L U;obtain⟨k,rfl⟩:∃k,n=k+1:=⟨l.length,by rw[<-N];rfl⟩;obtain⟨g,o,rfl,-,-⟩:=V.rd zp;exact zi9 Y ih Z k I g o O D ρ w W X R V (by simpa using N) q L U
theorem Yj.ok(h:Yj ρ):∀v x,ρ v=some x->x.ok:=fun v x q=>(h v x q).1
theorem Yj.bind(h:Yj ρ)(v:ByteArray){x:Vl}(I:x.ok/\x.val.wf):Yj (qR ρ v x):=fun u y q=>by
 rw[YG]at q;split at q
 ·injection q with q;exact q▸I
 ·exact h u y q
def J4(c:Cx)(e:Ex):Prop:=∀ρ x,Yj ρ->e.ev c.tk ρ=some x->x.val.wf
theorem Zo.below(L:c.qT){S U:Nat->Prop}{f:Value->Option Value}(h:Zo c O S U D f ρ w)(q:Bl w w'):Zo c O S U D f ρ w':=
 ⟨h.Xs.below q,L.zC _ _ (fun _=>False) _ _ h.out (zh.xj _ q) fun _ _ h=>h,h.map.below q,h.Y1,h.zH.below q,h.tk.below q (zpx _),h.ZB,h.V3,h.X3,h.YV,h.X6,h.sk,h.uk,h.su,fun g I=>zpz (h.lt g I) q.size⟩
theorem xB.kb{k:Nat}(q:D k)(h:zh (·=k) w w'):xB D w w' D:=⟨h.mono fun x I _=>I▸q,fun _ h=>.inl h⟩
theorem zdV(hc:c.qT){v:ByteArray}{e:Ex}(hv:v∉K)(ak:v.size<=maxLen)(af:e.ok 8)(X:e.zO.length<=1048576)(aq:J4 c e)(rest:List St):UF c K (K++[v]) (.set v e) rest:=by
 intro O D ρ w b2 b3 I L hd hl aa Z hM;obtain⟨S,U,f,h⟩:=I;obtain⟨W0,ab,hX⟩:=xi w 311 (.string v::e.cells).toArray;have ad:=zz ab;have HX:=zz hX;have N:=zz hX.b0;have R:=hX.below;have Y:=zaX W0 c.tk (h.tk.below R (zpx _)) ρ L.ok e (Ex.zN.below R hl) af X c.sb c.kb _ (h.zH.below R) rfl f (h.map.below R) h.Y1.known;have ar:=zz h.lt;have Hs:=zz h;have Hv:=zz L;have Hd:=zz hd;have aw:=zz Z;have al:=zz ak;have ay:=zz hv;have I:Kz (c.solve ((Sv.set v e).st::rest) ρ=match e.ev c.tk ρ with|some x=>c.solve rest (qR ρ v x)|none=>[]):=rfl;have ag:Kz (∀x,e.ev c.tk ρ=some x->x.ok/\x.val.wf):=fun x V=>⟨J1 L.ok af V,aq ρ x L V⟩
 obtain⟨r,hr⟩:∃r,e.ev c.tk ρ=r:=⟨_,rfl⟩;rw[hr]at Y I ag;obtain⟨ss,V⟩:∃ss,c.solve ((Sv.set v e).st::rest) ρ=ss:=⟨_,rfl⟩;rw[V]at I hM ⊢;have HM:=zz hM;have ac:=zz Y;clear h L hd Z ak hv hl aa R ab hX Y aq af X hr V hM;obtain⟨q,⟨v1,⟨k1,n1,s1⟩⟩,A1,Z,ae⟩:=e;simp only[Ex.cells]at N ad ac;show Calls _ 329 #[.agg #[.string v,.int .i8 q,.string v1,.int .i8 k1,.int .i64 n1,.string s1,.slice A1 ae.length Z],.pointer (some ⟨c.sb,0,none⟩),Gs b2 b3] w _;generalize ae.length=N1 at N ad ac;have c0:=N.o.cell 0;have c1:=N.o.cell 1;have c2:=N.o.cell 2;have c3:=N.o.cell 3;have c4:=N.o.cell 4;have c5:=N.o.cell 5;have c6:=N.o.cell 6
 rcases r with _ |⟨xk,R,Y⟩
 ·go_enter func329,ntmps329;go_upto_region 1 with fail
  rw[ad.o]
  go_wp2_with (go_at_call 328;refine ac.o.mono ?_;rintro e w1⟨⟨⟨xk,R,Y⟩,rfl⟩,ab⟩;simp only[Vl.cells];have aa:=zz (zl HX.o.below ab);clear ab c0 c1 c2 c3 c4 c5 c6)
  go_end0;have L:=zl aa.o (xq w1 (.cells #[.int .i8 xk,.int .i64 R,.string Y] 43));have V:ss=[]:=I.o;rw[V];exact⟨rfl,D,by rw[zp7];exact⟨S,U,f,Hs.o.below hc L⟩,xB.below L⟩
 ·have V:ss=c.solve rest (qR ρ v ⟨xk,R,Y⟩):=I.o;have aB:=zz (show O.length+(c.solve rest (qR ρ v ⟨xk,R,Y⟩)).length<=c.M from V▸HM.o);rw[V];have aA:=zz (ag.o _ rfl);clear V I ag;go_enter func329,ntmps329;go_upto_region 1 with fail
  rw[ad.o];go_upto_region 3 with(go_at_call 328;refine ac.o.mono ?_;rintro e w1⟨he,ab⟩;simp only[Vl.cells]at he;obtain rfl:=he;have aa:=zz ab;clear ab c0 c1 c2 c3 c4 c5 c6)
  obtain⟨W2,aj,L⟩:=xi w1 43 #[.int .i8 xk,.int .i64 R,.string Y];rw[aj];have ai:Bl w W2:=zl HX.o.below (zl aa.o L.below);have h2:=Hs.o.below hc ai;have ah:zD W2 w.heap.size 311 #[.string v,.int .i8 q,.string v1,.int .i8 k1,.int .i64 n1,.string s1,.slice A1 N1 Z]:=N.o.below (zl aa.o L.below);have am:c.kb<w.heap.size:=ar.o _ Hs.o.X3;have ao:w.heap.size<=w1.heap.size:=zpK HX.o.below.size aa.o.size;have H3:=zz (show ∀W,zh (·=c.kb) W2 W->W.cell? ⟨c.sb,1,none⟩=some (.map (some c.kb))/\W.cell? ⟨w.heap.size,0,none⟩=some (.string v)/\W.cell? ⟨w1.heap.size,0,none⟩=some (.int .i8 xk)/\W.cell? ⟨w1.heap.size,1,none⟩=some (.int .i64 R)/\W.cell? ⟨w1.heap.size,2,none⟩=some (.string Y)from fun W V=>
   ⟨(h2.zH.zC V fun e=>h2.YV (e▸h2.X3)).cell 1,(ah.zC V zd).cell 0,(L.b0.zC V zd).cell 0,(L.b0.zC V zd).cell 1,(L.b0.zC V zd).cell 2⟩)
  have H2:=zz h2;have au:=zz ah;have ax:=zz ai;have an:=zz am;clear h2 ah ai L aj am ao;refine xX [0,0,0,0,0,0,0,2] (fun W=>zh (·=c.kb) W2 W) ?_
  repeat refine zS H3.o ?_
  refine xf fun K hK=>?_
  refine Zy _ _ _ rfl (H2.o.map.same (w':=W2.drew) rfl) q8 underlying140 rfl (.string v) (.agg #[.int .i8 xk,.int .i64 R,.string Y]) _ rfl rfl (ye al.o) ?_;intro w3 ai ah;have L:zh (·=c.kb) W2 w3:=(zh.refl _ W2).drew.yu ah fun _=>rfl
  refine hK.out _ _ L (fun _=>trivial) ?_;clear hK K ah;try refine zQ ?_
  repeat refine zS H3.o ?_
  refine xt ?_;have az:=zz (H2.o.yu hc L ai (H2.o.Y1.bind v ⟨xk,R,Y⟩));have ao:=zz (show xB D w w3 D from(xB.below ax.o).trans (xB.kb H2.o.X3 L));have av:=zz (au.o.zC L (by have:=an.o;omega));have ah:=zz (aw.o O D (qR ρ v ⟨xk,R,Y⟩) w3 ⟨S,U,_,az.o⟩ (Hv.o.bind v aA.o) (zm5 Hd.o v _) ao.o aB.o);clear ai L;go_upto_region 5 with(go_at_call 172;refine ah.o.mono ?_;rintro e w5⟨rfl,D5,⟨S5,U5,f5,h5⟩,aj⟩;have L:=zz h5;have am:=zz aj;clear h5 aj)
  have ai:zD w5 w.heap.size 311 #[.string v,.int .i8 q,.string v1,.int .i8 k1,.int .i64 n1,.string s1,.slice A1 N1 Z]:=av.o.zC am.o.1 fun hd=>zq2 _ (ar.o _ hd)
  have H5:=zz (show ∀W,zh (·=c.kb) w5 W->W.cell? ⟨c.sb,1,none⟩=some (.map (some c.kb))/\W.cell? ⟨w.heap.size,0,none⟩=some (.string v)from fun W V=>⟨(L.o.zH.zC V fun e=>L.o.YV (e▸L.o.X3)).cell 1,(ai.zC V (by have:=an.o;omega)).cell 0⟩);clear ai;refine xX [0,0,0,0,0,0,2] (fun W=>zh (·=c.kb) w5 W) ?_
  repeat refine zS H5.o ?_
  refine xf fun K hK=>?_
  refine zev _ _ rfl (L.o.map.same (w':=w5.drew) rfl) q8 underlying140 rfl (.string v) _ rfl (ye al.o) ?_;intro w6 ap ai;have V:zh (·=c.kb) w5 w6:=(zh.refl _ w5).drew.yu ai fun _=>rfl
  refine hK.out _ _ V (fun _=>trivial) ?_;clear hK K ai;try refine zQ ?_
  repeat refine zS H5.o ?_
  refine xt ?_;have HE:=zz (show Zo c (O++c.solve rest (qR ρ v ⟨xk,R,Y⟩)) S5 U5 D5 _ ρ w6 from zkT Hd.o ay.o (⟨xk,R,Y⟩:Vl)▸L.o.yu hc V ap (L.o.Y1.drop v));have ai:=zz ((ao.o.trans am.o).trans (xB.kb L.o.X3 V));clear ap V;go_wp2;go_end0;exact⟨rfl,D5,⟨S5,U5,_,HE.o⟩,ai.o⟩
theorem y6.form{r:Option Vl}(h:y6 r w e w'):∃x:Vl,e=.returned (.tuple #[.agg x.cells.toArray,.bool r.isSome])/\(∀y,r=some y->y=x)/\Bl w w':=by
 rcases r with _|y
 ·obtain⟨⟨x,I⟩,q⟩:=h;exact⟨x,I,fun y L=>(by cases L),q⟩
 ·obtain⟨I,q⟩:=h;exact⟨y,I,fun z L=>(by injection L with L;exact L.symm),q⟩
theorem znN(hc:c.qT){x:Li}(aa:x.l.ok 8)(ab:x.r.ok 8)(aw:x.l.zO.length<=1048576)(aj:x.r.zO.length<=1048576)(am:1<=x.rl/\x.rl<=6)(rest:List St):UF c K K (.test x) rest:=by
 intro O D ρ w b2 b3 q I hd hl ad Y hM;obtain⟨S,U,f,h⟩:=q;obtain⟨W0,af,hX⟩:=xi w 309 x.cells.toArray;have ac:=zz af;have HX:=zz hX;have L:=zz hX.b0;have V:=hX.below;have R:=zz (zaX W0 c.tk (h.tk.below V (zpx _)) ρ I.ok x.l (Ex.zN.below V hl.l) aa aw c.sb c.kb _ (h.zH.below V) rfl f (h.map.below V) h.Y1.known);have N:=zz (fun W (q:Bl w W)=>zaX W c.tk (h.tk.below q (zpx _)) ρ I.ok x.r (Ex.zN.below q hl.r) ab aj c.sb c.kb _ (h.zH.below q) rfl f (h.map.below q) h.Y1.known);have Hs:=zz h;have aD:=zz (fun w1 (q:Bl w w1) X=>Y O D ρ w1 ⟨S,U,f,h.below hc q⟩ I hd (xB.below q) X);have q:Kz (c.solve ((Sv.test x).st::rest) ρ=match x.l.ev c.tk ρ,x.r.ev c.tk ρ with|some a,some b=>if Vg x.rl a b=true then c.solve rest ρ else []|_,_=>[]):=rfl;have az:Kz (∀a,x.l.ev c.tk ρ=some a->a.ok):=fun a X=>J1 I.ok aa X
 have ai:Kz (∀a,x.r.ev c.tk ρ=some a->a.ok):=fun a X=>J1 I.ok ab X
 have aA:=zz am;obtain⟨r1,Z⟩:∃r,x.l.ev c.tk ρ=r:=⟨_,rfl⟩;obtain⟨r2,X⟩:∃r,x.r.ev c.tk ρ=r:=⟨_,rfl⟩;rw[Z]at R q az;rw[X]at N q ai;obtain⟨ss,ae⟩:∃ss,c.solve ((Sv.test x).st::rest) ρ=ss:=⟨_,rfl⟩;rw[ae]at q hM ⊢;have HM:=zz hM;clear h I hd Y hl ad V af hX aa ab aw aj Z X ae am hM;obtain⟨k,⟨p,A,aK,af⟩,rl,⟨q1,⟨v1,⟨k1,n1,s1⟩⟩,A1,aq,ap⟩,⟨q2,⟨v2,⟨k2,n2,s2⟩⟩,A2,ay,ak⟩⟩:=x;simp only[Ex.cells,Li.cells,zpJ,zpI]at L ac R N;show Calls _ 327 #[.agg #[.int .i8 k,.string p,.slice A af.length aK,.int .i8 rl,.int .i8 q1,.string v1,.int .i8 k1,.int .i64 n1,.string s1,.slice A1 ap.length aq,.int .i8 q2,.string v2,.int .i8 k2,.int .i64 n2,.string s2,.slice A2 ak.length ay],.pointer (some ⟨c.sb,0,none⟩),Gs b2 b3] w _;generalize af.length=N0 at L ac R N;generalize ap.length=N1 at L ac R N;generalize ak.length=N2 at L ac R N;have c4:=L.o.cell 4;have c5:=L.o.cell 5;have c6:=L.o.cell 6;have c7:=L.o.cell 7;have c8:=L.o.cell 8;have X:=L.o.cell 9;obtain⟨aC,V⟩:∃b,r1.isSome=b:=⟨_,rfl⟩;obtain⟨aI,I⟩:∃b,r2.isSome=b:=⟨_,rfl⟩;have Y:=zz V;have Z:=zz I;clear V I;go_enter func327,ntmps327;go_upto_region 1 with fail
 rw[ac.o];go_upto_region 2 with(go_at_call 328;refine R.o.mono ?_;intro e w1 ar;obtain⟨⟨xk,xn,xs⟩,rfl,ax,aB⟩:=ar.form;rw[Y.o];simp only[Vl.cells];have aF:=zz ax;have au:=zz aB;clear aB ax ar c4 c5 c6 c7 c8 X)
 obtain⟨W2,X,V⟩:=xi w1 43 #[.int .i8 xk,.int .i64 xn,.string xs];rw[X];have an:Kz (Bl w W2):=zl HX.o.below (zl au.o V.below);have I:zD W2 w.heap.size 309 _:=L.o.below (zl au.o V.below);have aH:=zz I;have aG:=zz V.b0;have ae:=I.cell 10;have aJ:=I.cell 11;have ag:=I.cell 12;have aM:=I.cell 13;have ad:=I.cell 14;have aL:=I.cell 15;clear I V X;go_upto_region 3 with(go_at_call 328;refine(N.o _ an.o).mono ?_;intro e w3 av;obtain⟨⟨yk,yn,ys⟩,rfl,al,ao⟩:=av.form;rw[Z.o];simp only[Vl.cells];have aE:=zz al;have ah:=zz ao;clear ao al av ae aJ ag aM ad aL)
 obtain⟨W4,X,I⟩:=xi w3 43 #[.int .i8 yk,.int .i64 yn,.string ys];rw[X];have ad:Kz (Bl w W4):=zl an.o (zl ah.o I.below);have ae:=aH.o.below (zl ah.o I.below);have V:=aG.o.below (zl ah.o I.below);have c3:=ae.cell 3;have x0:=V.cell 0;have x1:=V.cell 1;have x2:=V.cell 2;have y0:=I.b0.cell 0;have y1:=I.b0.cell 1;have y2:=I.b0.cell 2;clear ae V I X
 cases aC with
 |false=>
  have V:=zz (show ss=[]from by
   obtain rfl:r1=none:=by have:=Y.o;simpa using this
   exact q.o)
  go_wp2;go_end0;rw[V.o];have I:=zl ad.o (Below.refl _ _);exact⟨rfl,D,by rw[zp7];exact⟨S,U,f,Hs.o.below hc I⟩,xB.below I⟩
 |true=>
  cases aI with
  |false=>
   have V:=zz (show ss=[]from by
    obtain rfl:r2=none:=by have:=Z.o;simpa using this
    have:=q.o
    rcases r1 with _|_<;>exact this)
   go_wp2;go_end0;rw[V.o];have I:=zl ad.o (Below.refl _ _);exact⟨rfl,D,by rw[zp7];exact⟨S,U,f,Hs.o.below hc I⟩,xB.below I⟩
  |true=>
   obtain⟨a,rfl⟩:=zqq.1 Y.o;obtain⟨b,rfl⟩:=zqq.1 Z.o;obtain rfl:=aF.o a rfl;obtain rfl:=aE.o b rfl;have X:ss=if Vg rl ⟨xk,xn,xs⟩ ⟨yk,yn,ys⟩=true then c.solve rest ρ else []:=q.o
   have Hh:=zz (ziB W4 rl ⟨xk,xn,xs⟩ ⟨yk,yn,ys⟩ (az.o _ rfl) (ai.o _ rfl) aA.o.1 aA.o.2);obtain⟨hh,ae⟩:∃b,Vg rl ⟨xk,xn,xs⟩ ⟨yk,yn,ys⟩=b:=⟨_,rfl⟩;rw[ae]at Hh X;have ag:=zz X;clear X ae q
   cases hh with
   |false=>
    have V:=zz (show ss=[]from by have:=ag.o;simpa using this)
    go_wp2_with (go_at_call 143;refine Hh.o.mono ?_;rintro e w5⟨rfl,X⟩;have ae:=zz X;clear X)
    go_end0;rw[V.o];have I:=zl ad.o ae.o;exact⟨rfl,D,by rw[zp7];exact⟨S,U,f,Hs.o.below hc I⟩,xB.below I⟩
   |true=>
    have I:=zz (show ss=c.solve rest ρ from by have:=ag.o;simpa using this)
    go_wp2_with (first
     |(go_at_call 143;refine Hh.o.mono ?_;rintro e w5⟨rfl,X⟩;have ae:=zz (zl ad.o X);clear X c3 x0 x1 x2 y0 y1 y2)
     |(go_at_call 172;refine(aD.o _ ae.o (I.o▸HM.o)).mono ?_;intro e w6 V;have HE:=zz (V.qt ae.o);obtain⟨rfl,-⟩:=V))
    go_end0;rw[I.o];exact HE.o
end
