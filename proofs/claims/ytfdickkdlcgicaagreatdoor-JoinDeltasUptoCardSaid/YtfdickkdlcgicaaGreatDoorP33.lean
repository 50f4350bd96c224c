/-
  Has a body too many ways (law13's many)? A run: goes. A run:
-/
import Derived.Test.YtfdickkdlcgicaaGreatDoorP32
set_option maxRecDepth 100000
set_option maxHeartbeats 8000000
set_option linter.all false
namespace Go.Proofs.YtfdickkdlcgicaaGreatDoor.C
open Go.Proofs.Tryz Go Go.RowKit Go.Maps Go.WideMaps
variable {D:Nat->Prop}{K:List ByteArray}{O:List Env}{c:Cx}{e:Ending}{w w':World}{ρ:Env}
section
theorem znI(w:World)(hP:Pw w)(L r:Nat)(p:ByteArray)(hp:p.size<=1048576)(B:Option Addr)(O zM:Nat)(body:List Li)(hn:body.length=O)(W:O<=1048576)(Y:zD w L 25 #[.string p,.slice none 0 0,.slice B O zM])(F:Option Addr)(R q:Nat)(fs:List Fa)(U:fs.length=R)(I:R<=1048576)(hl:zD w r 26 #[.slice F R q])(X:Z0 (fun _=>False) w B body)(Z:Ui w F fs)(h:YV body<=2097152):
 Calls prog 37 #[.int .i64 20000,.slice (some ⟨L,0,none⟩) 1 1,.slice (some ⟨r,0,none⟩) 1 1] w fun e N=>∃a:Int,e=.returned (.int .i64 a)/\Bl w N:=by
 have HC:=zz (zl3 w hP L r p hp B O zM body hn W Y F R q fs U I hl X Z h);clear hP Y hl X Z h;go_enter func37,ntmps37
 go_wp2_with (go_at_call 85;refine HC.o.mono ?_;rintro e w1⟨a,b,rfl,N⟩;have V:=zz N;clear N)
 go_returns;exact⟨_,rfl,V.o⟩
def Ye(fs:List Fa)(p:ByteArray):Nat:=fs.countP fun f=>decide (f.p=p)
theorem zd5(fs:List Fa)(f:Fa)(p:ByteArray):Ye (fs++[f]) p=Ye fs p+if f.p=p then 1 else 0:=by
 unfold Ye;rw[List.countP_append,List.countP_cons,List.countP_nil];simp
theorem DS(fs:List Fa)(p:ByteArray):Ye fs p<=fs.length:=List.countP_le_length
def zjI(body:List Li)(fs:List Fa)(w:World)(e:Ending)(w':World):Prop:=
 ∃b:Bool,e=.returned (.bool b)/\(b=false->mulL (X1 body (Ye fs)) (List.range body.length)<=2147483647)/\Bl w w'
theorem zld(w:World)(hP:Pw w)(B:Option Addr)(I zM:Nat)(body:List Li)(hn:body.length=I)(an:I<=1048576)(F:Option Addr)(L R:Nat)(fs:List Fa)(ae:fs.length=L)(X:L<=1048576)(hb:Z0 (fun _=>False) w B body)(hf:Ui w F fs)(O:YV body<=2097152):
 Calls prog 10 #[.slice B I zM,.slice F L R] w (zjI body fs w):=by
 have HP:=zz hP;have Hb:=zz hb;have Hf:=zz hf;have Hn:=zz (zpf hn ae);have ab:=zz O;clear hP hb hf hn ae O;go_enter func10,ntmps10;obtain⟨W1,aa,q⟩:=xj w 25 #[.string ⟨#[32]⟩,.slice none 0 0,.slice B I zM];obtain⟨W2,Z,U⟩:=xj W1 26 #[.slice F L R];have Y:=q.below;have V:=U.below;have k1:=q.b0.below V;have k2:=U.b0;have r:Bl w W2:=zu Y V;have HC:=zz (znI W2 (HP.o.below r) w.heap.size W1.heap.size ⟨#[32]⟩ zr B I zM body Hn.o.1 an k1 F L R fs Hn.o.2 X k2 (Hb.o.after ⟨zh.xi _ r,fun g N=>.inl N⟩) (Hf.o.below r) ab.o);have N:=zz r;clear q U Y V k1 k2 r
 go_wp2_with (go_at_call 37;refine HC.o.mono ?_;rintro e w3⟨a,rfl,ag⟩;have ai:=zz (zu N.o ag);clear ag aa Z)
 ·go_returns;exact⟨true,rfl,(fun h=>nomatch h),ai.o⟩
 ·go_loopg[5,6,7,8] I (fun gk U q Y s8 V=>∃(i m:Nat),i<=I/\gk=I-i/\U=.int .i64 (m:Int)/\q=.int .i64 (i:Int)/\m=mulL (X1 body (Ye fs)) (List.range i)/\m<=2147483647/\Bl w V)
  case atStart=>exact⟨0,1,zo5 _,rfl,rfl,rfl,rfl,zd,ai.o⟩
  case round=>
   obtain⟨i,m,hi,rfl,rfl,rfl,q,af,U⟩:=hrel;have HB:=zz U;have HM:=zz q;clear U q
   by_cases U:i<I
   ·have Z:i<body.length:=by rw[Hn.o.1];exact U
    obtain⟨bb,ob,rfl,ac,q⟩:=(Hb.o.rd.below HB.o).at Li.xF i Z;have p0:wr.cell? ⟨bb,ob+i*16,none⟩=some (.int .i8 body[i].k):=by simpa using q 0 _ rfl
    have p1:wr.cell? ⟨bb,ob+i*16+1,none⟩=some (.string body[i].a.p):=q 1 _ rfl
    by_cases aa:body[i].k=1
    ·have ak:=zz p1;have ao:=zz ac;clear q p1 ac;go_wp2;clear p0
     go_loopg[7,8] L (fun gk Y s8 V=>∃(j k:Nat),j<=L/\gk=L-j/\Y=.int .i64 (k:Int)/\s8=.int .i64 (j:Int)/\k=Ye (fs.take j) body[i].a.p/\Bl wr V/\k<=j)
     case atStart=>exact⟨0,0,zo5 _,rfl,rfl,rfl,rfl,Below.refl _ _,zoZ _⟩
     case round=>
      obtain⟨j,k,hj,rfl,rfl,rfl,V,r,aq⟩:=hrel;have Hk:=zz V;have N:=zz r;clear r V
      by_cases r:j<L
      ·have ad:j<fs.length:=by rw[Hn.o.2];exact r
       have ah:Kz (Bl w wr):=zu HB.o N.o;obtain⟨bf,Y,rfl,al,q⟩:=(Hf.o.rd.below ah.o).at (c:=1) (fun _=>rfl) j ad;have q0:wr.cell? ⟨bf,Y+j*2,none⟩=some (.string fs[j].p):=by simpa using q 0 _ rfl
       have am:Kz (∀W,Bl wr W->W.cell? ⟨bf,Y+j*2,none⟩=some (.string fs[j].p)/\W.cell? ⟨bb,ob+i*16+1,none⟩=some (.string body[i].a.p)/\(j:Int)<(L:Int)/\j<L/\(i:Int)<(I:Int)/\i<I):=fun W V=>⟨(V.cell (p:=⟨bf,Y+j*2,none⟩) al).trans q0,((zu N.o V).cell (p:=⟨bb,ob+i*16+1,none⟩) ao.o).trans ak.o,zd,r,zd,U⟩
       have V:Ye (fs.take (j+1)) body[i].a.p=Ye (fs.take j) body[i].a.p+if fs[j].p=body[i].a.p then 1 else 0:=by
        rw[zo4 ad,zd5]
       have ap:=zz V;clear q0 q V;go_upto_region 12 with fail
       refine xX [0,0,0,0,0,0,0,0,0,0,0,0] (fun W=>Bl wr W) ?_
       repeat refine zT am.o ?_
       refine xu ?_;have aj:=zz (zu N.o (Below.refl _ _).drew);have V:=ap.o
       by_cases he:fs[j].p=body[i].a.p
       ·rw[if_pos he]at V;rw[bytes_beq,qs he];go_wp2
        go_roundg (L-(j+1))
        case measure=>omega
        case rel=>exact⟨j+1,k+1,r,rfl,ze,ze,by rw[V,<-Hk.o],aj.o,zd⟩
       ·rw[if_neg he]at V;rw[bytes_beq,qt he];go_wp2
        go_roundg (L-(j+1))
        case measure=>omega
        case rel=>exact⟨j+1,k,r,rfl,rfl,ze,by rw[V,<-Hk.o];rfl,aj.o,zd⟩
      ·obtain rfl:j=L:=zd;have HK:=zz (show k=Ye fs body[i].a.p by have:=Hk.o;rwa [zpm (zqC Hn.o.2)]at this);have Y:=zz (zu HB.o N.o);have V:=zeo (X1 body (Ye fs)) i;rw[GA Z aa,<-HK.o,<-HM.o]at V;have ad:=zz V;have hq:=Nat.div_mul_le_self 2147483647 k;clear V
       by_cases ah:k=0
       ·subst ah;go_wp2
        go_roundg (I-(i+1))
        case measure=>omega
        case rel=>exact⟨i+1,0,U,rfl,by simp[wrap64],ze,by rw[ad.o];rfl,zd,Y.o⟩
       ·have V:((2147483647:Int) / (k:Int))=((2147483647 / k:Nat):Int):=rfl;have aa:0<k:=zd
        by_cases hd:2147483647 / k<m
        ·have al:((2147483647:Int) / (k:Int))<(m:Int):=by rw[V];omega
         clear V;go_wp2;go_returns;exact⟨true,rfl,(fun h=>nomatch h),Y.o⟩
        ·have al:¬(((2147483647:Int) / (k:Int))<(m:Int)):=by rw[V];omega
         clear V;have aj:m*k<=2147483647:=zpd (zp9 k (Nat.le_of_not_lt hd)) hq;clear hq;go_wp2
         go_roundg (I-(i+1))
         case measure=>omega
         case rel=>exact⟨i+1,m*k,U,rfl,by exact congrArg (Value.int .i64) (Int.natCast_mul m k).symm,ze,ad.o.symm,aj,Y.o⟩
    ·go_wp2
     go_roundg (I-(i+1))
     case measure=>omega
     case rel=>exact⟨i+1,m,U,rfl,rfl,ze,by rw[zeo,zdg Z aa,zqb];exact HM.o,af,HB.o⟩
   ·obtain rfl:i=I:=zd;go_wp2;go_returns;exact⟨false,rfl,fun _=>by rw[Hn.o.1,<-HM.o];exact af,HB.o⟩
def Sv.agg:Sv->Value
 |.rows x m B h q r I=>.agg #[.string x.p,.slice x.A x.args.length x.cap,.int .u32 (m:Int),.slice B q.length h,.int .i64 (r:Int),.int .i64 (I:Int)]
 |.Xb x m=>.agg #[.string x.p,.slice x.A x.args.length x.cap,.int .u32 (m:Int)]
 |.test x=>.agg x.cells.toArray
 |.set v e=>.agg (.string v::e.cells).toArray
def Sv.fn:Sv->FuncId
 |.rows ..=>330
 |.Xb ..=>319
 |.test ..=>327
 |.set ..=>329
abbrev Gc(q h:Nat):Value:=.func (.func 172) #[] #[.pointer (some ⟨q,0,none⟩),.pointer (some ⟨h,0,none⟩)]
def zdF(c:Cx)(K:List ByteArray)(rest:List St)(L N:Nat)(D:Nat->Prop)(w:World):Prop:=∀r I h q,JS c r I h q->X4 h->XV h K->xB D w q I->r.length+(c.solve rest h).length<=c.M->
 Calls prog 172 #[.pointer (some ⟨L,0,none⟩),.pointer (some ⟨N,0,none⟩)] q (ZM c r I h (c.solve rest h) q)
def Ur(c:Cx)(K r:List ByteArray)(s:Sv)(rest:List St):Prop:=∀O D ρ w h q,JS c O D ρ w->X4 ρ->XV ρ K->s.zO w->(s.off fun g=>¬D g/\g<w.heap.size)->zdF c r rest h q D w->O.length+(c.solve (s.st::rest) ρ).length<=c.M->
 Calls prog s.fn #[s.agg,.pointer (some ⟨c.sb,0,none⟩),Gc h q] w (ZM c O D ρ (c.solve (s.st::rest) ρ) w)
def GN(c:Cx)(K:List ByteArray):Prop:=(∀W,(callFunc c.gf c.Uh).run prog W=.ok (.enter c.gf c.Uh) W)/\∀O D ρ w,JS c O D ρ w->X4 ρ->XV ρ K->O.length+1<=c.M->Calls prog c.gf c.Uh w (ZM c O D ρ [ρ] w)
inductive Jh (c:Cx):List ByteArray->List Sv->Prop
 |nil {K:List ByteArray} (h:GN c K):Jh c K []
 |cons {K K':List ByteArray} {s:Sv} {l:List Sv} (h:Ur c K K' s (l.map Sv.st)) (hr:Jh c K' l):Jh c K (s::l)
theorem JS.drew(q:c.qL)(h:JS c O D ρ w):JS c O D ρ w.drew:=h.below q (Below.refl _ _).drew
theorem Sv.off.mono{Q Q':Nat->Prop}(h:∀g,Q g->Q' g){s:Sv}(q:s.off Q):s.off Q':=by
 cases s with
 |rows x m B L I N O=>exact⟨fun g r=>h g (q.1 g r),fun g r=>h g (q.2 g r)⟩
 |Xb x m=>exact fun g r=>h g (q g r)
 |test x=>exact⟨fun g r=>h g (q.1 g r),q.2.1.mono h,q.2.2.mono h⟩
 |set v e=>exact Ex.off.mono h q
theorem Steps.below{W:World}{A:Option Addr}{l:List Sv}(h:Steps w D A l)(r:Bl w W):Steps W D A l:=
 ⟨h.rd.below r,fun g q=>⟨(h.off g q).1,zo0 (h.off g q).2 r.size⟩,fun s I=>(h.zO s I).below r,fun s I=>(h.XD s I).mono fun g q=>⟨q.1,zo0 q.2 r.size⟩⟩
theorem ZM.qq{es:List Env}{q:World}(h:ZM c O D ρ es q e w')(L:Bl w q):ZM c O D ρ es w e w':=by
 obtain⟨rfl,N,I,r⟩:=h;exact⟨rfl,N,I,(xB.below L).trans r⟩
theorem zmC(Z:c.qL)(I:GN c K)(O:List Env)(D:Nat->Prop)(ρ:Env)(w:World)(A:Option Addr)(cap:Nat)(h:JS c O D ρ w)(W:X4 ρ)(N:XV ρ K)(X:O.length+1<=c.M):
 Calls prog 109 #[.pointer (some ⟨c.sb,0,none⟩),.slice A 0 cap] w (ZM c O D ρ [ρ] w):=by
 obtain⟨R,r,q⟩:=ya w 139 221 #[.pointer (some ⟨c.sb,0,none⟩)] #[.slice A 0 cap];have HX:=zz q;have L:=zz r;have c0:=q.b0.cell 0;have c1:=q.b1.cell 0;have V:=I.1;have Y:=zz (I.2 O D ρ R (h.below Z q.below) W N X);have hs:R.cell? ⟨c.sb,2,none⟩=some (.func (.func c.gf) #[] c.Uh):=by
  obtain⟨S,U,f,h⟩:=h;exact(h.zG.below q.below).cell 2
 clear q r h W N I;go_enter func109,ntmps109;go_upto_region 1 with fail
 rw[L.o]
 go_wp2_with (refine Y.o.mono ?_;intro e w1 q;have r:=zz (q.qq HX.o.below);obtain⟨rfl,-⟩:=q)
 go_end0;exact r.o
theorem zhJ{P:Program}{e t:TypeId}{size:Nat}(q:P.underlying t=some (.slice e))(r:∀W,(Go.sizeOf e).run P W=.ok size W)(g o n cap:Nat)(h:n+1<=cap):
 ∃I,(∀W,(Instr.slice t (.slice (some ⟨g,o,none⟩) (n+1) cap) (some (.int .i64 1)) none none).run P W=.ok (.slice (some ⟨g,I,none⟩) n (cap-1)) W)/\(1<=n->I=o+size):=by
 by_cases I:cap=1
 ·refine⟨o,fun W=>?_,fun L=>zd⟩;have L:n=0:=zd;subst L I;simp[Instr.slice,run_underlying q,Instr.sliceBounds,Instr.sliceBound,asIntOf,r,Result.andThen]
 ·refine⟨o+size,fun W=>?_,fun _=>rfl⟩;have e4:(n:Int)+1-1=n:=zd;have e5:¬((n:Int)+1<1):=zd;have e6:(1:Int)<=(n:Int)+1:=zd;simp[Instr.slice,run_underlying q,Instr.sliceBounds,Instr.sliceBound,asIntOf,r,Result.andThen,I,e4,e5,e6,Addr.add_mid,h]
def TX(c:Cx)(K:List ByteArray)(l:List Sv):Prop:=∀O D ρ w A n h,JS c O D ρ w->X4 ρ->XV ρ K->Steps w D A l->l.length=n->n<=h->n<=1048576->O.length+(c.solve (l.map Sv.st) ρ).length<=c.M->
 Calls prog 109 #[.pointer (some ⟨c.sb,0,none⟩),.slice A n h] w (ZM c O D ρ (c.solve (l.map Sv.st) ρ) w)
theorem zl0(hc:c.qL){s:Sv}{l:List Sv}(ih:TX c K l)(b2 b3 n cap:Nat)(g o:Nat)(D:Nat->Prop)(w:World)(R:Steps w D (some ⟨g,o,none⟩) (s::l))(hD:∀x,D x->x<w.heap.size)(hn:l.length=n)(Y:n+1<=cap)(ai:n+1<=1048576)(V:zD w b2 139 #[.pointer (some ⟨c.sb,0,none⟩)])(h3:zD w b3 221 #[.slice (some ⟨g,o,none⟩) (n+1) cap])(U:¬D b2)(X:¬D b3):zdF c K (l.map Sv.st) b2 b3 D w:=by
 intro O1 O ρ1 L hj hv hd N hM;obtain⟨o',ah,Z⟩:=zhJ (P:=prog) underlying221 (fun W=>sizeOf223 W) g o n cap Y;have I:Steps L O (some ⟨g,o',none⟩) l:=by
  have q:∀x,(¬D x/\x<w.heap.size)->(¬O x/\x<L.heap.size):=fun x r=>⟨fun h=>(N.2 x h).elim r.1 fun aa=>zd,zo0 r.2 N.1.size⟩
  refine⟨?_,fun x r=>q x (R.off x r),fun y hy=>(R.zO y (zpj _ hy)).kept N.1 ((R.XD y (zpj _ hy)).mono fun x r=>r.1),fun y hy=>(R.XD y (zpj _ hy)).mono q⟩;have ag:zY J4 L (some ⟨g,o,none⟩) (s::l):=R.rd.kept N.1 fun x r=>(R.off x r).1
  intro ac;obtain⟨b,o2,hA,ab,hr⟩:=ag zp;injection hA with hA
  injection hA with ad af
  subst ad af;have ae:1<=n:=by
   rcases l with _ |⟨y,l⟩
   ·exact absurd rfl ac
   ·rw[<-hn];simp
  refine⟨g,o',rfl,ab,?_⟩;rw[Z ae];intro j v hj;have:=hr (1+j) v (by rw[zps,zpS zp];simpa using hj);rw[zqd];exact this
 have q:∀x,x<w.heap.size->¬D x->¬O x:=fun x r hn h=>(N.2 x h).elim hn fun aa=>zd
 have H0:Kz (∀W,zh O L W->W.cell? ⟨b2,0,none⟩=some (.pointer (some ⟨c.sb,0,none⟩))/\W.cell? ⟨b3,0,none⟩=some (.slice (some ⟨g,o,none⟩) (n+1) cap)):=fun W hW=>⟨((V.zC N.1 U).zC hW (q _ V.lt U)).cell 0,((h3.zC N.1 X).zC hW (q _ h3.lt X)).cell 0⟩
 have HG:=zz (ih O1 O ρ1 L.drew (some ⟨g,o',none⟩) n (cap-1) (hj.drew hc) hv hd (I.below (Below.refl _ _).drew) hn zd (zd) hM);clear q hj hv hd N I Z R V h3 ih;go_enter func172,ntmps172;refine xX [0,0,0,2] (fun W=>zh O L W) ?_
 repeat refine zT H0.o ?_
 refine xc fun K I=>?_
 go_simp;refine HG.o.mono ?_;intro e w2 q;have N:=zz (q.qq (Below.refl _ L).drew);obtain⟨rfl,Z,-,V⟩:=q;refine I.out _ _ ((zh.refl O L).drew.trans V.1 fun x r _=>r) (fun _=>trivial) ?_;clear I K;try refine zQ ?_
 repeat refine zT H0.o ?_
 refine xu ?_;go_wp2;go_end0;exact N.o
theorem ziD(hc:c.qL){K':List ByteArray}{s:Sv}{l:List Sv}(ih:TX c K' l)(ht:Ur c K K' s (l.map Sv.st))(n cap g o:Nat)(O:List Env)(D:Nat->Prop)(ρ:Env)(w:World)(hj:JS c O D ρ w)(hv:X4 ρ)(hd:XV ρ K)(hs:Steps w D (some ⟨g,o,none⟩) (s::l))(hn:l.length=n)(X:n+1<=cap)(ac:n+1<=1048576)(hM:O.length+(c.solve (s.st::l.map Sv.st) ρ).length<=c.M):
 Calls prog 109 #[.pointer (some ⟨c.sb,0,none⟩),.slice (some ⟨g,o,none⟩) (n+1) cap] w (ZM c O D ρ (c.solve (s.st::l.map Sv.st) ρ) w):=by
 obtain⟨L,aa,N⟩:=ya w 139 221 #[.pointer (some ⟨c.sb,0,none⟩)] #[.slice (some ⟨g,o,none⟩) (n+1) cap];have HX:=zz N;have ae:=zz aa;have Y:=hj.below hc N.below;have q:=hs.below N.below;have r:∀x,D x->x<w.heap.size:=by
  obtain⟨S,U,f,h⟩:=hj;exact h.lt
 have V:=zl0 hc ih w.heap.size (w.heap.size+1) n cap g o D L q (fun x I=>zo0 (r x I) N.below.size) hn X ac N.b0 N.b1 (fun h=>zqq _ (r _ h)) (fun h=>by have:=r _ h;omega);have HT:=zz (ht O D ρ L.drew w.heap.size (w.heap.size+1) (Y.drew hc) hv hd ((q.zO _ zpi).below (Below.refl _ _).drew) ((q.XD _ zpi).mono fun g R=>⟨R.1,R.2⟩) (fun O1 D1 ρ1 w1 a1 a2 a3 Z a5=>V O1 D1 ρ1 w1 a1 a2 a3 ⟨(zh.refl D L).drew.trans Z.1 fun x I _=>I,Z.2⟩ a5) hM);have ab:L.cell? ⟨g,o,none⟩=some s.val:=by
  obtain⟨b,o2,Z,_,hr⟩:=q.rd zp;injection Z with Z
  injection Z with ad R
  subst ad R;exact hr 0 _ rfl
 have R:¬D g/\g<L.heap.size:=q.off g (by simp[zw]);have Z:=zz (show ∀W,zh D L W->W.cell? ⟨w.heap.size,0,none⟩=some (.pointer (some ⟨c.sb,0,none⟩))/\W.cell? ⟨w.heap.size+1,0,none⟩=some (.slice (some ⟨g,o,none⟩) (n+1) cap)/\W.cell? ⟨g,o,none⟩=some s.val from fun W hW=>
  ⟨(N.b0.zC hW fun h=>zqq _ (r _ h)).cell 0,(N.b1.zC hW fun h=>by have:=r _ h;omega).cell 0,(hW.cell (p:=⟨g,o,none⟩) R.2 R.1).trans ab⟩)
 have c1:=N.b1.cell 0;have hz:((n:Int)+1==0)=false:=zb;clear N aa Y q r V ab R hj hv hd hs ht ih;go_enter func109,ntmps109;go_upto_region 1 with fail
 rw[ae.o];go_upto_region 3 with fail
 clear c1;have ab:∀(fn:Fn)(first cap:Array Value)(w:World),(Instr.makeFunc fn first cap).run prog w=.ok (.func fn first cap) w:=fun _ _ _ _=>rfl
 refine xX [0,0,0,0,0,2] (fun W=>zh D L W) ?_
 repeat refine zT Z.o ?_
 refine xc fun K r=>?_
 cases s with
 |rows x m B aa V lo hi=>
  simp only[Sv.val];go_simp
  go_invoke
  go_simp;refine HT.o.mono ?_;intro e1 w2 q;have N:=zz (q.qq (zu HX.o.below (Below.refl _ _).drew));obtain⟨rfl,Y,-,R⟩:=q;refine r.out _ _ ((zh.refl D L).drew.trans R.1 fun x I _=>I) (fun _=>trivial) ?_;clear r K;try refine zQ ?_
  repeat refine zT Z.o ?_
  refine xu ?_;go_wp2;go_end0;exact N.o
 |Xb x m=>
  simp only[Sv.val];go_simp
  go_invoke
  go_simp;refine HT.o.mono ?_;intro e1 w2 q;have N:=zz (q.qq (zu HX.o.below (Below.refl _ _).drew));obtain⟨rfl,Y,-,R⟩:=q;refine r.out _ _ ((zh.refl D L).drew.trans R.1 fun x I _=>I) (fun _=>trivial) ?_;clear r K;try refine zQ ?_
  repeat refine zT Z.o ?_
  refine xu ?_;go_wp2;go_end0;exact N.o
 |test x=>
  simp only[Sv.val];go_simp
  go_invoke
  go_simp;refine HT.o.mono ?_;intro e1 w2 q;have N:=zz (q.qq (zu HX.o.below (Below.refl _ _).drew));obtain⟨rfl,Y,-,R⟩:=q;refine r.out _ _ ((zh.refl D L).drew.trans R.1 fun x I _=>I) (fun _=>trivial) ?_;clear r K;try refine zQ ?_
  repeat refine zT Z.o ?_
  refine xu ?_;go_wp2;go_end0;exact N.o
 |set v e=>
  simp only[Sv.val];go_simp
  go_invoke
  go_simp;refine HT.o.mono ?_;intro e1 w2 q;have N:=zz (q.qq (zu HX.o.below (Below.refl _ _).drew));obtain⟨rfl,Y,-,R⟩:=q;refine r.out _ _ ((zh.refl D L).drew.trans R.1 fun x I _=>I) (fun _=>trivial) ?_;clear r K;try refine zQ ?_
  repeat refine zT Z.o ?_
  refine xu ?_;go_wp2;go_end0;exact N.o
theorem zlm(X:c.qL){l:List Sv}(h:Jh c K l):TX c K l:=by
 induction h with
 |nil Z=>
  intro O D ρ w A n r V W N U L q I R;obtain rfl:n=0:=L.symm;exact zmC X Z O D ρ w A r V W N R
 |@cons K K' s l Y hr ih=>
  intro O D ρ w A n r V W N U L q I R;obtain⟨k,rfl⟩:∃k,n=k+1:=⟨l.length,by rw[<-L];rfl⟩;obtain⟨g,o,rfl,-,-⟩:=U.rd zp;exact ziD X ih Y k r g o O D ρ w V W N U (by simpa using L) q I R
theorem X4.ok(h:X4 ρ):∀v x,ρ v=some x->x.ok:=fun v x q=>(h v x q).1
theorem X4.bind(h:X4 ρ)(v:ByteArray){x:Vl}(r:x.ok/\x.val.wf):X4 (qK ρ v x):=fun u y q=>by
 rw[Yw]at q;split at q
 ·injection q with q;exact q▸r
 ·exact h u y q
def JP(c:Cx)(e:Ex):Prop:=∀ρ x,X4 ρ->e.ev c.tk ρ=some x->x.val.wf
theorem Zg.below(I:c.qL){S U:Nat->Prop}{f:Value->Option Value}(h:Zg c O S U D f ρ w)(q:Bl w w'):Zg c O S U D f ρ w':=
 ⟨h.Yv.below q,I.zC _ _ (fun _=>False) _ _ h.out (zh.xi _ q) fun _ _ h=>h,h.map.below q,h.YO,h.zG.below q,h.tk.below q (zoZ _),h.Zs,h.VS,h.XP,h.YX,h.XS,h.sk,h.uk,h.su,fun g r=>zo0 (h.lt g r) q.size⟩
theorem xB.kb{k:Nat}(q:D k)(h:zh (·=k) w w'):xB D w w' D:=⟨h.mono fun x r _=>r▸q,fun _ h=>.inl h⟩
theorem zdl(hc:c.qL){v:ByteArray}{e:Ex}(hv:v∉K)(ak:v.size<=maxLen)(af:e.ok 8)(X:e.zN.length<=1048576)(aq:JP c e)(rest:List St):Ur c K (K++[v]) (.set v e) rest:=by
 intro O D ρ w b2 b3 I L hd hl aa Z hM;obtain⟨S,U,f,h⟩:=I;obtain⟨W0,ab,hX⟩:=xj w 311 (.string v::e.cells).toArray;have ad:=zz ab;have HX:=zz hX;have N:=zz hX.b0;have R:=hX.below;have Y:=zaA W0 c.tk (h.tk.below R (zoZ _)) ρ L.ok e (Ex.zO.below R hl) af X c.sb c.kb _ (h.zG.below R) rfl f (h.map.below R) h.YO.known;have ar:=zz h.lt;have Hs:=zz h;have Hv:=zz L;have Hd:=zz hd;have aw:=zz Z;have al:=zz ak;have ay:=zz hv;have I:Kz (c.solve ((Sv.set v e).st::rest) ρ=match e.ev c.tk ρ with|some x=>c.solve rest (qK ρ v x)|none=>[]):=rfl;have ag:Kz (∀x,e.ev c.tk ρ=some x->x.ok/\x.val.wf):=fun x V=>⟨JM L.ok af V,aq ρ x L V⟩
 obtain⟨r,hr⟩:∃r,e.ev c.tk ρ=r:=⟨_,rfl⟩;rw[hr]at Y I ag;obtain⟨ss,V⟩:∃ss,c.solve ((Sv.set v e).st::rest) ρ=ss:=⟨_,rfl⟩;rw[V]at I hM ⊢;have HM:=zz hM;have ac:=zz Y;clear h L hd Z ak hv hl aa R ab hX Y aq af X hr V hM;obtain⟨q,⟨v1,⟨k1,n1,s1⟩⟩,A1,Z,ae⟩:=e;simp only[Ex.cells]at N ad ac;show Calls _ 329 #[.agg #[.string v,.int .i8 q,.string v1,.int .i8 k1,.int .i64 n1,.string s1,.slice A1 ae.length Z],.pointer (some ⟨c.sb,0,none⟩),Gc b2 b3] w _;generalize ae.length=N1 at N ad ac;have c0:=N.o.cell 0;have c1:=N.o.cell 1;have c2:=N.o.cell 2;have c3:=N.o.cell 3;have c4:=N.o.cell 4;have c5:=N.o.cell 5;have c6:=N.o.cell 6
 rcases r with _ |⟨xk,R,Y⟩
 ·go_enter func329,ntmps329;go_upto_region 1 with fail
  rw[ad.o]
  go_wp2_with (go_at_call 328;refine ac.o.mono ?_;rintro e w1⟨⟨⟨xk,R,Y⟩,rfl⟩,ab⟩;simp only[Vl.cells];have aa:=zz (zu HX.o.below ab);clear ab c0 c1 c2 c3 c4 c5 c6)
  go_end0;have L:=zu aa.o (xo w1 (.cells #[.int .i8 xk,.int .i64 R,.string Y] 43));have V:ss=[]:=I.o;rw[V];exact⟨rfl,D,by rw[zpw];exact⟨S,U,f,Hs.o.below hc L⟩,xB.below L⟩
 ·have V:ss=c.solve rest (qK ρ v ⟨xk,R,Y⟩):=I.o;have aB:=zz (show O.length+(c.solve rest (qK ρ v ⟨xk,R,Y⟩)).length<=c.M from V▸HM.o);rw[V];have aA:=zz (ag.o _ rfl);clear V I ag;go_enter func329,ntmps329;go_upto_region 1 with fail
  rw[ad.o];go_upto_region 3 with(go_at_call 328;refine ac.o.mono ?_;rintro e w1⟨he,ab⟩;simp only[Vl.cells]at he;obtain rfl:=he;have aa:=zz ab;clear ab c0 c1 c2 c3 c4 c5 c6)
  obtain⟨W2,aj,L⟩:=xj w1 43 #[.int .i8 xk,.int .i64 R,.string Y];rw[aj];have ai:Bl w W2:=zu HX.o.below (zu aa.o L.below);have h2:=Hs.o.below hc ai;have ah:zD W2 w.heap.size 311 #[.string v,.int .i8 q,.string v1,.int .i8 k1,.int .i64 n1,.string s1,.slice A1 N1 Z]:=N.o.below (zu aa.o L.below);have am:c.kb<w.heap.size:=ar.o _ Hs.o.XP;have ao:w.heap.size<=w1.heap.size:=zpd HX.o.below.size aa.o.size;have H3:=zz (show ∀W,zh (·=c.kb) W2 W->W.cell? ⟨c.sb,1,none⟩=some (.map (some c.kb))/\W.cell? ⟨w.heap.size,0,none⟩=some (.string v)/\W.cell? ⟨w1.heap.size,0,none⟩=some (.int .i8 xk)/\W.cell? ⟨w1.heap.size,1,none⟩=some (.int .i64 R)/\W.cell? ⟨w1.heap.size,2,none⟩=some (.string Y)from fun W V=>
   ⟨(h2.zG.zC V fun e=>h2.YX (e▸h2.XP)).cell 1,(ah.zC V zd).cell 0,(L.b0.zC V zd).cell 0,(L.b0.zC V zd).cell 1,(L.b0.zC V zd).cell 2⟩)
  have H2:=zz h2;have au:=zz ah;have ax:=zz ai;have an:=zz am;clear h2 ah ai L aj am ao;refine xX [0,0,0,0,0,0,0,2] (fun W=>zh (·=c.kb) W2 W) ?_
  repeat refine zT H3.o ?_
  refine xc fun K hK=>?_
  refine Zp _ _ _ rfl (H2.o.map.same (w':=W2.drew) rfl) qT underlying140 rfl (.string v) (.agg #[.int .i8 xk,.int .i64 R,.string Y]) _ rfl rfl (qY al.o) ?_;intro w3 ai ah;have L:zh (·=c.kb) W2 w3:=(zh.refl _ W2).drew.yi ah fun _=>rfl
  refine hK.out _ _ L (fun _=>trivial) ?_;clear hK K ah;try refine zQ ?_
  repeat refine zT H3.o ?_
  refine xu ?_;have az:=zz (H2.o.yi hc L ai (H2.o.YO.bind v ⟨xk,R,Y⟩));have ao:=zz (show xB D w w3 D from(xB.below ax.o).trans (xB.kb H2.o.XP L));have av:=zz (au.o.zC L (by have:=an.o;omega));have ah:=zz (aw.o O D (qK ρ v ⟨xk,R,Y⟩) w3 ⟨S,U,_,az.o⟩ (Hv.o.bind v aA.o) (zmx Hd.o v _) ao.o aB.o);clear ai L;go_upto_region 5 with(go_at_call 172;refine ah.o.mono ?_;rintro e w5⟨rfl,D5,⟨S5,U5,f5,h5⟩,aj⟩;have L:=zz h5;have am:=zz aj;clear h5 aj)
  have ai:zD w5 w.heap.size 311 #[.string v,.int .i8 q,.string v1,.int .i8 k1,.int .i64 n1,.string s1,.slice A1 N1 Z]:=av.o.zC am.o.1 fun hd=>zqq _ (ar.o _ hd)
  have H5:=zz (show ∀W,zh (·=c.kb) w5 W->W.cell? ⟨c.sb,1,none⟩=some (.map (some c.kb))/\W.cell? ⟨w.heap.size,0,none⟩=some (.string v)from fun W V=>⟨(L.o.zG.zC V fun e=>L.o.YX (e▸L.o.XP)).cell 1,(ai.zC V (by have:=an.o;omega)).cell 0⟩);clear ai;refine xX [0,0,0,0,0,0,2] (fun W=>zh (·=c.kb) w5 W) ?_
  repeat refine zT H5.o ?_
  refine xc fun K hK=>?_
  refine zdV _ _ rfl (L.o.map.same (w':=w5.drew) rfl) qT underlying140 rfl (.string v) _ rfl (qY al.o) ?_;intro w6 ap ai;have V:zh (·=c.kb) w5 w6:=(zh.refl _ w5).drew.yi ai fun _=>rfl
  refine hK.out _ _ V (fun _=>trivial) ?_;clear hK K ai;try refine zQ ?_
  repeat refine zT H5.o ?_
  refine xu ?_;have HE:=zz (show Zg c (O++c.solve rest (qK ρ v ⟨xk,R,Y⟩)) S5 U5 D5 _ ρ w6 from zkk Hd.o ay.o (⟨xk,R,Y⟩:Vl)▸L.o.yi hc V ap (L.o.YO.drop v));have ai:=zz ((ao.o.trans am.o).trans (xB.kb L.o.XP V));clear ap V;go_wp2;go_end0;exact⟨rfl,D5,⟨S5,U5,_,HE.o⟩,ai.o⟩
theorem yV.form{r:Option Vl}(h:yV r w e w'):∃x:Vl,e=.returned (.tuple #[.agg x.cells.toArray,.bool r.isSome])/\(∀y,r=some y->y=x)/\Bl w w':=by
 rcases r with _|y
 ·obtain⟨⟨x,I⟩,q⟩:=h;exact⟨x,I,fun y L=>(by cases L),q⟩
 ·obtain⟨I,q⟩:=h;exact⟨y,I,fun z L=>(by injection L with L;exact L.symm),q⟩
theorem znf(hc:c.qL){x:Li}(aa:x.l.ok 8)(ab:x.r.ok 8)(aw:x.l.zN.length<=1048576)(aj:x.r.zN.length<=1048576)(am:1<=x.rl/\x.rl<=6)(rest:List St):Ur c K K (.test x) rest:=by
 intro O D ρ w b2 b3 q I hd hl ad Y hM;obtain⟨S,U,f,h⟩:=q;obtain⟨W0,af,hX⟩:=xj w 309 x.cells.toArray;have ac:=zz af;have HX:=zz hX;have L:=zz hX.b0;have V:=hX.below;have R:=zz (zaA W0 c.tk (h.tk.below V (zoZ _)) ρ I.ok x.l (Ex.zO.below V hl.l) aa aw c.sb c.kb _ (h.zG.below V) rfl f (h.map.below V) h.YO.known);have N:=zz (fun W (q:Bl w W)=>zaA W c.tk (h.tk.below q (zoZ _)) ρ I.ok x.r (Ex.zO.below q hl.r) ab aj c.sb c.kb _ (h.zG.below q) rfl f (h.map.below q) h.YO.known);have Hs:=zz h;have aD:=zz (fun w1 (q:Bl w w1) X=>Y O D ρ w1 ⟨S,U,f,h.below hc q⟩ I hd (xB.below q) X);have q:Kz (c.solve ((Sv.test x).st::rest) ρ=match x.l.ev c.tk ρ,x.r.ev c.tk ρ with|some a,some b=>if Z6 x.rl a b=true then c.solve rest ρ else []|_,_=>[]):=rfl;have az:Kz (∀a,x.l.ev c.tk ρ=some a->a.ok):=fun a X=>JM I.ok aa X
 have ai:Kz (∀a,x.r.ev c.tk ρ=some a->a.ok):=fun a X=>JM I.ok ab X
 have aA:=zz am;obtain⟨r1,Z⟩:∃r,x.l.ev c.tk ρ=r:=⟨_,rfl⟩;obtain⟨r2,X⟩:∃r,x.r.ev c.tk ρ=r:=⟨_,rfl⟩;rw[Z]at R q az;rw[X]at N q ai;obtain⟨ss,ae⟩:∃ss,c.solve ((Sv.test x).st::rest) ρ=ss:=⟨_,rfl⟩;rw[ae]at q hM ⊢;have HM:=zz hM;clear h I hd Y hl ad V af hX aa ab aw aj Z X ae am hM;obtain⟨k,⟨p,A,aK,af⟩,rl,⟨q1,⟨v1,⟨k1,n1,s1⟩⟩,A1,aq,ap⟩,⟨q2,⟨v2,⟨k2,n2,s2⟩⟩,A2,ay,ak⟩⟩:=x;simp only[Ex.cells,Li.cells,zpc,zpa]at L ac R N;show Calls _ 327 #[.agg #[.int .i8 k,.string p,.slice A af.length aK,.int .i8 rl,.int .i8 q1,.string v1,.int .i8 k1,.int .i64 n1,.string s1,.slice A1 ap.length aq,.int .i8 q2,.string v2,.int .i8 k2,.int .i64 n2,.string s2,.slice A2 ak.length ay],.pointer (some ⟨c.sb,0,none⟩),Gc b2 b3] w _;generalize af.length=N0 at L ac R N;generalize ap.length=N1 at L ac R N;generalize ak.length=N2 at L ac R N;have c4:=L.o.cell 4;have c5:=L.o.cell 5;have c6:=L.o.cell 6;have c7:=L.o.cell 7;have c8:=L.o.cell 8;have X:=L.o.cell 9;obtain⟨aC,V⟩:∃b,r1.isSome=b:=⟨_,rfl⟩;obtain⟨aI,I⟩:∃b,r2.isSome=b:=⟨_,rfl⟩;have Y:=zz V;have Z:=zz I;clear V I;go_enter func327,ntmps327;go_upto_region 1 with fail
 rw[ac.o];go_upto_region 2 with(go_at_call 328;refine R.o.mono ?_;intro e w1 ar;obtain⟨⟨xk,xn,xs⟩,rfl,ax,aB⟩:=ar.form;rw[Y.o];simp only[Vl.cells];have aF:=zz ax;have au:=zz aB;clear aB ax ar c4 c5 c6 c7 c8 X)
 obtain⟨W2,X,V⟩:=xj w1 43 #[.int .i8 xk,.int .i64 xn,.string xs];rw[X];have an:Kz (Bl w W2):=zu HX.o.below (zu au.o V.below);have I:zD W2 w.heap.size 309 _:=L.o.below (zu au.o V.below);have aH:=zz I;have aG:=zz V.b0;have ae:=I.cell 10;have aJ:=I.cell 11;have ag:=I.cell 12;have aM:=I.cell 13;have ad:=I.cell 14;have aL:=I.cell 15;clear I V X;go_upto_region 3 with(go_at_call 328;refine(N.o _ an.o).mono ?_;intro e w3 av;obtain⟨⟨yk,yn,ys⟩,rfl,al,ao⟩:=av.form;rw[Z.o];simp only[Vl.cells];have aE:=zz al;have ah:=zz ao;clear ao al av ae aJ ag aM ad aL)
 obtain⟨W4,X,I⟩:=xj w3 43 #[.int .i8 yk,.int .i64 yn,.string ys];rw[X];have ad:Kz (Bl w W4):=zu an.o (zu ah.o I.below);have ae:=aH.o.below (zu ah.o I.below);have V:=aG.o.below (zu ah.o I.below);have c3:=ae.cell 3;have x0:=V.cell 0;have x1:=V.cell 1;have x2:=V.cell 2;have y0:=I.b0.cell 0;have y1:=I.b0.cell 1;have y2:=I.b0.cell 2;clear ae V I X
 cases aC with
 |false=>
  have V:=zz (show ss=[]from by
   obtain rfl:r1=none:=by have:=Y.o;simpa using this
   exact q.o)
  go_wp2;go_end0;rw[V.o];have I:=zu ad.o (Below.refl _ _);exact⟨rfl,D,by rw[zpw];exact⟨S,U,f,Hs.o.below hc I⟩,xB.below I⟩
 |true=>
  cases aI with
  |false=>
   have V:=zz (show ss=[]from by
    obtain rfl:r2=none:=by have:=Z.o;simpa using this
    have:=q.o
    rcases r1 with _|_<;>exact this)
   go_wp2;go_end0;rw[V.o];have I:=zu ad.o (Below.refl _ _);exact⟨rfl,D,by rw[zpw];exact⟨S,U,f,Hs.o.below hc I⟩,xB.below I⟩
  |true=>
   obtain⟨a,rfl⟩:=zpW.1 Y.o;obtain⟨b,rfl⟩:=zpW.1 Z.o;obtain rfl:=aF.o a rfl;obtain rfl:=aE.o b rfl;have X:ss=if Z6 rl ⟨xk,xn,xs⟩ ⟨yk,yn,ys⟩=true then c.solve rest ρ else []:=q.o
   have Hh:=zz (zh2 W4 rl ⟨xk,xn,xs⟩ ⟨yk,yn,ys⟩ (az.o _ rfl) (ai.o _ rfl) aA.o.1 aA.o.2);obtain⟨hh,ae⟩:∃b,Z6 rl ⟨xk,xn,xs⟩ ⟨yk,yn,ys⟩=b:=⟨_,rfl⟩;rw[ae]at Hh X;have ag:=zz X;clear X ae q
   cases hh with
   |false=>
    have V:=zz (show ss=[]from by have:=ag.o;simpa using this)
    go_wp2_with (go_at_call 143;refine Hh.o.mono ?_;rintro e w5⟨rfl,X⟩;have ae:=zz X;clear X)
    go_end0;rw[V.o];have I:=zu ad.o ae.o;exact⟨rfl,D,by rw[zpw];exact⟨S,U,f,Hs.o.below hc I⟩,xB.below I⟩
   |true=>
    have I:=zz (show ss=c.solve rest ρ from by have:=ag.o;simpa using this)
    go_wp2_with (first
     |(go_at_call 143;refine Hh.o.mono ?_;rintro e w5⟨rfl,X⟩;have ae:=zz (zu ad.o X);clear X c3 x0 x1 x2 y0 y1 y2)
     |(go_at_call 172;refine(aD.o _ ae.o (I.o▸HM.o)).mono ?_;intro e w6 V;have HE:=zz (V.qq ae.o);obtain⟨rfl,-⟩:=V))
    go_end0;rw[I.o];exact HE.o
end
