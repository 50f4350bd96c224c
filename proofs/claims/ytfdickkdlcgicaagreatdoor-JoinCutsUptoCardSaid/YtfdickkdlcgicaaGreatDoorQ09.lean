/-
  What is worked out, counted from above: things and their tex
-/
import Derived.Test.YtfdickkdlcgicaaGreatDoorQ08
set_option maxRecDepth 100000
set_option maxHeartbeats 8000000
set_option linter.all false
namespace Go.Proofs.YtfdickkdlcgicaaGreatDoor.C
open Go.Proofs.Tryz Go Go.RowKit Go.Maps Go.WideMaps
variable {B:Option Addr}{D Q Q' S:Nat->Prop}{I N cap m nn no q zM:Nat}{K xs:List ByteArray}{L:Int}{f:Value->Option Value}{v:Value}{w w':World}
section
structure Th where
 k:Int
 n:Int
 s:ByteArray
 made:ByteArray
 deep:Int
abbrev Th.cells(x:Th):List Value:=[.int .i8 x.k,.int .i64 x.n,.string x.s,.string x.made,.int .i64 x.deep]
structure Th.qT (x:Th):Prop where
 k0:-128<=x.k
 k1:x.k<=127
 n0:-9223372036854775808<=x.n
 n1:x.n<=9223372036854775807
 s:x.s.size<=1048576
 made:x.made.size<=65
theorem wrap_i64{k:Int}(h0:-9223372036854775808<=k)(h:k<=9223372036854775807):IntKind.i64.wrap k=k:=by
 simp only[IntKind.wrap,IntKind.bits,IntKind.signed,Bool.true_and,decide_eq_true_eq,ge_iff_le,Nat.reduceSub,Nat.reducePow,Int.reducePow];split<;>omega
def zmo(m:Nat)(w:World)(e:Ending)(w':World):Prop:=∃s:ByteArray,e=.returned (.string s)/\s.size<=m/\Bl w w'
theorem zfB(w:World)(h:Pw w)(p:ByteArray)(n:Nat)(U:n<=1048576)(L:p.size<=1048576):Calls prog 205 #[.string p,.int .i64 (n:Int)] w fun e q=>e=.returned (.string (yl p n))/\Bl w q:=by
 have I:=zz (fun W (q:Bl w W)=>TQ W (h.below q) (n:Int) zd (zd));have R:=Lib.itoa_length_le (n:Int) zd (zd);unfold yl;generalize Lib.itoa (n:Int)=O at *;clear h;go_enter func205,ntmps205
 go_wp2_with (go_at_call 211;refine(I.o _ (Below.refl _ _)).mono ?_;rintro e N⟨rfl,q⟩)
 go_returns;exact⟨rfl,q⟩
theorem zdz(w:World)(hP:Pw w)(x:Th)(hx:x.qT):Calls prog 206 #[.agg x.cells.toArray] w (zmo 1048800 w):=by
 obtain⟨k,n,s,V,dp⟩:=x;obtain⟨k0,k1,n0,n1,hs,ae⟩:=hx;simp only[Th.cells]at *;obtain⟨U,ad,I⟩:=xi w 277 #[.int .i8 k,.int .i64 n,.string s,.string V,.int .i64 dp];have ac:=zz ad;have HX:=zz I;have HP:=zz (fun W (q:Bl U W)=>(hP.below I.below).below q);have c1:=I.b0.cell 3;have X:=zz I.below;have N:=Lib.itoa_length_le k zd (zd);have R:=Lib.itoa_length_le n zd (zd);have Z:=Lib.itoa_length_le (s.size:Int) zd (zd);have C1:=zz (fun W q=>TQ W (HP.o W q) k zd (zd));have C2:=zz (fun W q=>zh5 W (HP.o W q) n zd (zd));have C3:=zz (fun W q=>TQ W (HP.o W q) (s.size:Int) zd (zd));generalize Lib.itoa k=L at *;generalize Lib.itoa n=O at *;generalize Lib.itoa (s.size:Int)=Y at *;have Hi:=zz (zpG N (zpG R Z));have H0:Kz (∀W,Bl U W->W.cell? ⟨w.heap.size,0,none⟩=some (.int .i8 k)/\W.cell? ⟨w.heap.size,1,none⟩=some (.int .i64 n)/\W.cell? ⟨w.heap.size,2,none⟩=some (.string s)/\¬9223372036854775807<1+L.length/\¬9223372036854775807<1+L.length+1/\¬9223372036854775807<1+L.length+1+O.length/\¬9223372036854775807<1+L.length+1+O.length+1/\¬9223372036854775807<1+L.length+1+O.length+1+Y.length/\¬9223372036854775807<1+L.length+1+O.length+1+Y.length+1/\¬9223372036854775807<1+L.length+1+O.length+1+Y.length+1+s.size):=fun W q=>⟨(I.b0.below q).cell 0,(I.b0.below q).cell 1,(I.b0.below q).cell 2,zd,zd,zd,zd,zd,zd,zd⟩
 clear hP I N R Z;go_enter func206,ntmps206
 by_cases hm:V.toList=[]
 ·have b1:V.toList.isEmpty=true:=by simp[hm]
  have b2:(V.toList==([]:List UInt8))=true:=by simp[hm]
  go_upto_region 3 with fail
  all_goals try rw[ac.o]
  refine Vm [(0,0),(1,0),(2,0),(3,0),(7,0),(8,0),(9,0),(13,0),(14,0),(15,0),(16,0),(20,0),(21,0),(22,0),(4,2),(5,0),(6,0),(10,2),(11,0),(12,0),(17,2),(18,0),(19,0),(23,0),(24,0)] (fun W=>Bl U W) ?_
  repeat refine zS H0.o ?_
  refine xf fun K N=>?_
  go_simp;rw[wrap_i64 zd (zd)];refine(C1.o _ (Below.refl _ _).drew).mono ?_;rintro e w1⟨rfl,aa⟩;have q:Bl U w1:=zl (Below.refl _ _).drew aa;refine N.out _ _ q (fun _=>trivial) ?_;clear N K;try refine zQ ?_
  repeat refine zS H0.o ?_
  refine xf fun K N=>?_
  go_simp;refine(C2.o _ q).mono ?_;rintro e w2⟨rfl,Z⟩;have I:Bl U w2:=zl q Z;refine N.out _ _ I (fun _=>trivial) ?_;clear N K;try refine zQ ?_
  repeat refine zS H0.o ?_
  refine xf fun K N=>?_
  go_simp;refine(C3.o _ I).mono ?_;rintro e w3⟨rfl,ab⟩;have R:Bl U w3:=zl I ab;refine N.out _ _ R (fun _=>trivial) ?_;clear N K;try refine zQ ?_
  repeat refine zS H0.o ?_
  refine xt ?_;have N:Kz (Bl w w3):=zl X.o R;clear aa Z ab q I R;go_wp2;go_returns;refine⟨_,rfl,?_,N.o⟩;simp only[zqy];have h:=Hi.o;have e1:(⟨L.toArray⟩:ByteArray).size=L.length:=by simp[ByteArray.size]
  have e2:(⟨O.toArray⟩:ByteArray).size=O.length:=by simp[ByteArray.size]
  have e3:(⟨Y.toArray⟩:ByteArray).size=Y.length:=by simp[ByteArray.size]
  rw[e1,e2,e3];have q:(⟨#[118]⟩:ByteArray).size=1:=rfl;have I:(⟨#[58]⟩:ByteArray).size=1:=rfl;omega
 ·have b1:V.toList.isEmpty=false:=by simp[hm]
  have b2:(V.toList==([]:List UInt8))=false:=by simp[hm]
  go_wp2;go_returns;refine⟨_,rfl,?_,X.o⟩;simp only[zqy];have q:(⟨#[109]⟩:ByteArray).size=1:=rfl;omega
def zlT(w:World)(e:Ending)(w':World):Prop:=∃x:Th,e=.returned (.agg x.cells.toArray)/\x.qT/\Bl w w'
theorem XD:(prog.info? 277).map (·.size)=some 5:=zo
theorem zou(h:Array Value)(w:World)(g:Nat)(q:Array Value)(N:h.getD 4 undef=.pointer (some ⟨g,0,none⟩))(b:w.heap[g]? = some (.cells q 277 (0,0)))(hi:(prog.info? 277).map (·.size)=some q.size):
 (results Tryz.f210 h).run prog w=.ok (.agg q) w:=by
 have I:h[4]?.getD undef=.pointer (some ⟨g,0,none⟩):=by simpa using N
 have L:=run_loadVar_row (P:=prog) w g 277 277 q (0,0) _ b underlying277 rfl hi;simp[results,results210,I,asAddr,L]
theorem zn4{z:Int}(h:0<=z)(q:z<18446744073709551616):∃n:Nat,n<18446744073709551616/\z=(n:Int):=⟨z.toNat,zd,zd⟩
theorem zkz(z:Int):∃n:Nat,n<18446744073709551616/\IntKind.u64.wrap z=(n:Int):=by
 refine zn4 (z:=IntKind.u64.wrap z) ?_ ?_<;>simp only[IntKind.wrap,IntKind.bits,IntKind.signed,Bool.false_and,zqw,if_false,Nat.reducePow,Int.reducePow]<;>omega
theorem zk8(w:World)(hP:Pw w)(s:ByteArray)(hs:s.size<=1048576)(A:Option Addr)(cap n:Nat)(l:List Th)(hl:zZ Th.cells w A l)(hn:l.length=n)(ae:n<=4194304)(hf:∀x∈l,x.qT):
 Calls prog 210 #[.string s,.slice A n cap] w (zlT w):=by
 obtain⟨W0,h,q⟩:=xi w 277 #[.int .i8 0,.int .i64 0,.string ⟨#[]⟩,.string ⟨#[]⟩,.int .i64 0];have O:=zz h;have X:=zz q;have HP:=zz hP;have HL:=zz hl;have Hn:=zz hn;have Hf:=zz hf;clear h q hP hl hn hf;go_enter func210,ntmps210;go_wp2
 go_loopg[0,5,6] n (fun gk q I h R=>∃(i:Nat) (d:Int) (t:ByteArray),i<=n/\gk=n-i/\h=.int .i64 (i:Int)/\I=.int .i64 d/\q=.string t/\t.size<=1048576+i*1048801/\zD R w.heap.size 277 #[.int .i8 0,.int .i64 0,.string ⟨#[]⟩,.string ⟨#[]⟩,.int .i64 0]/\Bl w R)
 case atStart=>exact⟨0,0,s,zpD _,rfl,rfl,rfl,rfl,zd,by first|exact X.o.b0 |(rw[O.o];exact X.o.b0),by first|exact X.o.below |(rw[O.o];exact X.o.below)⟩
 case round=>
  obtain⟨i,d,t,hi,rfl,rfl,rfl,rfl,ht,N,h⟩:=hrel;have V:=zz h;have Hk:=zz N;clear h N
  by_cases L:i<n
  ·have I:i<l.length:=by rw[Hn.o];exact L
   obtain⟨b,o,rfl,Z,h⟩:=(HL.o.below V.o).at (c:=4) (fun _=>rfl) i I;have q:=Hf.o _ (zpB I);generalize l[i]=x at h q;have Y:=zz (fun W (U:Bl w W)=>zdz W (HP.o.below U) x q);obtain⟨k,m,xs,md,dp⟩:=x;simp only[Th.cells]at h Y
   replace h:wr.rangeAt b (o+i*5) _:=h
   obtain⟨d0,d1,d2,d3,d4⟩:=ZY h;clear q I h;have h:=fun W (U:Bl wr W)=>(U.cell (p:=⟨b,o+i*5+4,none⟩) Z).trans d4
   have I:=zz h;clear h
   go_wp2_with (go_at_call 206;refine(Y.o _ V.o).mono ?_;rintro e w1⟨u,rfl,U,h⟩;have e4:=I.o _ h;have q:=zz h;clear h)
   have Hu:=zz (show(t++⟨#[32]⟩++u).size<=1048576+(i+1)*1048801 by
    rw[zqy,zqy];have f1:(⟨#[32]⟩:ByteArray).size=1:=rfl;omega)
   clear U
   go_roundg (n-(i+1))
   case measure=>omega
   case rel=>exact⟨i+1,max d dp,_,L,rfl,ze,rfl,rfl,Hu.o,Hk.o.below q.o,zl V.o q.o⟩
  ·obtain rfl:i=n:=zd;clear hi;have Z:=zz (show t.size<=9223372036854775807 from zd);obtain⟨h,ac⟩:∃h,t.size=h:=⟨_,rfl⟩;have Y:h<=9223372036854775807:=by rw[<-ac];exact Z.o
   go_wp2
   go_loopg[7,8] h (fun gk q I R=>∃(j z:Nat),j<=h/\gk=h-j/\I=.int .i64 (j:Int)/\q=.int .u64 (z:Int)/\z<18446744073709551616/\R=wr)
   case atStart=>exact⟨0,14695981039346656037,zpD _,rfl,rfl,rfl,zr,rfl⟩
   case round=>
    obtain⟨j,z,hj,rfl,rfl,rfl,hz,rfl⟩:=hrel
    by_cases ad:j<h
    ·obtain⟨I,q,R⟩:=zkz (bits BinOp.xor IntKind.u64 (z:Int) (IntKind.u64.wrap (t[j].toNat:Int))*1099511628211);go_wp2
     go_roundg (h-(j+1))
     case measure=>omega
     case rel=>exact⟨j+1,I,ad,rfl,ze,rfl,q,rfl⟩
    ·obtain rfl:j=h:=zd;have Hc:=zz (znD wr z hz);have N:=Hk.o
     go_wp2_with (first
      |(go_at_call 248;refine Hc.o.mono ?_;rintro e w3⟨u,rfl,U,q⟩;have aa:=zz q;have Hu:=zz U;have ab:=N.below q;clear q N U)
      |(refine xy 277 _ _ rfl ?_;refine XG zj 277 _ _ rfl w.heap.size 0 _ _ ab [.int .i8 0,.int .i64 0,.string ⟨#[]⟩,.string u,.int .i64 _] rfl rfl zp XD zt ?_;intro W9 I;have R:=zz I;clear I))
     refine bodyPost_ret (v:=.agg #[.int .i8 0,.int .i64 0,.string ⟨#[]⟩,.string u,.int .i64 (wrap64 (d+1))]) (zou _ W9 w.heap.size _ rfl R.o.zH (by simpa using XD)) rfl ?_;exact⟨⟨0,0,⟨#[]⟩,u,wrap64 (d+1)⟩,rfl,⟨(by decide:(-128:Int)<=0),(by decide:(0:Int)<=127),(by decide:(-9223372036854775808:Int)<=0),(by decide:(0:Int)<=9223372036854775807),(by decide:(⟨#[]⟩:ByteArray).size<=1048576),Hu.o⟩,R.o.below (zl V.o aa.o) (zpx _) (zpx _)⟩
section
variable {α:Type}{f:α->List Value}{e:TypeId}{size:Nat}{P:Program}{ops:Array Oper}{rest:List Oper}{o:Oper}{a:Act}{w:World}{Q:Exit->Act->World->Prop}{K:Act->World->Prop}{g cap:Nat}{xs:List α}
theorem Own.whole(h:Own f e size w (some ⟨g,0,none⟩) cap xs):∃q:Array Value,zD w g e q/\xs.length*size<=q.size:=by
 rcases h.2 with⟨I,_⟩ |⟨U,c,q,I,_,L,R,_,O,_⟩
 ·cases I
 ·injection I with I _ N
  injection I with I
  injection I with I
  subst I N;exact⟨q,L,by rw[O];exact zqF _ R⟩
theorem zcp{n i a0 k size:Nat}(hi:i<n)(q:a0+k<=size):i*size+a0+k<=n*size:=by
 have h:(i+1)*size<=n*size:=zqF _ hi;rw[zrq]at h;omega
theorem JU(q:TypeId)(x y:Operand)(X:o.op=.store q x y)(h:Own f e size w (some ⟨g,0,none⟩) cap xs)(V:∀x,(f x).length=size)(i:Nat)(hi:i<xs.length)(a0:Nat)(vs:List Value)(z:α)(I:a0+vs.length<=size)(R:f z=(f xs[i]).take a0++vs++(f xs[i]).drop (a0+vs.length))(Z:a.eval x=.pointer (some ⟨g,i*size+a0,none⟩))(hy:a.eval y=.agg vs.toArray)(Y:(P.info? q).map (·.size)=some vs.length)(N:∀v∈vs,v.oneCell'=true)(O:∀W,Own f e size W (some ⟨g,0,none⟩) cap (xs.set i z)->zh (·=g) w W->W.heap.size=w.heap.size->K (a.put o.dst undef) W):Oper.wp P o a w K Q:=by
 obtain⟨U,L,hc⟩:=h.whole;have aa:=zcp hi I;exact wp_store_mid q x y X g (i*size+a0) vs.toArray Z hy (by simpa using Dd L (n:=vs.length) zd) (by simpa using Y) (all_oneCell_toArray N) (O _ (h.put V i hi a0 vs z I R) (Dt (S:=(·=g)) (fun _=>rfl) _ _ _ (zh.refl _ w)) (JM _ _ _ _))
theorem zf7(hw:Region.wanted o (yielded ops a.tmps)=true)(I:TypeId)(x y:Operand)(V:o.op=.store I x y)(h:Own f e size w (some ⟨g,0,none⟩) cap xs)(U:∀x,(f x).length=size)(i:Nat)(hi:i<xs.length)(a0:Nat)(vs:List Value)(z:α)(ha:a0+vs.length<=size)(R:f z=(f xs[i]).take a0++vs++(f xs[i]).drop (a0+vs.length))(Z:a.eval x=.pointer (some ⟨g,i*size+a0,none⟩))(hy:a.eval y=.agg vs.toArray)(Y:(P.info? I).map (·.size)=some vs.length)(q:∀v∈vs,v.oneCell'=true)(O:∀W,Own f e size W (some ⟨g,0,none⟩) cap (xs.set i z)->zh (·=g) w W->W.heap.size=w.heap.size->wpList P ops Q rest (a.put o.dst undef) W):wpList P ops Q (o::rest) a w:=
 wpList_step fun _ N=>by rw[if_pos hw];exact JU I x y V h U i hi a0 vs z ha R Z hy Y q fun W q L X=>N _ _ (O W q L X)
theorem zgs(N:TypeId)(x y:Operand)(Y:o.op=.store N x y)(h:Own f e size w (some ⟨g,0,none⟩) cap xs)(X:∀x,(f x).length=size)(i:Nat)(hi:i<xs.length)(a0:Nat)(v:Value)(z:α)(O:a0+1<=size)(V:f z=(f xs[i]).take a0++[v]++(f xs[i]).drop (a0+1))(hx:a.eval x=.pointer (some ⟨g,i*size+a0,none⟩))(hy:a.eval y=v)(Z:(P.info? N).map (·.size)=some 1)(R:v.oneCell'=true)(U:∀W,Own f e size W (some ⟨g,0,none⟩) cap (xs.set i z)->zh (·=g) w W->W.heap.size=w.heap.size->K (a.put o.dst undef) W):Oper.wp P o a w K Q:=by
 obtain⟨L,I,hc⟩:=h.whole;have aa:=zcp hi O;have q:=h.put X i hi a0 [v] z O V;unfold Oper.wp execOp;simp only[Y,hx,hy,Instr.storeAt,Instr.sureAddr,Sem.run_bind,Sem.run_pure,Result.andThen_ok,zb0 I (show i*size+a0<L.size from zd) Z R];exact U _ q (U9 I v).zC (U9 I v).size
theorem ziK(hw:Region.wanted o (yielded ops a.tmps)=true)(I:TypeId)(x y:Operand)(V:o.op=.store I x y)(h:Own f e size w (some ⟨g,0,none⟩) cap xs)(U:∀x,(f x).length=size)(i:Nat)(hi:i<xs.length)(a0:Nat)(v:Value)(z:α)(ha:a0+1<=size)(R:f z=(f xs[i]).take a0++[v]++(f xs[i]).drop (a0+1))(Z:a.eval x=.pointer (some ⟨g,i*size+a0,none⟩))(hy:a.eval y=v)(Y:(P.info? I).map (·.size)=some 1)(q:v.oneCell'=true)(O:∀W,Own f e size W (some ⟨g,0,none⟩) cap (xs.set i z)->zh (·=g) w W->W.heap.size=w.heap.size->wpList P ops Q rest (a.put o.dst undef) W):wpList P ops Q (o::rest) a w:=
 wpList_step fun _ N=>by rw[if_pos hw];exact zgs I x y V h U i hi a0 v z ha R Z hy Y q fun W q L X=>N _ _ (O W q L X)
theorem Own.at(h:Own f e size w (some ⟨g,0,none⟩) cap xs)(L:∀x,(f x).length=size)(R:0<size)(i:Nat)(hi:i<xs.length):w.rangeAt g (i*size) (f xs[i]):=by
 obtain⟨c,rfl⟩:∃c,size=c+1:=⟨size-1,zd⟩;obtain⟨b,o,q,_,I⟩:=h.xI.at L i hi;injection q with q
 injection q with O N
 subst O N;rw[zp6]at I;exact I
theorem Own.Y4(h:Own f e size w (some ⟨g,0,none⟩) cap xs):g<w.heap.size:=h.lt g (by simp[zw])
end
end
section
structure Wc where
 wb:Nat
 eb:Nat
 ob:Nat
 zR:Int
 new:Int
 fb:Nat
 tb:Nat
structure Rt where
 A:Option Addr
 cap:Nat
 l:List Th
abbrev Rt.cells(r:Rt):List Value:=[.slice r.A r.l.length r.cap]
abbrev Jc(_:Unit):List Value:=[.slice none 0 0]
def Uw(Q:Nat->Prop)(w:World)(m:Nat)(v:Value):Prop:=
 ∃(A:Option Addr) (q:Nat) (h:List Rt),v=.slice A h.length q/\h.length<=4194304/\zZ Rt.cells w A h/\qV Q A/\∀r∈h,r.l.length=m/\zZ Th.cells w r.A r.l/\qV Q r.A/\∀x∈r.l,x.qT
def ZX(Q:Nat->Prop)(w:World)(h:Nat):Prop:=∃f,xv prog 9 w h f/\Q h/\∀p m v,f (.string (yl p m))=some v->Uw Q w m v
theorem Uw.kept(h:Uw Q w m v)(V:zh S w w')(U:∀g,g<w.heap.size->Q g->¬S g)(q:∀g,Q g->g<w.heap.size):Uw Q w' m v:=by
 obtain⟨A,O,Y,e,X,W,R,L⟩:=h;exact⟨A,O,Y,e,X,W.kept V fun g I=>U g (q g (R g I)) (R g I),R,fun r N=>⟨(L r N).1,(L r N).2.1.kept V fun g I=>U g (q g ((L r N).2.2.1 g I)) ((L r N).2.2.1 g I),(L r N).2.2⟩⟩
theorem Uw.mono(h:Uw Q w m v)(O:∀g,Q g->Q' g):Uw Q' w m v:=by
 obtain⟨A,N,V,e,U,R,W,q⟩:=h;exact⟨A,N,V,e,U,R,fun g L=>O g (W g L),fun r I=>⟨(q r I).1,(q r I).2.1,fun g L=>O g ((q r I).2.2.1 g L),(q r I).2.2.2⟩⟩
theorem ZX.kept{L:Nat}(h:ZX Q w L)(N:zh S w w')(O:∀g,g<w.heap.size->Q g->¬S g)(q:∀g,Q g->g<w.heap.size):ZX Q w' L:=by
 obtain⟨f,U,I,V⟩:=h;exact⟨f,U.zC N (O _ (q _ I) I),I,fun p m v R=>(V p m v R).kept N O q⟩
theorem ZX.mono(h:ZX Q w I)(q:∀g,Q g->Q' g):ZX Q' w I:=by
 obtain⟨f,O,N,R⟩:=h;exact⟨f,O,q _ N,fun p m v L=>(R p m v L).mono q⟩
structure JA (c:Wc) (D:Nat->Prop) (nn:Nat) (w:World) (N H:Option Addr) (capN capH:Nat) (names:List ByteArray) (have_:List Th):Prop where
 zH:zD w c.eb 352 #[.pointer (some ⟨c.wb,0,none⟩),.slice N nn capN,.slice H nn capH]
 Z0:names.length=nn
 XU:Own xD 9 1 w N capN names
 hlen:have_.length=nn
 xV:Own Th.cells 277 5 w H capH have_
 qT:∀x∈have_,x.qT
 nD:∀g∈zw N,D g
 hD:∀g∈zw H,D g
def zbs(c:Wc)(D:Nat->Prop)(O:Nat)(w:World):Prop:=∃N H L I h q,JA c D O w N H L I h q
structure yg (c:Wc) (D:Nat->Prop) (L:Int) (nn no:Nat) (w:World):Prop where
 work:zD w c.wb 274 #[.int .i64 L,.int .i64 c.zR,.int .i64 c.new,.map (some c.fb),.map (some c.tb)]
 env:zbs c D nn w
 out:∃O capO,zD w c.ob 279 #[.slice O no capO]/\Own Jc 275 1 w O capO (List.replicate no ())/\∀g∈zw O,D g
 facts:ZX (fun g=>¬D g/\g<w.heap.size) w c.fb
 pw:Pw w
 YB:D c.wb
 ZL:D c.eb
 J2:D c.ob
 Uf:¬D 3
 lt:∀g,D g->g<w.heap.size
 lo:-1099511627776<=L
 hi:L<=1099511627776
theorem X0{α:Type}{f:α->List Value}{e t:TypeId}{size:Nat}{A:Option Addr}{xs:List α}{b:Nat}{O:Array Value}(h:Own f e size w A cap xs)(L:zD w b t O)(q:t≠e):∀g∈zw A,g≠b:=by
 intro g I N;subst N
 rcases h.form with⟨rfl,_,_⟩ |⟨R,rfl,_⟩
 ·simp[zw]at I
 ·obtain rfl:g=R:=by simpa[zw]using I
  obtain⟨U,N,_⟩:=h.whole;exact L.yK N q rfl
theorem JA.qj{c:Wc}{W:Nat}{N H:Option Addr}{L O:Nat}{q:List ByteArray}{I:List Th}(h:JA c D W w N H L O q I)(V:zh S w w')(Z:¬S c.eb)(Y:∀g∈zw N,¬S g)(h3:∀g∈zw H,¬S g){X:Nat->Prop}(U:∀g,D g->X g):JA c X W w' N H L O q I:=
 ⟨h.zH.zC V Z,h.Z0,h.XU.zC V Y,h.hlen,h.xV.zC V h3,h.qT,fun g R=>U g (h.nD g R),fun g R=>U g (h.hD g R)⟩
theorem yg.below{c:Wc}{Y:Nat}(h:yg c D L Y no w)(I:Bl w w'):yg c D L Y no w':=by
 have Z:=zh.xj (fun _=>False) I;obtain⟨N,H,V,X,q,R,he⟩:=h.env;obtain⟨O,W,o1,o2,o3⟩:=h.out;exact⟨h.work.below I,⟨N,H,V,X,q,R,he.qj Z id (fun _ _=>id) (fun _ _=>id) fun _=>id⟩,⟨O,W,o1.below I,o2.below I,o3⟩,
  ((h.facts.kept Z (fun _ _ _=>id) fun g U=>U.2).mono fun g U=>⟨U.1,zpz U.2 I.size⟩),h.pw.below I,h.YB,h.ZL,h.J2,h.Uf,fun g U=>zpz (h.lt g U) I.size,h.lo,h.hi⟩
theorem yg.Z7{c:Wc}{L':Int}{Z:Nat}(h:yg c D L Z no w)(U:zh (·=c.wb) w w')(hw:zD w' c.wb 274 #[.int .i64 L',.int .i64 c.zR,.int .i64 c.new,.map (some c.fb),.map (some c.tb)])(h0:-1099511627776<=L')(h1:L'<=1099511627776):yg c D L' Z no w':=by
 obtain⟨N,H,V,X,I,R,Y⟩:=h.env;obtain⟨O,W,o1,o2,o3⟩:=h.out;exact⟨hw,⟨N,H,V,X,I,R,Y.qj U (Y.zH.yK h.work zr) (X0 Y.XU h.work zr) (X0 Y.xV h.work zr) fun _=>id⟩,
  ⟨O,W,o1.zC U (o1.yK h.work zr),o2.zC U (X0 o2 h.work zr),o3⟩,
  ((h.facts.kept U (fun g _ q e=>q.1 (e▸h.YB)) fun g q=>q.2).mono fun g q=>⟨q.1,zpz q.2 U.size⟩),h.pw.zC U fun e=>h.Uf (e▸h.YB),h.YB,h.ZL,h.J2,h.Uf,fun g q=>zpz (h.lt g q) U.size,h0,h1⟩
theorem yg.yu{c:Wc}{X:Nat}(h:yg c D L nn no w)(V:zh S w w')(W:∀g,S g->D g/\g≠c.wb/\g≠c.ob/\∀O I,Own Jc 275 1 w O I (List.replicate no ())->g∉zw O){Z:Nat->Prop}(U:∀g,Z g↔D g\/(w.heap.size<=g/\g<w'.heap.size))(he:zbs c Z X w'):yg c Z L X no w':=by
 obtain⟨O,I,o1,o2,o3⟩:=h.out;refine⟨h.work.zC V fun R=>(W _ R).2.1 rfl,he,⟨O,I,o1.zC V (fun R=>(W _ R).2.2.1 rfl),o2.zC V (fun g q R=>(W g R).2.2.2 _ _ o2 q),fun g q=>(U g).2 (.inl (o3 g q))⟩,
  ((h.facts.kept V (fun g _ q R=>q.1 (W g R).1) fun g q=>q.2).mono fun g q=>⟨fun Y=>?_,zpz q.2 V.size⟩),h.pw.zC V fun R=>h.Uf (W _ R).1,(U _).2 (.inl h.YB),(U _).2 (.inl h.ZL),(U _).2 (.inl h.J2),fun Y=>?_,fun g q=>?_,h.lo,h.hi⟩
 ·rcases(U g).1 Y with N|N
  ·exact q.1 N
  ·omega
 ·rcases(U _).1 Y with N|N
  ·exact h.Uf N
  ·have:=h.pw.lt;omega
 ·rcases(U g).1 q with N|N
  ·exact zpz (h.lt g N) V.size
  ·exact N.2
def znH(w:World)(e:Ending)(w':World):Prop:=∃(x:Th) (b:Bool),e=.returned (.tuple #[.agg x.cells.toArray,.bool b])/\x.qT/\Bl w w'
theorem zc8(h:Array Value)(w:World)(g:Nat)(q:Array Value)(b:Bool)(O:h.getD 4 undef=.pointer (some ⟨g,0,none⟩))(R:h.getD 5 undef=.bool b)(U:w.heap[g]? = some (.cells q 277 (0,0)))(hi:(prog.info? 277).map (·.size)=some q.size):
 (results Tryz.f209 h).run prog w=.ok (.tuple #[.agg q,.bool b]) w:=by
 have L:h[4]?.getD undef=.pointer (some ⟨g,0,none⟩):=by simpa using O
 have I:h[5]?.getD undef=.bool b:=by simpa using R
 have N:=run_loadVar_row (P:=prog) w g 277 277 q (0,0) _ U underlying277 rfl hi;simp[results,results209,L,I,asAddr,N]
theorem Th.Du:(⟨0,0,⟨#[]⟩,⟨#[]⟩,0⟩:Th).qT:=⟨zr,zr,zr,zr,zr,zr⟩
theorem zab{c:Wc}(he:zbs c D nn w)(ag:nn<=4194304)(s:ByteArray):
 Calls prog 209 #[.pointer (some ⟨c.eb,0,none⟩),.string s] w (znH w):=by
 obtain⟨N,H,ad,ae,q,I,he⟩:=he;have X:=zz he;clear he;obtain⟨W0,h,L⟩:=xi w 277 #[.int .i8 0,.int .i64 0,.string ⟨#[]⟩,.string ⟨#[]⟩,.int .i64 0];have ac:=zz h;have Y:=zz L;have e1:=(X.o.zH.below L.below).cell 1;have e2:=(X.o.zH.below L.below).cell 2;clear h L;go_enter func209,ntmps209;go_upto_region 1 with fail
 rw[ac.o];go_wp2
 go_loopg[6] nn (fun gk h L=>gk<=nn/\h=.int .i64 ((gk:Int)-1)/\L=W0)
 case atStart=>exact⟨zpx _,ze,rfl⟩
 case round=>
  obtain⟨af,rfl,rfl⟩:=hrel
  by_cases h0:gk=0
  ·subst h0;have V:=Y.o.b0
   go_wp2_with (refine xy 277 _ _ rfl ?_;refine XG zj 277 _ _ rfl w.heap.size 0 _ _ V [.int .i8 0,.int .i64 0,.string ⟨#[]⟩,.string ⟨#[]⟩,.int .i64 0] rfl rfl zp XD zt ?_;intro W9 L;have O:=zz L;clear L)
   refine bodyPost_ret (v:=.tuple #[.agg #[.int .i8 0,.int .i64 0,.string ⟨#[]⟩,.string ⟨#[]⟩,.int .i64 0],.bool false]) (zc8 _ W9 w.heap.size _ false rfl rfl O.o.zH (by simpa using XD)) rfl ?_;exact⟨_,false,rfl,Th.Du,O.o.below Y.o.below (zpx _) (zpx _)⟩
  ·have Z:gk-1<nn:=zd;have aa:gk-1<q.length:=by rw[X.o.Z0];exact Z
   have U:gk-1<I.length:=by rw[X.o.hlen];exact Z
   obtain⟨b,o,rfl,hb,R⟩:=(X.o.XU.xI.below Y.o.below).at (c:=0) (fun _=>rfl) (gk-1) aa;obtain⟨b3,o3,rfl,ah,h⟩:=(X.o.xV.xI.below Y.o.below).at (c:=4) (fun _=>rfl) (gk-1) U;have W:=X.o.qT _ (zpB U);generalize q[gk-1]=u at R;generalize I[gk-1]=x at h W;obtain⟨k,m,xs,md,dp⟩:=x;simp only[Th.cells]at h;have n0:wr.cell? ⟨b,o+(gk-1),none⟩=some (.string u):=by simpa using R 0 _ rfl
   replace h:wr.rangeAt b3 (o3+(gk-1)*5) _:=h
   obtain⟨d0,d1,d2,d3,d4⟩:=ZY h;have ab:=zz W;clear R h aa U W
   by_cases h:u.toList=s.toList
   ·have R:(u.toList==s.toList)=true:=by simp[h]
    have V:=Y.o.b0
    go_wp2_with (refine xy 277 _ _ rfl ?_;refine XG zj 277 _ _ rfl w.heap.size 0 _ _ V [.int .i8 k,.int .i64 m,.string xs,.string md,.int .i64 dp] rfl rfl zp XD zt ?_;intro W9 L;have O:=zz L;clear L)
    refine bodyPost_ret (v:=.tuple #[.agg #[.int .i8 k,.int .i64 m,.string xs,.string md,.int .i64 dp],.bool true]) (zc8 _ W9 w.heap.size _ true rfl rfl O.o.zH (by simpa using XD)) rfl ?_;exact⟨⟨k,m,xs,md,dp⟩,true,rfl,ab.o,O.o.below Y.o.below (zpx _) (zpx _)⟩
   ·have R:(u.toList==s.toList)=false:=by simp[h]
    go_wp2
    go_roundg (gk-1)
    case measure=>omega
    case rel=>exact⟨zd,ze,rfl⟩
structure Vo (vs:List ByteArray) (f:Value->Option Value):Prop where
 yes:∀s∈vs,f (.string s)=some (.agg #[])
 no:∀s,s∉vs->f (.string s)=none
theorem Vo.qz:Vo [] fun _=>none:=⟨fun s h=>(by cases h),fun _ _=>rfl⟩
theorem Vo.put{vs:List ByteArray}(h:Vo vs f)(v:ByteArray):Vo (vs++[v]) (yp f (.string v) (.agg #[])):=
 ⟨fun s q=>by
  by_cases e:s=v
  ·subst e;rw[Yt]
  ·rw[XR (by simpa using e)]
   rcases zpE.1 q with q|q
   ·exact h.yes s q
   ·exact(e (zpy.1 q)).elim,fun s q=>by
  rw[zpE,zpy]at q;rw[XR (fun e=>q (.inr (by injection e)))];exact h.no s (fun h=>q (.inl h))⟩
structure yN (w:World) (sb mb:Nat) (B:Option Addr) (zM nb:Nat) (f:Value->Option Value) (K:List ByteArray):Prop where
 r:zD w sb 202 #[.slice B nb zM,.map (some mb)]
 m:xv prog 9 w mb f
 s:Vo K f
theorem yN.below(h:yN w I q B zM N f K)(L:Bl w w'):yN w' I q B zM N f K:=⟨h.r.below L,h.m.below L,h.s⟩
theorem GU(w:World)(n:Nat)(q:n<=24):Calls prog 47 #[.int .i64 (n:Int)] w fun e h=>e=.returned (.int .u32 ((2 ^ n-1:Nat):Int))/\h=w:=by
 rcases n with _|_|_|_|_|_|_|_|_|_|_|_|_|_|_|_|_|_|_|_|_|_|_|_|_|n
 all_goals first
  |omega
  |(
   go_enter func47,ntmps47;go_wp2;go_returns;exact⟨rfl,rfl⟩)
def znf(q h:Nat)(B:Option Addr)(zM I:Nat)(K:List ByteArray)(w:World)(e:Ending)(w':World):Prop:=e=.returned (.tuple #[])/\∃f,yN w' q h B zM I f K/\zh (·=h) w w'
theorem T1(w:World)(O q:Nat)(B:Option Addr)(zM X:Nat)(f:Value->Option Value)(K:List ByteArray)(h:yN w O q B zM X f K)(A:Option Addr)(cap n:Nat)(us:List ByteArray)(hn:us.length=n)(hl:zZ xD w A us)(hA:qV (·≠q) A)(hs:∀u∈us,u.size<=maxLen)(hb:n<=4194304):
 Calls prog 50 #[.pointer (some ⟨O,0,none⟩),.slice A n cap] w (znf O q B zM X (K++us) w):=by
 have HN:=zz hn;have HL:=zz (fun W (L:zh (·=q) w W)=>hl.kept L (fun g I e=>hA g I e));have Hs:=zz hs;have H:=zz h;have I:O≠q:=h.r.qU h.m;have ac:=zz I;clear hn hl hA hs h I;go_enter func50,ntmps50;go_wp2
 go_loopg[5,8] n (fun gk N L I=>∃(i:Nat) (f':Value->Option Value),i<=n/\gk=n-i/\L=.int .i64 (i:Int)/\yN I O q B zM X f' (K++us.take i)/\zh (·=q) w I)
 case atStart=>exact⟨0,f,zpD _,rfl,rfl,by simpa using H.o,zh.refl _ _⟩
 case round=>
  obtain⟨i,f',hi,rfl,rfl,Y,V⟩:=hrel;have U:=zz Y;have HC:=zz V
  by_cases aa:i<n
  ·have L:i<us.length:=by rw[HN.o];exact aa
   obtain⟨b,o,rfl,ad,N⟩:=(HL.o _ V).at (c:=0) (fun _=>rfl) i L;have d0:=N 0 _ rfl;have R:Kz (us.take (i+1)=us.take i++[us[i]]):=zpC L;have I:=zz (ye (Hs.o _ (zpB L)));generalize us[i]=u at d0 R I;simp only[zqI,zqk,zp6]at d0;have c1:=Y.r.cell 1;clear N Y V
   go_wp2_with (refine Us rfl _ _ _ rfl U.o.m q8 underlying200 rfl (.string u) (.agg #[]) _ rfl rfl I.o ?_)
   intro w6 m6 t6;have N:zh (·=q) wr w6:=(zh.refl _ wr).yu t6 (fun _=>rfl);have ab:=zz (show yN w6 O q B zM X _ (K++us.take (i+1))from⟨U.o.r.zC N ac.o,m6,by rw[R.o,<-zpX];exact U.o.s.put u⟩);have Z:=zz (HC.o.trans N (fun x hx _=>hx));clear N m6 t6 c1;go_wp2
   go_roundg (n-(i+1))
   case measure=>omega
   case rel=>exact⟨i+1,_,zd,rfl,ze,ab.o,Z.o⟩
  ·obtain rfl:i=n:=zd;have I:us.take i=us:=by rw[<-HN.o,zp5]
   rw[I]at U;clear Y V;go_wp2;go_returns;exact⟨rfl,f',U.o,HC.o⟩
theorem zcT(w:World)(N O:Nat)(B:Option Addr)(zM U:Nat)(f:Value->Option Value)(K:List ByteArray)(h:yN w N O B zM U f K)(v:ByteArray)(R:v.size<=maxLen):Calls prog 170 #[.pointer (some ⟨N,0,none⟩),.string v] w fun e q=>e=.returned (.bool (tf (v∈K)))/\Bl w q:=by
 have q:=h.m.look q8 underlying200 (z:=.agg #[]) zo (ye R) true;simp only[if_true]at q;have c1:=h.r.cell 1;have L:=h.s;clear h
 by_cases I:v∈K
 ·rw[L.yes v I]at q;rw[qs I];clear L I;go_enter func170,ntmps170;go_wp2;go_returns;exact⟨rfl,xq w _⟩
 ·rw[L.no v I]at q;rw[qu I];clear L I;go_enter func170,ntmps170;go_wp2;go_returns;exact⟨rfl,xq w _⟩
theorem zah(K:List ByteArray):∀(q:List Tm)(i:Nat),qm K i q+2 ^ i<=2 ^ (i+q.length)
 |[],i=>by simp[qm]
 |t::q,i=>by
  have h:=zah K q (i+1);unfold qm;rw[zpV,show i+(q.length+1)=i+1+q.length from zd];rw[Nat.pow_succ]at h;split<;>omega
open Classical in
theorem zdt(K:List ByteArray)(t:Tm):∀(q:List Tm)(i:Nat),qm K i (q++[t])=qm K i q+qm K (i+q.length) [t]
 |[],i=>by simp[qm]
 |u::q,i=>by
  have h:=zdt K t q (i+1);rw[zpJ];have e1:qm K i (u::(q++[t]))=(if u.v.toList=[]\/u.v∈K then 2 ^ i else 0)+qm K (i+1) (q++[t]):=rfl;have e2:qm K i (u::q)=(if u.v.toList=[]\/u.v∈K then 2 ^ i else 0)+qm K (i+1) q:=rfl;rw[e1,e2,h,zpV,show i+1+q.length=i+(q.length+1) from zd,zqO]
open Classical in
theorem zkD(K:List ByteArray)(t:Tm)(i:Nat):qm K i [t]=if t.v.toList=[]\/t.v∈K then 2 ^ i else 0:=by
 unfold qm;rw[show qm K (i+1) []=0 from rfl,zqk]
theorem zml(i m:Nat)(hi:i<=24)(q:m<2 ^ i):bits .or .u32 (m:Int) ((2:Int) ^ i % 4294967296)=((m+2 ^ i:Nat):Int):=by
 have I:2 ^ i<=2 ^ 24:=zqo zr hi;have h:m ||| 2 ^ i=m+2 ^ i:=by
  have:=Nat.two_pow_add_eq_or_of_lt q 1;rw[zqI]at this;rw[Nat.or_comm,<-this,Nat.add_comm]
 have e:(2:Int) ^ i % 4294967296=((2 ^ i:Nat):Int):=by
  have L:(2:Int) ^ i=((2 ^ i:Nat):Int):=zp;rw[L];omega
 rw[e,u32_or_nat m (2 ^ i) zd (zd),h]
def zfD(K:List ByteArray)(h:List Tm)(w:World)(e:Ending)(w':World):Prop:=e=.returned (.int .u32 (qm K 0 h:Int))/\Bl w w'
theorem zbY(w:World)(sb mb:Nat)(B:Option Addr)(zM nb:Nat)(f:Value->Option Value)(K:List ByteArray)(h:yN w sb mb B zM nb f K)(x:At)(hl:x.zN w)(hn:x.args.length<=24)(hs:∀t∈x.args,t.v.size<=maxLen):
 Calls prog 104 #[.pointer (some ⟨sb,0,none⟩),.agg x.cells.toArray] w (zfD K x.args w):=by
 have Hh:=zz (fun W (q:Bl w W) v (O:v.size<=maxLen)=>zcT W sb mb B zM nb f K (h.below q) v O);have HL:=zz hl.rd;have Hs:=zz hs;have Z:=hl.len;clear h hl hs;obtain⟨p,A,ae,I⟩:=x;simp only[At.cells]at *;obtain⟨N,q⟩:∃N,I.length=N:=⟨_,rfl⟩;rw[q]at Z hn ⊢;have HN:=zz q;clear q;obtain⟨W0,q,L⟩:=xi w 38 #[.string p,.slice A N ae];have HX:=zz L;have ad:=zz q;clear L q;go_enter func104,ntmps104;go_wp2;rw[ad.o]
 go_loopg[5,6,7,11] N (fun gk R U V q L=>∃(i:Nat) (m:Nat),i<=N/\gk=N-i/\q=.int .i64 (i:Int)/\R=.int .u32 (m:Int)/\m=qm K 0 (I.take i)/\Bl w L)
 case atStart=>exact⟨0,0,zpD _,rfl,rfl,rfl,rfl,HX.o.below⟩
 case round=>
  obtain⟨i,m,hi,rfl,rfl,rfl,q,L⟩:=hrel;have HB:=zz L;have Hm:=zz q;clear q L
  by_cases ac:i<N
  ·have X:i<I.length:=by rw[HN.o];exact ac
   obtain⟨b,o,rfl,af,U⟩:=(HL.o.below HB.o).at Tm.xG i X;have Y:I.take (i+1)=I.take i++[I[i]]:=zpC X;have R:(I.take i).length=i:=by rw[zp3];omega
   have V:m<2 ^ i:=by
    have q:=zah K (I.take i) 0;rw[R,zp6,Nat.pow_zero,<-Hm.o]at q;omega
   have q:=zdt K I[i] (I.take i) 0;rw[<-Y,R,zp6,zkD,<-Hm.o]at q;have L:=Hs.o _ (zpB X);generalize I[i]=t at U q L;obtain⟨v,⟨k,n,s⟩⟩:=t;simp only[Tm.cells]at U q L
   replace U:wr.rangeAt b (o+i*4) _:=U
   obtain⟨d0,d1,d2,d3⟩:=four U;have aa:=zz (zml i m zd V);have ab:=zz L;clear U L Y R V;have L:=xq wr (.cells #[.string v,.int .i8 k,.int .i64 n,.string s] 45);have U:=zz (zl HB.o L);clear L
   by_cases O:v.toList=[]
   ·rw[if_pos (.inl O)]at q;have L:=zz q;have b1:v.toList.isEmpty=true:=by simp[O]
    have b2:(v.toList==([]:List UInt8))=true:=by simp[O]
    clear q O;go_wp2
    go_roundg (N-(i+1))
    case measure=>omega
    case rel=>exact⟨i+1,m+2 ^ i,zd,rfl,ze,congrArg (Value.int .u32) aa.o,L.o.symm,U.o⟩
   ·have b1:v.toList.isEmpty=false:=by simp[O]
    have b2:(v.toList==([]:List UInt8))=false:=by simp[O]
    have Hc:=zz (Hh.o _ U.o v ab.o)
    by_cases Y:v∈K
    ·rw[if_pos (.inr Y)]at q;have L:=zz q;rw[qs Y]at Hc;clear q O Y
     go_wp2_with (go_at_call 170;refine Hc.o.mono ?_;rintro e w4⟨rfl,R⟩;have V:=zz (zl U.o R);clear R)
     go_roundg (N-(i+1))
     case measure=>omega
     case rel=>exact⟨i+1,m+2 ^ i,zd,rfl,ze,congrArg (Value.int .u32) aa.o,L.o.symm,V.o⟩
    ·rw[if_neg (fun h=>h.elim O Y)]at q;have L:=zz q;rw[qu Y]at Hc;clear q O Y
     go_wp2_with (go_at_call 170;refine Hc.o.mono ?_;rintro e w4⟨rfl,R⟩;have V:=zz (zl U.o R);clear R)
     go_roundg (N-(i+1))
     case measure=>omega
     case rel=>exact⟨i+1,m,zd,rfl,ze,rfl,L.o.symm,V.o⟩
  ·obtain rfl:i=N:=zd;have q:I.take i=I:=by rw[<-HN.o,zp5]
   rw[q]at Hm;clear q;go_wp2;go_returns;exact⟨by rw[<-Hm.o];rfl,HB.o⟩
abbrev zed(h:Nat):Value:=.func (.func 170) #[.pointer (some ⟨h,0,none⟩)] #[]
def zlG(K xs:List ByteArray)(w:World)(e:Ending)(w':World):Prop:=
 Bl w w'/\((e=.returned (.int .i64 (-1))/\∀v∈xs,v∉K)\/∃i:Nat,e=.returned (.int .i64 (i:Int))/\i<xs.length/\(∀v∈xs.take i,v∉K)/\∀h:i<xs.length,xs[i]∈K)
theorem zk9(w:World)(sb:Nat)(K:List ByteArray)(A:Option Addr)(cap n:Nat)(xs:List ByteArray)(hn:xs.length=n)(hl:zZ xD w A xs)(hb:n<=4194304)(hh:∀W,Bl w W->∀v∈xs,Calls prog 170 #[.pointer (some ⟨sb,0,none⟩),.string v] W fun e q=>e=.returned (.bool (tf (v∈K)))/\Bl W q):
 Calls prog 221 #[.slice A n cap,zed sb] w (zlG K xs w):=by
 have HN:=zz hn;have HL:=zz hl;have Hh:=zz hh;clear hn hl hh;go_enter func221,ntmps221;go_wp2
 go_loopg[5,8] n (fun gk L q I=>∃i:Nat,i<=n/\gk=n-i/\q=.int .i64 (i:Int)/\(∀u∈xs.take i,u∉K)/\Bl w I)
 case atStart=>exact⟨0,zpD _,rfl,rfl,fun u q=>(by simp at q),Below.refl _ _⟩
 case round=>
  obtain⟨i,hi,rfl,rfl,q,I⟩:=hrel;have U:=zz q;have N:=zz I;clear q I
  by_cases R:i<n
  ·have q:i<xs.length:=by rw[HN.o];exact R
   have V:=zz q;obtain⟨b,o,rfl,aa,I⟩:=(HL.o.below N.o).at (c:=0) (fun _=>rfl) i q;have Z:=I 0 _ rfl;have L:Kz (xs.take (i+1)=xs.take i++[xs[i]]):=zpC q;have O:=zz (Hh.o wr N.o _ (zpB q));have Y:Kz (∀h:i<xs.length,xs[i]=xs[i]'q):=fun _=>rfl
   generalize xs[i]'q=u at Z L O Y;simp only[zqI,zqk,zp6]at Z;clear I q
   by_cases I:u∈K
   ·rw[qs I]at O;have X:=zz I;clear I
    go_wp2_with (go_at_call 170;refine O.o.mono ?_;rintro e w1⟨rfl,q⟩)
    go_returns;exact⟨zl N.o q,.inr ⟨i,rfl,V.o,U.o,fun h=>by rw[Y.o h];exact X.o⟩⟩
   ·rw[qu I]at O;have X:=zz I;clear I
    go_wp2_with (go_at_call 170;refine O.o.mono ?_;rintro e w1⟨rfl,q⟩)
    go_roundg (n-(i+1))
    case measure=>omega
    case rel=>exact⟨i+1,zd,rfl,ze,fun x hx=>by
     rw[L.o]at hx
     rcases zpE.1 hx with h|h
     ·exact U.o x h
     ·rw[zpy.1 h];exact X.o,zl N.o q⟩
  ·obtain rfl:i=n:=zd;go_wp2;go_returns;exact⟨N.o,.inl ⟨rfl,fun v q=>U.o v (by rw[<-HN.o,zp5];exact q)⟩⟩
noncomputable def Za(K xs:List ByteArray):List ByteArray:=xs.filter fun v=>!tf (v∈K)
def zk3(K xs:List ByteArray)(A:Option Addr)(cap:Nat)(w:World)(e:Ending)(w':World):Prop:=
 ∃m,e=.returned (.slice A m cap)/\(Za K xs).length=m/\Own xD 9 1 w' A cap (Za K xs)/\zh (·∈zw A) w w'
theorem zlS{g:Nat}{U L rest:List ByteArray}(h:Own xD 9 1 w (some ⟨g,0,none⟩) cap U)(Y:U=L++rest)(hw:w'=w.setCells g L.length (rest.map fun _=>.string ⟨#[]⟩)):Own xD 9 1 w' (some ⟨g,0,none⟩) cap L:=by
 subst hw Y;obtain⟨h1,q⟩:=h
 rcases q with⟨q,_⟩ |⟨g0,c,N,q,hb,Z,hn,hc,hs,V⟩
 ·cases q
 injection q with q R X
 injection q with q
 injection q with q
 subst q X;have I:=UY (f:=xD) (size:=1) (fun _=>rfl) L;rw[zpA]at hn;have O:N.toList.length=cap:=by rw[zrr,hs,zqI]
 have W:=zD.setCells (rest.map fun _=>Value.string ⟨#[]⟩) L.length w N Z (by rw[zpO];omega);refine⟨by rw[I],.inr ⟨g,cap,_,rfl,zpD _,W,zd,hc,?_,?_⟩⟩
 ·simp only[zq0,zpA,zp3,zqC,zpO,O];omega
 ·rw[List.toList_toArray,zpX,zqx (by rw[zp3,O];omega),List.take_take,zqI,Nat.min_self];have R:=congrArg (List.take L.length) V;rw[List.take_take,zpA,zp2,zqx (by rw[I];omega),zpT (l:=List.flatMap xD L) (by rw[I];omega)]at R;rw[<-R]
  congr 1
  omega
theorem TR(h:∀v∈xs,v∉K):Za K xs=xs:=List.filter_eq_self.2 fun v q=>by rw[qu (h v q)];rfl
theorem zfL{j:Nat}(h:j<xs.length):Za K (xs.take (j+1))=Za K (xs.take j)++Za K [xs[j]]:=by
 unfold Za;rw[zpC h,zrk]
theorem zh.setCells{S:Nat->Prop}{a:World}{g:Nat}(q:g<a.heap.size->S g):∀(I:List Value)(o:Nat)(w:World),zh S a w->zh S a (w.setCells g o I)
 |[],_,_,h=>h
 |v::r,o,w,h=>zh.setCells q r (o+1) _ (h.setCell (p:=⟨g,o,none⟩) q v)
theorem ziF(w:World)(sb:Nat)(K:List ByteArray)(A:Option Addr)(cap n:Nat)(xs:List ByteArray)(hn:xs.length=n)(N:Own xD 9 1 w A cap xs)(hb:n<=4194304)(hh:∀W,zh (·∈zw A) w W->∀v∈xs,Calls prog 170 #[.pointer (some ⟨sb,0,none⟩),.string v] W fun e w'=>e=.returned (.bool (tf (v∈K)))/\Bl W w'):
 Calls prog 168 #[.slice A n cap,zed sb] w (zk3 K xs A cap w):=by
 have HN:=zz hn;have HO:=zz N;have Hh:=zz hh;have Hf:=zz (zk9 w sb K A cap n xs hn N.xI hb fun W q=>hh W (zh.xj _ q));clear hn N hh;go_enter func168,ntmps168
 go_wp2_with (go_at_call 221;refine Hf.o.mono ?_;rintro e w1⟨aa,⟨rfl,ag⟩|⟨i0,rfl,R,aq,hk⟩⟩)
 ·go_returns;exact⟨n,rfl,by rw[TR ag];exact HN.o,by rw[TR ag];exact HO.o.below aa,zh.xj _ aa⟩
 ·have aD:i0<n:=by rw[<-HN.o];exact R
  obtain⟨g,rfl⟩:∃g,A=some ⟨g,0,none⟩:=by
   rcases HO.o.form with⟨-,-,I⟩ |⟨g,h,-⟩
   ·rw[I]at R;simp at R
   ·exact⟨g,h⟩
  have I:Za K (xs.take (i0+1))=xs.take i0:=by
   rw[zfL R,TR aq];unfold Za;rw[List.filter_cons,qs (hk R)];simp
  have H0:=zz I;have ay:=zz (HO.o.below aa);have aA:=zz aa;have q:wrap64 ((i0:Int)+1)=(i0:Int)+1:=by unfold wrap64;omega
  rw[q,‹((i0:Int)==-1)=false›];clear q;clear I aa aq hk R
  go_loopg[5,6,7] (n-(i0+1)) (fun gk L I U q=>∃(i j:Nat) (O:List ByteArray),i<j/\j<=n/\gk=n-j/\L=.int .i64 (i:Int)/\I=.int .i64 (j:Int)/\O.length=n/\O.take i=Za K (xs.take j)/\O.drop j=xs.drop j/\Own xD 9 1 q (some ⟨g,0,none⟩) cap O/\zh (·∈zw (some ⟨g,0,none⟩)) w q)
  case atStart=>exact⟨i0,i0+1,xs,zd,zd,rfl,rfl,rfl,HN.o,H0.o.symm,rfl,ay.o,zh.xj _ aA.o⟩
  case round=>
   obtain⟨i,j,O,aC,aB,rfl,rfl,rfl,V,X,ae,N,hC⟩:=hrel
   by_cases an:j<n
   ·have Y:j<xs.length:=by rw[HN.o];exact an
    have ad:j<O.length:=by rw[V];exact an
    have aj:O[j]=xs[j]:=by
     have q:=zqa ad;have I:=zqa Y;rw[ae,I]at q;injection q with q _
     exact q.symm
    have af:O.drop (j+1)=xs.drop (j+1):=by
     have q:=zqa ad;have I:=zqa Y;rw[ae,I]at q;injection q with _ q
     exact q.symm
    have ak:=zfL (K:=K) Y;obtain⟨b,o,hA,aw,hr⟩:=N.xI.at (c:=0) (fun _=>rfl) j ad;injection hA with hA
    injection hA with az ax
    subst az ax;rw[aj]at hr;have d0:=hr 0 _ rfl;have I:=Hh.o wr hC _ (zpB Y);generalize xs[j]=u at d0 ak I aj;simp only[zqI,zqk,zp6]at d0;obtain⟨av,q⟩:=N.zH;have al:i<O.length:=zd;have ab:∃y,wr.cell? ⟨g,i,none⟩=some y:=by
     obtain⟨b',o',L,-,ai⟩:=N.xI.at (c:=0) (fun _=>rfl) i al;injection L with L
     injection L with Z U
     subst Z U;have:=ai 0 _ rfl;simp only[zqI,zqk,zp6]at this;exact⟨_,this⟩
    obtain⟨y,hy⟩:=ab;have ac:=zz I;have am:=zz ak;have Ho:=zz N;have HC:=zz hC;have ap:=zz X;have ar:=zz af;have ah:=zz q;have au:=zz al;have ao:=zz V;clear I ak N hC X ae af q al V hr aj Y ad aw
    by_cases hK:u∈K
    ·rw[qs hK]at ac;have Y:Za K [u]=[]:=by unfold Za;rw[List.filter_cons,qs hK];simp
     have ad:=zz Y;clear hK Y hy
     go_wp2_with (go_at_call 170;refine ac.o.mono ?_;rintro e w4⟨rfl,I⟩)
     go_roundg (n-(j+1))
     case measure=>omega
     case rel=>exact⟨i,j+1,O,zd,zd,rfl,rfl,ze,ao.o,by rw[am.o,ad.o,zp7];exact ap.o,ar.o,Ho.o.below I,HC.o.trans (zh.xj (fun _=>False) I) (fun x hx _=>hx.elim)⟩
    ·rw[qu hK]at ac;have Y:Za K [u]=[u]:=TR (fun v hv=>by rw[zpy.1 hv];exact hK);have ad:=zz Y;clear hK Y
     go_wp2_with (go_at_call 170;refine ac.o.mono ?_;rintro e w4⟨rfl,I⟩;have aj:=zz I;have kc:=ah.o.below I;have f0:=kc.frozen i;have y0:=(I.cell (p:=⟨g,i,none⟩) ah.o.lt).trans hy;clear I kc)
     have af:=(Ho.o.below aj.o).put (fun _=>rfl) i au.o 0 [.string u] u zp (zp);rw[zqI,zqk]at af;have Y:=(HC.o.trans (zh.xj (fun _=>False) aj.o) (fun x hx _=>hx.elim)).setCell (p:=⟨g,i,none⟩) (fun _=>by simp[zw]) (.string u)
     go_roundg (n-(j+1))
     case measure=>omega
     case rel=>
      have ak:i<O.length:=au.o;refine⟨i+1,j+1,O.set i u,zd,zd,rfl,ze,ze,by rw[zqe];exact ao.o,?_,?_,af,Y⟩
      ·rw[am.o,ad.o,<-ap.o,zpC (by rw[zqe];exact ak),zqR,List.take_set_of_le (zpx _)]
      ·rw[List.drop_set_of_lt zd];exact ar.o
   ·obtain rfl:j=n:=zd;have ab:∀k,k<j-i->(wr.cell? ⟨g,i+k,none⟩).isSome=true:=fun k hk=>by
     obtain⟨b',o',L,-,ai⟩:=N.xI.at (c:=0) (fun _=>rfl) (i+k) zd;injection L with L
     injection L with Z U
     subst Z U;have:=ai 0 _ rfl;simp only[zqI,zqk,zp6]at this;rw[this];rfl
    obtain⟨av,q⟩:=N.zH;have af:∀ty,(Builtin.clear_ #[86] ty #[.slice (some ⟨g,i,none⟩) (j-i) (cap-i)]).run prog wr=.ok (.tuple #[]) (wr.setCells g i (List.replicate (j-i) (.string ⟨#[]⟩))):=fun ty=>
     Lib.run_clear_slice wr _ _ ty _ underlying86 (fun w=>zo) rfl rfl g i _ _ zd ab (fun k hk=>q.frozen _)
    have ad:j<=cap:=by
     rcases N.form with⟨h,-⟩ |⟨I,-,-,h,-⟩
     ·cases h
     ·omega
    have ht:xs.take j=xs:=by rw[<-HN.o,zp5]
    rw[ht]at X;have L:(O.take i).length=i:=by rw[zp3];omega
    have I:=zlS (w':=wr.setCells g i (List.replicate (j-i) (.string ⟨#[]⟩))) N (zqi i O).symm (by
     rw[L,List.map_const',zqC,V])
    rw[X]at I L;have Y:zh (·∈zw (some ⟨g,0,none⟩)) w (wr.setCells g i (List.replicate (j-i) (.string ⟨#[]⟩))):=zh.setCells (fun _=>by simp[zw]) _ _ _ hC;have U:=zz I;have Z:=zz L;have ac:=zz Y;clear I L Y hC N V X ae ab q ht;go_wp2;go_returns;exact⟨i,rfl,Z.o,U.o,ac.o⟩
theorem zg3(w:World)(A:Option Addr)(cap n:Nat)(xs:List ByteArray)(I:xs.length=n)(h:zZ xD w A xs)(q:n<=4194304):Calls prog 169 #[.slice A n cap] w (XA xD 9 1 xs w):=
 UL Tryz.zi1 Vh rfl (fun w=>sizeOf9 w) (fun _=>rfl) za6 w A cap n xs I h q zr
theorem yN.zC(h:yN w I q B zM N f K)(L:zh S w w')(R:¬S I)(O:¬S q):yN w' I q B zM N f K:=⟨h.r.zC L R,h.m.zC L O,h.s⟩
theorem Ur(w:World)(X mb:Nat)(B:Option Addr)(zM nb:Nat)(f:Value->Option Value)(K:List ByteArray)(h:yN w X mb B zM nb f K)(A:Option Addr)(cap n:Nat)(xs:List ByteArray)(hn:xs.length=n)(hl:zZ xD w A xs)(hs:∀u∈xs,u.size<=maxLen)(hb:n<=4194304):
 Calls prog 102 #[.pointer (some ⟨X,0,none⟩),.slice A n cap] w (XA xD 9 1 (Za K xs) w):=by
 have Hc:=zz (zg3 w A cap n xs hn hl hb);have Hd:=zz (fun(N:Option Addr) (q O:Nat) W (U:Bl w W) (L:xs.length=O) (ho:Own xD 9 1 W N q xs) (hg:∀g∈zw N,w.heap.size<=g)=>ziF W X K N q O xs L ho zd fun Y I v V=>zcT Y X mb B zM nb f K ((h.below U).zC I (fun R=>by have:=hg _ R;have:=h.r.lt;omega) (fun R=>by have:=hg _ R;have:=h.m.lt;omega)) v (hs v V));clear h hn hl hs;go_enter func102,ntmps102
 go_wp2_with (first
  |(go_at_call 169;refine Hc.o.mono ?_;rintro e w1⟨A1,L,n1,rfl,I,O,U,N⟩;have Y:=zz I;have Z:=zz O;have V:=zz U;have q:=zz N;clear I O U N)
  |(go_at_call 168;refine(Hd.o _ _ _ _ V.o Y.o Z.o q.o).mono ?_;rintro e w2⟨m,rfl,R,ab,aa⟩))
 go_returns;exact⟨A1,L,m,rfl,R,ab,aa.qt V.o (zpx _) (fun x hx=>q.o x hx),q.o⟩
def V2(x y:Ex)(v:ByteArray):Prop:=x.q=0/\x.t.v=v/\v∉y.vars
def zai(b:Bool)(w:World)(e:Ending)(w':World):Prop:=e=.returned (.bool b)/\Bl w w'
theorem zff(w:World)(vb:Nat)(v:ByteArray)(hv:w.cell? ⟨vb,0,none⟩=some (.string v))(Z:vb<w.heap.size)(x y:Ex)(hy:y.zN w)(ae:y.zO.length<=1048576)(ab:∀t∈y.zO,t.v.size<=maxLen):
 Calls prog 171 #[.agg x.cells.toArray,.agg y.cells.toArray,.pointer (some ⟨vb,0,none⟩)] w (zai (tf (V2 x y v)) w):=by
 have Hv:=zz (fun W (I:Bl w W)=>TG W y (hy.below I) ae ab);have ai:y.vars.length<=1048576:=by have:=YY y.zO;unfold Ex.vars;omega
 obtain⟨X,h⟩:∃X,y.vars=X:=⟨_,rfl⟩;rw[h]at Hv ai;have hP:V2 x y v↔x.q=0/\x.t.v=v/\v∉X:=by unfold V2;rw[h]
 clear h;obtain⟨q1,⟨N,k1,n1,s1⟩,A1,O,ah⟩:=x;obtain⟨q2,⟨v2,k2,n2,s2⟩,A2,R,af⟩:=y;simp only[Ex.cells]at *;generalize ah.length=N1 at *;generalize af.length=N2 at *;obtain⟨b,hb⟩:∃b,tf (V2 (.mk q1 ⟨N,⟨k1,n1,s1⟩⟩ A1 O ah) (.mk q2 ⟨v2,⟨k2,n2,s2⟩⟩ A2 R af) v)=b:=⟨_,rfl⟩;rw[hb];have U:b=true↔q1=0/\N=v/\v∉X:=by rw[<-hb,Zn,hP];rfl
 have Hb:=zz U;obtain⟨W2,L,h⟩:=yb w 48 48 #[.int .i8 q1,.string N,.int .i8 k1,.int .i64 n1,.string s1,.slice A1 N1 O] #[.int .i8 q2,.string v2,.int .i8 k2,.int .i64 n2,.string s2,.slice A2 N2 R];have HX:=zz h;have V:=zz L;have Y:Kz (∀W,Bl W2 W->_):=fun W I=>zpG ((h.b0.below I).cell 0) (zpG ((h.b0.below I).cell 1) (zpG ((h.b1.below I).cell 0) (zpG ((h.b1.below I).cell 1) (zpG ((h.b1.below I).cell 2) (zpG ((h.b1.below I).cell 3) (zpG ((h.b1.below I).cell 4) (zpG ((h.b1.below I).cell 5) (show W.cell? ⟨vb,0,none⟩=some (.string v)from((zl h.below I).cell (p:=⟨vb,0,none⟩) Z).trans hv))))))))
 clear h L hP hb U hv Z hy ae ab
 by_cases h1:q1=0
 ·by_cases h2:N=v
  ·subst h1 h2;have L:=bytes_beq N N;rw[qs rfl]at L;go_enter func171,ntmps171;go_wp2;rw[V.o];refine Vm [(0,0),(1,0),(2,0),(3,0),(4,0),(5,0),(6,0),(7,0),(8,0),(9,0),(10,0),(11,0),(13,0),(12,2),(14,2),(15,0),(16,0),(17,0)] (fun W=>Bl W2 W) ?_
   repeat refine zS Y.o ?_
   refine xf fun K hK=>?_
   go_simp;refine(Hv.o _ (zl HX.o.below (Below.refl _ _).drew)).mono ?_;rintro e w3⟨A3,ad,M3,rfl,aa,h,ag,aj⟩;have U:=zz (show Bl W2 w3 from(Below.refl _ _).drew.trans ag);have ac:=zz aa;have ak:=zz h;refine hK.out _ _ U.o (fun _=>trivial) ?_;clear hK K aa h ag aj;try refine zQ ?_
   repeat refine zS Y.o ?_
   refine xf fun K hK=>?_
   go_simp;refine(zeT w3 A3 ad M3 X ac.o ak.o.xI (by have:=ac.o;omega) N).mono ?_;rintro e w4⟨rfl,rfl⟩;refine hK.out _ _ U.o (fun _=>trivial) ?_;clear hK K;try refine zQ ?_
   repeat refine zS Y.o ?_
   refine xt ?_;go_wp2;go_returns;refine⟨Ym ?_,zl HX.o.below U.o⟩;have:=Hb.o
   by_cases h3:N∈X
   ·rw[qs h3];have h:b=false:=by
     rcases b with _|_
     ·rfl
     ·exact((this.1 rfl).2.2 h3).elim
    rw[h];rfl
   ·rw[qu h3,this.2 (by simpa using h3)];rfl
  ·subst h1;have L:=bytes_beq N v;rw[qu h2]at L;have h:b=false:=by
    have:=Hb.o
    rcases b with _|_
    ·rfl
    ·exact(h2 (this.1 rfl).2.1).elim
   subst h;clear h2;go_enter func171,ntmps171;go_wp2;rw[V.o];refine Vm [(0,0),(1,0),(2,0),(3,0),(4,0),(5,0),(6,0),(7,0),(8,0),(9,0),(10,0),(11,0),(13,0),(12,2),(14,2),(15,0),(16,0),(17,0)] (fun W=>Bl W2 W) ?_
   repeat refine zS Y.o ?_
   refine xt ?_;go_wp2;go_returns;exact⟨rfl,zl HX.o.below (Below.refl _ _).drew⟩
 ·have L:(q1==0)=false:=by simp[h1]
  have h:b=false:=by
   have:=Hb.o
   rcases b with _|_
   ·rfl
   ·exact(h1 (this.1 rfl).1).elim
  subst h;clear h1;go_enter func171,ntmps171;go_wp2;rw[V.o];refine Vm [(0,0),(1,0),(2,0),(3,0),(4,0),(5,0),(6,0),(7,0),(8,0),(9,0),(10,0),(11,0),(13,0),(12,2),(14,2),(15,0),(16,0),(17,0)] (fun W=>Bl W2 W) ?_
  repeat refine zS Y.o ?_
  refine xt ?_;go_wp2;go_returns;exact⟨rfl,zl HX.o.below (Below.refl _ _).drew⟩
end
