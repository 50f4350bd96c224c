/-
  What is worked out, counted from above: things and their tex
-/
import Derived.Test.YtfdickkdlcgicaaGreatDoorP08
set_option maxRecDepth 100000
set_option maxHeartbeats 8000000
set_option linter.all false
namespace Go.Proofs.YtfdickkdlcgicaaGreatDoor.C
open Go.Proofs.Tryz Go Go.RowKit Go.Maps Go.WideMaps
variable {B:Option Addr}{D Q Q' S:Nat->Prop}{I N V Z cap m no q zM:Nat}{K xs:List ByteArray}{L:Int}{f:Value->Option Value}{v:Value}{w w':World}
section
structure Th where
 k:Int
 n:Int
 s:ByteArray
 made:ByteArray
 deep:Int
abbrev Th.cells(x:Th):List Value:=[.int .i8 x.k,.int .i64 x.n,.string x.s,.string x.made,.int .i64 x.deep]
structure Th.qL (x:Th):Prop where
 k0:-128<=x.k
 k1:x.k<=127
 n0:-9223372036854775808<=x.n
 n1:x.n<=9223372036854775807
 s:x.s.size<=1048576
 made:x.made.size<=65
theorem wrap_i64{k:Int}(h0:-9223372036854775808<=k)(h:k<=9223372036854775807):IntKind.i64.wrap k=k:=by
 simp only[IntKind.wrap,IntKind.bits,IntKind.signed,Bool.true_and,decide_eq_true_eq,ge_iff_le,Nat.reduceSub,Nat.reducePow,Int.reducePow];split<;>omega
def zlQ(m:Nat)(w:World)(e:Ending)(w':World):Prop:=∃s:ByteArray,e=.returned (.string s)/\s.size<=m/\Bl w w'
theorem zeY(w:World)(h:Pw w)(p:ByteArray)(n:Nat)(R:n<=1048576)(I:p.size<=1048576):Calls prog 205 #[.string p,.int .i64 (n:Int)] w fun e q=>e=.returned (.string (ye p n))/\Bl w q:=by
 have r:=zz (fun W (q:Bl w W)=>Tv W (h.below q) (n:Int) zd (zd));have O:=Lib.itoa_length_le (n:Int) zd (zd);unfold ye;generalize Lib.itoa (n:Int)=N at *;clear h;go_enter func205,ntmps205
 go_wp2_with (go_at_call 211;refine(r.o _ (Below.refl _ _)).mono ?_;rintro e L⟨rfl,q⟩)
 go_returns;exact⟨rfl,q⟩
theorem zc0(w:World)(hP:Pw w)(x:Th)(hx:x.qL):Calls prog 206 #[.agg x.cells.toArray] w (zlQ 1048800 w):=by
 obtain⟨k,n,s,U,dp⟩:=x;obtain⟨k0,k1,n0,n1,hs,ad⟩:=hx;simp only[Th.cells]at *;obtain⟨R,ac,r⟩:=xj w 277 #[.int .i8 k,.int .i64 n,.string s,.string U,.int .i64 dp];have ab:=zz ac;have HX:=zz r;have HP:=zz (fun W (q:Bl R W)=>(hP.below r.below).below q);have c1:=r.b0.cell 3;have V:=zz r.below;have L:=Lib.itoa_length_le k zd (zd);have O:=Lib.itoa_length_le n zd (zd);have Y:=Lib.itoa_length_le (s.size:Int) zd (zd);have C1:=zz (fun W q=>Tv W (HP.o W q) k zd (zd));have C2:=zz (fun W q=>zhu W (HP.o W q) n zd (zd));have C3:=zz (fun W q=>Tv W (HP.o W q) (s.size:Int) zd (zd));generalize Lib.itoa k=I at *;generalize Lib.itoa n=N at *;generalize Lib.itoa (s.size:Int)=X at *;have Hi:=zz (zpf L (zpf O Y));have H0:Kz (∀W,Bl R W->W.cell? ⟨w.heap.size,0,none⟩=some (.int .i8 k)/\W.cell? ⟨w.heap.size,1,none⟩=some (.int .i64 n)/\W.cell? ⟨w.heap.size,2,none⟩=some (.string s)/\¬9223372036854775807<1+I.length/\¬9223372036854775807<1+I.length+1/\¬9223372036854775807<1+I.length+1+N.length/\¬9223372036854775807<1+I.length+1+N.length+1/\¬9223372036854775807<1+I.length+1+N.length+1+X.length/\¬9223372036854775807<1+I.length+1+N.length+1+X.length+1/\¬9223372036854775807<1+I.length+1+N.length+1+X.length+1+s.size):=fun W q=>⟨(r.b0.below q).cell 0,(r.b0.below q).cell 1,(r.b0.below q).cell 2,zd,zd,zd,zd,zd,zd,zd⟩
 clear hP r L O Y;go_enter func206,ntmps206
 by_cases hm:U.toList=[]
 ·have b1:U.toList.isEmpty=true:=by simp[hm]
  have b2:(U.toList==([]:List UInt8))=true:=by simp[hm]
  go_upto_region 3 with fail
  all_goals try rw[ab.o]
  refine Vc [(0,0),(1,0),(2,0),(3,0),(7,0),(8,0),(9,0),(13,0),(14,0),(15,0),(16,0),(20,0),(21,0),(22,0),(4,2),(5,0),(6,0),(10,2),(11,0),(12,0),(17,2),(18,0),(19,0),(23,0),(24,0)] (fun W=>Bl R W) ?_
  repeat refine zT H0.o ?_
  refine xc fun K L=>?_
  go_simp;rw[wrap_i64 zd (zd)];refine(C1.o _ (Below.refl _ _).drew).mono ?_;rintro e w1⟨rfl,Z⟩;have q:Bl R w1:=zu (Below.refl _ _).drew Z;refine L.out _ _ q (fun _=>trivial) ?_;clear L K;try refine zQ ?_
  repeat refine zT H0.o ?_
  refine xc fun K L=>?_
  go_simp;refine(C2.o _ q).mono ?_;rintro e w2⟨rfl,Y⟩;have r:Bl R w2:=zu q Y;refine L.out _ _ r (fun _=>trivial) ?_;clear L K;try refine zQ ?_
  repeat refine zT H0.o ?_
  refine xc fun K L=>?_
  go_simp;refine(C3.o _ r).mono ?_;rintro e w3⟨rfl,aa⟩;have O:Bl R w3:=zu r aa;refine L.out _ _ O (fun _=>trivial) ?_;clear L K;try refine zQ ?_
  repeat refine zT H0.o ?_
  refine xu ?_;have L:Kz (Bl w w3):=zu V.o O;clear Z Y aa q r O;go_wp2;go_returns;refine⟨_,rfl,?_,L.o⟩;simp only[zp5];have h:=Hi.o;have e1:(⟨I.toArray⟩:ByteArray).size=I.length:=by simp[ByteArray.size]
  have e2:(⟨N.toArray⟩:ByteArray).size=N.length:=by simp[ByteArray.size]
  have e3:(⟨X.toArray⟩:ByteArray).size=X.length:=by simp[ByteArray.size]
  rw[e1,e2,e3];have q:(⟨#[118]⟩:ByteArray).size=1:=rfl;have r:(⟨#[58]⟩:ByteArray).size=1:=rfl;omega
 ·have b1:U.toList.isEmpty=false:=by simp[hm]
  have b2:(U.toList==([]:List UInt8))=false:=by simp[hm]
  go_wp2;go_returns;refine⟨_,rfl,?_,V.o⟩;simp only[zp5];have q:(⟨#[109]⟩:ByteArray).size=1:=rfl;omega
def zll(w:World)(e:Ending)(w':World):Prop:=∃x:Th,e=.returned (.agg x.cells.toArray)/\x.qL/\Bl w w'
theorem Xr:(prog.info? 277).map (·.size)=some 5:=zo
theorem znW(h:Array Value)(w:World)(g:Nat)(q:Array Value)(L:h.getD 4 undef=.pointer (some ⟨g,0,none⟩))(b:w.heap[g]? = some (.cells q 277 (0,0)))(hi:(prog.info? 277).map (·.size)=some q.size):
 (results Tryz.f210 h).run prog w=.ok (.agg q) w:=by
 have r:h[4]?.getD undef=.pointer (some ⟨g,0,none⟩):=by simpa using L
 have I:=run_loadVar_row (P:=prog) w g 277 277 q (0,0) _ b underlying277 rfl hi;simp[results,results210,r,asAddr,I]
theorem znw{z:Int}(h:0<=z)(q:z<18446744073709551616):∃n:Nat,n<18446744073709551616/\z=(n:Int):=⟨z.toNat,zd,zd⟩
theorem zj2(z:Int):∃n:Nat,n<18446744073709551616/\IntKind.u64.wrap z=(n:Int):=by
 refine znw (z:=IntKind.u64.wrap z) ?_ ?_<;>simp only[IntKind.wrap,IntKind.bits,IntKind.signed,Bool.false_and,zp1,if_false,Nat.reducePow,Int.reducePow]<;>omega
theorem zkz(w:World)(hP:Pw w)(s:ByteArray)(hs:s.size<=1048576)(A:Option Addr)(cap n:Nat)(l:List Th)(hl:zY Th.cells w A l)(hn:l.length=n)(ad:n<=4194304)(hf:∀x∈l,x.qL):
 Calls prog 210 #[.string s,.slice A n cap] w (zll w):=by
 obtain⟨W0,h,q⟩:=xj w 277 #[.int .i8 0,.int .i64 0,.string ⟨#[]⟩,.string ⟨#[]⟩,.int .i64 0];have N:=zz h;have V:=zz q;have HP:=zz hP;have HL:=zz hl;have Hn:=zz hn;have Hf:=zz hf;clear h q hP hl hn hf;go_enter func210,ntmps210;go_wp2
 go_loopg[0,5,6] n (fun gk q r h O=>∃(i:Nat) (d:Int) (t:ByteArray),i<=n/\gk=n-i/\h=.int .i64 (i:Int)/\r=.int .i64 d/\q=.string t/\t.size<=1048576+i*1048801/\zD O w.heap.size 277 #[.int .i8 0,.int .i64 0,.string ⟨#[]⟩,.string ⟨#[]⟩,.int .i64 0]/\Bl w O)
 case atStart=>exact⟨0,0,s,zo5 _,rfl,rfl,rfl,rfl,zd,by first|exact V.o.b0 |(rw[N.o];exact V.o.b0),by first|exact V.o.below |(rw[N.o];exact V.o.below)⟩
 case round=>
  obtain⟨i,d,t,hi,rfl,rfl,rfl,rfl,ht,L,h⟩:=hrel;have U:=zz h;have Hk:=zz L;clear h L
  by_cases I:i<n
  ·have r:i<l.length:=by rw[Hn.o];exact I
   obtain⟨b,o,rfl,Y,h⟩:=(HL.o.below U.o).at (c:=4) (fun _=>rfl) i r;have q:=Hf.o _ (zo3 r);generalize l[i]=x at h q;have X:=zz (fun W (R:Bl w W)=>zc0 W (HP.o.below R) x q);obtain⟨k,m,xs,md,dp⟩:=x;simp only[Th.cells]at h X
   replace h:wr.rangeAt b (o+i*5) _:=h
   obtain⟨d0,d1,d2,d3,Z⟩:=ZP h;clear q r h;have h:=fun W (R:Bl wr W)=>(R.cell (p:=⟨b,o+i*5+4,none⟩) Y).trans Z
   have r:=zz h;clear h
   go_wp2_with (go_at_call 206;refine(X.o _ U.o).mono ?_;rintro e w1⟨u,rfl,R,h⟩;have e4:=r.o _ h;have q:=zz h;clear h)
   have Hu:=zz (show(t++⟨#[32]⟩++u).size<=1048576+(i+1)*1048801 by
    rw[zp5,zp5];have f1:(⟨#[32]⟩:ByteArray).size=1:=rfl;omega)
   clear R
   go_roundg (n-(i+1))
   case measure=>omega
   case rel=>exact⟨i+1,max d dp,_,I,rfl,ze,rfl,rfl,Hu.o,Hk.o.below q.o,zu U.o q.o⟩
  ·obtain rfl:i=n:=zd;clear hi;have Y:=zz (show t.size<=9223372036854775807 from zd);obtain⟨h,ab⟩:∃h,t.size=h:=⟨_,rfl⟩;have X:h<=9223372036854775807:=by rw[<-ab];exact Y.o
   go_wp2
   go_loopg[7,8] h (fun gk q r O=>∃(j z:Nat),j<=h/\gk=h-j/\r=.int .i64 (j:Int)/\q=.int .u64 (z:Int)/\z<18446744073709551616/\O=wr)
   case atStart=>exact⟨0,14695981039346656037,zo5 _,rfl,rfl,rfl,zr,rfl⟩
   case round=>
    obtain⟨j,z,hj,rfl,rfl,rfl,hz,rfl⟩:=hrel
    by_cases ac:j<h
    ·obtain⟨r,q,O⟩:=zj2 (bits BinOp.xor IntKind.u64 (z:Int) (IntKind.u64.wrap (t[j].toNat:Int))*1099511628211);go_wp2
     go_roundg (h-(j+1))
     case measure=>omega
     case rel=>exact⟨j+1,r,ac,rfl,ze,rfl,q,rfl⟩
    ·obtain rfl:j=h:=zd;have Hc:=zz (zm5 wr z hz);have L:=Hk.o
     go_wp2_with (first
      |(go_at_call 248;refine Hc.o.mono ?_;rintro e w3⟨u,rfl,R,q⟩;have Z:=zz q;have Hu:=zz R;have aa:=L.below q;clear q L R)
      |(refine xy 277 _ _ rfl ?_;refine Xu zj 277 _ _ rfl w.heap.size 0 _ _ aa [.int .i8 0,.int .i64 0,.string ⟨#[]⟩,.string u,.int .i64 _] rfl rfl zp Xr zt ?_;intro W9 r;have O:=zz r;clear r))
     refine bodyPost_ret (v:=.agg #[.int .i8 0,.int .i64 0,.string ⟨#[]⟩,.string u,.int .i64 (wrap64 (d+1))]) (znW _ W9 w.heap.size _ rfl O.o.zG (by simpa using Xr)) rfl ?_;exact⟨⟨0,0,⟨#[]⟩,u,wrap64 (d+1)⟩,rfl,⟨(by decide:(-128:Int)<=0),(by decide:(0:Int)<=127),(by decide:(-9223372036854775808:Int)<=0),(by decide:(0:Int)<=9223372036854775807),(by decide:(⟨#[]⟩:ByteArray).size<=1048576),Hu.o⟩,O.o.below (zu U.o Z.o) (zoZ _) (zoZ _)⟩
section
variable {α:Type}{f:α->List Value}{e:TypeId}{size:Nat}{P:Program}{ops:Array Oper}{rest:List Oper}{o:Oper}{a:Act}{w:World}{Q:Exit->Act->World->Prop}{K:Act->World->Prop}{g cap:Nat}{xs:List α}
theorem Own.whole(h:Own f e size w (some ⟨g,0,none⟩) cap xs):∃q:Array Value,zD w g e q/\xs.length*size<=q.size:=by
 rcases h.2 with⟨r,_⟩ |⟨R,c,q,r,_,I,O,_,N,_⟩
 ·cases r
 ·injection r with r _ L
  injection r with r
  injection r with r
  subst r L;exact⟨q,I,by rw[N];exact zp9 _ O⟩
theorem zbQ{n i a0 k size:Nat}(hi:i<n)(q:a0+k<=size):i*size+a0+k<=n*size:=by
 have h:(i+1)*size<=n*size:=zp9 _ hi;rw[zqS]at h;omega
theorem JG(q:TypeId)(x y:Operand)(V:o.op=.store q x y)(h:Own f e size w (some ⟨g,0,none⟩) cap xs)(U:∀x,(f x).length=size)(i:Nat)(hi:i<xs.length)(a0:Nat)(vs:List Value)(z:α)(r:a0+vs.length<=size)(O:f z=(f xs[i]).take a0++vs++(f xs[i]).drop (a0+vs.length))(Y:a.eval x=.pointer (some ⟨g,i*size+a0,none⟩))(hy:a.eval y=.agg vs.toArray)(X:(P.info? q).map (·.size)=some vs.length)(L:∀v∈vs,v.oneCell'=true)(N:∀W,Own f e size W (some ⟨g,0,none⟩) cap (xs.set i z)->zh (·=g) w W->W.heap.size=w.heap.size->K (a.put o.dst undef) W):Oper.wp P o a w K Q:=by
 obtain⟨R,I,hc⟩:=h.whole;have Z:=zbQ hi r;exact wp_store_mid q x y V g (i*size+a0) vs.toArray Y hy (by simpa using TR I (n:=vs.length) zd) (by simpa using X) (all_oneCell_toArray L) (N _ (h.put U i hi a0 vs z r O) (T4 (S:=(·=g)) (fun _=>rfl) _ _ _ (zh.refl _ w)) (Jz _ _ _ _))
theorem zfw(hw:Region.wanted o (yielded ops a.tmps)=true)(r:TypeId)(x y:Operand)(U:o.op=.store r x y)(h:Own f e size w (some ⟨g,0,none⟩) cap xs)(R:∀x,(f x).length=size)(i:Nat)(hi:i<xs.length)(a0:Nat)(vs:List Value)(z:α)(Z:a0+vs.length<=size)(O:f z=(f xs[i]).take a0++vs++(f xs[i]).drop (a0+vs.length))(Y:a.eval x=.pointer (some ⟨g,i*size+a0,none⟩))(hy:a.eval y=.agg vs.toArray)(X:(P.info? r).map (·.size)=some vs.length)(q:∀v∈vs,v.oneCell'=true)(N:∀W,Own f e size W (some ⟨g,0,none⟩) cap (xs.set i z)->zh (·=g) w W->W.heap.size=w.heap.size->wpList P ops Q rest (a.put o.dst undef) W):wpList P ops Q (o::rest) a w:=
 wpList_step fun _ L=>by rw[if_pos hw];exact JG r x y U h R i hi a0 vs z Z O Y hy X q fun W q I V=>L _ _ (N W q I V)
theorem zfR(L:TypeId)(x y:Operand)(X:o.op=.store L x y)(h:Own f e size w (some ⟨g,0,none⟩) cap xs)(V:∀x,(f x).length=size)(i:Nat)(hi:i<xs.length)(a0:Nat)(v:Value)(z:α)(N:a0+1<=size)(U:f z=(f xs[i]).take a0++[v]++(f xs[i]).drop (a0+1))(Z:a.eval x=.pointer (some ⟨g,i*size+a0,none⟩))(hy:a.eval y=v)(Y:(P.info? L).map (·.size)=some 1)(O:v.oneCell'=true)(R:∀W,Own f e size W (some ⟨g,0,none⟩) cap (xs.set i z)->zh (·=g) w W->W.heap.size=w.heap.size->K (a.put o.dst undef) W):Oper.wp P o a w K Q:=by
 obtain⟨I,r,hc⟩:=h.whole;have aa:=zbQ hi N;have q:=h.put V i hi a0 [v] z N U;unfold Oper.wp execOp;simp only[X,Z,hy,Instr.storeAt,Instr.sureAddr,Sem.run_bind,Sem.run_pure,Result.andThen_ok,zbx r (show i*size+a0<I.size from zd) Y O];exact R _ q (UQ r v).zC (UQ r v).size
theorem zic(hw:Region.wanted o (yielded ops a.tmps)=true)(r:TypeId)(x y:Operand)(U:o.op=.store r x y)(h:Own f e size w (some ⟨g,0,none⟩) cap xs)(R:∀x,(f x).length=size)(i:Nat)(hi:i<xs.length)(a0:Nat)(v:Value)(z:α)(Z:a0+1<=size)(O:f z=(f xs[i]).take a0++[v]++(f xs[i]).drop (a0+1))(Y:a.eval x=.pointer (some ⟨g,i*size+a0,none⟩))(hy:a.eval y=v)(X:(P.info? r).map (·.size)=some 1)(q:v.oneCell'=true)(N:∀W,Own f e size W (some ⟨g,0,none⟩) cap (xs.set i z)->zh (·=g) w W->W.heap.size=w.heap.size->wpList P ops Q rest (a.put o.dst undef) W):wpList P ops Q (o::rest) a w:=
 wpList_step fun _ L=>by rw[if_pos hw];exact zfR r x y U h R i hi a0 v z Z O Y hy X q fun W q I V=>L _ _ (N W q I V)
theorem Own.at(h:Own f e size w (some ⟨g,0,none⟩) cap xs)(I:∀x,(f x).length=size)(O:0<size)(i:Nat)(hi:i<xs.length):w.rangeAt g (i*size) (f xs[i]):=by
 obtain⟨c,rfl⟩:∃c,size=c+1:=⟨size-1,zd⟩;obtain⟨b,o,q,_,r⟩:=h.xI.at I i hi;injection q with q
 injection q with N L
 subst N L;rw[zpx]at r;exact r
theorem Own.YR(h:Own f e size w (some ⟨g,0,none⟩) cap xs):g<w.heap.size:=h.lt g (by simp[zw])
end
end
section
structure Wc where
 wb:Nat
 eb:Nat
 ob:Nat
 zR:Int
 new:Int
 fb:Nat
 tb:Nat
structure Rt where
 A:Option Addr
 cap:Nat
 l:List Th
abbrev Rt.cells(r:Rt):List Value:=[.slice r.A r.l.length r.cap]
abbrev US(_:Unit):List Value:=[.slice none 0 0]
def Uj(Q:Nat->Prop)(w:World)(m:Nat)(v:Value):Prop:=
 ∃(A:Option Addr) (q:Nat) (h:List Rt),v=.slice A h.length q/\h.length<=4194304/\zY Rt.cells w A h/\qU Q A/\∀r∈h,r.l.length=m/\zY Th.cells w r.A r.l/\qU Q r.A/\∀x∈r.l,x.qL
def ZO(Q:Nat->Prop)(w:World)(h:Nat):Prop:=∃f,xv prog 9 w h f/\Q h/\∀p m v,f (.string (ye p m))=some v->Uj Q w m v
theorem Uj.kept(h:Uj Q w m v)(V:zh S w w')(U:∀g,g<w.heap.size->Q g->¬S g)(q:∀g,Q g->g<w.heap.size):Uj Q w' m v:=by
 obtain⟨A,O,Y,e,X,W,R,L⟩:=h;exact⟨A,O,Y,e,X,W.kept V fun g I=>U g (q g (R g I)) (R g I),R,fun r N=>⟨(L r N).1,(L r N).2.1.kept V fun g I=>U g (q g ((L r N).2.2.1 g I)) ((L r N).2.2.1 g I),(L r N).2.2⟩⟩
theorem Uj.mono(h:Uj Q w m v)(O:∀g,Q g->Q' g):Uj Q' w m v:=by
 obtain⟨A,N,V,e,U,R,W,q⟩:=h;exact⟨A,N,V,e,U,R,fun g L=>O g (W g L),fun r I=>⟨(q r I).1,(q r I).2.1,fun g L=>O g ((q r I).2.2.1 g L),(q r I).2.2.2⟩⟩
theorem ZO.kept(h:ZO Q w I)(L:zh S w w')(N:∀g,g<w.heap.size->Q g->¬S g)(q:∀g,Q g->g<w.heap.size):ZO Q w' I:=by
 obtain⟨f,R,r,U⟩:=h;exact⟨f,R.zC L (N _ (q _ r) r),r,fun p m v O=>(U p m v O).kept L N q⟩
theorem ZO.mono{r:Nat}(h:ZO Q w r)(q:∀g,Q g->Q' g):ZO Q' w r:=by
 obtain⟨f,N,L,O⟩:=h;exact⟨f,N,q _ L,fun p m v I=>(O p m v I).mono q⟩
structure Jj (c:Wc) (D:Nat->Prop) (nn:Nat) (w:World) (N H:Option Addr) (capN capH:Nat) (names:List ByteArray) (have_:List Th):Prop where
 zG:zD w c.eb 352 #[.pointer (some ⟨c.wb,0,none⟩),.slice N nn capN,.slice H nn capH]
 ZQ:names.length=nn
 XI:Own xC 9 1 w N capN names
 hlen:have_.length=nn
 xT:Own Th.cells 277 5 w H capH have_
 qL:∀x∈have_,x.qL
 nD:∀g∈zw N,D g
 hD:∀g∈zw H,D g
def zaZ(c:Wc)(D:Nat->Prop)(L:Nat)(w:World):Prop:=∃N H I r h q,Jj c D L w N H I r h q
structure q9 (c:Wc) (D:Nat->Prop) (L:Int) (nn no:Nat) (w:World):Prop where
 work:zD w c.wb 274 #[.int .i64 L,.int .i64 c.zR,.int .i64 c.new,.map (some c.fb),.map (some c.tb)]
 env:zaZ c D nn w
 out:∃O capO,zD w c.ob 279 #[.slice O no capO]/\Own US 275 1 w O capO (List.replicate no ())/\∀g∈zw O,D g
 facts:ZO (fun g=>¬D g/\g<w.heap.size) w c.fb
 pw:Pw w
 Yt:D c.wb
 ZC:D c.eb
 JN:D c.ob
 V3:¬D 3
 lt:∀g,D g->g<w.heap.size
 lo:-1099511627776<=L
 hi:L<=1099511627776
theorem XN{α:Type}{f:α->List Value}{e t:TypeId}{size:Nat}{A:Option Addr}{xs:List α}{b:Nat}{N:Array Value}(h:Own f e size w A cap xs)(I:zD w b t N)(q:t≠e):∀g∈zw A,g≠b:=by
 intro g r L;subst L
 rcases h.form with⟨rfl,_,_⟩ |⟨O,rfl,_⟩
 ·simp[zw]at r
 ·obtain rfl:g=O:=by simpa[zw]using r
  obtain⟨R,L,_⟩:=h.whole;exact I.yD L q rfl
theorem Jj.qj{c:Wc}{N H:Option Addr}{L:Nat}{q:List ByteArray}{r:List Th}(h:Jj c D V w N H I L q r)(U:zh S w w')(Y:¬S c.eb)(X:∀g∈zw N,¬S g)(Z:∀g∈zw H,¬S g){W:Nat->Prop}(R:∀g,D g->W g):Jj c W V w' N H I L q r:=
 ⟨h.zG.zC U Y,h.ZQ,h.XI.zC U X,h.hlen,h.xT.zC U Z,h.qL,fun g O=>R g (h.nD g O),fun g O=>R g (h.hD g O)⟩
theorem q9.below{c:Wc}{X:Nat}(h:q9 c D L X no w)(r:Bl w w'):q9 c D L X no w':=by
 have Y:=zh.xi (fun _=>False) r;obtain⟨N,H,U,W,q,I,he⟩:=h.env;obtain⟨O,V,o1,Z,o3⟩:=h.out;exact⟨h.work.below r,⟨N,H,U,W,q,I,he.qj Y id (fun _ _=>id) (fun _ _=>id) fun _=>id⟩,⟨O,V,o1.below r,Z.below r,o3⟩,
  ((h.facts.kept Y (fun _ _ _=>id) fun g R=>R.2).mono fun g R=>⟨R.1,zo0 R.2 r.size⟩),h.pw.below r,h.Yt,h.ZC,h.JN,h.V3,fun g R=>zo0 (h.lt g R) r.size,h.lo,h.hi⟩
theorem q9.ZU{c:Wc}{L':Int}{Y:Nat}(h:q9 c D L Y no w)(R:zh (·=c.wb) w w')(hw:zD w' c.wb 274 #[.int .i64 L',.int .i64 c.zR,.int .i64 c.new,.map (some c.fb),.map (some c.tb)])(h0:-1099511627776<=L')(h1:L'<=1099511627776):q9 c D L' Y no w':=by
 obtain⟨N,H,U,W,r,I,X⟩:=h.env;obtain⟨O,V,o1,Z,o3⟩:=h.out;exact⟨hw,⟨N,H,U,W,r,I,X.qj R (X.zG.yD h.work zr) (XN X.XI h.work zr) (XN X.xT h.work zr) fun _=>id⟩,
  ⟨O,V,o1.zC R (o1.yD h.work zr),Z.zC R (XN Z h.work zr),o3⟩,
  ((h.facts.kept R (fun g _ q e=>q.1 (e▸h.Yt)) fun g q=>q.2).mono fun g q=>⟨q.1,zo0 q.2 R.size⟩),h.pw.zC R fun e=>h.V3 (e▸h.Yt),h.Yt,h.ZC,h.JN,h.V3,fun g q=>zo0 (h.lt g q) R.size,h0,h1⟩
theorem q9.yi{c:Wc}(h:q9 c D L Z no w)(R:zh S w w')(U:∀g,S g->D g/\g≠c.wb/\g≠c.ob/\∀O r,Own US 275 1 w O r (List.replicate no ())->g∉zw O){X:Nat->Prop}(N:∀g,X g↔D g\/(w.heap.size<=g/\g<w'.heap.size))(he:zaZ c X V w'):q9 c X L V no w':=by
 obtain⟨O,r,o1,Y,o3⟩:=h.out;refine⟨h.work.zC R fun I=>(U _ I).2.1 rfl,he,⟨O,r,o1.zC R (fun I=>(U _ I).2.2.1 rfl),Y.zC R (fun g q I=>(U g I).2.2.2 _ _ Y q),fun g q=>(N g).2 (.inl (o3 g q))⟩,
  ((h.facts.kept R (fun g _ q I=>q.1 (U g I).1) fun g q=>q.2).mono fun g q=>⟨fun W=>?_,zo0 q.2 R.size⟩),h.pw.zC R fun I=>h.V3 (U _ I).1,(N _).2 (.inl h.Yt),(N _).2 (.inl h.ZC),(N _).2 (.inl h.JN),fun W=>?_,fun g q=>?_,h.lo,h.hi⟩
 ·rcases(N g).1 W with I|I
  ·exact q.1 I
  ·omega
 ·rcases(N _).1 W with I|I
  ·exact h.V3 I
  ·have:=h.pw.lt;omega
 ·rcases(N g).1 q with I|I
  ·exact zo0 (h.lt g I) R.size
  ·exact I.2
def zm9(w:World)(e:Ending)(w':World):Prop:=∃(x:Th) (b:Bool),e=.returned (.tuple #[.agg x.cells.toArray,.bool b])/\x.qL/\Bl w w'
theorem zcw(h:Array Value)(w:World)(g:Nat)(q:Array Value)(b:Bool)(N:h.getD 4 undef=.pointer (some ⟨g,0,none⟩))(O:h.getD 5 undef=.bool b)(R:w.heap[g]? = some (.cells q 277 (0,0)))(hi:(prog.info? 277).map (·.size)=some q.size):
 (results Tryz.f209 h).run prog w=.ok (.tuple #[.agg q,.bool b]) w:=by
 have I:h[4]?.getD undef=.pointer (some ⟨g,0,none⟩):=by simpa using N
 have r:h[5]?.getD undef=.bool b:=by simpa using O
 have L:=run_loadVar_row (P:=prog) w g 277 277 q (0,0) _ R underlying277 rfl hi;simp[results,results209,I,r,asAddr,L]
theorem Th.T5:(⟨0,0,⟨#[]⟩,⟨#[]⟩,0⟩:Th).qL:=⟨zr,zr,zr,zr,zr,zr⟩
theorem DL{c:Wc}(he:zaZ c D Z w)(ag:Z<=4194304)(s:ByteArray):
 Calls prog 209 #[.pointer (some ⟨c.eb,0,none⟩),.string s] w (zm9 w):=by
 obtain⟨N,H,ad,ae,q,r,he⟩:=he;have W:=zz he;clear he;obtain⟨W0,h,I⟩:=xj w 277 #[.int .i8 0,.int .i64 0,.string ⟨#[]⟩,.string ⟨#[]⟩,.int .i64 0];have ac:=zz h;have X:=zz I;have e1:=(W.o.zG.below I.below).cell 1;have e2:=(W.o.zG.below I.below).cell 2;clear h I;go_enter func209,ntmps209;go_upto_region 1 with fail
 rw[ac.o];go_wp2
 go_loopg[6] Z (fun gk h I=>gk<=Z/\h=.int .i64 ((gk:Int)-1)/\I=W0)
 case atStart=>exact⟨zoZ _,ze,rfl⟩
 case round=>
  obtain⟨af,rfl,rfl⟩:=hrel
  by_cases h0:gk=0
  ·subst h0;have U:=X.o.b0
   go_wp2_with (refine xy 277 _ _ rfl ?_;refine Xu zj 277 _ _ rfl w.heap.size 0 _ _ U [.int .i8 0,.int .i64 0,.string ⟨#[]⟩,.string ⟨#[]⟩,.int .i64 0] rfl rfl zp Xr zt ?_;intro W9 I;have L:=zz I;clear I)
   refine bodyPost_ret (v:=.tuple #[.agg #[.int .i8 0,.int .i64 0,.string ⟨#[]⟩,.string ⟨#[]⟩,.int .i64 0],.bool false]) (zcw _ W9 w.heap.size _ false rfl rfl L.o.zG (by simpa using Xr)) rfl ?_;exact⟨_,false,rfl,Th.T5,L.o.below X.o.below (zoZ _) (zoZ _)⟩
  ·have Y:gk-1<Z:=zd;have aa:gk-1<q.length:=by rw[W.o.ZQ];exact Y
   have R:gk-1<r.length:=by rw[W.o.hlen];exact Y
   obtain⟨b,o,rfl,hb,O⟩:=(W.o.XI.xI.below X.o.below).at (c:=0) (fun _=>rfl) (gk-1) aa;obtain⟨b3,o3,rfl,ah,h⟩:=(W.o.xT.xI.below X.o.below).at (c:=4) (fun _=>rfl) (gk-1) R;have V:=W.o.qL _ (zo3 R);generalize q[gk-1]=u at O;generalize r[gk-1]=x at h V;obtain⟨k,m,xs,md,dp⟩:=x;simp only[Th.cells]at h;have n0:wr.cell? ⟨b,o+(gk-1),none⟩=some (.string u):=by simpa using O 0 _ rfl
   replace h:wr.rangeAt b3 (o3+(gk-1)*5) _:=h
   obtain⟨d0,d1,d2,d3,d4⟩:=ZP h;have ab:=zz V;clear O h aa R V
   by_cases h:u.toList=s.toList
   ·have O:(u.toList==s.toList)=true:=by simp[h]
    have U:=X.o.b0
    go_wp2_with (refine xy 277 _ _ rfl ?_;refine Xu zj 277 _ _ rfl w.heap.size 0 _ _ U [.int .i8 k,.int .i64 m,.string xs,.string md,.int .i64 dp] rfl rfl zp Xr zt ?_;intro W9 I;have L:=zz I;clear I)
    refine bodyPost_ret (v:=.tuple #[.agg #[.int .i8 k,.int .i64 m,.string xs,.string md,.int .i64 dp],.bool true]) (zcw _ W9 w.heap.size _ true rfl rfl L.o.zG (by simpa using Xr)) rfl ?_;exact⟨⟨k,m,xs,md,dp⟩,true,rfl,ab.o,L.o.below X.o.below (zoZ _) (zoZ _)⟩
   ·have O:(u.toList==s.toList)=false:=by simp[h]
    go_wp2
    go_roundg (gk-1)
    case measure=>omega
    case rel=>exact⟨zd,ze,rfl⟩
structure Ve (vs:List ByteArray) (f:Value->Option Value):Prop where
 yes:∀s∈vs,f (.string s)=some (.agg #[])
 no:∀s,s∉vs->f (.string s)=none
theorem Ve.qC:Ve [] fun _=>none:=⟨fun s h=>(by cases h),fun _ _=>rfl⟩
theorem Ve.put{vs:List ByteArray}(h:Ve vs f)(v:ByteArray):Ve (vs++[v]) (yg f (.string v) (.agg #[])):=
 ⟨fun s q=>by
  by_cases e:s=v
  ·subst e;rw[Yi]
  ·rw[XG (by simpa using e)]
   rcases zo7.1 q with q|q
   ·exact h.yes s q
   ·exact(e (zo2.1 q)).elim,fun s q=>by
  rw[zo7,zo2]at q;rw[XG (fun e=>q (.inr (by injection e)))];exact h.no s (fun h=>q (.inl h))⟩
structure yH (w:World) (sb mb:Nat) (B:Option Addr) (zM nb:Nat) (f:Value->Option Value) (K:List ByteArray):Prop where
 r:zD w sb 202 #[.slice B nb zM,.map (some mb)]
 m:xv prog 9 w mb f
 s:Ve K f
theorem yH.below(h:yH w I q B zM N f K)(L:Bl w w'):yH w' I q B zM N f K:=⟨h.r.below L,h.m.below L,h.s⟩
theorem T3(w:World)(n:Nat)(q:n<=24):Calls prog 47 #[.int .i64 (n:Int)] w fun e h=>e=.returned (.int .u32 ((2 ^ n-1:Nat):Int))/\h=w:=by
 rcases n with _|_|_|_|_|_|_|_|_|_|_|_|_|_|_|_|_|_|_|_|_|_|_|_|_|n
 all_goals first
  |omega
  |(
   go_enter func47,ntmps47;go_wp2;go_returns;exact⟨rfl,rfl⟩)
def zmG(q h:Nat)(B:Option Addr)(zM r:Nat)(K:List ByteArray)(w:World)(e:Ending)(w':World):Prop:=e=.returned (.tuple #[])/\∃f,yH w' q h B zM r f K/\zh (·=h) w w'
theorem zax(w:World)(O q:Nat)(B:Option Addr)(zM X:Nat)(f:Value->Option Value)(K:List ByteArray)(h:yH w O q B zM X f K)(A:Option Addr)(cap n:Nat)(us:List ByteArray)(hn:us.length=n)(hl:zY xC w A us)(hA:qU (·≠q) A)(hs:∀u∈us,u.size<=maxLen)(hb:n<=4194304):
 Calls prog 50 #[.pointer (some ⟨O,0,none⟩),.slice A n cap] w (zmG O q B zM X (K++us) w):=by
 have HN:=zz hn;have HL:=zz (fun W (L:zh (·=q) w W)=>hl.kept L (fun g I e=>hA g I e));have Hs:=zz hs;have H:=zz h;have I:O≠q:=h.r.qM h.m;have ac:=zz I;clear hn hl hA hs h I;go_enter func50,ntmps50;go_wp2
 go_loopg[5,8] n (fun gk N L I=>∃(i:Nat) (f':Value->Option Value),i<=n/\gk=n-i/\L=.int .i64 (i:Int)/\yH I O q B zM X f' (K++us.take i)/\zh (·=q) w I)
 case atStart=>exact⟨0,f,zo5 _,rfl,rfl,by simpa using H.o,zh.refl _ _⟩
 case round=>
  obtain⟨i,f',hi,rfl,rfl,Y,V⟩:=hrel;have U:=zz Y;have HC:=zz V
  by_cases aa:i<n
  ·have L:i<us.length:=by rw[HN.o];exact aa
   obtain⟨b,o,rfl,ad,N⟩:=(HL.o _ V).at (c:=0) (fun _=>rfl) i L;have d0:=N 0 _ rfl;have R:Kz (us.take (i+1)=us.take i++[us[i]]):=zo4 L;have I:=zz (qY (Hs.o _ (zo3 L)));generalize us[i]=u at d0 R I;simp only[zqb,zpO,zpx]at d0;have c1:=Y.r.cell 1;clear N Y V
   go_wp2_with (refine Ue rfl _ _ _ rfl U.o.m qT underlying200 rfl (.string u) (.agg #[]) _ rfl rfl I.o ?_)
   intro w6 m6 t6;have N:zh (·=q) wr w6:=(zh.refl _ wr).yi t6 (fun _=>rfl);have ab:=zz (show yH w6 O q B zM X _ (K++us.take (i+1))from⟨U.o.r.zC N ac.o,m6,by rw[R.o,<-zpo];exact U.o.s.put u⟩);have Z:=zz (HC.o.trans N (fun x hx _=>hx));clear N m6 t6 c1;go_wp2
   go_roundg (n-(i+1))
   case measure=>omega
   case rel=>exact⟨i+1,_,zd,rfl,ze,ab.o,Z.o⟩
  ·obtain rfl:i=n:=zd;have I:us.take i=us:=by rw[<-HN.o,zpz]
   rw[I]at U;clear Y V;go_wp2;go_returns;exact⟨rfl,f',U.o,HC.o⟩
theorem zci(w:World)(N O:Nat)(B:Option Addr)(zM U:Nat)(f:Value->Option Value)(K:List ByteArray)(h:yH w N O B zM U f K)(v:ByteArray)(R:v.size<=maxLen):Calls prog 170 #[.pointer (some ⟨N,0,none⟩),.string v] w fun e q=>e=.returned (.bool (tf (v∈K)))/\Bl w q:=by
 have q:=h.m.look qT underlying200 (z:=.agg #[]) zo (qY R) true;simp only[if_true]at q;have c1:=h.r.cell 1;have L:=h.s;clear h
 by_cases I:v∈K
 ·rw[L.yes v I]at q;rw[qs I];clear L I;go_enter func170,ntmps170;go_wp2;go_returns;exact⟨rfl,xo w _⟩
 ·rw[L.no v I]at q;rw[qt I];clear L I;go_enter func170,ntmps170;go_wp2;go_returns;exact⟨rfl,xo w _⟩
theorem DQ(K:List ByteArray):∀(q:List Tm)(i:Nat),ql K i q+2 ^ i<=2 ^ (i+q.length)
 |[],i=>by simp[ql]
 |t::q,i=>by
  have h:=DQ K q (i+1);unfold ql;rw[zpn,show i+(q.length+1)=i+1+q.length from zd];rw[Nat.pow_succ]at h;split<;>omega
open Classical in
theorem zcU(K:List ByteArray)(t:Tm):∀(q:List Tm)(i:Nat),ql K i (q++[t])=ql K i q+ql K (i+q.length) [t]
 |[],i=>by simp[ql]
 |u::q,i=>by
  have h:=zcU K t q (i+1);rw[zpc];have e1:ql K i (u::(q++[t]))=(if u.v.toList=[]\/u.v∈K then 2 ^ i else 0)+ql K (i+1) (q++[t]):=rfl;have e2:ql K i (u::q)=(if u.v.toList=[]\/u.v∈K then 2 ^ i else 0)+ql K (i+1) q:=rfl;rw[e1,e2,h,zpn,show i+1+q.length=i+(q.length+1) from zd,zqd]
open Classical in
theorem zj5(K:List ByteArray)(t:Tm)(i:Nat):ql K i [t]=if t.v.toList=[]\/t.v∈K then 2 ^ i else 0:=by
 unfold ql;rw[show ql K (i+1) []=0 from rfl,zpO]
theorem zlN(i m:Nat)(hi:i<=24)(q:m<2 ^ i):bits .or .u32 (m:Int) ((2:Int) ^ i % 4294967296)=((m+2 ^ i:Nat):Int):=by
 have r:2 ^ i<=2 ^ 24:=zpJ zr hi;have h:m ||| 2 ^ i=m+2 ^ i:=by
  have:=Nat.two_pow_add_eq_or_of_lt q 1;rw[zqb]at this;rw[Nat.or_comm,<-this,Nat.add_comm]
 have e:(2:Int) ^ i % 4294967296=((2 ^ i:Nat):Int):=by
  have I:(2:Int) ^ i=((2 ^ i:Nat):Int):=zp;rw[I];omega
 rw[e,u32_or_nat m (2 ^ i) zd (zd),h]
def ze1(K:List ByteArray)(h:List Tm)(w:World)(e:Ending)(w':World):Prop:=e=.returned (.int .u32 (ql K 0 h:Int))/\Bl w w'
theorem zbv(w:World)(sb mb:Nat)(B:Option Addr)(zM nb:Nat)(f:Value->Option Value)(K:List ByteArray)(h:yH w sb mb B zM nb f K)(x:At)(hl:x.zO w)(hn:x.args.length<=24)(hs:∀t∈x.args,t.v.size<=maxLen):
 Calls prog 104 #[.pointer (some ⟨sb,0,none⟩),.agg x.cells.toArray] w (ze1 K x.args w):=by
 have Hh:=zz (fun W (q:Bl w W) v (L:v.size<=maxLen)=>zci W sb mb B zM nb f K (h.below q) v L);have HL:=zz hl.rd;have Hs:=zz hs;have Y:=hl.len;clear h hl hs;obtain⟨p,A,ad,r⟩:=x;simp only[At.cells]at *;obtain⟨N,q⟩:∃N,r.length=N:=⟨_,rfl⟩;rw[q]at Y hn ⊢;have HN:=zz q;clear q;obtain⟨W0,q,I⟩:=xj w 38 #[.string p,.slice A N ad];have HX:=zz I;have ac:=zz q;clear I q;go_enter func104,ntmps104;go_wp2;rw[ac.o]
 go_loopg[5,6,7,11] N (fun gk O R U q I=>∃(i:Nat) (m:Nat),i<=N/\gk=N-i/\q=.int .i64 (i:Int)/\O=.int .u32 (m:Int)/\m=ql K 0 (r.take i)/\Bl w I)
 case atStart=>exact⟨0,0,zo5 _,rfl,rfl,rfl,rfl,HX.o.below⟩
 case round=>
  obtain⟨i,m,hi,rfl,rfl,rfl,q,I⟩:=hrel;have HB:=zz I;have Hm:=zz q;clear q I
  by_cases ab:i<N
  ·have V:i<r.length:=by rw[HN.o];exact ab
   obtain⟨b,o,rfl,ae,R⟩:=(HL.o.below HB.o).at Tm.xF i V;have X:r.take (i+1)=r.take i++[r[i]]:=zo4 V;have O:(r.take i).length=i:=by rw[zpv];omega
   have U:m<2 ^ i:=by
    have q:=DQ K (r.take i) 0;rw[O,zpx,Nat.pow_zero,<-Hm.o]at q;omega
   have q:=zcU K r[i] (r.take i) 0;rw[<-X,O,zpx,zj5,<-Hm.o]at q;have I:=Hs.o _ (zo3 V);generalize r[i]=t at R q I;obtain⟨v,⟨k,n,s⟩⟩:=t;simp only[Tm.cells]at R q I
   replace R:wr.rangeAt b (o+i*4) _:=R
   obtain⟨d0,d1,d2,d3⟩:=four R;have Z:=zz (zlN i m zd U);have aa:=zz I;clear R I X O U;have I:=xo wr (.cells #[.string v,.int .i8 k,.int .i64 n,.string s] 45);have R:=zz (zu HB.o I);clear I
   by_cases L:v.toList=[]
   ·rw[if_pos (.inl L)]at q;have I:=zz q;have b1:v.toList.isEmpty=true:=by simp[L]
    have b2:(v.toList==([]:List UInt8))=true:=by simp[L]
    clear q L;go_wp2
    go_roundg (N-(i+1))
    case measure=>omega
    case rel=>exact⟨i+1,m+2 ^ i,zd,rfl,ze,congrArg (Value.int .u32) Z.o,I.o.symm,R.o⟩
   ·have b1:v.toList.isEmpty=false:=by simp[L]
    have b2:(v.toList==([]:List UInt8))=false:=by simp[L]
    have Hc:=zz (Hh.o _ R.o v aa.o)
    by_cases X:v∈K
    ·rw[if_pos (.inr X)]at q;have I:=zz q;rw[qs X]at Hc;clear q L X
     go_wp2_with (go_at_call 170;refine Hc.o.mono ?_;rintro e w4⟨rfl,O⟩;have U:=zz (zu R.o O);clear O)
     go_roundg (N-(i+1))
     case measure=>omega
     case rel=>exact⟨i+1,m+2 ^ i,zd,rfl,ze,congrArg (Value.int .u32) Z.o,I.o.symm,U.o⟩
    ·rw[if_neg (fun h=>h.elim L X)]at q;have I:=zz q;rw[qt X]at Hc;clear q L X
     go_wp2_with (go_at_call 170;refine Hc.o.mono ?_;rintro e w4⟨rfl,O⟩;have U:=zz (zu R.o O);clear O)
     go_roundg (N-(i+1))
     case measure=>omega
     case rel=>exact⟨i+1,m,zd,rfl,ze,rfl,I.o.symm,U.o⟩
  ·obtain rfl:i=N:=zd;have q:r.take i=r:=by rw[<-HN.o,zpz]
   rw[q]at Hm;clear q;go_wp2;go_returns;exact⟨by rw[<-Hm.o];rfl,HB.o⟩
abbrev zdG(h:Nat):Value:=.func (.func 170) #[.pointer (some ⟨h,0,none⟩)] #[]
def zk8(K xs:List ByteArray)(w:World)(e:Ending)(w':World):Prop:=
 Bl w w'/\((e=.returned (.int .i64 (-1))/\∀v∈xs,v∉K)\/∃i:Nat,e=.returned (.int .i64 (i:Int))/\i<xs.length/\(∀v∈xs.take i,v∉K)/\∀h:i<xs.length,xs[i]∈K)
theorem zkA(w:World)(sb:Nat)(K:List ByteArray)(A:Option Addr)(cap n:Nat)(xs:List ByteArray)(hn:xs.length=n)(Z:zY xC w A xs)(hb:n<=4194304)(hh:∀W,Bl w W->∀v∈xs,Calls prog 170 #[.pointer (some ⟨sb,0,none⟩),.string v] W fun e q=>e=.returned (.bool (tf (v∈K)))/\Bl W q):
 Calls prog 221 #[.slice A n cap,zdG sb] w (zk8 K xs w):=by
 have HN:=zz hn;have HL:=zz Z;have Hh:=zz hh;clear hn Z hh;go_enter func221,ntmps221;go_wp2
 go_loopg[5,8] n (fun gk I q r=>∃i:Nat,i<=n/\gk=n-i/\q=.int .i64 (i:Int)/\(∀u∈xs.take i,u∉K)/\Bl w r)
 case atStart=>exact⟨0,zo5 _,rfl,rfl,fun u q=>(by simp at q),Below.refl _ _⟩
 case round=>
  obtain⟨i,hi,rfl,rfl,q,r⟩:=hrel;have R:=zz q;have L:=zz r;clear q r
  by_cases O:i<n
  ·have q:i<xs.length:=by rw[HN.o];exact O
   have U:=zz q;obtain⟨b,o,rfl,aa,r⟩:=(HL.o.below L.o).at (c:=0) (fun _=>rfl) i q;have Y:=r 0 _ rfl;have I:Kz (xs.take (i+1)=xs.take i++[xs[i]]):=zo4 q;have N:=zz (Hh.o wr L.o _ (zo3 q));have X:Kz (∀h:i<xs.length,xs[i]=xs[i]'q):=fun _=>rfl
   generalize xs[i]'q=u at Y I N X;simp only[zqb,zpO,zpx]at Y;clear r q
   by_cases r:u∈K
   ·rw[qs r]at N;have V:=zz r;clear r
    go_wp2_with (go_at_call 170;refine N.o.mono ?_;rintro e w1⟨rfl,q⟩)
    go_returns;exact⟨zu L.o q,.inr ⟨i,rfl,U.o,R.o,fun h=>by rw[X.o h];exact V.o⟩⟩
   ·rw[qt r]at N;have V:=zz r;clear r
    go_wp2_with (go_at_call 170;refine N.o.mono ?_;rintro e w1⟨rfl,q⟩)
    go_roundg (n-(i+1))
    case measure=>omega
    case rel=>exact⟨i+1,zd,rfl,ze,fun x hx=>by
     rw[I.o]at hx
     rcases zo7.1 hx with h|h
     ·exact R.o x h
     ·rw[zo2.1 h];exact V.o,zu L.o q⟩
  ·obtain rfl:i=n:=zd;go_wp2;go_returns;exact⟨L.o,.inl ⟨rfl,fun v q=>R.o v (by rw[<-HN.o,zpz];exact q)⟩⟩
noncomputable def YZ(K xs:List ByteArray):List ByteArray:=xs.filter fun v=>!tf (v∈K)
def zku(K xs:List ByteArray)(A:Option Addr)(cap:Nat)(w:World)(e:Ending)(w':World):Prop:=
 ∃m,e=.returned (.slice A m cap)/\(YZ K xs).length=m/\Own xC 9 1 w' A cap (YZ K xs)/\zh (·∈zw A) w w'
theorem zlk{g:Nat}{R I rest:List ByteArray}(h:Own xC 9 1 w (some ⟨g,0,none⟩) cap R)(X:R=I++rest)(hw:w'=w.setCells g I.length (rest.map fun _=>.string ⟨#[]⟩)):Own xC 9 1 w' (some ⟨g,0,none⟩) cap I:=by
 subst hw X;obtain⟨h1,q⟩:=h
 rcases q with⟨q,_⟩ |⟨g0,c,L,q,hb,Y,hn,hc,Z,U⟩
 ·cases q
 injection q with q O W
 injection q with q
 injection q with q
 subst q W;have r:=UI (f:=xC) (size:=1) (fun _=>rfl) I;rw[zo1]at hn;have N:L.toList.length=cap:=by rw[zqT,Z,zqb]
 have V:=zD.setCells (rest.map fun _=>Value.string ⟨#[]⟩) I.length w L Y (by rw[zph];omega);refine⟨by rw[r],.inr ⟨g,cap,_,rfl,zo5 _,V,zd,hc,?_,?_⟩⟩
 ·simp only[zqk,zo1,zpv,zp7,zph,N];omega
 ·rw[List.toList_toArray,zpo,zp3 (by rw[zpv,N];omega),List.take_take,zqb,Nat.min_self];have O:=congrArg (List.take I.length) U;rw[List.take_take,zo1,zpq,zp3 (by rw[r];omega),zpm (l:=List.flatMap xC I) (by rw[r];omega)]at O;rw[<-O]
  congr 1
  omega
theorem Tw(h:∀v∈xs,v∉K):YZ K xs=xs:=List.filter_eq_self.2 fun v q=>by rw[qt (h v q)];rfl
theorem ze9{j:Nat}(h:j<xs.length):YZ K (xs.take (j+1))=YZ K (xs.take j)++YZ K [xs[j]]:=by
 unfold YZ;rw[zo4 h,zqN]
theorem zh.setCells{S:Nat->Prop}{a:World}{g:Nat}(q:g<a.heap.size->S g):∀(I:List Value)(o:Nat)(w:World),zh S a w->zh S a (w.setCells g o I)
 |[],_,_,h=>h
 |v::r,o,w,h=>zh.setCells q r (o+1) _ (h.setCell (p:=⟨g,o,none⟩) q v)
theorem zh7(w:World)(sb:Nat)(K:List ByteArray)(A:Option Addr)(cap n:Nat)(xs:List ByteArray)(hn:xs.length=n)(L:Own xC 9 1 w A cap xs)(hb:n<=4194304)(hh:∀W,zh (·∈zw A) w W->∀v∈xs,Calls prog 170 #[.pointer (some ⟨sb,0,none⟩),.string v] W fun e w'=>e=.returned (.bool (tf (v∈K)))/\Bl W w'):
 Calls prog 168 #[.slice A n cap,zdG sb] w (zku K xs A cap w):=by
 have HN:=zz hn;have HO:=zz L;have Hh:=zz hh;have Hf:=zz (zkA w sb K A cap n xs hn L.xI hb fun W q=>hh W (zh.xi _ q));clear hn L hh;go_enter func168,ntmps168
 go_wp2_with (go_at_call 221;refine Hf.o.mono ?_;rintro e w1⟨Z,⟨rfl,af⟩|⟨i0,rfl,O,ap,hk⟩⟩)
 ·go_returns;exact⟨n,rfl,by rw[Tw af];exact HN.o,by rw[Tw af];exact HO.o.below Z,zh.xi _ Z⟩
 ·have aC:i0<n:=by rw[<-HN.o];exact O
  obtain⟨g,rfl⟩:∃g,A=some ⟨g,0,none⟩:=by
   rcases HO.o.form with⟨-,-,r⟩ |⟨g,h,-⟩
   ·rw[r]at O;simp at O
   ·exact⟨g,h⟩
  have r:YZ K (xs.take (i0+1))=xs.take i0:=by
   rw[ze9 O,Tw ap];unfold YZ;rw[List.filter_cons,qs (hk O)];simp
  have H0:=zz r;have ax:=zz (HO.o.below Z);have az:=zz Z;have q:wrap64 ((i0:Int)+1)=(i0:Int)+1:=by unfold wrap64;omega
  rw[q,‹((i0:Int)==-1)=false›];clear q;clear r Z ap hk O
  go_loopg[5,6,7] (n-(i0+1)) (fun gk I r R q=>∃(i j:Nat) (N:List ByteArray),i<j/\j<=n/\gk=n-j/\I=.int .i64 (i:Int)/\r=.int .i64 (j:Int)/\N.length=n/\N.take i=YZ K (xs.take j)/\N.drop j=xs.drop j/\Own xC 9 1 q (some ⟨g,0,none⟩) cap N/\zh (·∈zw (some ⟨g,0,none⟩)) w q)
  case atStart=>exact⟨i0,i0+1,xs,zd,zd,rfl,rfl,rfl,HN.o,H0.o.symm,rfl,ax.o,zh.xi _ az.o⟩
  case round=>
   obtain⟨i,j,N,aB,aA,rfl,rfl,rfl,U,V,ad,L,hC⟩:=hrel
   by_cases am:j<n
   ·have X:j<xs.length:=by rw[HN.o];exact am
    have ac:j<N.length:=by rw[U];exact am
    have ai:N[j]=xs[j]:=by
     have q:=zpC ac;have r:=zpC X;rw[ad,r]at q;injection q with q _
     exact q.symm
    have ae:N.drop (j+1)=xs.drop (j+1):=by
     have q:=zpC ac;have r:=zpC X;rw[ad,r]at q;injection q with _ q
     exact q.symm
    have aj:=ze9 (K:=K) X;obtain⟨b,o,hA,av,hr⟩:=L.xI.at (c:=0) (fun _=>rfl) j ac;injection hA with hA
    injection hA with ay aw
    subst ay aw;rw[ai]at hr;have d0:=hr 0 _ rfl;have r:=Hh.o wr hC _ (zo3 X);generalize xs[j]=u at d0 aj r ai;simp only[zqb,zpO,zpx]at d0;obtain⟨au,q⟩:=L.zG;have ak:i<N.length:=zd;have aa:∃y,wr.cell? ⟨g,i,none⟩=some y:=by
     obtain⟨b',o',I,-,ah⟩:=L.xI.at (c:=0) (fun _=>rfl) i ak;injection I with I
     injection I with Y R
     subst Y R;have:=ah 0 _ rfl;simp only[zqb,zpO,zpx]at this;exact⟨_,this⟩
    obtain⟨y,hy⟩:=aa;have ab:=zz r;have al:=zz aj;have Ho:=zz L;have HC:=zz hC;have ao:=zz V;have aq:=zz ae;have ag:=zz q;have ar:=zz ak;have an:=zz U;clear r aj L hC V ad ae q ak U hr ai X ac av
    by_cases hK:u∈K
    ·rw[qs hK]at ab;have X:YZ K [u]=[]:=by unfold YZ;rw[List.filter_cons,qs hK];simp
     have ac:=zz X;clear hK X hy
     go_wp2_with (go_at_call 170;refine ab.o.mono ?_;rintro e w4⟨rfl,r⟩)
     go_roundg (n-(j+1))
     case measure=>omega
     case rel=>exact⟨i,j+1,N,zd,zd,rfl,rfl,ze,an.o,by rw[al.o,ac.o,zpw];exact ao.o,aq.o,Ho.o.below r,HC.o.trans (zh.xi (fun _=>False) r) (fun x hx _=>hx.elim)⟩
    ·rw[qt hK]at ab;have X:YZ K [u]=[u]:=Tw (fun v hv=>by rw[zo2.1 hv];exact hK);have ac:=zz X;clear hK X
     go_wp2_with (go_at_call 170;refine ab.o.mono ?_;rintro e w4⟨rfl,r⟩;have ai:=zz r;have kc:=ag.o.below r;have f0:=kc.frozen i;have y0:=(r.cell (p:=⟨g,i,none⟩) ag.o.lt).trans hy;clear r kc)
     have ae:=(Ho.o.below ai.o).put (fun _=>rfl) i ar.o 0 [.string u] u zp (zp);rw[zqb,zpO]at ae;have X:=(HC.o.trans (zh.xi (fun _=>False) ai.o) (fun x hx _=>hx.elim)).setCell (p:=⟨g,i,none⟩) (fun _=>by simp[zw]) (.string u)
     go_roundg (n-(j+1))
     case measure=>omega
     case rel=>
      have aj:i<N.length:=ar.o;refine⟨i+1,j+1,N.set i u,zd,zd,rfl,ze,ze,by rw[zpG];exact an.o,?_,?_,ae,X⟩
      ·rw[al.o,ac.o,<-ao.o,zo4 (by rw[zpG];exact aj),zqj,List.take_set_of_le (zoZ _)]
      ·rw[List.drop_set_of_lt zd];exact aq.o
   ·obtain rfl:j=n:=zd;have aa:∀k,k<j-i->(wr.cell? ⟨g,i+k,none⟩).isSome=true:=fun k hk=>by
     obtain⟨b',o',I,-,ah⟩:=L.xI.at (c:=0) (fun _=>rfl) (i+k) zd;injection I with I
     injection I with Y R
     subst Y R;have:=ah 0 _ rfl;simp only[zqb,zpO,zpx]at this;rw[this];rfl
    obtain⟨au,q⟩:=L.zG;have ae:∀ty,(Builtin.clear_ #[86] ty #[.slice (some ⟨g,i,none⟩) (j-i) (cap-i)]).run prog wr=.ok (.tuple #[]) (wr.setCells g i (List.replicate (j-i) (.string ⟨#[]⟩))):=fun ty=>
     Lib.run_clear_slice wr _ _ ty _ underlying86 (fun w=>zo) rfl rfl g i _ _ zd aa (fun k hk=>q.frozen _)
    have ac:j<=cap:=by
     rcases L.form with⟨h,-⟩ |⟨r,-,-,h,-⟩
     ·cases h
     ·omega
    have ht:xs.take j=xs:=by rw[<-HN.o,zpz]
    rw[ht]at V;have I:(N.take i).length=i:=by rw[zpv];omega
    have r:=zlk (w':=wr.setCells g i (List.replicate (j-i) (.string ⟨#[]⟩))) L (zpL i N).symm (by
     rw[I,List.map_const',zp7,U])
    rw[V]at r I;have X:zh (·∈zw (some ⟨g,0,none⟩)) w (wr.setCells g i (List.replicate (j-i) (.string ⟨#[]⟩))):=zh.setCells (fun _=>by simp[zw]) _ _ _ hC;have R:=zz r;have Y:=zz I;have ab:=zz X;clear r I X hC L U V ad aa q ht;go_wp2;go_returns;exact⟨i,rfl,Y.o,R.o,ab.o⟩
theorem zgt(w:World)(A:Option Addr)(cap n:Nat)(xs:List ByteArray)(r:xs.length=n)(h:zY xC w A xs)(q:n<=4194304):Calls prog 169 #[.slice A n cap] w (Xo xC 9 1 xs w):=
 Ux Tryz.ziv Z7 rfl (fun w=>sizeOf9 w) (fun _=>rfl) zaH w A cap n xs r h q zr
theorem yH.zC(h:yH w I q B zM N f K)(L:zh S w w')(R:¬S I)(O:¬S q):yH w' I q B zM N f K:=⟨h.r.zC L R,h.m.zC L O,h.s⟩
theorem Ud(w:World)(X mb:Nat)(B:Option Addr)(zM nb:Nat)(f:Value->Option Value)(K:List ByteArray)(h:yH w X mb B zM nb f K)(A:Option Addr)(cap n:Nat)(xs:List ByteArray)(hn:xs.length=n)(hl:zY xC w A xs)(hs:∀u∈xs,u.size<=maxLen)(hb:n<=4194304):
 Calls prog 102 #[.pointer (some ⟨X,0,none⟩),.slice A n cap] w (Xo xC 9 1 (YZ K xs) w):=by
 have Hc:=zz (zgt w A cap n xs hn hl hb);have Hd:=zz (fun(N:Option Addr) (q O:Nat) W (U:Bl w W) (L:xs.length=O) (ho:Own xC 9 1 W N q xs) (hg:∀g∈zw N,w.heap.size<=g)=>zh7 W X K N q O xs L ho zd fun Y I v V=>zci Y X mb B zM nb f K ((h.below U).zC I (fun R=>by have:=hg _ R;have:=h.r.lt;omega) (fun R=>by have:=hg _ R;have:=h.m.lt;omega)) v (hs v V));clear h hn hl hs;go_enter func102,ntmps102
 go_wp2_with (first
  |(go_at_call 169;refine Hc.o.mono ?_;rintro e w1⟨A1,L,n1,rfl,I,O,U,N⟩;have Y:=zz I;have Z:=zz O;have V:=zz U;have q:=zz N;clear I O U N)
  |(go_at_call 168;refine(Hd.o _ _ _ _ V.o Y.o Z.o q.o).mono ?_;rintro e w2⟨m,rfl,R,ab,aa⟩))
 go_returns;exact⟨A1,L,m,rfl,R,ab,aa.qq V.o (zoZ _) (fun x hx=>q.o x hx),q.o⟩
def VR(x y:Ex)(v:ByteArray):Prop:=x.q=0/\x.t.v=v/\v∉y.vars
def DR(b:Bool)(w:World)(e:Ending)(w':World):Prop:=e=.returned (.bool b)/\Bl w w'
theorem zeC(w:World)(vb:Nat)(v:ByteArray)(hv:w.cell? ⟨vb,0,none⟩=some (.string v))(Y:vb<w.heap.size)(x y:Ex)(hy:y.zO w)(ad:y.zN.length<=1048576)(aa:∀t∈y.zN,t.v.size<=maxLen):
 Calls prog 171 #[.agg x.cells.toArray,.agg y.cells.toArray,.pointer (some ⟨vb,0,none⟩)] w (DR (tf (VR x y v)) w):=by
 have Hv:=zz (fun W (r:Bl w W)=>Tg W y (hy.below r) ad aa);have ah:y.vars.length<=1048576:=by have:=YL y.zN;unfold Ex.vars;omega
 obtain⟨V,h⟩:∃V,y.vars=V:=⟨_,rfl⟩;rw[h]at Hv ah;have hP:VR x y v↔x.q=0/\x.t.v=v/\v∉V:=by unfold VR;rw[h]
 clear h;obtain⟨q1,⟨L,k1,n1,s1⟩,A1,N,ag⟩:=x;obtain⟨q2,⟨v2,k2,n2,s2⟩,A2,O,ae⟩:=y;simp only[Ex.cells]at *;generalize ag.length=N1 at *;generalize ae.length=N2 at *;obtain⟨b,Z⟩:∃b,tf (VR (.mk q1 ⟨L,⟨k1,n1,s1⟩⟩ A1 N ag) (.mk q2 ⟨v2,⟨k2,n2,s2⟩⟩ A2 O ae) v)=b:=⟨_,rfl⟩;rw[Z];have R:b=true↔q1=0/\L=v/\v∉V:=by rw[<-Z,Zf,hP];rfl
 have Hb:=zz R;obtain⟨W2,I,h⟩:=ya w 48 48 #[.int .i8 q1,.string L,.int .i8 k1,.int .i64 n1,.string s1,.slice A1 N1 N] #[.int .i8 q2,.string v2,.int .i8 k2,.int .i64 n2,.string s2,.slice A2 N2 O];have HX:=zz h;have U:=zz I;have X:Kz (∀W,Bl W2 W->_):=fun W r=>zpf ((h.b0.below r).cell 0) (zpf ((h.b0.below r).cell 1) (zpf ((h.b1.below r).cell 0) (zpf ((h.b1.below r).cell 1) (zpf ((h.b1.below r).cell 2) (zpf ((h.b1.below r).cell 3) (zpf ((h.b1.below r).cell 4) (zpf ((h.b1.below r).cell 5) (show W.cell? ⟨vb,0,none⟩=some (.string v)from((zu h.below r).cell (p:=⟨vb,0,none⟩) Y).trans hv))))))))
 clear h I hP Z R hv Y hy ad aa
 by_cases h1:q1=0
 ·by_cases h2:L=v
  ·subst h1 h2;have I:=bytes_beq L L;rw[qs rfl]at I;go_enter func171,ntmps171;go_wp2;rw[U.o];refine Vc [(0,0),(1,0),(2,0),(3,0),(4,0),(5,0),(6,0),(7,0),(8,0),(9,0),(10,0),(11,0),(13,0),(12,2),(14,2),(15,0),(16,0),(17,0)] (fun W=>Bl W2 W) ?_
   repeat refine zT X.o ?_
   refine xc fun K hK=>?_
   go_simp;refine(Hv.o _ (zu HX.o.below (Below.refl _ _).drew)).mono ?_;rintro e w3⟨A3,ac,M3,rfl,Z,h,af,ai⟩;have R:=zz (show Bl W2 w3 from(Below.refl _ _).drew.trans af);have ab:=zz Z;have aj:=zz h;refine hK.out _ _ R.o (fun _=>trivial) ?_;clear hK K Z h af ai;try refine zQ ?_
   repeat refine zT X.o ?_
   refine xc fun K hK=>?_
   go_simp;refine(zeh w3 A3 ac M3 V ab.o aj.o.xI (by have:=ab.o;omega) L).mono ?_;rintro e w4⟨rfl,rfl⟩;refine hK.out _ _ R.o (fun _=>trivial) ?_;clear hK K;try refine zQ ?_
   repeat refine zT X.o ?_
   refine xu ?_;go_wp2;go_returns;refine⟨X8 ?_,zu HX.o.below R.o⟩;have:=Hb.o
   by_cases Z:L∈V
   ·rw[qs Z];have h:b=false:=by
     rcases b with _|_
     ·rfl
     ·exact((this.1 rfl).2.2 Z).elim
    rw[h];rfl
   ·rw[qt Z,this.2 (by simpa using Z)];rfl
  ·subst h1;have I:=bytes_beq L v;rw[qt h2]at I;have h:b=false:=by
    have:=Hb.o
    rcases b with _|_
    ·rfl
    ·exact(h2 (this.1 rfl).2.1).elim
   subst h;clear h2;go_enter func171,ntmps171;go_wp2;rw[U.o];refine Vc [(0,0),(1,0),(2,0),(3,0),(4,0),(5,0),(6,0),(7,0),(8,0),(9,0),(10,0),(11,0),(13,0),(12,2),(14,2),(15,0),(16,0),(17,0)] (fun W=>Bl W2 W) ?_
   repeat refine zT X.o ?_
   refine xu ?_;go_wp2;go_returns;exact⟨rfl,zu HX.o.below (Below.refl _ _).drew⟩
 ·have I:(q1==0)=false:=by simp[h1]
  have h:b=false:=by
   have:=Hb.o
   rcases b with _|_
   ·rfl
   ·exact(h1 (this.1 rfl).1).elim
  subst h;clear h1;go_enter func171,ntmps171;go_wp2;rw[U.o];refine Vc [(0,0),(1,0),(2,0),(3,0),(4,0),(5,0),(6,0),(7,0),(8,0),(9,0),(10,0),(11,0),(13,0),(12,2),(14,2),(15,0),(16,0),(17,0)] (fun W=>Bl W2 W) ?_
  repeat refine zT X.o ?_
  refine xu ?_;go_wp2;go_returns;exact⟨rfl,zu HX.o.below (Below.refl _ _).drew⟩
end
