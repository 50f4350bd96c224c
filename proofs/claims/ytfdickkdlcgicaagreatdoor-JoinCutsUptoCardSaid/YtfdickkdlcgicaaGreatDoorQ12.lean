/-
  Walks: the right step of an atom. Walks: the right step of a
-/
import Derived.Test.YtfdickkdlcgicaaGreatDoorQ11
import Derived.Laws.BitsAllLaws
import Derived.Lib.TrailingZeros
import Derived.RangeFuncFrom
import Derived.RangeFuncNested
import Derived.RangeFuncCalls
import Derived.RangeFuncLeaves
import Derived.OrdersIn
import Derived.RangeFuncBound
import Derived.Shelf.Abstract
import Derived.Shelf.RegionOpen
import Derived.OwnWalkIn
import Derived.TacticsInMore
import Derived.LoopNIn
import Derived.LoopIn
set_option maxRecDepth 100000
set_option maxHeartbeats 8000000
set_option linter.all false
namespace Go.Proofs.YtfdickkdlcgicaaGreatDoor.C
open Go.Proofs.Tryz Go Go.RowKit Go.Maps Go.WideMaps
variable {B:Option Addr}{I bb g i m x:Nat}{K:List ByteArray}{L q:List Nat}{W w w':World}{body:List Li}{t:TypeId}{v:Int}
section
theorem step_pos(w:World)(sb mb:Nat)(B:Option Addr)(zM nb:Nat)(f:Value->Option Value)(K:List ByteArray)(h:yN w sb mb B zM nb f K)(body:List Li)(hn:body.length=nb)(hB:zZ Li.cells w B body)(i:Nat)(hi:i<body.length)(hl:body[i].zN w)(ax:body[i].ok)(ht:body[i].zO.length<=1048576)(Z:∀t∈body[i].zO,t.v.size<=maxLen)(hb:nb<=24)(hk:body[i].k=1):
 Calls prog 49 #[.pointer (some ⟨sb,0,none⟩),.int .i64 (i:Int)] w (Vy K i body[i] w):=by
 obtain⟨b,o,rfl,q,I⟩:=hB.at Li.Yn i hi;have bi:i<nb:=zd;generalize body[i]=x at *
 replace I:w.rangeAt b (o+i*16) x.cells:=I
 have H:=zz h;have Hr:=zz (fun W (hW:Bl w W)=>yB I hW q);have Hv:=zz (fun W (hW:Bl w W)=>UG W x (hl.below hW) ht Z);have Hu:=zz (fun W (hW:Bl w W) (A:Option Addr) (aa n:Nat) (hn:x.vars.length=n) (ho:zZ xD W A x.vars)=>Ur W sb mb (some ⟨b,o,none⟩) zM nb f K (h.below hW) A aa n x.vars hn ho (fun u O=>by
  obtain⟨_,t,L,rfl⟩:=C.qJ.1 O;exact Z t L) (by have:=YY x.zO;unfold Li.vars at hn;omega))
 have Hl:=zz hl;have aO:=zz ax;have Hs:=zz Z;have Ht:=zz ht;have c0:(w.alloc (.cells #[.int .i8 0,.int .i64 0,.int .u32 0,.slice none 0 0] 107)).cell? ⟨sb,0,none⟩=some (.slice (some ⟨b,o,none⟩) nb zM):=(h.below (xq w _)).r.cell 0;clear h I hl ax Z ht hB hn hi q;obtain⟨W1,I,q⟩:=xi w 107 #[.int .i8 0,.int .i64 0,.int .u32 0,.slice none 0 0];have a4:=zz I;have ao:=zz q;clear I q;go_enter func49,ntmps49
 go_wp2_with (first
  |(refine xW 50 _ rfl ?_;rw[a4.o];refine wpList_load_mid rfl 50 _ rfl b (o+i*16) rfl x.cells _ (Hr.o _ ao.o.below) underlying50 rfl (q9 x) ?_)
  |(refine xy 50 _ _ rfl ?_;refine XP rfl 50 _ _ rfl _ x.cells rfl rfl ?z (q9 x) ?one ?_))
 case z=>rw[Li.xG];rfl
 case one=>exact x.Ys
 intro W5 q;have ac:=zz q;have ba:=zz (zl ao.o.below q.below);clear q c0;obtain⟨W6,I,q⟩:=xi W5 107 #[.int .i8 0,.int .i64 (i:Int),.int .u32 0,.slice none 0 0];have aT:=zz I;have aV:=zz q;have ay:=zz (zl ba.o q.below);have bc:=zz (ac.o.b0.below q.below);have be:=zz ((ao.o.b0.below ac.o.below).below q.below);clear I q;have X:¬w.heap.size=W5.heap.size:=by have:=ac.o.size;have:=ao.o.size;omega
 have bh:¬W5.heap.size=w.heap.size:=fun e=>X e.symm
 have I:x.k=1:=hk;have k1:(x.k==1)=true:=by simp[I]
 have R:x.a.ok:=by
  rcases aO.o with⟨_,_,_,_,h⟩ |⟨h,_⟩
  ·exact h
  ·omega
 obtain⟨L,q⟩:∃L,qm K 0 x.a.args=L:=⟨_,rfl⟩;have Y:=fun W (hW:Bl w W)=>zbY W sb mb (some ⟨b,o,none⟩) zM nb f K (H.o.below hW) x.a (Hl.o.a.below hW) R.2.1 (fun t ht=>Hs.o t (zp0 _ ht))
 unfold zfD at Y;rw[q]at Y;have Hm:=zz Y;obtain⟨N,hN⟩:∃N,x.a.args.length=N:=⟨_,rfl⟩;obtain⟨un,V⟩:∃un,2 ^ N-1=un:=⟨_,rfl⟩;have aI:N<=24:=by rw[<-hN];exact R.2.1
 have O:=fun W=>GU W N aI
 rw[V]at O;have a7:=zz O;have af:=zz (show stepOf K i x=some ⟨if L=un then 3 else if L=0 then 1 else 2,i,L,qF K x⟩ by
  unfold stepOf;rw[if_pos I,q,hN,V])
 have U:=zz (show w.heap.size<=W5.heap.size by have:=ac.o.size;have:=ao.o.size;omega);have HN:=zz hN;clear hk I R q Y V O hN;go_upto_region 7 with(first
  |(refine xW 50 _ rfl ?_;refine wpList_load_mid rfl 50 _ rfl _ 0 rfl x.cells _ (ac.o.b0.below (xq _ _)).range underlying50 rfl (q9 x) ?_)
  |(go_at_call 103;rw[aT.o];refine(Hv.o _ ay.o).mono ?_;rintro e w7⟨A7,bg,n7,rfl,aK,aA,aq,aY⟩;have aR:=zz aK;have aX:=zz aA;have aF:=zz (zl ay.o aq);have a9:=zz (bc.o.below aq);have a6:=zz (be.o.below aq);have aG:=zz (aV.o.b0.below aq);clear aK aA aq aY)
  |(go_at_call 102;refine(Hu.o _ aF.o _ _ _ aR.o aX.o.xI).mono ?_;rintro e w8⟨Y,I,n8,rfl,aD,aw,al,aL⟩;have av:Kz ((qF K x).length=n8):=aD;have bf:Kz (Own xD 9 1 w8 Y I (qF K x)):=aw;have O:Kz (∀g∈zw Y,W5.heap.size<g):=fun g R=>zpz aG.o.lt (aL g R);have k8:=a9.o.below al;have c0:w8.cell? ⟨W1.heap.size,0,none⟩=some (.int .i8 x.k):=k8.cell 0;have c1:w8.cell? ⟨W1.heap.size,1,none⟩=some (.string x.a.p):=k8.cell 1;have c2:w8.cell? ⟨W1.heap.size,2,none⟩=some (.slice x.a.A x.a.args.length x.a.cap):=k8.cell 2;have aW:=zz k8;have aC:=zz (zl aF.o al);have aM:=zz (a6.o.below al);have aU:=zz (aG.o.below al);clear aD aw al aL k8)
  |(go_at_call 104;refine(Hm.o _ aC.o).mono ?_;rintro e w9⟨rfl,ag⟩;have a8:=zz (aU.o.below ag);have a2:=zz (aM.o.below ag);have a1:=zz (aW.o.below ag);have aS:=zz (zl aC.o ag);have bd:=zz (bf.o.below ag);clear c0 c1 c2 ag)
  |(refine xy 105 _ _ rfl ?_;refine Xq zj 105 _ _ rfl W5.heap.size 2 _ _ a8.o (.int .u32 (L:Int)) rfl rfl zp (zo) rfl ?_;intro W9 ah;have aZ:=zz ah.zH;have aQ:=zz (ah.qj a2.o X);have a3:=zz (ah.qj a1.o (by have:=ac.o.size;omega));have aP:=zz (ah.own bd.o (fun g R=>by have:=O.o g R;omega));have a5:=zz (ah.below aS.o (zpx _) U.o);clear ah)
  |(refine xy 86 _ _ rfl ?_;refine Xq zj 86 _ _ rfl W5.heap.size 3 _ _ aZ.o (.slice Y n8 I) rfl rfl zp (zo) rfl ?_;intro ad V;have au:Kz (zD ad W5.heap.size 107 #[.int .i8 0,.int .i64 (i:Int),.int .u32 (L:Int),.slice Y n8 I]):=V.zH;have az:=zz (V.qj aQ.o X);have aE:=zz (V.qj a3.o (by have:=ac.o.size;omega));have aJ:=zz (V.own aP.o (fun g R=>by have:=O.o g R;omega));have aH:=zz (V.below a5.o (zpx _) U.o);have c2:ad.cell? ⟨W1.heap.size,2,none⟩=some (.slice x.a.A x.a.args.length x.a.cap):=aE.o.cell 2;clear V))
 rw[HN.o]at c2;go_upto_region 9 with fail
 have H0:=zz (fun W (hW:Bl ad W)=>(show W.cell? ⟨W5.heap.size,2,none⟩=some (.int .u32 (L:Int))from(au.o.below hW).cell 2));refine xX [0,0,0,2,0,0] (fun W=>Bl ad W) ?_
 repeat refine zS H0.o ?_
 refine xf fun K q=>?_
 go_simp;refine(a7.o _).mono ?_;rintro e aB⟨rfl,rfl⟩;refine q.out _ _ (Below.refl _ _).drew (fun _=>trivial) ?_;clear q K;try refine zQ ?_
 repeat refine zS H0.o ?_
 refine xt ?_;have q:Bl ad ad.drew:=(Below.refl _ _).drew;generalize ad.drew=aB at q ⊢;have ae:=zz (au.o.below q);have am:=zz (az.o.below q);have ar:=zz (aJ.o.below q);have ap:=zz (zl aH.o q);have c2:aB.cell? ⟨W5.heap.size,2,none⟩=some (.int .u32 (L:Int)):=ae.o.cell 2;clear q
 by_cases hA:L=un
 ·have HA:=zz hA;have d9:((L:Int)==(un:Int))=true:=zb
  skip
  go_upto_region 13 with(refine xy 103 _ _ rfl ?_;refine Xq zj 103 _ _ rfl W5.heap.size 0 _ _ ae.o (.int .i8 3) rfl rfl zp (zo) rfl ?_;intro aa q;have ai:Kz (zD aa W5.heap.size 107 #[.int .i8 3,.int .i64 (i:Int),.int .u32 (L:Int),.slice Y n8 I]):=q.zH;have aj:=zz (q.qj am.o X);have ab:=zz (q.own ar.o (fun g R=>by have:=O.o g R;omega));have ak:=zz (q.below ap.o (zpx _) U.o);clear q c2)
  go_wp2_with (first
   |(refine xW 107 _ rfl ?_;refine y7 zj 107 _ rfl W5.heap.size 0 rfl [.int .i8 3,.int .i64 (i:Int),.int .u32 (L:Int),.slice Y n8 I] _ ai.o.range underlying107 rfl zo ?_)
   |(refine xy 107 _ _ rfl ?_;refine yH 107 w.heap.size 0 aj.o [.int .i8 3,.int .i64 (i:Int),.int .u32 (L:Int),.slice Y n8 I] ?_;intro aa q;have z0:=q.zH.cell 0;have z1:=q.zH.cell 1;have z2:=q.zH.cell 2;have z3:=q.zH.cell 3;have HF:=zz q;clear q))
  simp only[zpY,zpI,zpL,zpJ,zpH,zpM]at z0 z1 z2 z3;refine bodyPost_ret (v:=.tuple #[.agg #[.int .i8 3,.int .i64 (i:Int),.int .u32 (L:Int),.slice Y n8 I],.bool true]) (by simp[results,results49,go_sem,z0,z1,z2,z3]) rfl ?_;have an:=HF.o.below ak.o (zpx _) (zpx _);refine⟨3,L,Y,I,n8,true,rfl,by rw[af.o];rfl,fun s Z=>?_,an⟩;rw[af.o]at Z;injection Z with Z
  subst Z;refine⟨if_pos HA.o,rfl,av.o,HF.o.own ab.o (fun g R=>by have:=O.o g R;have:=U.o;omega),fun g R=>by have:=O.o g R;have:=U.o;omega⟩
 ·by_cases hB:L=0
  ·have HA:=zz hA;have HB:=zz hB;have d9:((L:Int)==(un:Int))=false:=zb;have aN:((L:Int)==0)=true:=zb;go_upto_region 13 with(refine xy 103 _ _ rfl ?_;refine Xq zj 103 _ _ rfl W5.heap.size 0 _ _ ae.o (.int .i8 1) rfl rfl zp (zo) rfl ?_;intro aa q;have ai:Kz (zD aa W5.heap.size 107 #[.int .i8 1,.int .i64 (i:Int),.int .u32 (L:Int),.slice Y n8 I]):=q.zH;have aj:=zz (q.qj am.o X);have ab:=zz (q.own ar.o (fun g R=>by have:=O.o g R;omega));have ak:=zz (q.below ap.o (zpx _) U.o);clear q c2)
   go_wp2_with (first
    |(refine xW 107 _ rfl ?_;refine y7 zj 107 _ rfl W5.heap.size 0 rfl [.int .i8 1,.int .i64 (i:Int),.int .u32 (L:Int),.slice Y n8 I] _ ai.o.range underlying107 rfl zo ?_)
    |(refine xy 107 _ _ rfl ?_;refine yH 107 w.heap.size 0 aj.o [.int .i8 1,.int .i64 (i:Int),.int .u32 (L:Int),.slice Y n8 I] ?_;intro aa q;have z0:=q.zH.cell 0;have z1:=q.zH.cell 1;have z2:=q.zH.cell 2;have z3:=q.zH.cell 3;have HF:=zz q;clear q))
   simp only[zpY,zpI,zpL,zpJ,zpH,zpM]at z0 z1 z2 z3;refine bodyPost_ret (v:=.tuple #[.agg #[.int .i8 1,.int .i64 (i:Int),.int .u32 (L:Int),.slice Y n8 I],.bool true]) (by simp[results,results49,go_sem,z0,z1,z2,z3]) rfl ?_;have an:=HF.o.below ak.o (zpx _) (zpx _);refine⟨1,L,Y,I,n8,true,rfl,by rw[af.o];rfl,fun s Z=>?_,an⟩;rw[af.o]at Z;injection Z with Z
   subst Z;refine⟨(if_neg HA.o).trans (if_pos HB.o),rfl,av.o,HF.o.own ab.o (fun g R=>by have:=O.o g R;have:=U.o;omega),fun g R=>by have:=O.o g R;have:=U.o;omega⟩
  ·have HA:=zz hA;have HB:=zz hB;have d9:((L:Int)==(un:Int))=false:=zb;have aN:((L:Int)==0)=false:=zb;go_upto_region 13 with(refine xy 103 _ _ rfl ?_;refine Xq zj 103 _ _ rfl W5.heap.size 0 _ _ ae.o (.int .i8 2) rfl rfl zp (zo) rfl ?_;intro aa q;have ai:Kz (zD aa W5.heap.size 107 #[.int .i8 2,.int .i64 (i:Int),.int .u32 (L:Int),.slice Y n8 I]):=q.zH;have aj:=zz (q.qj am.o X);have ab:=zz (q.own ar.o (fun g R=>by have:=O.o g R;omega));have ak:=zz (q.below ap.o (zpx _) U.o);clear q c2)
   go_wp2_with (first
    |(refine xW 107 _ rfl ?_;refine y7 zj 107 _ rfl W5.heap.size 0 rfl [.int .i8 2,.int .i64 (i:Int),.int .u32 (L:Int),.slice Y n8 I] _ ai.o.range underlying107 rfl zo ?_)
    |(refine xy 107 _ _ rfl ?_;refine yH 107 w.heap.size 0 aj.o [.int .i8 2,.int .i64 (i:Int),.int .u32 (L:Int),.slice Y n8 I] ?_;intro aa q;have z0:=q.zH.cell 0;have z1:=q.zH.cell 1;have z2:=q.zH.cell 2;have z3:=q.zH.cell 3;have HF:=zz q;clear q))
   simp only[zpY,zpI,zpL,zpJ,zpH,zpM]at z0 z1 z2 z3;refine bodyPost_ret (v:=.tuple #[.agg #[.int .i8 2,.int .i64 (i:Int),.int .u32 (L:Int),.slice Y n8 I],.bool true]) (by simp[results,results49,go_sem,z0,z1,z2,z3]) rfl ?_;have an:=HF.o.below ak.o (zpx _) (zpx _);refine⟨2,L,Y,I,n8,true,rfl,by rw[af.o];rfl,fun s Z=>?_,an⟩;rw[af.o]at Z;injection Z with Z
   subst Z;refine⟨(if_neg HA.o).trans (if_neg HB.o),rfl,av.o,HF.o.own ab.o (fun g R=>by have:=O.o g R;have:=U.o;omega),fun g R=>by have:=O.o g R;have:=U.o;omega⟩
open Classical in
theorem zhh(w:World)(N O:Nat)(B:Option Addr)(zM I:Nat)(f:Value->Option Value)(K:List ByteArray)(h:yN w N O B zM I f K)(body:List Li)(Y:body.length=I)(hB:zZ Li.cells w B body)(i:Nat)(hi:i<body.length)(W:body[i].zN w)(q:body[i].ok)(R:body[i].zO.length<=1048576)(X:∀t∈body[i].zO,t.v.size<=maxLen)(U:I<=24):
 Calls prog 49 #[.pointer (some ⟨N,0,none⟩),.int .i64 (i:Int)] w (Vy K i body[i] w):=by
 by_cases h1:body[i].k=1
 ·exact step_pos w N O B zM I f K h body Y hB i hi W q R X U h1
 by_cases h2:body[i].k=2
 ·exact zoa w N O B zM I f K h body Y hB i hi W q R X U h2
 have h3:body[i].k=3:=by
  rcases id q with⟨h|h,_⟩ |⟨h,_⟩
  ·exact(h1 h).elim
  ·exact(h2 h).elim
  ·exact h
 rcases hop:qF K body[i]with _ |⟨v,r⟩
 ·exact zkW w N O B zM I f K h body Y hB i hi W q R X U ⟨h3,hop⟩
 have V:stepOf K i body[i]=if ∃v,qF K body[i]=[v]/\body[i].rl=1/\UQ body[i] v then some ⟨6,i,0,qF K body[i]⟩else none:=by
  unfold stepOf;rw[if_neg h1,if_neg h2,if_neg (by rw[hop];simp)]
 by_cases hr:r=[]
 ·subst hr
  by_cases L:body[i].rl=1
  ·by_cases Z:UQ body[i] v
   ·exact zjD w N O B zM I f K h body Y hB i hi W q R X U ⟨h3,L,v,hop,Z⟩
   ·refine zle w N O B zM I f K h body Y hB i hi W q R X U ⟨h3,⟨v,hop,Z⟩,L,?_⟩;rw[V,if_neg];rintro⟨u,hu,_,aa⟩;rw[hop]at hu;injection hu with hu _
    subst hu;exact Z aa
  ·refine zme w N O B zM I f K h body Y hB i hi W q R X U ⟨h3,⟨v,hop⟩,L,?_⟩;rw[V,if_neg];rintro⟨u,_,Z,_⟩;exact L Z
 ·obtain⟨u,Z,rfl⟩:=List.exists_cons_of_ne_nil hr;refine zmF w N O B zM I f K h body Y hB i hi W q R X U ⟨h3,⟨v,u,Z,hop⟩,?_⟩;rw[V,if_neg];rintro⟨x,L,_⟩;rw[hop]at L
  cases L
def bitsOf(m:Nat):List Nat:=(List.range 24).filter fun i=>m.testBit i
def Xd(m i:Nat):Nat:=m &&&(4294967295-2 ^ i)
theorem Y6:i∈bitsOf m↔i<24/\m.testBit i=true:=by
 unfold bitsOf;rw[zrd,zqA]
theorem zdU(m:Nat):(bitsOf m).Nodup:=List.nodup_range.filter _
theorem DR:∀n,n<25->bitsOf (2 ^ n-1)=List.range n:=by decide +kernel
theorem ziR(m i j:Nat)(hi:i<32)(L:j<32):(Xd m i).testBit j=(m.testBit j&&decide (j≠i)):=by
 unfold Xd;have q:2 ^ i<2 ^ 32:=Nat.pow_lt_pow_right zr hi;have e:4294967295-2 ^ i=2 ^ 32-(2 ^ i+1):=zd;rw[Nat.testBit_and,e,Nat.testBit_two_pow_sub_succ q,Nat.testBit_two_pow]
 by_cases h:j=i
 ·subst h;simp
 ·have I:¬i=j:=fun e=>h e.symm
  simp[h,I,L]
theorem zaP(m i:Nat):Xd m i<=m:=Nat.and_le_left
theorem Vs(hi:i<24):bitsOf (Xd m i)=(bitsOf m).erase i:=by
 rw[(zdU m).erase_eq_filter];unfold bitsOf;rw[List.filter_filter];refine List.filter_congr fun j q=>?_
 rw[ziR m i j zd (by have:=zqA.1 q;omega),Bool.and_comm]
 congr 1
 by_cases h:j=i<;>simp[h]
theorem DT:bitsOf 0=[]:=by decide +kernel
theorem znz(p:Nat->Bool)(c:Nat)(R:p c=true)(h:∀j,j<c->p j=false):∀n,c<n->(List.range n).filter p=c::((List.range n).filter p).erase c:=fun n L=>by
 have q:∀n,c<n->∃r,(List.range n).filter p=c::r:=fun n=>by
  induction n with
  |zero=>intro h;omega
  |succ n N=>
   intro L;rw[zrf,zrk]
   by_cases e:c=n
   ·subst e;have O:(List.range c).filter p=[]:=zri.2 fun j I=>by
     rw[h j (zqA.1 I)];exact zqV
    rw[O,zpI,List.filter_cons,R];exact⟨_,rfl⟩
   ·obtain⟨r,I⟩:=N zd;rw[I];exact⟨_,rfl⟩
 obtain⟨r,I⟩:=q n L;rw[I,List.erase_cons_head]
theorem D6(h0:m≠0)(R:m<2 ^ 24):Lib.ctz 32 m<24/\m.testBit (Lib.ctz 32 m)=true/\∀j,j<Lib.ctz 32 m->m.testBit j=false:=by
 have L:m<2 ^ 32:=zpz R zr;obtain⟨q,N,_⟩:=Lib.ctzFrom_spec 32 m (Nat.pos_of_ne_zero h0) L;have U:Lib.ctz 32 m=Lib.ctzFrom 32 m:=by unfold Lib.ctz;rw[if_neg h0]
 rw[U];generalize Lib.ctzFrom 32 m=c at N;have O:∀j,m.testBit j=(decide (c<=j)&&(2*q+1).testBit (j-c)):=fun j=>by
  rw[N,Nat.mul_comm,Nat.testBit_mul_two_pow]
 have I:c<24:=by
  refine zql fun h=>?_
  have W:2 ^ 24<=2 ^ c:=zqo zr (zd);have V:2 ^ c*1<=2 ^ c*(2*q+1):=Nat.mul_le_mul_left _ zd;omega
 refine⟨I,?_,fun j V=>?_⟩
 ·rw[O,zrp];simp
 ·rw[O];simp;omega
theorem zcy(h0:m≠0)(q:m<2 ^ 24):bitsOf m=Lib.ctz 32 m::bitsOf (Xd m (Lib.ctz 32 m)):=by
 obtain⟨h,I,L⟩:=D6 h0 q;rw[Vs h];exact znz _ _ I L 24 h
theorem zcF(q:m<2 ^ 24)(h:bitsOf m=[]):m=0:=zql fun I=>by
 rw[zcy I q]at h;cases h
structure Tz (w:World):Prop where
 lt:0<w.heap.size
 cell:∀j,j<32->w.cell? ⟨0,j,none⟩=some (.int .u8 (Lib.deBruijn32tab.getD j 0))
theorem Tz.below(h:Tz w){B:Nat}(q:Below B w w')(L:w.heap.size<=B):Tz w':=⟨zpz h.lt q.size,fun j I=>(World.cell?_of_block (w:=w) (q.block _ (zpz h.lt L))).trans (h.cell j I)⟩
theorem Tz.same(h:Tz w)(I:w.heap.size<=w'.heap.size)(L:w'.heap[(0:Nat)]? = w.heap[(0:Nat)]?):Tz w':=⟨zpz h.lt I,fun j q=>(World.cell?_of_block (w:=w) L).trans (h.cell j q)⟩
theorem zgh(x a:Nat)(I:x<4294967296)(h:x &&&(4294967296-x)=a):
 bits BinOp.and IntKind.u32 (x:Int) (-(x:Int) % 4294967296)*125613361 % 4294967296 / 134217728=((a*125613361 % 4294967296 / 134217728:Nat):Int):=by
 by_cases q:x=0
 ·subst q;rw[Nat.zero_and]at h;subst h;rfl
 ·have e1:-(x:Int) % 4294967296=((4294967296-x:Nat):Int):=zd;rw[e1,u32_and_nat x _ I zd,h];omega
theorem ziV(m:Nat)(h0:m≠0)(L:m<2 ^ 24):∃h,h<32/\Lib.deBruijn32tab.getD h 0=Lib.ctz 32 m/\bits BinOp.and IntKind.u32 (m:Int) (-(m:Int) % 4294967296)*125613361 % 4294967296 / 134217728=((h:Nat):Int):=by
 have TA:(2:Nat) ^ 32=4294967296:=zr;have q:m<4294967296:=zpz L zr;obtain⟨h,N⟩:=Lib.lowest_bit 32 m h0 (by rw[TA];exact q);rw[TA]at h;obtain⟨O,I⟩:=Lib.deBruijn32_at _ N;exact⟨_,O,I,zgh m _ q h⟩
theorem znX(w:World)(N:Tz w)(m:Nat)(h0:m≠0)(L:m<2 ^ 24):Calls prog 167 #[.int .u32 m] w fun e h=>e=.returned (.int .i64 (Lib.ctz 32 m:Nat))/\h=w:=by
 obtain⟨R,U,h,I⟩:=ziV m h0 L;have q:=N.cell _ U;rw[h]at q;have O:((m:Int)==0)=false:=zb;have W:=(D6 h0 L).1;generalize Lib.ctz 32 m=k at *;have V:wrap64 (k:Int)=k:=by unfold wrap64;omega
 clear N h L h0;go_enter func167,ntmps167
 go_wp2_with (simp only[I])
 go_returns;exact⟨rfl,rfl⟩
section
variable {F:Fence}{n:Nat}{P:Program}
def US{α:Type}(bb:Nat)(F:Fence)(n:Nat)(P:Program)(g:Nat)(lb:Array Value)(I:α->Array Value)(O:World->World->Prop)(S Sp V:List α->Prop)(w:World):Prop:=
 ∀(l:Nat)(J N:List α->World->Prop)(W:World),Bl w W->(∀s W q,J s W->zh (·=bb) W q->J s q)->
  (∀h x L,J h L->V (h++[x])->YieldAt F (n-1) P l (I x) L fun e q=>
   (e=.returned (.bool true)/\J (h++[x]) q/\O L q)\/(e=.returned (.bool false)/\N (h++[x]) q))->
  J [] W->CallsIn F n P g (#[.func (.yield l) #[] #[]]++lb) W fun e q=>(∃v,e=.returned v)/\((∃L,S L/\J L q)\/(∃h,Sp h/\N h q))
theorem zlv{α:Type}{g:Operand}{ps:Array Tmp}{assign body:Code}{Q:Exit->Act->World->Prop}{a:Act}(ax:F.round=none)(h1:1<=n){gf:Nat}{lb:Array Value}(hg:a.eval g=.func (.func gf) #[] lb)(au:F.fn gf)(eg:∀q w,(callFunc gf q).run P w=.ok (.enter gf q) w){Z:α->Array Value}{Kp:World->World->Prop}{S Sp V:List α->Prop}(aE:bb<w.heap.size)(am:US bb F (n-1) P gf lb Z Kp S Sp V w)(an:∀{A B C:World},Kp A B->Kp B C->Kp A C)(ak:∀(W:World)(l:Nat)(o o':Obj),w.heap.size<=l->W.heap[l]? = some o->o.isCells=false->o.isWalk=false->Kp W (W.putObj l o'))(az:∀x,(Z x).size=ps.size)(I:List α->World->Prop)(Ix:Code->List α->World->Prop)(hI:OwnFrom w.heap.size I)(ae:∀c,OwnFrom w.heap.size (Ix c))(aC:∀s W W',I s W->zh (·=bb) W W'->I s W')(h0:I [] w)(a₁:α->Act)(ab:∀(l:Nat)(x:α)(W:World)(K:Act->World->Prop),K (a₁ x) W->
  assign.wpIn (F.inRound l) (n-1-1) P (Exit.then K (fun _ _ _=>False)) { tmps:=(ps.zip (Z x)).foldl (fun t (p,v)=>t.setIfInBounds p v) a.tmps,defers:=[]} W)(ag:∀(l:Nat)(h:List α)(x:α)(W:World),I h W->V (h++[x])->body.wpIn (F.inRound l) (n-1-1) P (ownPostK Kp I Ix (h++[x]) W) (a₁ x) W)(ah:∀(D:Nat)(xs:List α)(W:World),w.heap.size<=D->S xs->I xs W->W.heap[D]? = some (.deferred (some []))->Q .normal { a with defers:={ target:=.collected D,args:=#[]}::a.defers } W)(ai:∀(D:Nat)(c:Code)(h:List α)(W:World),w.heap.size<=D->Sp h->Ix c h W->W.heap[D]? = some (.deferred (some []))->c.wpIn F n P Q { a with defers:={ target:=.collected D,args:=#[]}::a.defers } W):
 (Code.rangeFunc g ps assign body).wpIn F n P Q a w:=by
 refine wpIn_rangeFunc fun fn aB=>?_
 rw[ax]
 let ad:LoopState->Option Code->Loop:=fun L N=>{ state:=L,pending:=N,fn,tmps:=a.tmps,params:=ps,assign,body,defers:=w.heap.size }
 obtain⟨mk,O⟩:∃mk,mk=ad:=⟨_,rfl⟩;obtain⟨W1,aa⟩:∃W1,(w.alloc (.deferred (some []))).alloc (.loop (mk .ready none))=W1:=⟨_,rfl⟩;have aF:W1.heap.size=w.heap.size+1+1:=by rw[<-aa];simp
 have ay:W1.heap[w.heap.size+1]? = some (.loop (mk .ready none)):=by
  have:=World.alloc_heap_new (w.alloc (.deferred (some []))) (.loop (mk .ready none))
  rwa [World.size_alloc,aa]at this
 have ar:W1.heap[w.heap.size]? = some (.deferred (some [])):=by
  rw[<-aa];exact(Below.heap_alloc _ _ _ zp).trans (World.alloc_heap_new w _)
 have aq:I [] W1:=by rw[<-aa];exact hI.alloc _ (hI.alloc _ h0)
 have aD:Bl w W1:=by rw[<-aa];exact((Below.refl _ w).alloc (zpx _) _).alloc zp _
 have X4:∀(W W':World),zh (·=bb) W W'->∀(k:Nat)(o:Obj),w.heap.size<=k->W.heap[k]? = some o->W'.heap[k]? = some o:=fun W W' hc k o hk ho=>(hc.block k (zpN.1 ho).1 zd).trans ho
 refine⟨w.heap.size+1,[{ target:=.collected w.heap.size,args:=#[]}],W1,{ target:=.fn (.func gf) lb,args:=#[.func (.yield (w.heap.size+1)) #[] #[]]},W1,gf,
  #[.func (.yield (w.heap.size+1)) #[] #[]]++lb,W1,?_,?_,?_,?_,fun _=>h1,?_⟩
 ·rw[<-aa,O];exact run_enterLoop_outer _ _ _ _ _
 ·simp only[resolve,hg];simp[go_sem]
 ·intro N L;simp[Target.leads]at L;subst L;exact au
 ·simp[invoke,go_sem,eg]
 ·refine(am (w.heap.size+1) (fun h W=>I h W/\W.heap[w.heap.size+1]? = some (.loop (mk .ready none))/\W.heap[w.heap.size]? = some (.deferred (some [])))
   (fun h W=>∃c,Ix c h W/\W.heap[w.heap.size+1]? = some (.loop (mk .done (some c)))/\W.heap[w.heap.size]? = some (.deferred (some []))) W1 aD
   (fun s W W' hs hc=>⟨aC _ _ _ hs.1 hc,X4 W W' hc _ _ zd hs.2.1,X4 W W' hc _ _ (zpx _) hs.2.2⟩) ?_ ⟨aq,ay,ar⟩).mono ?_
  ·rintro h x W⟨hi,hl,hk⟩aj;have av:w.heap.size+1<W.heap.size:=(zpN.1 hl).1;have hy:=run_yield (P:=P) (args:=Z x) hl (by rw[O];exact az x);rw[O]at hy;refine⟨fn,_,assign,body,hy,roundIn_of_wpIn aB (ab _ x W _ ⟨_,run_beginRound hl (by rw[O]),?_⟩)⟩;obtain⟨W2,ac⟩:∃W2,W.putObj (w.heap.size+1) (.loop { mk .ready none with state:=.busy })=W2:=⟨_,rfl⟩;have aA:W2.heap[w.heap.size+1]? = some (.loop { mk .ready none with state:=.busy }):=ac▸World.putObj_heap_same av;have aw:W2.heap[w.heap.size]? = some (.deferred (some [])):=ac▸(World.putObj_heap_other zd).trans hk;have ao:Kp W W2:=ac▸ak _ _ _ _ zd hl rfl rfl;have ap:I h W2:=ac▸hI.putObj _ hi zd hl rfl;rw[ac];refine wpIn_mono (ag _ h x _ ap aj) ?_;have af:∀(q:Option Code)(W3:World),KeepsOthers W2 W3->∃W4,W3.putObj (w.heap.size+1) (.loop (mk (if q.isNone then .ready else .done) q))=W4/\
    (Instr.endRound (w.heap.size+1) q).run P W3=.ok (.bool q.isNone) W4/\W3.heap[w.heap.size+1]? = some (.loop { mk .ready none with state:=.busy })/\
    W4.heap[w.heap.size+1]? = some (.loop (mk (if q.isNone then .ready else .done) q))/\W4.heap[w.heap.size]? = some (.deferred (some [])):=fun q W3 N=>by
    have L:=N.same _ _ aA rfl;have hr:=run_endRound (P:=P) q L;refine⟨_,rfl,?_,L,World.putObj_heap_same (zpN.1 L).1,(World.putObj_heap_other zd).trans (N.same _ _ aw rfl)⟩;rw[O]at hr ⊢;exact hr
   rintro e a3 W3 hp
   cases e with
   |normal=>
    obtain⟨N,al,Y⟩:=hp;obtain⟨W4,R,hr,L,U,X⟩:=af none W3 N;exact⟨_,W4,hr,.inl ⟨rfl,⟨R▸hI.putObj _ Y zd L rfl,U,X⟩,an (an ao al) (R▸ak _ _ _ _ zd L rfl rfl)⟩⟩
   |ret=>
    obtain⟨N,Y⟩:=hp;obtain⟨W4,R,hr,L,U,X⟩:=af (some .ret) W3 N;exact⟨_,W4,hr,.inr ⟨rfl,.ret,R▸(ae _).putObj _ Y zd L rfl,U,X⟩⟩
   |exit id=>
    obtain⟨N,Y⟩:=hp;obtain⟨W4,R,hr,L,U,X⟩:=af (some (.exit id)) W3 N;exact⟨_,W4,hr,.inr ⟨rfl,(.exit id),R▸(ae _).putObj _ Y zd L rfl,U,X⟩⟩
   |goto t=>
    obtain⟨N,Y⟩:=hp;obtain⟨W4,R,hr,L,U,X⟩:=af (some (.goto t)) W3 N;exact⟨_,W4,hr,.inr ⟨rfl,(.goto t),R▸(ae _).putObj _ Y zd L rfl,U,X⟩⟩
   |panic N=>exact hp.elim
   |outgrown=>exact hp.elim
  ·rintro e W2⟨⟨v,rfl⟩,(⟨xs,N,hi,hl,hk⟩ |⟨h,L,c,hi,hl,hk⟩)⟩
   ·have q:=run_endLoop (P:=P) hl (by rw[O];simp[ad]);rw[show(mk .ready none).pending=none by rw[O]]at q;exact⟨none,_,q,ah _ xs _ (zpx _) N (hI.putObj _ hi zd hl rfl) ((World.putObj_heap_other zd).trans hk)⟩
   ·have q:=run_endLoop (P:=P) hl (by rw[O];simp[ad]);rw[show(mk .done (some c)).pending=some c by rw[O]]at q;exact⟨some c,_,q,ai _ c h _ (zpx _) L ((ae c).putObj _ hi zd hl rfl) ((World.putObj_heap_other zd).trans hk)⟩
end
end
end Go.Proofs.YtfdickkdlcgicaaGreatDoor.C
namespace Go.Proofs.YtfdickkdlcgicaaGreatDoor
open Go.Proofs.Tryz Go Go.RowKit Go.Maps Go.WideMaps
variable {a:Act}{id:Nat}{o:Oper}{w:World}
section
def Zd(Q:Exit->Act->World->Prop):Exit->Act->World->Prop
 |.panic _,_,_=>False
 |.outgrown,_,_=>False
 |e,a,w=>Q e a w
theorem Zd.imp{Q:Exit->Act->World->Prop}:∀(e:Exit)(a:Act)(w:World),Zd Q e a w->Q e a w:=fun e a w h=>by
 cases e<;>first|exact h|exact(h:False).elim
theorem Zd.zbT{Q:Exit->Act->World->Prop}:¬LetsOut (Zd Q):=fun⟨_,_,h⟩=>h
section
variable {P:Program}{ops:Array Oper}{md:Region.Mode}{n:Nat}{ro:Option Nat}{Q:Exit->Act->World->Prop}
theorem zfc{next:Act->World->Prop}(L:∀c,o.op≠.defer c)(h:o.wp P a w next Q):o.wpIn { Fence.wide with round:=ro } n P a w next Q:=by
 refine⟨fun _ _=>trivial,?_⟩;rw[Oper.semAt_eq _ _ _ L];unfold Oper.wp at h;generalize(execOp a.eval o).run P w=r at h ⊢
 cases r with
 |ok x q=>
  cases x<;>simp only[Oper.upon,Oper.uponIn]at h ⊢
  case enter f args=>
   refine⟨fun I=>(by cases I),CallsIn.outOfRound (l:=0) (CallsIn.inRound 0 (callsIn_wide.2 (Calls.mono h fun e O N=>?_)))⟩
   cases e<;>exact N
  case row row args=>exact⟨fun I=>(by cases I),fun c N _=>let⟨v,q,r,s⟩:=h c N;⟨v,q,r,stepsIn_wide.2 s⟩⟩
  all_goals exact h
 |halt x q=>cases x<;>simp only[Oper.upon,Oper.uponIn]at h ⊢<;>exact h
def Jf(ops:Array Oper):Bool:=ops.toList.all fun o=>match o.op with|.defer _=>false|_=>true
theorem znT(h:Jf ops=true){i:Nat}(I:ops[i]? = some o):∀c,o.op≠.defer c:=fun c e=>by
 have q:=List.all_eq_true.1 h o (zqE (i:=i) (by rw[Array.getElem?_toList];exact I));rw[e]at q
 cases q
theorem GH(L:Jf ops=true)(N:¬LetsOut Q):∀(q:Nat)(I:Array Bool)(a:Act)(w:World),wpAny P md ops Q q I a w->wpAnyIn { Fence.wide with round:=ro } n P md ops Q q I a w
 |0,_,_,_,h=>h
 |q+1,I,a,w,h=>⟨h.1,fun i O=>by
  have I:=h.2 i O;unfold wpOp at I;unfold wpOpIn
  cases ho:ops[i]? with
  |none=>simp only[ho]at I ⊢;exact GH L N q _ _ _ I
  |some o=>
   simp only[ho]at I ⊢;split
   ·rename_i O;simp only[O,if_true]at I
    rcases I with I|I
    ·exact zfc (znT L ho) (Oper.wp_mono (fun a w=>GH L N q _ a w) I)
    ·exact absurd I.2 N
   ·rename_i O;simp only[O]at I;exact⟨fun _ _=>trivial,GH L N q _ _ _ I⟩⟩
theorem zeD(q:List (Nat×Nat))(k:Nat)(S0 S1:World->Prop)(R:P.follows .mixedOrders=true)(O:Jf ops=true)(V:Region.noSelect ops=true)(N:q.length=ops.size)(L:XH .any ops k q (Array.replicate ops.size false)=true)(h0:S0 w.drew)(U:S1 w.drew)(h:xS P ops (Zd Q) S0 S1 false (xO ops q) a w.drew):(Code.region id ops true).wpIn { Fence.wide with round:=ro } n P Q a w:=by
 refine wpIn_mono (wpIn_region_any R (GH O Zd.zbT _ _ _ _ (Gl _ _ _ _ (S:=fun l w=>S0 w/\(l.getD k false=false->S1 w)) ?_))) Zd.imp;rw[<-N];rw[<-N]at L;have I:(Array.replicate q.length false).getD k false=false:=by
  by_cases I:k<q.length
  ·simp[I]
  ·simp[I]
 exact Vd V (fun _ _ _ _ _ h=>(h:False).elim) q _ false a _ L (YX.start _) I h0 (fun _=>U) h
theorem Zm(q:List (Nat×Nat))(k:Nat)(S0 S1:World->Prop)(L:P.follows .mixedOrders=true)(I:Jf ops=true)(O:Region.noSelect ops=true)(U:q.length=ops.size)(R:XH .any ops k q (Array.replicate ops.size false)=true)(h0:S0 w.drew)(N:S1 w.drew)(h:xS P ops (Zd Q) S0 S1 false (xO ops q) a w.drew):(Code.region id ops true).wpIn Fence.wide n P Q a w:=
 zeD (ro:=none) q k S0 S1 L I O U R h0 N h
theorem zdq{l:Nat}(q:List (Nat×Nat))(k:Nat)(S0 S1:World->Prop)(L:P.follows .mixedOrders=true)(I:Jf ops=true)(O:Region.noSelect ops=true)(U:q.length=ops.size)(R:XH .any ops k q (Array.replicate ops.size false)=true)(h0:S0 w.drew)(N:S1 w.drew)(h:xS P ops (Zd Q) S0 S1 false (xO ops q) a w.drew):(Code.region id ops true).wpIn (Fence.wide.inRound l) n P Q a w:=
 zeD (ro:=some l) q k S0 S1 L I O U R h0 N h
theorem YR{S0 S1:World->Prop}{d:Bool}(h:Q .normal a w):xS P ops (Zd Q) S0 S1 d [] a w:=h
end
end
end Go.Proofs.YtfdickkdlcgicaaGreatDoor
namespace Go.Proofs.YtfdickkdlcgicaaGreatDoor.C
open Go.Proofs.Tryz Go Go.RowKit Go.Maps Go.WideMaps
variable {B:Option Addr}{I bb g i m x:Nat}{K:List ByteArray}{L q:List Nat}{W w w':World}{body:List Li}{t:TypeId}{v:Int}
section
theorem pow_mod(i:Nat)(hi:i<24):(2:Int) ^ i % 4294967296=((2 ^ i:Nat):Int):=by
 have h:2 ^ i<=2 ^ 24:=zqo zr (zd);have q:(2:Int) ^ i=((2 ^ i:Nat):Int):=zp;rw[q];generalize 2 ^ i=p at *;omega
theorem G7(i m:Nat)(hi:i<24)(q:m<2 ^ 24):bits .andNot .u32 (m:Int) ((2:Int) ^ i % 4294967296)=((Xd m i:Nat):Int):=by
 have h:2 ^ i<=2 ^ 24:=zqo zr (zd);rw[pow_mod i hi,u32_andNot_nat m (2 ^ i) zd (zd)];rfl
theorem GB(i m:Nat)(hi:i<24)(q:m<2 ^ 24):bits .and .u32 (m:Int) ((2:Int) ^ i % 4294967296)=((m &&& 2 ^ i:Nat):Int):=by
 have h:2 ^ i<=2 ^ 24:=zqo zr (zd);rw[pow_mod i hi,u32_and_nat m (2 ^ i) zd (zd)]
theorem and_zero(m i:Nat):m &&& 2 ^ i=0↔m.testBit i=false:=by
 constructor
 ·intro h;have q:(m &&& 2 ^ i).testBit i=false:=by rw[h];simp
  rw[Nat.testBit_and,Nat.testBit_two_pow_self,Bool.and_true]at q;exact q
 ·intro h;refine Nat.eq_of_testBit_eq fun j=>?_
  rw[Nat.testBit_and,Nat.testBit_two_pow,Nat.zero_testBit]
  by_cases e:i=j
  ·subst e;rw[h];rfl
  ·simp[e]
structure Zc (bb:Nat) (W W':World):Prop where
 size:W.heap.size<=W'.heap.size
 box:W'.heap[bb]? = W.heap[bb]?
 tab:W'.heap[(0:Nat)]? = W.heap[(0:Nat)]?
theorem zg7{X Y Z:World}(h:Zc bb X Y)(k:Zc bb Y Z):Zc bb X Z:=⟨zpK h.size k.size,k.box.trans h.box,k.tab.trans h.tab⟩
theorem zhV(I:bb<w.heap.size)(q:0<w.heap.size)(W:World)(l:Nat)(o o':Obj)(h:w.heap.size<=l)(_:W.heap[l]? = some o)(_:o.isCells=false)(_:o.isWalk=false):Zc bb W (W.putObj l o'):=
 ⟨(grownBy_putObj' W l o').size,World.putObj_heap_other zd,World.putObj_heap_other zd⟩
theorem Zc.xj{q:World}(h:Bl W q)(L:bb<W.heap.size)(I:0<W.heap.size):Zc bb W q:=⟨h.size,h.block _ L,h.block _ I⟩
def zaL(bb:Nat)(w:World):Nat:=match w.cell? ⟨bb,0,none⟩with
 |some (.int .u32 n)=>(bitsOf n.toNat).length
 |_=>0
theorem zde(h:zD w bb t #[.int .u32 (m:Int)]):zaL bb w=(bitsOf m).length:=by
 have:=h.cell 0;simp only[zpL,zpH]at this;unfold zaL;rw[this];simp
theorem zis(w:World)(m:Int):Calls prog 101 #[.int .u32 m] w fun e h=>e=.returned (.func (.func 166) #[] #[.pointer (some ⟨w.heap.size,0,none⟩)])/\h=w.alloc (.cells #[.int .u32 m] 122):=by
 go_enter func101,ntmps101;go_wp2;go_returns;exact⟨rfl,rfl⟩
attribute [local go_sem] Oper.semAt_some
theorem zgp{k:Nat}{w0:World}(av:1<=k)(hm:m<2 ^ 24)(hk:zD w0 bb 122 #[.int .u32 m])(hT:Tz w0)(ac:bb≠0):
 US bb Fence.wide k prog 166 #[.pointer (some ⟨bb,0,none⟩)] (fun i:Nat=>#[.int .i64 (i:Int)]) (Zc bb) (fun L=>L=bitsOf m) (fun h=>h <+: bitsOf m) (fun h=>h <+: bitsOf m) w0:=fun l J N W hW q I Y=>by
 have ao:=zz I;have ah:=zz ac;have HJ:=zz q;have H0:=zz Y;have HK:=zz (hk.below hW);have HT:=zz (hT.below hW (zpx _));clear I q Y hk hT hW ac;refine callsIn_of_wp func166 rfl trivial ?_ rfl;show Code.wpIn _ _ _ _ _ { tmps:=#[.func (.yield l) #[] #[],.pointer (some ⟨bb,0,none⟩)]++_,defers:=[]} _;simp only[ntmps166,zq0,zpV,zqd,Nat.reduceAdd,Nat.reduceSub,zq7,zq8,zrn,zrg,zpI,zpJ]
 gi_wp2
 gi_loopw [3] (fun _ wr=>∃(h:List Nat) (L:Nat),bitsOf m=h++bitsOf L/\L<2 ^ 24/\zD wr bb 122 #[.int .u32 L]/\Tz wr/\J h wr)
  (fun _ wr=>zaL bb wr)
 case atStart=>exact⟨[],m,rfl,hm,HK.o,HT.o,H0.o⟩
 case round=>
  obtain⟨h,L,I,N,U,X,R⟩:=hrel;have c0:=U.cell 0
  by_cases Y:L=0
  ·subst Y;rw[DT,zp7]at I;have O:=zz I;have q:=zz R;clear I U X R N
   gi_wp2
   go_end0;exact⟨⟨_,rfl⟩,.inl ⟨h,O.o.symm,q.o⟩⟩
  ·have ac:((L:Int) != 0)=true:=zb;have q:=zcy Y N;obtain⟨aa,-,-⟩:=D6 Y N;have ai:=zz (znX wr X L Y N);obtain⟨c,hc⟩:∃c,Lib.ctz 32 L=c:=⟨_,rfl⟩;rw[hc]at q aa ai;rw[q]at I;have V:=G7 c L aa N;have ab:h++[c]<+: bitsOf m:=by rw[I];exact⟨bitsOf (Xd L c),zp⟩
   have Z:Xd L c<2 ^ 24:=Nat.lt_of_le_of_lt (zaP _ _) N;obtain⟨fn,ad,al,au,hy,hR⟩:=ao.o h c wr R ab;have O:=zz (show bitsOf m=(h++[c])++bitsOf (Xd L c) by rw[I];simp);have an:=zz (show(bitsOf (Xd L c)).length<(bitsOf L).length by rw[q];simp);have af:=zz U;have ar:=zz X;have aj:=zz V;have aq:=zz Z;have aw:=zz c0;clear I q hc ab U X R Y V Z N
   gi_wp2_with (refine⟨trivial,?_⟩;gi_at_call 167;refine(callsIn_wide.2 ai.o).mono ?_;rintro e w1⟨rfl,ap⟩;obtain rfl:wr=w1:=ap.symm)
   refine hR.mono ?_;rintro e W3 (⟨rfl,ae,V⟩ |⟨rfl,ag⟩)
   ·have ab:Kz (zD W3 bb 122 #[.int .u32 L]):=af.o.same V.box;have ak:=zz (ar.o.same V.size V.tab);have am:=zz ae;have H0:Kz (∀W,zh (·=bb) W3 W->True):=fun _ _=>trivial
    have H1:Kz (∀W:World,W.heap[bb]? = W3.heap[bb]?->W.cell? ⟨bb,0,none⟩=some (.int .u32 (L:Int))):=fun W hW=>(ab.o.same hW).cell 0
    clear ae V c0
    gi_wp2
    refine Zm [(0,1),(1,0),(2,0),(3,0),(4,3)] 4 (fun W=>zh (·=bb) W3 W) (fun W=>W.heap[bb]? = W3.heap[bb]?) zo (zo) zo rfl zo ?s0 ?s1 ?_
    case s0=>exact yw
    case s1=>rfl
    simp only[xO,qa,qb,qc,qd,qe,qf];try refine zQ ?_
    repeat refine xM H0.o H1.o ?_
    refine Xf zj (fun K hK=>?_);refine XC 122 _ _ rfl bb 0 _ _ (ab.o.drew) (.int .u32 ((Xd L c:Nat):Int)) rfl (congrArg (Value.int .u32) aj.o) zp (zo) rfl ?_;intro W4 Z;have q:=zz Z;refine hK.out _ _ ((zh.refl _ W3).drew.trans Z.zC (fun x hx _=>hx)) ?_;clear hK K Z;refine YR ?_;simp only[Act.put]
    gi_wp2
    go_roundw
    case rel=>exact⟨h++[c],Xd L c,O.o,aq.o,q.o.zH,(ak.o.same (by rw[q.o.size];exact zpx _) (q.o.zC.block _ ak.o.lt (fun e=>by have:=ah.o;omega))),HJ.o _ _ _ am.o ((zh.refl _ W3).drew.trans q.o.zC (fun x hx _=>hx))⟩
    case measure=>
     rw[zde (show zD W4 bb 122 #[.int .u32 ((Xd L c:Nat):Int)]from q.o.zH),zde af.o];exact an.o
   ·gi_wp2
    refine bodyPost_ret (results_none rfl _ _ _) rfl ?_;exact⟨⟨_,rfl⟩,.inr ⟨_,⟨_,O.o.symm⟩,ag⟩⟩
attribute [local go_sem] Oper.semAt_some
structure VL (w:World) (B:Option Addr) (nb:Nat) (body:List Li):Prop where
 len:body.length=nb
 rd:zZ Li.cells w B body
 zN:∀x∈body,x.zN w
 ok:∀x∈body,x.ok
 zO:∀x∈body,x.zO.length<=1048576
 fits:∀x∈body,∀t∈x.zO,t.v.size<=maxLen
 le:nb<=24
theorem VL.below(h:VL w B I body)(q:Bl w W):VL W B I body:=⟨h.len,h.rd.below q,fun x L=>(h.zN x L).below q,h.ok,h.zO,h.fits,h.le⟩
theorem VL.step{q L:Nat}{zM:Nat}{f:Value->Option Value}(h:VL w B I body)(N:yN w q L B zM I f K)(i:Nat)(hi:i<body.length):
 Calls prog 49 #[.pointer (some ⟨q,0,none⟩),.int .i64 (i:Int)] w (Vy K i body[i] w):=
 zhh w q L B zM I f K N body h.len h.rd i hi (h.zN _ (zpB hi)) (h.ok _ (zpB hi)) (h.zO _ (zpB hi)) (h.fits _ (zpB hi)) h.le
def Zl(body:List Li)(K:List ByteArray)(i:Nat):Prop:=∃x,body[i]? = some x/\x.k≠1/\(stepOf K i x).isSome=true
def Ve(body:List Li)(i:Nat):Prop:=∃x,body[i]? = some x/\x.k=1
def posOf(body:List Li)(h:List Nat)(v:Int):Prop:=(v=-1/\∀i∈h,¬Ve body i)\/∃(a:List Nat) (i:Nat) (b:List Nat),h=a++i::b/\v=(i:Int)/\Ve body i/\∀j∈a,¬Ve body j
theorem zfq(body:List Li)(K:List ByteArray)(i:Nat):(match body[i]? with|some x=>tf (x.k≠1/\(stepOf K i x).isSome=true)|none=>false)=true↔Zl body K i:=by
 unfold Zl
 cases body[i]? with
 |none=>simp
 |some x=>
  simp only[Zn];exact⟨fun h=>⟨x,rfl,h⟩,fun⟨y,q,h⟩=>by injection q with q;subst q;exact h⟩
theorem znE(body:List Li)(i:Nat):(match body[i]? with|some x=>tf (x.k=1)|none=>false)=true↔Ve body i:=by
 unfold Ve
 cases body[i]? with
 |none=>simp
 |some x=>
  simp only[Zn];exact⟨fun h=>⟨x,rfl,h⟩,fun⟨y,q,h⟩=>by injection q with q;subst q;exact h⟩
theorem zdC{p:Nat->Bool}{a:List Nat}{b:List Nat}(h:∀i∈a,¬p i=true)(N:p x=true):(a++x::b).find? p=some x:=by
 induction a with
 |nil=>simp[N]
 |cons y a q=>
  have I:p y=false:=by simpa using h y zpP
  rw[zpJ,List.find?_cons,I];exact q fun i L=>h i (zpQ _ L)
theorem zjh{rest:List Nat}(W:L=q++x::rest)(O:∀i∈q,¬Zl body K i)(Y:Zl body K x)(h:Va body K L=some I):x=I:=by
 have q:∀N R:Nat->Bool,(∀i,N i=true↔Zl body K i)->(L.find? N).or (L.find? R)=some I->x=I:=fun N R U h=>by
  subst W;rw[zdC (fun i X V=>O i X ((U i).1 V)) ((U x).2 Y),Option.some_or]at h;injection h
 exact q _ _ (zfq body K) h
theorem zl0{N:Nat}(R:∀i∈L,¬Zl body K i)(q:posOf body L v)(h:Va body K L=some N):v=(N:Int):=by
 have O:∀U X:Nat->Bool,(∀i,U i=true↔Zl body K i)->(∀i,X i=true↔Ve body i)->(L.find? U).or (L.find? X)=some N->v=(N:Int):=fun U X V W h=>by
  rw[List.find?_eq_none.2 (fun i I q=>R i I ((V i).1 q)),Option.none_or]at h
  rcases q with⟨_,V⟩ |⟨a,i,b,rfl,rfl,I,V⟩
  ·rw[List.find?_eq_none.2 (fun i I q=>V i I ((W i).1 q))]at h
   cases h
  ·rw[zdC (fun i I q=>V i I ((W i).1 q)) ((W i).2 I)]at h;injection h with h
   rw[h]
 exact O _ _ (zfq body K) (znE body) h
theorem zgD(h:posOf body q v)(O:¬Ve body x):posOf body (q++[x]) v:=by
 rcases h with⟨L,I⟩ |⟨a,i,b,rfl,h⟩
 ·exact .inl ⟨L,fun i N=>by rcases zpE.1 N with h|h;exact I i h;rw[zpy.1 h];exact O⟩
 ·exact .inr ⟨a,i,b++[x],zp,h⟩
theorem zj4(h:posOf body q (i:Int)):posOf body (q++[x]) (i:Int):=by
 rcases h with⟨L,I⟩ |⟨a,i,b,rfl,h⟩
 ·omega
 ·exact .inr ⟨a,i,b++[x],zp,h⟩
theorem zkc(h:posOf body q (-1))(L:Ve body x):posOf body (q++[x]) (x:Int):=by
 rcases h with⟨_,I⟩ |⟨a,i,b,_,h,_⟩
 ·exact .inr ⟨q,x,[],rfl,rfl,L,I⟩
 ·omega
theorem znQ(h:posOf body q v):v=-1\/∃i:Nat,v=(i:Int):=by
 rcases h with⟨I,_⟩ |⟨a,i,b,_,h,_⟩
 ·exact .inl I
 ·exact .inr ⟨i,h⟩
def Gf(w:World)(q:Nat)(body:List Li)(K:List ByteArray)(h:List Nat)(W:World):Prop:=
 zD W w.heap.size 120 #[.pointer (some ⟨q,0,none⟩)]/\zD W (w.heap.size+1) 3 #[.int .i64 0]/\(∃v:Int,zD W (w.heap.size+1+1) 3 #[.int .i64 v]/\posOf body h v)/\(∀i∈h,¬Zl body K i)/\Bl w W/\w.heap.size+1+1+1<W.heap.size
theorem zD.grownBy{L:World}{I:Array Value}{row:Option Nat}{B:Nat}(h:zD W g t I)(O:W.grownBy L row)(N:∀r,row=some r->B<=r/\∃o:Obj,W.heap[r]? = some o/\o.isCells=false):zD L g t I:=
 h.same (O.block g h.lt (fun e=>by
  obtain⟨_,o,q,R⟩:=N g e.symm;unfold zD at h;rw[h]at q;injection q with q
  subst q
  cases R))
theorem Zc.refl(W:World):Zc bb W W:=⟨zpx _,rfl,rfl⟩
theorem Zc.zk0(v:Value)(q:g≠bb)(h:g≠0):Zc bb W (W.setCell ⟨g,i,none⟩ v):=⟨by simp[World.setCell],Below.heap_setCell W _ v bb (fun e=>q e.symm),Below.heap_setCell W _ v _ (fun e=>h e.symm)⟩
theorem zdN{I:World}(h:Bl W I):KeepsOthers W I:=⟨h.size,fun k o q _=>(h.block k (zpN.1 q).1).trans q⟩
theorem zcu{a b:World}{o:Obj}(h:Bl a b):Bl a (b.alloc o):=h.alloc h.size o
theorem zlt{W:Nat}{B:Nat}(X:w.heap.size<=B):OwnFrom B (Gf w W body K):=fun _ _ _ _ ⟨U,O,⟨v,N,L⟩,V,I,R⟩ h q=>
 ⟨U.grownBy h q,O.grownBy h q,⟨v,N.grownBy h q,L⟩,V,I.grown h I.size (fun k e=>zpK X (q k e).1),zpz R h.size⟩
theorem zoh{L:Nat}{c:Code}{B:Nat}(O:w.heap.size<=B):OwnFrom B (fun(_:List Nat) W=>c=.ret/\zD W (w.heap.size+1) 3 #[.int .i64 (L:Int)]/\Bl w W):=fun _ _ _ _ ⟨R,N,h⟩ I q=>
 ⟨R,N.grownBy I q,h.grown I h.size (fun k e=>zpK O (q k e).1)⟩
theorem zm3:∀s W L,Gf w I body K s W->zh (·=w.heap.size+1+1+1) W L->Gf w I body K s L:=fun _ _ _ ⟨V,R,⟨v,O,N⟩,X,q,U⟩ h=>
 ⟨V.zC h zd,R.zC h zd,⟨v,O.zC h zd,N⟩,X,q.trans (h.below q.size (fun x L=>zd)),zpz U h.size⟩
theorem zgb{w1:World}{q:Nat}(N:zD w1 w.heap.size 120 #[.pointer (some ⟨q,0,none⟩)])(I:zD w1 (w.heap.size+1) 3 #[.int .i64 0])(L:zD w1 (w.heap.size+1+1) 3 #[.int .i64 (-1)])(O:Bl w w1)(R:w.heap.size+1+1+1<w1.heap.size):Gf w q body K [] w1:=
 ⟨N,I,⟨-1,L,.inl ⟨rfl,fun _ h=>by cases h⟩⟩,fun _ h=>(by cases h),O,R⟩
theorem zfb(w:World)(sb mb:Nat)(B:Option Addr)(zM nb:Nat)(f:Value->Option Value)(K:List ByteArray)(h:yN w sb mb B zM nb f K)(body:List Li)(hb:VL w B nb body)(m:Nat)(hm:m<2 ^ 24)(al:∀i∈bitsOf m,i<nb)(hT:Tz w)(Z:Nat)(am:Va body K (bitsOf m)=some Z):
 Calls prog 48 #[.pointer (some ⟨sb,0,none⟩),.int .u32 (m:Int)] w fun e q=>e=.returned (.int .i64 (Z:Int))/\Bl w q:=by
 have H:=zz h;have HB:=zz hb;have ap:=zz al;have HT:=zz hT;have an:=zz am;clear h hb al hT am;refine(callsIn_wide (n:=3)).1 ?_;refine callsIn_of_wp_marks func48 rfl trivial ?_ rfl;simp only[ntmps48,zq0,zpV,zqd,Nat.reduceAdd,Nat.reduceSub,zq7,zq8,zrn,zrg,zpI,zpJ]
 gi_wp2_with (refine⟨trivial,?_⟩;gi_at_call 101;refine(callsIn_wide.2 (zis _ _)).mono ?_;rintro e w1⟨rfl,rfl⟩)
 obtain⟨W2,O,I⟩:=yb w 120 3 #[.pointer (some ⟨sb,0,none⟩)] #[.int .i64 0];obtain⟨w1,N,q⟩:=yb W2 3 122 #[.int .i64 (-1)] #[.int .u32 (m:Int)];have L:=I.size;rw[O,N];clear O N;have k0:=I.b0.below q.below;have k1:=I.b1.below q.below;have k2:=q.b0;have k3:=q.b1;rw[L]at k2 k3;have N:=q.size;rw[L]at N;have ab:Bl w w1:=zl I.below q.below;have O:=zz N;have aq:=zz ab;have R:=HT.o.lt;have ae:=zz R;clear I q L N R;refine zlv rfl zd (gf:=166) (lb:=#[.pointer (some ⟨w.heap.size+1+1+1,0,none⟩)]) rfl trivial (enters_of func166 zo rfl) (bb:=w.heap.size+1+1+1) (by rw[O.o];omega)
  (zgp zd hm k3 (HT.o.below ab (zpx _)) (by have:=ae.o;omega)) zg7 (zhV (by rw[O.o];omega) (by rw[O.o];have:=ae.o;omega)) (fun _=>rfl)
  (Gf w sb body K) (fun c V W=>c=.ret/\zD W (w.heap.size+1) 3 #[.int .i64 (Z:Int)]/\Bl w W)
  (zlt (by rw[O.o];omega)) (fun c=>zoh (by rw[O.o];omega)) zm3 (zgb k0 k1 k2 ab (by rw[O.o];omega))
  (fun x=>{ tmps:=#[.pointer (some ⟨sb,0,none⟩),.int .u32 (m:Int),.pointer (some ⟨w.heap.size,0,none⟩),undef,.pointer (some ⟨w.heap.size+1,0,none⟩),.pointer (some ⟨w.heap.size+1+1,0,none⟩),.int .i64 (x:Int),undef,undef,.int .u32 (m:Int),.func (.func 166) #[] #[.pointer (some ⟨w.heap.size+1+1+1,0,none⟩)],.int .i64 (x:Int),undef,undef,undef,undef,undef,undef,undef,undef,undef,undef,undef,undef,undef,undef,undef,undef,undef,undef,undef,undef,undef],defers:=[]}) ?assign ?body ?done ?stop
 case assign=>
  intro l x W K N
  gi_wp2
  exact N
 case stop=>
  rintro D c V W R I⟨rfl,hr,X⟩N;have q:=N
  gi_wp2
  refine⟨zp,.inl ⟨_,_,rfl,run_takeDeferred q,?_⟩⟩;have L:=cell_kept (show W.cell? ⟨w.heap.size+1,0,none⟩=some (.int .i64 (Z:Int))from hr.cell 0) (grownBy_putObj' W D (.deferred none)) (fun r e=>by cases e;exact⟨_,q,rfl⟩);refine⟨.int .i64 (Z:Int),by simp[results,results48,go_sem,L],rfl,?_⟩;exact X.trans (belowK_b (w:=w) (zpx _) W D _ _ (by have:=O.o;omega) q rfl rfl)
 case done=>
  rintro D xs W R rfl⟨h0,h1,⟨v,h2,hv⟩,U,X,Y⟩N;obtain rfl:v=(Z:Int):=zl0 U hv an.o;have c2:=h2.cell 0;have c1:=h1.cell 0;have f1:=h1.frozen 0;have HK:=zz N;have I:=zz X;have Hd:=zz (show w.heap.size<=D by have:=O.o;omega);have H1:=zz h1;clear Y h0 h1 h2 hv U X N R k0 k1 k2 k3 ab
  gi_wp2
  have q:=(KeepsOthers.setCell W ⟨w.heap.size+1,0,none⟩ (.int .i64 (Z:Int))).same D _ HK.o rfl;refine⟨zp,.inl ⟨_,_,rfl,run_takeDeferred q,?_⟩⟩;have L:=cell_kept (show(W.setCell ⟨w.heap.size+1,0,none⟩ (.int .i64 (Z:Int))).cell? ⟨w.heap.size+1,0,none⟩=some (.int .i64 (Z:Int))from(H1.o.qI 0 (.int .i64 (Z:Int))).cell 0) (grownBy_putObj' _ D (.deferred none)) (fun r e=>by cases e;exact⟨_,q,rfl⟩);refine⟨.int .i64 (Z:Int),by simp[results,results48,go_sem,L],rfl,?_⟩;exact(I.o.setCell (by show w.heap.size<=w.heap.size+1;omega) _).trans (belowK_b (w:=w) (zpx _) _ D _ _ Hd.o q rfl rfl)
 case body=>
  rintro l V x W q N;have HI:=zz q;obtain⟨h0,h1,⟨v,h2,hv⟩,U,X,ag⟩:=q;obtain⟨ak,L⟩:=N;have hL:bitsOf m=V++x::ak:=by rw[<-L];simp
  have ah:x∈bitsOf m:=by rw[hL];simp
  have ao:=ap.o x ah;have q:=HB.o.below X;have af:=H.o.below X;have Y:x<body.length:=by rw[q.len];exact ao
  have ad:body[x]? = some body[x]:=zpF Y;have R:=q.step af x Y;obtain⟨b,o,rfl,aj,hr⟩:=q.rd.at Li.Yn x Y
  replace hr:W.rangeAt b (o+x*16) body[x].cells:=hr
  have d0:W.cell? ⟨b,o+x*16,none⟩=some (.int .i8 body[x].k):=by simpa using hr 0 _ rfl
  have e0:=af.r.cell 0;have c0:=h0.cell 0;generalize body[x]=y at *;have HV:Kz (posOf body V v):=hv;have ac:=zz ag;have ai:=zz U;have HL:=zz hL;have N:=zz ad;have aa:=zz R;have I:=zz X;have H0:=zz h0;have H1:=zz h1;have H2:=zz h2;have ar:nb<=24:=q.le;clear ag h0 h1 h2 hv U X L hL ah q af Y ad R aj hr ab k0 k1 k2 k3
  by_cases hk:y.k=1
  ·have L:Ve body x:=⟨y,N.o,hk⟩;have ag:=zz L;have k1:(y.k==1)=true:=by simp[hk]
   have q:¬Zl body K x:=fun⟨z,R,X,_⟩=>by rw[N.o]at R;injection R with R;subst R;exact X hk
   have ad:Kz (∀i∈V++[x],¬Zl body K i):=fun i hi=>by rcases zpE.1 hi with h|h;exact ai.o i h;rw[zpy.1 h];exact q
   clear L hk q;have c2:=H2.o.cell 0;have U:=H2.o.frozen 0
   rcases znQ HV.o with rfl |⟨i,rfl⟩
   ·gi_wp2
    exact⟨KeepsOthers.setCell _ _ _,Zc.zk0 _ zd (by have:=ae.o;omega),H0.o.X4 (by show w.heap.size≠w.heap.size+1+1;omega) _,H1.o.X4 (by show w.heap.size+1≠w.heap.size+1+1;omega) _,⟨(x:Int),H2.o.qI 0 _,zkc HV.o ag.o⟩,ad.o,I.o.setCell (by show w.heap.size<=w.heap.size+1+1;omega) _,by simpa[World.setCell]using ac.o⟩
   ·have Y:decide ((i:Int)<0)=false:=zp
    gi_wp2
    exact⟨KeepsOthers.refl _,Zc.refl _,H0.o,H1.o,⟨(i:Int),H2.o,zj4 HV.o⟩,ad.o,I.o,ac.o⟩
  ·have L:¬Ve body x:=fun⟨z,R,X⟩=>by rw[N.o]at R;injection R with R;subst R;exact hk X
   have ag:=zz L;have Hk:=zz hk;have k1:(y.k==1)=false:=by simp[hk]
   clear L hk
   rcases hok:(stepOf K x y).isSome with _|_
   ·have q:¬Zl body K x:=fun⟨z,R,_,X⟩=>by rw[N.o]at R;injection R with R;subst R;rw[hok]at X;cases X
    have ad:Kz (∀i∈V++[x],¬Zl body K i):=fun i hi=>by rcases zpE.1 hi with h|h;exact ai.o i h;rw[zpy.1 h];exact q
    have af:=zz hok;clear hok q
    gi_wp2_with (refine⟨trivial,?_⟩;gi_at_call 49;refine(CallsIn.inRound l (callsIn_wide.2 aa.o)).mono ?_;rintro e w5⟨kk,kn,A5,U,n5,ah,rfl,L,-,Y⟩;obtain rfl:ah=false:=L.trans af.o;have aj:=zz Y;clear L Y)
    have q:=zcu (o:=.cells #[.int .i8 kk,.int .i64 (x:Int),.int .u32 (kn:Int),.slice A5 n5 U] 107) aj.o;exact⟨zdN q,Zc.xj q ac.o (by have:=ae.o;have:=I.o.size;omega),H0.o.below q,H1.o.below q,⟨v,H2.o.below q,zgD HV.o ag.o⟩,ad.o,I.o.trans (q.mono I.o.size),zpz ac.o q.size⟩
   ·have hx:Zl body K x:=⟨y,N.o,Hk.o,hok⟩;obtain rfl:x=Z:=zjh HL.o ai.o hx an.o;have af:=zz hok;clear hok hx
    gi_wp2_with (refine⟨trivial,?_⟩;gi_at_call 49;refine(CallsIn.inRound l (callsIn_wide.2 aa.o)).mono ?_;rintro e w5⟨kk,kn,A5,U,n5,ah,rfl,L,-,Y⟩;obtain rfl:ah=true:=L.trans af.o;have aj:=zz Y;have kx:=(H1.o.below Y).alloc (.cells #[.int .i8 kk,.int .i64 (x:Int),.int .u32 (kn:Int),.slice A5 n5 U] 107);have c1:=kx.cell 0;have f1:=kx.frozen 0;have HX:=zz kx;clear L Y kx)
    have q:=zcu (o:=.cells #[.int .i8 kk,.int .i64 (x:Int),.int .u32 (kn:Int),.slice A5 n5 U] 107) aj.o;exact⟨(zdN q).trans (KeepsOthers.setCell _ _ _),rfl,HX.o.qI 0 _,(I.o.trans (q.mono I.o.size)).setCell (by show w.heap.size<=w.heap.size+1;omega) _⟩
end
