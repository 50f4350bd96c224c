/-
  Walks: the right step of an atom. Walks: the right step of a
-/
import Derived.Test.YtfdickkdlcgicaaGreatDoorP11
import Derived.Laws.BitsAllLaws
import Derived.Lib.TrailingZeros
import Derived.RangeFuncFrom
import Derived.RangeFuncNested
import Derived.RangeFuncCalls
import Derived.RangeFuncLeaves
import Derived.OrdersIn
import Derived.RangeFuncBound
import Derived.Shelf.Abstract
import Derived.Shelf.RegionOpen
import Derived.OwnWalkIn
import Derived.TacticsInMore
import Derived.LoopNIn
import Derived.LoopIn
set_option maxRecDepth 100000
set_option maxHeartbeats 8000000
set_option linter.all false
namespace Go.Proofs.YtfdickkdlcgicaaGreatDoor.C
open Go.Proofs.Tryz Go Go.RowKit Go.Maps Go.WideMaps
variable {B:Option Addr}{I bb g i m r x:Nat}{K:List ByteArray}{L q:List Nat}{W w w':World}{body:List Li}{t:TypeId}{v:Int}
section
theorem step_pos(w:World)(sb mb:Nat)(B:Option Addr)(zM nb:Nat)(f:Value->Option Value)(K:List ByteArray)(h:yH w sb mb B zM nb f K)(body:List Li)(hn:body.length=nb)(hB:zY Li.cells w B body)(i:Nat)(hi:i<body.length)(hl:body[i].zO w)(ax:body[i].ok)(ht:body[i].zN.length<=1048576)(Z:∀t∈body[i].zN,t.v.size<=maxLen)(hb:nb<=24)(hk:body[i].k=1):
 Calls prog 49 #[.pointer (some ⟨sb,0,none⟩),.int .i64 (i:Int)] w (Vn K i body[i] w):=by
 obtain⟨b,o,rfl,q,I⟩:=hB.at Li.Yn i hi;have bi:i<nb:=zd;generalize body[i]=x at *
 replace I:w.rangeAt b (o+i*16) x.cells:=I
 have H:=zz h;have Hr:=zz (fun W (hW:Bl w W)=>yo I hW q);have Hv:=zz (fun W (hW:Bl w W)=>Us W x (hl.below hW) ht Z);have Hu:=zz (fun W (hW:Bl w W) (A:Option Addr) (aa n:Nat) (hn:x.vars.length=n) (ho:zY xC W A x.vars)=>Ud W sb mb (some ⟨b,o,none⟩) zM nb f K (h.below hW) A aa n x.vars hn ho (fun u O=>by
  obtain⟨_,t,L,rfl⟩:=C.qJ.1 O;exact Z t L) (by have:=YL x.zN;unfold Li.vars at hn;omega))
 have Hl:=zz hl;have aO:=zz ax;have Hs:=zz Z;have Ht:=zz ht;have c0:(w.alloc (.cells #[.int .i8 0,.int .i64 0,.int .u32 0,.slice none 0 0] 107)).cell? ⟨sb,0,none⟩=some (.slice (some ⟨b,o,none⟩) nb zM):=(h.below (xo w _)).r.cell 0;clear h I hl ax Z ht hB hn hi q;obtain⟨W1,I,q⟩:=xj w 107 #[.int .i8 0,.int .i64 0,.int .u32 0,.slice none 0 0];have a4:=zz I;have ao:=zz q;clear I q;go_enter func49,ntmps49
 go_wp2_with (first
  |(refine xV 50 _ rfl ?_;rw[a4.o];refine wpList_load_mid rfl 50 _ rfl b (o+i*16) rfl x.cells _ (Hr.o _ ao.o.below) underlying50 rfl (qV x) ?_)
  |(refine xy 50 _ _ rfl ?_;refine XE rfl 50 _ _ rfl _ x.cells rfl rfl ?z (qV x) ?one ?_))
 case z=>rw[Li.xF];rfl
 case one=>exact x.Yh
 intro W5 q;have ac:=zz q;have ba:=zz (zu ao.o.below q.below);clear q c0;obtain⟨W6,I,q⟩:=xj W5 107 #[.int .i8 0,.int .i64 (i:Int),.int .u32 0,.slice none 0 0];have aT:=zz I;have aV:=zz q;have ay:=zz (zu ba.o q.below);have bc:=zz (ac.o.b0.below q.below);have be:=zz ((ao.o.b0.below ac.o.below).below q.below);clear I q;have X:¬w.heap.size=W5.heap.size:=by have:=ac.o.size;have:=ao.o.size;omega
 have bh:¬W5.heap.size=w.heap.size:=fun e=>X e.symm
 have I:x.k=1:=hk;have k1:(x.k==1)=true:=by simp[I]
 have R:x.a.ok:=by
  rcases aO.o with⟨_,_,_,_,h⟩ |⟨h,_⟩
  ·exact h
  ·omega
 obtain⟨L,q⟩:∃L,ql K 0 x.a.args=L:=⟨_,rfl⟩;have Y:=fun W (hW:Bl w W)=>zbv W sb mb (some ⟨b,o,none⟩) zM nb f K (H.o.below hW) x.a (Hl.o.a.below hW) R.2.1 (fun t ht=>Hs.o t (zpu _ ht))
 unfold ze1 at Y;rw[q]at Y;have Hm:=zz Y;obtain⟨N,hN⟩:∃N,x.a.args.length=N:=⟨_,rfl⟩;obtain⟨un,V⟩:∃un,2 ^ N-1=un:=⟨_,rfl⟩;have aI:N<=24:=by rw[<-hN];exact R.2.1
 have O:=fun W=>T3 W N aI
 rw[V]at O;have a7:=zz O;have af:=zz (show stepOf K i x=some ⟨if L=un then 3 else if L=0 then 1 else 2,i,L,qz K x⟩ by
  unfold stepOf;rw[if_pos I,q,hN,V])
 have U:=zz (show w.heap.size<=W5.heap.size by have:=ac.o.size;have:=ao.o.size;omega);have HN:=zz hN;clear hk I R q Y V O hN;go_upto_region 7 with(first
  |(refine xV 50 _ rfl ?_;refine wpList_load_mid rfl 50 _ rfl _ 0 rfl x.cells _ (ac.o.b0.below (xo _ _)).range underlying50 rfl (qV x) ?_)
  |(go_at_call 103;rw[aT.o];refine(Hv.o _ ay.o).mono ?_;rintro e w7⟨A7,bg,n7,rfl,aK,aA,aq,aY⟩;have aR:=zz aK;have aX:=zz aA;have aF:=zz (zu ay.o aq);have a9:=zz (bc.o.below aq);have a6:=zz (be.o.below aq);have aG:=zz (aV.o.b0.below aq);clear aK aA aq aY)
  |(go_at_call 102;refine(Hu.o _ aF.o _ _ _ aR.o aX.o.xI).mono ?_;rintro e w8⟨Y,I,n8,rfl,aD,aw,al,aL⟩;have av:Kz ((qz K x).length=n8):=aD;have bf:Kz (Own xC 9 1 w8 Y I (qz K x)):=aw;have O:Kz (∀g∈zw Y,W5.heap.size<g):=fun g R=>zo0 aG.o.lt (aL g R);have k8:=a9.o.below al;have c0:w8.cell? ⟨W1.heap.size,0,none⟩=some (.int .i8 x.k):=k8.cell 0;have c1:w8.cell? ⟨W1.heap.size,1,none⟩=some (.string x.a.p):=k8.cell 1;have c2:w8.cell? ⟨W1.heap.size,2,none⟩=some (.slice x.a.A x.a.args.length x.a.cap):=k8.cell 2;have aW:=zz k8;have aC:=zz (zu aF.o al);have aM:=zz (a6.o.below al);have aU:=zz (aG.o.below al);clear aD aw al aL k8)
  |(go_at_call 104;refine(Hm.o _ aC.o).mono ?_;rintro e w9⟨rfl,ag⟩;have a8:=zz (aU.o.below ag);have a2:=zz (aM.o.below ag);have a1:=zz (aW.o.below ag);have aS:=zz (zu aC.o ag);have bd:=zz (bf.o.below ag);clear c0 c1 c2 ag)
  |(refine xy 105 _ _ rfl ?_;refine Xf zj 105 _ _ rfl W5.heap.size 2 _ _ a8.o (.int .u32 (L:Int)) rfl rfl zp (zo) rfl ?_;intro W9 ah;have aZ:=zz ah.zG;have aQ:=zz (ah.qj a2.o X);have a3:=zz (ah.qj a1.o (by have:=ac.o.size;omega));have aP:=zz (ah.own bd.o (fun g R=>by have:=O.o g R;omega));have a5:=zz (ah.below aS.o (zoZ _) U.o);clear ah)
  |(refine xy 86 _ _ rfl ?_;refine Xf zj 86 _ _ rfl W5.heap.size 3 _ _ aZ.o (.slice Y n8 I) rfl rfl zp (zo) rfl ?_;intro ad V;have au:Kz (zD ad W5.heap.size 107 #[.int .i8 0,.int .i64 (i:Int),.int .u32 (L:Int),.slice Y n8 I]):=V.zG;have az:=zz (V.qj aQ.o X);have aE:=zz (V.qj a3.o (by have:=ac.o.size;omega));have aJ:=zz (V.own aP.o (fun g R=>by have:=O.o g R;omega));have aH:=zz (V.below a5.o (zoZ _) U.o);have c2:ad.cell? ⟨W1.heap.size,2,none⟩=some (.slice x.a.A x.a.args.length x.a.cap):=aE.o.cell 2;clear V))
 rw[HN.o]at c2;go_upto_region 9 with fail
 have H0:=zz (fun W (hW:Bl ad W)=>(show W.cell? ⟨W5.heap.size,2,none⟩=some (.int .u32 (L:Int))from(au.o.below hW).cell 2));refine xX [0,0,0,2,0,0] (fun W=>Bl ad W) ?_
 repeat refine zT H0.o ?_
 refine xc fun K q=>?_
 go_simp;refine(a7.o _).mono ?_;rintro e aB⟨rfl,rfl⟩;refine q.out _ _ (Below.refl _ _).drew (fun _=>trivial) ?_;clear q K;try refine zQ ?_
 repeat refine zT H0.o ?_
 refine xu ?_;have q:Bl ad ad.drew:=(Below.refl _ _).drew;generalize ad.drew=aB at q ⊢;have ae:=zz (au.o.below q);have am:=zz (az.o.below q);have ar:=zz (aJ.o.below q);have ap:=zz (zu aH.o q);have c2:aB.cell? ⟨W5.heap.size,2,none⟩=some (.int .u32 (L:Int)):=ae.o.cell 2;clear q
 by_cases hA:L=un
 ·have HA:=zz hA;have d9:((L:Int)==(un:Int))=true:=zb
  skip
  go_upto_region 13 with(refine xy 103 _ _ rfl ?_;refine Xf zj 103 _ _ rfl W5.heap.size 0 _ _ ae.o (.int .i8 3) rfl rfl zp (zo) rfl ?_;intro aa q;have ai:Kz (zD aa W5.heap.size 107 #[.int .i8 3,.int .i64 (i:Int),.int .u32 (L:Int),.slice Y n8 I]):=q.zG;have aj:=zz (q.qj am.o X);have ab:=zz (q.own ar.o (fun g R=>by have:=O.o g R;omega));have ak:=zz (q.below ap.o (zoZ _) U.o);clear q c2)
  go_wp2_with (first
   |(refine xV 107 _ rfl ?_;refine yZ zj 107 _ rfl W5.heap.size 0 rfl [.int .i8 3,.int .i64 (i:Int),.int .u32 (L:Int),.slice Y n8 I] _ ai.o.range underlying107 rfl zo ?_)
   |(refine xy 107 _ _ rfl ?_;refine yE 107 w.heap.size 0 aj.o [.int .i8 3,.int .i64 (i:Int),.int .u32 (L:Int),.slice Y n8 I] ?_;intro aa q;have z0:=q.zG.cell 0;have z1:=q.zG.cell 1;have z2:=q.zG.cell 2;have z3:=q.zG.cell 3;have HF:=zz q;clear q))
  simp only[zpr,zpa,zpe,zpc,zo9,zpg]at z0 z1 z2 z3;refine bodyPost_ret (v:=.tuple #[.agg #[.int .i8 3,.int .i64 (i:Int),.int .u32 (L:Int),.slice Y n8 I],.bool true]) (by simp[results,results49,go_sem,z0,z1,z2,z3]) rfl ?_;have an:=HF.o.below ak.o (zoZ _) (zoZ _);refine⟨3,L,Y,I,n8,true,rfl,by rw[af.o];rfl,fun s Z=>?_,an⟩;rw[af.o]at Z;injection Z with Z
  subst Z;refine⟨if_pos HA.o,rfl,av.o,HF.o.own ab.o (fun g R=>by have:=O.o g R;have:=U.o;omega),fun g R=>by have:=O.o g R;have:=U.o;omega⟩
 ·by_cases hB:L=0
  ·have HA:=zz hA;have HB:=zz hB;have d9:((L:Int)==(un:Int))=false:=zb;have aN:((L:Int)==0)=true:=zb;go_upto_region 13 with(refine xy 103 _ _ rfl ?_;refine Xf zj 103 _ _ rfl W5.heap.size 0 _ _ ae.o (.int .i8 1) rfl rfl zp (zo) rfl ?_;intro aa q;have ai:Kz (zD aa W5.heap.size 107 #[.int .i8 1,.int .i64 (i:Int),.int .u32 (L:Int),.slice Y n8 I]):=q.zG;have aj:=zz (q.qj am.o X);have ab:=zz (q.own ar.o (fun g R=>by have:=O.o g R;omega));have ak:=zz (q.below ap.o (zoZ _) U.o);clear q c2)
   go_wp2_with (first
    |(refine xV 107 _ rfl ?_;refine yZ zj 107 _ rfl W5.heap.size 0 rfl [.int .i8 1,.int .i64 (i:Int),.int .u32 (L:Int),.slice Y n8 I] _ ai.o.range underlying107 rfl zo ?_)
    |(refine xy 107 _ _ rfl ?_;refine yE 107 w.heap.size 0 aj.o [.int .i8 1,.int .i64 (i:Int),.int .u32 (L:Int),.slice Y n8 I] ?_;intro aa q;have z0:=q.zG.cell 0;have z1:=q.zG.cell 1;have z2:=q.zG.cell 2;have z3:=q.zG.cell 3;have HF:=zz q;clear q))
   simp only[zpr,zpa,zpe,zpc,zo9,zpg]at z0 z1 z2 z3;refine bodyPost_ret (v:=.tuple #[.agg #[.int .i8 1,.int .i64 (i:Int),.int .u32 (L:Int),.slice Y n8 I],.bool true]) (by simp[results,results49,go_sem,z0,z1,z2,z3]) rfl ?_;have an:=HF.o.below ak.o (zoZ _) (zoZ _);refine⟨1,L,Y,I,n8,true,rfl,by rw[af.o];rfl,fun s Z=>?_,an⟩;rw[af.o]at Z;injection Z with Z
   subst Z;refine⟨(if_neg HA.o).trans (if_pos HB.o),rfl,av.o,HF.o.own ab.o (fun g R=>by have:=O.o g R;have:=U.o;omega),fun g R=>by have:=O.o g R;have:=U.o;omega⟩
  ·have HA:=zz hA;have HB:=zz hB;have d9:((L:Int)==(un:Int))=false:=zb;have aN:((L:Int)==0)=false:=zb;go_upto_region 13 with(refine xy 103 _ _ rfl ?_;refine Xf zj 103 _ _ rfl W5.heap.size 0 _ _ ae.o (.int .i8 2) rfl rfl zp (zo) rfl ?_;intro aa q;have ai:Kz (zD aa W5.heap.size 107 #[.int .i8 2,.int .i64 (i:Int),.int .u32 (L:Int),.slice Y n8 I]):=q.zG;have aj:=zz (q.qj am.o X);have ab:=zz (q.own ar.o (fun g R=>by have:=O.o g R;omega));have ak:=zz (q.below ap.o (zoZ _) U.o);clear q c2)
   go_wp2_with (first
    |(refine xV 107 _ rfl ?_;refine yZ zj 107 _ rfl W5.heap.size 0 rfl [.int .i8 2,.int .i64 (i:Int),.int .u32 (L:Int),.slice Y n8 I] _ ai.o.range underlying107 rfl zo ?_)
    |(refine xy 107 _ _ rfl ?_;refine yE 107 w.heap.size 0 aj.o [.int .i8 2,.int .i64 (i:Int),.int .u32 (L:Int),.slice Y n8 I] ?_;intro aa q;have z0:=q.zG.cell 0;have z1:=q.zG.cell 1;have z2:=q.zG.cell 2;have z3:=q.zG.cell 3;have HF:=zz q;clear q))
   simp only[zpr,zpa,zpe,zpc,zo9,zpg]at z0 z1 z2 z3;refine bodyPost_ret (v:=.tuple #[.agg #[.int .i8 2,.int .i64 (i:Int),.int .u32 (L:Int),.slice Y n8 I],.bool true]) (by simp[results,results49,go_sem,z0,z1,z2,z3]) rfl ?_;have an:=HF.o.below ak.o (zoZ _) (zoZ _);refine⟨2,L,Y,I,n8,true,rfl,by rw[af.o];rfl,fun s Z=>?_,an⟩;rw[af.o]at Z;injection Z with Z
   subst Z;refine⟨(if_neg HA.o).trans (if_neg HB.o),rfl,av.o,HF.o.own ab.o (fun g R=>by have:=O.o g R;have:=U.o;omega),fun g R=>by have:=O.o g R;have:=U.o;omega⟩
open Classical in
theorem zgI(w:World)(N O:Nat)(B:Option Addr)(zM I:Nat)(f:Value->Option Value)(K:List ByteArray)(h:yH w N O B zM I f K)(body:List Li)(Y:body.length=I)(hB:zY Li.cells w B body)(i:Nat)(hi:i<body.length)(W:body[i].zO w)(q:body[i].ok)(R:body[i].zN.length<=1048576)(X:∀t∈body[i].zN,t.v.size<=maxLen)(U:I<=24):
 Calls prog 49 #[.pointer (some ⟨N,0,none⟩),.int .i64 (i:Int)] w (Vn K i body[i] w):=by
 by_cases h1:body[i].k=1
 ·exact step_pos w N O B zM I f K h body Y hB i hi W q R X U h1
 by_cases h2:body[i].k=2
 ·exact znC w N O B zM I f K h body Y hB i hi W q R X U h2
 have h3:body[i].k=3:=by
  rcases id q with⟨h|h,_⟩ |⟨h,_⟩
  ·exact(h1 h).elim
  ·exact(h2 h).elim
  ·exact h
 rcases hop:qz K body[i]with _ |⟨v,r⟩
 ·exact zkn w N O B zM I f K h body Y hB i hi W q R X U ⟨h3,hop⟩
 have V:stepOf K i body[i]=if ∃v,qz K body[i]=[v]/\body[i].rl=1/\UC body[i] v then some ⟨6,i,0,qz K body[i]⟩else none:=by
  unfold stepOf;rw[if_neg h1,if_neg h2,if_neg (by rw[hop];simp)]
 by_cases hr:r=[]
 ·subst hr
  by_cases L:body[i].rl=1
  ·by_cases Z:UC body[i] v
   ·exact zi8 w N O B zM I f K h body Y hB i hi W q R X U ⟨h3,L,v,hop,Z⟩
   ·refine zkF w N O B zM I f K h body Y hB i hi W q R X U ⟨h3,⟨v,hop,Z⟩,L,?_⟩;rw[V,if_neg];rintro⟨u,hu,_,aa⟩;rw[hop]at hu;injection hu with hu _
    subst hu;exact Z aa
  ·refine zlG w N O B zM I f K h body Y hB i hi W q R X U ⟨h3,⟨v,hop⟩,L,?_⟩;rw[V,if_neg];rintro⟨u,_,Z,_⟩;exact L Z
 ·obtain⟨u,Z,rfl⟩:=List.exists_cons_of_ne_nil hr;refine zl7 w N O B zM I f K h body Y hB i hi W q R X U ⟨h3,⟨v,u,Z,hop⟩,?_⟩;rw[V,if_neg];rintro⟨x,L,_⟩;rw[hop]at L
  cases L
def bitsOf(m:Nat):List Nat:=(List.range 24).filter fun i=>m.testBit i
def Xh(m i:Nat):Nat:=m &&&(4294967295-2 ^ i)
theorem Vk:i∈bitsOf m↔i<24/\m.testBit i=true:=by
 unfold bitsOf;rw[zqJ,zqc]
theorem zdk(m:Nat):(bitsOf m).Nodup:=List.nodup_range.filter _
theorem zcx:∀n,n<25->bitsOf (2 ^ n-1)=List.range n:=by decide +kernel
theorem zik(m i j:Nat)(hi:i<32)(I:j<32):(Xh m i).testBit j=(m.testBit j&&decide (j≠i)):=by
 unfold Xh;have q:2 ^ i<2 ^ 32:=Nat.pow_lt_pow_right zr hi;have e:4294967295-2 ^ i=2 ^ 32-(2 ^ i+1):=zd;rw[Nat.testBit_and,e,Nat.testBit_two_pow_sub_succ q,Nat.testBit_two_pow]
 by_cases h:j=i
 ·subst h;simp
 ·have r:¬i=j:=fun e=>h e.symm
  simp[h,r,I]
theorem zas(m i:Nat):Xh m i<=m:=Nat.and_le_left
theorem VG(hi:i<24):bitsOf (Xh m i)=(bitsOf m).erase i:=by
 rw[(zdk m).erase_eq_filter];unfold bitsOf;rw[List.filter_filter];refine List.filter_congr fun j q=>?_
 rw[zik m i j zd (by have:=zqc.1 q;omega),Bool.and_comm]
 congr 1
 by_cases h:j=i<;>simp[h]
theorem zcO:bitsOf 0=[]:=by decide +kernel
theorem zm1(p:Nat->Bool)(c:Nat)(R:p c=true)(h:∀j,j<c->p j=false):∀n,c<n->(List.range n).filter p=c::((List.range n).filter p).erase c:=fun n L=>by
 have q:∀n,c<n->∃r,(List.range n).filter p=c::r:=fun n=>by
  induction n with
  |zero=>intro h;omega
  |succ n N=>
   intro L;rw[zp2,zqN]
   by_cases e:c=n
   ·subst e;have O:(List.range c).filter p=[]:=List.filter_eq_nil_iff.2 fun j I=>by
     rw[h j (zqc.1 I)];exact zqp
    rw[O,zpa,List.filter_cons,R];exact⟨_,rfl⟩
   ·obtain⟨r,I⟩:=N zd;rw[I];exact⟨_,rfl⟩
 obtain⟨r,I⟩:=q n L;rw[I,List.erase_cons_head]
theorem DG(h0:m≠0)(O:m<2 ^ 24):Lib.ctz 32 m<24/\m.testBit (Lib.ctz 32 m)=true/\∀j,j<Lib.ctz 32 m->m.testBit j=false:=by
 have I:m<2 ^ 32:=zo0 O zr;obtain⟨q,L,_⟩:=Lib.ctzFrom_spec 32 m (Nat.pos_of_ne_zero h0) I;have R:Lib.ctz 32 m=Lib.ctzFrom 32 m:=by unfold Lib.ctz;rw[if_neg h0]
 rw[R];generalize Lib.ctzFrom 32 m=c at L;have N:∀j,m.testBit j=(decide (c<=j)&&(2*q+1).testBit (j-c)):=fun j=>by
  rw[L,Nat.mul_comm,Nat.testBit_mul_two_pow]
 have r:c<24:=by
  refine zpP fun h=>?_
  have V:2 ^ 24<=2 ^ c:=zpJ zr (zd);have U:2 ^ c*1<=2 ^ c*(2*q+1):=Nat.mul_le_mul_left _ zd;omega
 refine⟨r,?_,fun j U=>?_⟩
 ·rw[N,zqw];simp
 ·rw[N];simp;omega
theorem zb0(h0:m≠0)(q:m<2 ^ 24):bitsOf m=Lib.ctz 32 m::bitsOf (Xh m (Lib.ctz 32 m)):=by
 obtain⟨h,r,I⟩:=DG h0 q;rw[VG h];exact zm1 _ _ r I 24 h
theorem zb7(q:m<2 ^ 24)(h:bitsOf m=[]):m=0:=zpP fun r=>by
 rw[zb0 r q]at h;cases h
structure Tz (w:World):Prop where
 lt:0<w.heap.size
 cell:∀j,j<32->w.cell? ⟨0,j,none⟩=some (.int .u8 (Lib.deBruijn32tab.getD j 0))
theorem Tz.below(h:Tz w){B:Nat}(q:Below B w w')(I:w.heap.size<=B):Tz w':=⟨zo0 h.lt q.size,fun j r=>(World.cell?_of_block (w:=w) (q.block _ (zo0 h.lt I))).trans (h.cell j r)⟩
theorem Tz.same(h:Tz w)(r:w.heap.size<=w'.heap.size)(I:w'.heap[(0:Nat)]? = w.heap[(0:Nat)]?):Tz w':=⟨zo0 h.lt r,fun j q=>(World.cell?_of_block (w:=w) I).trans (h.cell j q)⟩
theorem zfG(x a:Nat)(r:x<4294967296)(h:x &&&(4294967296-x)=a):
 bits BinOp.and IntKind.u32 (x:Int) (-(x:Int) % 4294967296)*125613361 % 4294967296 / 134217728=((a*125613361 % 4294967296 / 134217728:Nat):Int):=by
 by_cases q:x=0
 ·subst q;rw[Nat.zero_and]at h;subst h;rfl
 ·have e1:-(x:Int) % 4294967296=((4294967296-x:Nat):Int):=zd;rw[e1,u32_and_nat x _ r zd,h];omega
theorem zio(m:Nat)(h0:m≠0)(I:m<2 ^ 24):∃h,h<32/\Lib.deBruijn32tab.getD h 0=Lib.ctz 32 m/\bits BinOp.and IntKind.u32 (m:Int) (-(m:Int) % 4294967296)*125613361 % 4294967296 / 134217728=((h:Nat):Int):=by
 have Tc:(2:Nat) ^ 32=4294967296:=zr;have q:m<4294967296:=zo0 I zr;obtain⟨h,L⟩:=Lib.lowest_bit 32 m h0 (by rw[Tc];exact q);rw[Tc]at h;obtain⟨N,r⟩:=Lib.deBruijn32_at _ L;exact⟨_,N,r,zfG m _ q h⟩
theorem znp(w:World)(L:Tz w)(m:Nat)(h0:m≠0)(I:m<2 ^ 24):Calls prog 167 #[.int .u32 m] w fun e h=>e=.returned (.int .i64 (Lib.ctz 32 m:Nat))/\h=w:=by
 obtain⟨O,R,h,r⟩:=zio m h0 I;have q:=L.cell _ R;rw[h]at q;have N:((m:Int)==0)=false:=zb;have V:=(DG h0 I).1;generalize Lib.ctz 32 m=k at *;have U:wrap64 (k:Int)=k:=by unfold wrap64;omega
 clear L h I h0;go_enter func167,ntmps167
 go_wp2_with (simp only[r])
 go_returns;exact⟨rfl,rfl⟩
section
variable {F:Fence}{n:Nat}{P:Program}
def UE{α:Type}(bb:Nat)(F:Fence)(n:Nat)(P:Program)(g:Nat)(lb:Array Value)(r:α->Array Value)(N:World->World->Prop)(S Sp V:List α->Prop)(w:World):Prop:=
 ∀(l:Nat)(J L:List α->World->Prop)(W:World),Bl w W->(∀s W q,J s W->zh (·=bb) W q->J s q)->
  (∀h x I,J h I->V (h++[x])->YieldAt F (n-1) P l (r x) I fun e q=>
   (e=.returned (.bool true)/\J (h++[x]) q/\N I q)\/(e=.returned (.bool false)/\L (h++[x]) q))->
  J [] W->CallsIn F n P g (#[.func (.yield l) #[] #[]]++lb) W fun e q=>(∃v,e=.returned v)/\((∃I,S I/\J I q)\/(∃h,Sp h/\L h q))
theorem zkX{α:Type}{g:Operand}{ps:Array Tmp}{assign body:Code}{Q:Exit->Act->World->Prop}{a:Act}(aw:F.round=none)(h1:1<=n){gf:Nat}{lb:Array Value}(hg:a.eval g=.func (.func gf) #[] lb)(ar:F.fn gf)(eg:∀q w,(callFunc gf q).run P w=.ok (.enter gf q) w){Y:α->Array Value}{Kp:World->World->Prop}{S Sp V:List α->Prop}(aD:bb<w.heap.size)(al:UE bb F (n-1) P gf lb Y Kp S Sp V w)(am:∀{A B C:World},Kp A B->Kp B C->Kp A C)(aj:∀(W:World)(l:Nat)(o o':Obj),w.heap.size<=l->W.heap[l]? = some o->o.isCells=false->o.isWalk=false->Kp W (W.putObj l o'))(ay:∀x,(Y x).size=ps.size)(I:List α->World->Prop)(Ix:Code->List α->World->Prop)(hI:OwnFrom w.heap.size I)(ad:∀c,OwnFrom w.heap.size (Ix c))(aB:∀s W W',I s W->zh (·=bb) W W'->I s W')(h0:I [] w)(a₁:α->Act)(aa:∀(l:Nat)(x:α)(W:World)(K:Act->World->Prop),K (a₁ x) W->
  assign.wpIn (F.inRound l) (n-1-1) P (Exit.then K (fun _ _ _=>False)) { tmps:=(ps.zip (Y x)).foldl (fun t (p,v)=>t.setIfInBounds p v) a.tmps,defers:=[]} W)(af:∀(l:Nat)(h:List α)(x:α)(W:World),I h W->V (h++[x])->body.wpIn (F.inRound l) (n-1-1) P (ownPostK Kp I Ix (h++[x]) W) (a₁ x) W)(ag:∀(D:Nat)(xs:List α)(W:World),w.heap.size<=D->S xs->I xs W->W.heap[D]? = some (.deferred (some []))->Q .normal { a with defers:={ target:=.collected D,args:=#[]}::a.defers } W)(ah:∀(D:Nat)(c:Code)(h:List α)(W:World),w.heap.size<=D->Sp h->Ix c h W->W.heap[D]? = some (.deferred (some []))->c.wpIn F n P Q { a with defers:={ target:=.collected D,args:=#[]}::a.defers } W):
 (Code.rangeFunc g ps assign body).wpIn F n P Q a w:=by
 refine wpIn_rangeFunc fun fn aA=>?_
 rw[aw]
 let ac:LoopState->Option Code->Loop:=fun r L=>{ state:=r,pending:=L,fn,tmps:=a.tmps,params:=ps,assign,body,defers:=w.heap.size }
 obtain⟨mk,N⟩:∃mk,mk=ac:=⟨_,rfl⟩;obtain⟨W1,Z⟩:∃W1,(w.alloc (.deferred (some []))).alloc (.loop (mk .ready none))=W1:=⟨_,rfl⟩;have aE:W1.heap.size=w.heap.size+1+1:=by rw[<-Z];simp
 have ax:W1.heap[w.heap.size+1]? = some (.loop (mk .ready none)):=by
  have:=World.alloc_heap_new (w.alloc (.deferred (some []))) (.loop (mk .ready none))
  rwa [World.size_alloc,Z]at this
 have aq:W1.heap[w.heap.size]? = some (.deferred (some [])):=by
  rw[<-Z];exact(Below.heap_alloc _ _ _ zp).trans (World.alloc_heap_new w _)
 have ap:I [] W1:=by rw[<-Z];exact hI.alloc _ (hI.alloc _ h0)
 have aC:Bl w W1:=by rw[<-Z];exact((Below.refl _ w).alloc (zoZ _) _).alloc zp _
 have XQ:∀(W W':World),zh (·=bb) W W'->∀(k:Nat)(o:Obj),w.heap.size<=k->W.heap[k]? = some o->W'.heap[k]? = some o:=fun W W' hc k o hk ho=>(hc.block k (zpb.1 ho).1 zd).trans ho
 refine⟨w.heap.size+1,[{ target:=.collected w.heap.size,args:=#[]}],W1,{ target:=.fn (.func gf) lb,args:=#[.func (.yield (w.heap.size+1)) #[] #[]]},W1,gf,
  #[.func (.yield (w.heap.size+1)) #[] #[]]++lb,W1,?_,?_,?_,?_,fun _=>h1,?_⟩
 ·rw[<-Z,N];exact run_enterLoop_outer _ _ _ _ _
 ·simp only[resolve,hg];simp[go_sem]
 ·intro L r;simp[Target.leads]at r;subst r;exact ar
 ·simp[invoke,go_sem,eg]
 ·refine(al (w.heap.size+1) (fun h W=>I h W/\W.heap[w.heap.size+1]? = some (.loop (mk .ready none))/\W.heap[w.heap.size]? = some (.deferred (some [])))
   (fun h W=>∃c,Ix c h W/\W.heap[w.heap.size+1]? = some (.loop (mk .done (some c)))/\W.heap[w.heap.size]? = some (.deferred (some []))) W1 aC
   (fun s W W' hs hc=>⟨aB _ _ _ hs.1 hc,XQ W W' hc _ _ zd hs.2.1,XQ W W' hc _ _ (zoZ _) hs.2.2⟩) ?_ ⟨ap,ax,aq⟩).mono ?_
  ·rintro h x W⟨hi,hl,hk⟩ai;have au:w.heap.size+1<W.heap.size:=(zpb.1 hl).1;have hy:=run_yield (P:=P) (args:=Y x) hl (by rw[N];exact ay x);rw[N]at hy;refine⟨fn,_,assign,body,hy,roundIn_of_wpIn aA (aa _ x W _ ⟨_,run_beginRound hl (by rw[N]),?_⟩)⟩;obtain⟨W2,ab⟩:∃W2,W.putObj (w.heap.size+1) (.loop { mk .ready none with state:=.busy })=W2:=⟨_,rfl⟩;have az:W2.heap[w.heap.size+1]? = some (.loop { mk .ready none with state:=.busy }):=ab▸World.putObj_heap_same au;have av:W2.heap[w.heap.size]? = some (.deferred (some [])):=ab▸(World.putObj_heap_other zd).trans hk;have an:Kp W W2:=ab▸aj _ _ _ _ zd hl rfl rfl;have ao:I h W2:=ab▸hI.putObj _ hi zd hl rfl;rw[ab];refine wpIn_mono (af _ h x _ ao ai) ?_;have ae:∀(q:Option Code)(W3:World),KeepsOthers W2 W3->∃W4,W3.putObj (w.heap.size+1) (.loop (mk (if q.isNone then .ready else .done) q))=W4/\
    (Instr.endRound (w.heap.size+1) q).run P W3=.ok (.bool q.isNone) W4/\W3.heap[w.heap.size+1]? = some (.loop { mk .ready none with state:=.busy })/\
    W4.heap[w.heap.size+1]? = some (.loop (mk (if q.isNone then .ready else .done) q))/\W4.heap[w.heap.size]? = some (.deferred (some [])):=fun q W3 L=>by
    have r:=L.same _ _ az rfl;have hr:=run_endRound (P:=P) q r;refine⟨_,rfl,?_,r,World.putObj_heap_same (zpb.1 r).1,(World.putObj_heap_other zd).trans (L.same _ _ av rfl)⟩;rw[N]at hr ⊢;exact hr
   rintro e a3 W3 hp
   cases e with
   |normal=>
    obtain⟨L,ak,X⟩:=hp;obtain⟨W4,O,hr,r,R,U⟩:=ae none W3 L;exact⟨_,W4,hr,.inl ⟨rfl,⟨O▸hI.putObj _ X zd r rfl,R,U⟩,am (am an ak) (O▸aj _ _ _ _ zd r rfl rfl)⟩⟩
   |ret=>
    obtain⟨L,X⟩:=hp;obtain⟨W4,O,hr,r,R,U⟩:=ae (some .ret) W3 L;exact⟨_,W4,hr,.inr ⟨rfl,.ret,O▸(ad _).putObj _ X zd r rfl,R,U⟩⟩
   |exit id=>
    obtain⟨L,X⟩:=hp;obtain⟨W4,O,hr,r,R,U⟩:=ae (some (.exit id)) W3 L;exact⟨_,W4,hr,.inr ⟨rfl,(.exit id),O▸(ad _).putObj _ X zd r rfl,R,U⟩⟩
   |goto t=>
    obtain⟨L,X⟩:=hp;obtain⟨W4,O,hr,r,R,U⟩:=ae (some (.goto t)) W3 L;exact⟨_,W4,hr,.inr ⟨rfl,(.goto t),O▸(ad _).putObj _ X zd r rfl,R,U⟩⟩
   |panic L=>exact hp.elim
   |outgrown=>exact hp.elim
  ·rintro e W2⟨⟨v,rfl⟩,(⟨xs,L,hi,hl,hk⟩ |⟨h,r,c,hi,hl,hk⟩)⟩
   ·have q:=run_endLoop (P:=P) hl (by rw[N];simp[ac]);rw[show(mk .ready none).pending=none by rw[N]]at q;exact⟨none,_,q,ag _ xs _ (zoZ _) L (hI.putObj _ hi zd hl rfl) ((World.putObj_heap_other zd).trans hk)⟩
   ·have q:=run_endLoop (P:=P) hl (by rw[N];simp[ac]);rw[show(mk .done (some c)).pending=some c by rw[N]]at q;exact⟨some c,_,q,ah _ c h _ (zoZ _) r ((ad c).putObj _ hi zd hl rfl) ((World.putObj_heap_other zd).trans hk)⟩
end
end
end Go.Proofs.YtfdickkdlcgicaaGreatDoor.C
namespace Go.Proofs.YtfdickkdlcgicaaGreatDoor
open Go.Proofs.Tryz Go Go.RowKit Go.Maps Go.WideMaps
variable {a:Act}{id:Nat}{o:Oper}{w:World}
section
def Y4(Q:Exit->Act->World->Prop):Exit->Act->World->Prop
 |.panic _,_,_=>False
 |.outgrown,_,_=>False
 |e,a,w=>Q e a w
theorem Y4.imp{Q:Exit->Act->World->Prop}:∀(e:Exit)(a:Act)(w:World),Y4 Q e a w->Q e a w:=fun e a w h=>by
 cases e<;>first|exact h|exact(h:False).elim
theorem Y4.zbq{Q:Exit->Act->World->Prop}:¬LetsOut (Y4 Q):=fun⟨_,_,h⟩=>h
section
variable {P:Program}{ops:Array Oper}{md:Region.Mode}{n:Nat}{ro:Option Nat}{Q:Exit->Act->World->Prop}
theorem zez{next:Act->World->Prop}(L:∀c,o.op≠.defer c)(h:o.wp P a w next Q):o.wpIn { Fence.wide with round:=ro } n P a w next Q:=by
 refine⟨fun _ _=>trivial,?_⟩;rw[Oper.semAt_eq _ _ _ L];unfold Oper.wp at h;generalize(execOp a.eval o).run P w=r at h ⊢
 cases r with
 |ok x q=>
  cases x<;>simp only[Oper.upon,Oper.uponIn]at h ⊢
  case enter f args=>
   refine⟨fun I=>(by cases I),CallsIn.outOfRound (l:=0) (CallsIn.inRound 0 (callsIn_wide.2 (Calls.mono h fun e O N=>?_)))⟩
   cases e<;>exact N
  case row row args=>exact⟨fun I=>(by cases I),fun c N _=>let⟨v,q,r,s⟩:=h c N;⟨v,q,r,stepsIn_wide.2 s⟩⟩
  all_goals exact h
 |halt x q=>cases x<;>simp only[Oper.upon,Oper.uponIn]at h ⊢<;>exact h
def UX(ops:Array Oper):Bool:=ops.toList.all fun o=>match o.op with|.defer _=>false|_=>true
theorem znl(h:UX ops=true){i:Nat}(r:ops[i]? = some o):∀c,o.op≠.defer c:=fun c e=>by
 have q:=List.all_eq_true.1 h o (zp8 (i:=i) (by rw[Array.getElem?_toList];exact r));rw[e]at q
 cases q
theorem Gp(I:UX ops=true)(L:¬LetsOut Q):∀(q:Nat)(r:Array Bool)(a:Act)(w:World),wpAny P md ops Q q r a w->wpAnyIn { Fence.wide with round:=ro } n P md ops Q q r a w
 |0,_,_,_,h=>h
 |q+1,r,a,w,h=>⟨h.1,fun i N=>by
  have r:=h.2 i N;unfold wpOp at r;unfold wpOpIn
  cases ho:ops[i]? with
  |none=>simp only[ho]at r ⊢;exact Gp I L q _ _ _ r
  |some o=>
   simp only[ho]at r ⊢;split
   ·rename_i N;simp only[N,if_true]at r
    rcases r with r|r
    ·exact zez (znl I ho) (Oper.wp_mono (fun a w=>Gp I L q _ a w) r)
    ·exact absurd r.2 L
   ·rename_i N;simp only[N]at r;exact⟨fun _ _=>trivial,Gp I L q _ _ _ r⟩⟩
theorem zd2(q:List (Nat×Nat))(k:Nat)(S0 S1:World->Prop)(O:P.follows .mixedOrders=true)(N:UX ops=true)(U:Region.noSelect ops=true)(L:q.length=ops.size)(I:Xv .any ops k q (Array.replicate ops.size false)=true)(h0:S0 w.drew)(R:S1 w.drew)(h:xQ P ops (Y4 Q) S0 S1 false (xM ops q) a w.drew):(Code.region id ops true).wpIn { Fence.wide with round:=ro } n P Q a w:=by
 refine wpIn_mono (wpIn_region_any O (Gp N Y4.zbq _ _ _ _ (J6 _ _ _ _ (S:=fun l w=>S0 w/\(l.getD k false=false->S1 w)) ?_))) Y4.imp;rw[<-L];rw[<-L]at I;have r:(Array.replicate q.length false).getD k false=false:=by
  by_cases r:k<q.length
  ·simp[r]
  ·simp[r]
 exact Z2 U (fun _ _ _ _ _ h=>(h:False).elim) q _ false a _ I (YK.start _) r h0 (fun _=>R) h
theorem Ze(q:List (Nat×Nat))(k:Nat)(S0 S1:World->Prop)(I:P.follows .mixedOrders=true)(r:UX ops=true)(N:Region.noSelect ops=true)(R:q.length=ops.size)(O:Xv .any ops k q (Array.replicate ops.size false)=true)(h0:S0 w.drew)(L:S1 w.drew)(h:xQ P ops (Y4 Q) S0 S1 false (xM ops q) a w.drew):(Code.region id ops true).wpIn Fence.wide n P Q a w:=
 zd2 (ro:=none) q k S0 S1 I r N R O h0 L h
theorem zcR{l:Nat}(q:List (Nat×Nat))(k:Nat)(S0 S1:World->Prop)(I:P.follows .mixedOrders=true)(r:UX ops=true)(N:Region.noSelect ops=true)(R:q.length=ops.size)(O:Xv .any ops k q (Array.replicate ops.size false)=true)(h0:S0 w.drew)(L:S1 w.drew)(h:xQ P ops (Y4 Q) S0 S1 false (xM ops q) a w.drew):(Code.region id ops true).wpIn (Fence.wide.inRound l) n P Q a w:=
 zd2 (ro:=some l) q k S0 S1 I r N R O h0 L h
theorem YG{S0 S1:World->Prop}{d:Bool}(h:Q .normal a w):xQ P ops (Y4 Q) S0 S1 d [] a w:=h
end
end
end Go.Proofs.YtfdickkdlcgicaaGreatDoor
namespace Go.Proofs.YtfdickkdlcgicaaGreatDoor.C
open Go.Proofs.Tryz Go Go.RowKit Go.Maps Go.WideMaps
variable {B:Option Addr}{I bb g i m r x:Nat}{K:List ByteArray}{L q:List Nat}{W w w':World}{body:List Li}{t:TypeId}{v:Int}
section
theorem pow_mod(i:Nat)(hi:i<24):(2:Int) ^ i % 4294967296=((2 ^ i:Nat):Int):=by
 have h:2 ^ i<=2 ^ 24:=zpJ zr (zd);have q:(2:Int) ^ i=((2 ^ i:Nat):Int):=zp;rw[q];generalize 2 ^ i=p at *;omega
theorem Dg(i m:Nat)(hi:i<24)(q:m<2 ^ 24):bits .andNot .u32 (m:Int) ((2:Int) ^ i % 4294967296)=((Xh m i:Nat):Int):=by
 have h:2 ^ i<=2 ^ 24:=zpJ zr (zd);rw[pow_mod i hi,u32_andNot_nat m (2 ^ i) zd (zd)];rfl
theorem TL(i m:Nat)(hi:i<24)(q:m<2 ^ 24):bits .and .u32 (m:Int) ((2:Int) ^ i % 4294967296)=((m &&& 2 ^ i:Nat):Int):=by
 have h:2 ^ i<=2 ^ 24:=zpJ zr (zd);rw[pow_mod i hi,u32_and_nat m (2 ^ i) zd (zd)]
theorem and_zero(m i:Nat):m &&& 2 ^ i=0↔m.testBit i=false:=by
 constructor
 ·intro h;have q:(m &&& 2 ^ i).testBit i=false:=by rw[h];simp
  rw[Nat.testBit_and,Nat.testBit_two_pow_self,Bool.and_true]at q;exact q
 ·intro h;refine Nat.eq_of_testBit_eq fun j=>?_
  rw[Nat.testBit_and,Nat.testBit_two_pow,Nat.zero_testBit]
  by_cases e:i=j
  ·subst e;rw[h];rfl
  ·simp[e]
structure Y2 (bb:Nat) (W W':World):Prop where
 size:W.heap.size<=W'.heap.size
 box:W'.heap[bb]? = W.heap[bb]?
 tab:W'.heap[(0:Nat)]? = W.heap[(0:Nat)]?
theorem zgy{X Y Z:World}(h:Y2 bb X Y)(k:Y2 bb Y Z):Y2 bb X Z:=⟨zpd h.size k.size,k.box.trans h.box,k.tab.trans h.tab⟩
theorem zhk(r:bb<w.heap.size)(q:0<w.heap.size)(W:World)(l:Nat)(o o':Obj)(h:w.heap.size<=l)(_:W.heap[l]? = some o)(_:o.isCells=false)(_:o.isWalk=false):Y2 bb W (W.putObj l o'):=
 ⟨(grownBy_putObj' W l o').size,World.putObj_heap_other zd,World.putObj_heap_other zd⟩
theorem Y2.xi{q:World}(h:Bl W q)(I:bb<W.heap.size)(r:0<W.heap.size):Y2 bb W q:=⟨h.size,h.block _ I,h.block _ r⟩
def zao(bb:Nat)(w:World):Nat:=match w.cell? ⟨bb,0,none⟩with
 |some (.int .u32 n)=>(bitsOf n.toNat).length
 |_=>0
theorem zcD(h:zD w bb t #[.int .u32 (m:Int)]):zao bb w=(bitsOf m).length:=by
 have:=h.cell 0;simp only[zpe,zo9]at this;unfold zao;rw[this];simp
theorem zhT(w:World)(m:Int):Calls prog 101 #[.int .u32 m] w fun e h=>e=.returned (.func (.func 166) #[] #[.pointer (some ⟨w.heap.size,0,none⟩)])/\h=w.alloc (.cells #[.int .u32 m] 122):=by
 go_enter func101,ntmps101;go_wp2;go_returns;exact⟨rfl,rfl⟩
attribute [local go_sem] Oper.semAt_some
theorem zfO{k:Nat}{w0:World}(au:1<=k)(hm:m<2 ^ 24)(hk:zD w0 bb 122 #[.int .u32 m])(hT:Tz w0)(ab:bb≠0):
 UE bb Fence.wide k prog 166 #[.pointer (some ⟨bb,0,none⟩)] (fun i:Nat=>#[.int .i64 (i:Int)]) (Y2 bb) (fun I=>I=bitsOf m) (fun h=>h <+: bitsOf m) (fun h=>h <+: bitsOf m) w0:=fun l J L W hW q r X=>by
 have an:=zz r;have ag:=zz ab;have HJ:=zz q;have H0:=zz X;have HK:=zz (hk.below hW);have HT:=zz (hT.below hW (zoZ _));clear r q X hk hT hW ab;refine callsIn_of_wp func166 rfl trivial ?_ rfl;show Code.wpIn _ _ _ _ _ { tmps:=#[.func (.yield l) #[] #[],.pointer (some ⟨bb,0,none⟩)]++_,defers:=[]} _;simp only[ntmps166,zqk,zpn,zpF,Nat.reduceAdd,Nat.reduceSub,zqs,zqt,zqI,zqz,zpa,zpc]
 gi_wp2
 gi_loopw [3] (fun _ wr=>∃(h:List Nat) (I:Nat),bitsOf m=h++bitsOf I/\I<2 ^ 24/\zD wr bb 122 #[.int .u32 I]/\Tz wr/\J h wr)
  (fun _ wr=>zao bb wr)
 case atStart=>exact⟨[],m,rfl,hm,HK.o,HT.o,H0.o⟩
 case round=>
  obtain⟨h,I,r,L,R,V,O⟩:=hrel;have c0:=R.cell 0
  by_cases X:I=0
  ·subst X;rw[zcO,zpw]at r;have N:=zz r;have q:=zz O;clear r R V O L
   gi_wp2
   go_end0;exact⟨⟨_,rfl⟩,.inl ⟨h,N.o.symm,q.o⟩⟩
  ·have ab:((I:Int) != 0)=true:=zb;have q:=zb0 X L;obtain⟨Z,-,-⟩:=DG X L;have ah:=zz (znp wr V I X L);obtain⟨c,hc⟩:∃c,Lib.ctz 32 I=c:=⟨_,rfl⟩;rw[hc]at q Z ah;rw[q]at r;have U:=Dg c I Z L;have aa:h++[c]<+: bitsOf m:=by rw[r];exact⟨bitsOf (Xh I c),zp⟩
   have Y:Xh I c<2 ^ 24:=Nat.lt_of_le_of_lt (zas _ _) L;obtain⟨fn,ac,ak,ar,hy,hR⟩:=an.o h c wr O aa;have N:=zz (show bitsOf m=(h++[c])++bitsOf (Xh I c) by rw[r];simp);have am:=zz (show(bitsOf (Xh I c)).length<(bitsOf I).length by rw[q];simp);have ae:=zz R;have aq:=zz V;have ai:=zz U;have ap:=zz Y;have av:=zz c0;clear r q hc aa R V O X U Y L
   gi_wp2_with (refine⟨trivial,?_⟩;gi_at_call 167;refine(callsIn_wide.2 ah.o).mono ?_;rintro e w1⟨rfl,ao⟩;obtain rfl:wr=w1:=ao.symm)
   refine hR.mono ?_;rintro e W3 (⟨rfl,ad,U⟩ |⟨rfl,af⟩)
   ·have aa:Kz (zD W3 bb 122 #[.int .u32 I]):=ae.o.same U.box;have aj:=zz (aq.o.same U.size U.tab);have al:=zz ad;have H0:Kz (∀W,zh (·=bb) W3 W->True):=fun _ _=>trivial
    have H1:Kz (∀W:World,W.heap[bb]? = W3.heap[bb]?->W.cell? ⟨bb,0,none⟩=some (.int .u32 (I:Int))):=fun W hW=>(aa.o.same hW).cell 0
    clear ad U c0
    gi_wp2
    refine Ze [(0,1),(1,0),(2,0),(3,0),(4,3)] 4 (fun W=>zh (·=bb) W3 W) (fun W=>W.heap[bb]? = W3.heap[bb]?) zo (zo) zo rfl zo ?s0 ?s1 ?_
    case s0=>exact yj
    case s1=>rfl
    simp only[xM,qa,qb,qc,qd,qe,qf];try refine zQ ?_
    repeat refine xK H0.o H1.o ?_
    refine y7 zj (fun K hK=>?_);refine Xq 122 _ _ rfl bb 0 _ _ (aa.o.drew) (.int .u32 ((Xh I c:Nat):Int)) rfl (congrArg (Value.int .u32) ai.o) zp (zo) rfl ?_;intro W4 Y;have q:=zz Y;refine hK.out _ _ ((zh.refl _ W3).drew.trans Y.zC (fun x hx _=>hx)) ?_;clear hK K Y;refine YG ?_;simp only[Act.put]
    gi_wp2
    go_roundw
    case rel=>exact⟨h++[c],Xh I c,N.o,ap.o,q.o.zG,(aj.o.same (by rw[q.o.size];exact zoZ _) (q.o.zC.block _ aj.o.lt (fun e=>by have:=ag.o;omega))),HJ.o _ _ _ al.o ((zh.refl _ W3).drew.trans q.o.zC (fun x hx _=>hx))⟩
    case measure=>
     rw[zcD (show zD W4 bb 122 #[.int .u32 ((Xh I c:Nat):Int)]from q.o.zG),zcD ae.o];exact am.o
   ·gi_wp2
    refine bodyPost_ret (results_none rfl _ _ _) rfl ?_;exact⟨⟨_,rfl⟩,.inr ⟨_,⟨_,N.o.symm⟩,af⟩⟩
attribute [local go_sem] Oper.semAt_some
structure VA (w:World) (B:Option Addr) (nb:Nat) (body:List Li):Prop where
 len:body.length=nb
 rd:zY Li.cells w B body
 zO:∀x∈body,x.zO w
 ok:∀x∈body,x.ok
 zN:∀x∈body,x.zN.length<=1048576
 fits:∀x∈body,∀t∈x.zN,t.v.size<=maxLen
 le:nb<=24
theorem VA.below(h:VA w B r body)(q:Bl w W):VA W B r body:=⟨h.len,h.rd.below q,fun x I=>(h.zO x I).below q,h.ok,h.zN,h.fits,h.le⟩
theorem VA.step{q:Nat}{zM:Nat}{f:Value->Option Value}(h:VA w B r body)(L:yH w q I B zM r f K)(i:Nat)(hi:i<body.length):
 Calls prog 49 #[.pointer (some ⟨q,0,none⟩),.int .i64 (i:Int)] w (Vn K i body[i] w):=
 zgI w q I B zM r f K L body h.len h.rd i hi (h.zO _ (zo3 hi)) (h.ok _ (zo3 hi)) (h.zN _ (zo3 hi)) (h.fits _ (zo3 hi)) h.le
def Zd(body:List Li)(K:List ByteArray)(i:Nat):Prop:=∃x,body[i]? = some x/\x.k≠1/\(stepOf K i x).isSome=true
def Z3(body:List Li)(i:Nat):Prop:=∃x,body[i]? = some x/\x.k=1
def posOf(body:List Li)(h:List Nat)(v:Int):Prop:=(v=-1/\∀i∈h,¬Z3 body i)\/∃(a:List Nat) (i:Nat) (b:List Nat),h=a++i::b/\v=(i:Int)/\Z3 body i/\∀j∈a,¬Z3 body j
theorem zeP(body:List Li)(K:List ByteArray)(i:Nat):(match body[i]? with|some x=>tf (x.k≠1/\(stepOf K i x).isSome=true)|none=>false)=true↔Zd body K i:=by
 unfold Zd
 cases body[i]? with
 |none=>simp
 |some x=>
  simp only[Zf];exact⟨fun h=>⟨x,rfl,h⟩,fun⟨y,q,h⟩=>by injection q with q;subst q;exact h⟩
theorem zm6(body:List Li)(i:Nat):(match body[i]? with|some x=>tf (x.k=1)|none=>false)=true↔Z3 body i:=by
 unfold Z3
 cases body[i]? with
 |none=>simp
 |some x=>
  simp only[Zf];exact⟨fun h=>⟨x,rfl,h⟩,fun⟨y,q,h⟩=>by injection q with q;subst q;exact h⟩
theorem zc3{p:Nat->Bool}{a:List Nat}{b:List Nat}(h:∀i∈a,¬p i=true)(L:p x=true):(a++x::b).find? p=some x:=by
 induction a with
 |nil=>simp[L]
 |cons y a q=>
  have r:p y=false:=by simpa using h y zpi
  rw[zpc,List.find?_cons,r];exact q fun i I=>h i (zpj _ I)
theorem ziM{rest:List Nat}(V:L=q++x::rest)(N:∀i∈q,¬Zd body K i)(X:Zd body K x)(h:ZY body K L=some r):x=r:=by
 have q:∀I O:Nat->Bool,(∀i,I i=true↔Zd body K i)->(L.find? I).or (L.find? O)=some r->x=r:=fun I O R h=>by
  subst V;rw[zc3 (fun i W U=>N i W ((R i).1 U)) ((R x).2 X),Option.some_or]at h;injection h
 exact q _ _ (zeP body K) h
theorem zlr(O:∀i∈L,¬Zd body K i)(q:posOf body L v)(h:ZY body K L=some I):v=(I:Int):=by
 have N:∀R W:Nat->Bool,(∀i,R i=true↔Zd body K i)->(∀i,W i=true↔Z3 body i)->(L.find? R).or (L.find? W)=some I->v=(I:Int):=fun R W U V h=>by
  rw[List.find?_eq_none.2 (fun i r q=>O i r ((U i).1 q)),Option.none_or]at h
  rcases q with⟨_,U⟩ |⟨a,i,b,rfl,rfl,r,U⟩
  ·rw[List.find?_eq_none.2 (fun i r q=>U i r ((V i).1 q))]at h
   cases h
  ·rw[zc3 (fun i r q=>U i r ((V i).1 q)) ((V i).2 r)]at h;injection h with h
   rw[h]
 exact N _ _ (zeP body K) (zm6 body) h
theorem zf2(h:posOf body q v)(N:¬Z3 body x):posOf body (q++[x]) v:=by
 rcases h with⟨I,r⟩ |⟨a,i,b,rfl,h⟩
 ·exact .inl ⟨I,fun i L=>by rcases zo7.1 L with h|h;exact r i h;rw[zo2.1 h];exact N⟩
 ·exact .inr ⟨a,i,b++[x],zp,h⟩
theorem zjy(h:posOf body q (i:Int)):posOf body (q++[x]) (i:Int):=by
 rcases h with⟨I,r⟩ |⟨a,i,b,rfl,h⟩
 ·omega
 ·exact .inr ⟨a,i,b++[x],zp,h⟩
theorem zjF(h:posOf body q (-1))(I:Z3 body x):posOf body (q++[x]) (x:Int):=by
 rcases h with⟨_,r⟩ |⟨a,i,b,_,h,_⟩
 ·exact .inr ⟨q,x,[],rfl,rfl,I,r⟩
 ·omega
theorem zni(h:posOf body q v):v=-1\/∃i:Nat,v=(i:Int):=by
 rcases h with⟨r,_⟩ |⟨a,i,b,_,h,_⟩
 ·exact .inl r
 ·exact .inr ⟨i,h⟩
def J1(w:World)(q:Nat)(body:List Li)(K:List ByteArray)(h:List Nat)(W:World):Prop:=
 zD W w.heap.size 120 #[.pointer (some ⟨q,0,none⟩)]/\zD W (w.heap.size+1) 3 #[.int .i64 0]/\(∃v:Int,zD W (w.heap.size+1+1) 3 #[.int .i64 v]/\posOf body h v)/\(∀i∈h,¬Zd body K i)/\Bl w W/\w.heap.size+1+1+1<W.heap.size
theorem zD.grownBy{L:World}{I:Array Value}{row:Option Nat}{B:Nat}(h:zD W g t I)(O:W.grownBy L row)(N:∀r,row=some r->B<=r/\∃o:Obj,W.heap[r]? = some o/\o.isCells=false):zD L g t I:=
 h.same (O.block g h.lt (fun e=>by
  obtain⟨_,o,q,R⟩:=N g e.symm;unfold zD at h;rw[h]at q;injection q with q
  subst q
  cases R))
theorem Y2.refl(W:World):Y2 bb W W:=⟨zoZ _,rfl,rfl⟩
theorem Y2.zkr(v:Value)(q:g≠bb)(h:g≠0):Y2 bb W (W.setCell ⟨g,i,none⟩ v):=⟨by simp[World.setCell],Below.heap_setCell W _ v bb (fun e=>q e.symm),Below.heap_setCell W _ v _ (fun e=>h e.symm)⟩
theorem zdc{r:World}(h:Bl W r):KeepsOthers W r:=⟨h.size,fun k o q _=>(h.block k (zpb.1 q).1).trans q⟩
theorem zbW{a b:World}{o:Obj}(h:Bl a b):Bl a (b.alloc o):=h.alloc h.size o
theorem zkV{V:Nat}{B:Nat}(W:w.heap.size<=B):OwnFrom B (J1 w V body K):=fun _ _ _ _ ⟨R,N,⟨v,L,I⟩,U,r,O⟩ h q=>
 ⟨R.grownBy h q,N.grownBy h q,⟨v,L.grownBy h q,I⟩,U,r.grown h r.size (fun k e=>zpd W (q k e).1),zo0 O h.size⟩
theorem znJ{c:Code}{B:Nat}(N:w.heap.size<=B):OwnFrom B (fun(_:List Nat) W=>c=.ret/\zD W (w.heap.size+1) 3 #[.int .i64 (I:Int)]/\Bl w W):=fun _ _ _ _ ⟨O,L,h⟩ r q=>
 ⟨O,L.grownBy r q,h.grown r h.size (fun k e=>zpd N (q k e).1)⟩
theorem zmv:∀s W I,J1 w r body K s W->zh (·=w.heap.size+1+1+1) W I->J1 w r body K s I:=fun _ _ _ ⟨U,O,⟨v,N,L⟩,V,q,R⟩ h=>
 ⟨U.zC h zd,O.zC h zd,⟨v,N.zC h zd,L⟩,V,q.trans (h.below q.size (fun x I=>zd)),zo0 R h.size⟩
theorem zfA{w1:World}{q:Nat}(L:zD w1 w.heap.size 120 #[.pointer (some ⟨q,0,none⟩)])(r:zD w1 (w.heap.size+1) 3 #[.int .i64 0])(I:zD w1 (w.heap.size+1+1) 3 #[.int .i64 (-1)])(N:Bl w w1)(O:w.heap.size+1+1+1<w1.heap.size):J1 w q body K [] w1:=
 ⟨L,r,⟨-1,I,.inl ⟨rfl,fun _ h=>by cases h⟩⟩,fun _ h=>(by cases h),N,O⟩
theorem zmq(w:World)(sb mb:Nat)(B:Option Addr)(zM nb:Nat)(f:Value->Option Value)(K:List ByteArray)(h:yH w sb mb B zM nb f K)(body:List Li)(hb:VA w B nb body)(m:Nat)(hm:m<2 ^ 24)(al:∀i∈bitsOf m,i<nb)(hT:Tz w)(Z:Nat)(am:ZY body K (bitsOf m)=some Z):
 Calls prog 48 #[.pointer (some ⟨sb,0,none⟩),.int .u32 (m:Int)] w fun e q=>e=.returned (.int .i64 (Z:Int))/\Bl w q:=by
 have H:=zz h;have HB:=zz hb;have ap:=zz al;have HT:=zz hT;have an:=zz am;clear h hb al hT am;refine(callsIn_wide (n:=3)).1 ?_;refine callsIn_of_wp_marks func48 rfl trivial ?_ rfl;simp only[ntmps48,zqk,zpn,zpF,Nat.reduceAdd,Nat.reduceSub,zqs,zqt,zqI,zqz,zpa,zpc]
 gi_wp2_with (refine⟨trivial,?_⟩;gi_at_call 101;refine(callsIn_wide.2 (zhT _ _)).mono ?_;rintro e w1⟨rfl,rfl⟩)
 obtain⟨W2,O,I⟩:=ya w 120 3 #[.pointer (some ⟨sb,0,none⟩)] #[.int .i64 0];obtain⟨w1,N,q⟩:=ya W2 3 122 #[.int .i64 (-1)] #[.int .u32 (m:Int)];have L:=I.size;rw[O,N];clear O N;have k0:=I.b0.below q.below;have k1:=I.b1.below q.below;have k2:=q.b0;have k3:=q.b1;rw[L]at k2 k3;have N:=q.size;rw[L]at N;have ab:Bl w w1:=zu I.below q.below;have O:=zz N;have aq:=zz ab;have R:=HT.o.lt;have ae:=zz R;clear I q L N R;refine zkX rfl zd (gf:=166) (lb:=#[.pointer (some ⟨w.heap.size+1+1+1,0,none⟩)]) rfl trivial (enters_of func166 zo rfl) (bb:=w.heap.size+1+1+1) (by rw[O.o];omega)
  (zfO zd hm k3 (HT.o.below ab (zoZ _)) (by have:=ae.o;omega)) zgy (zhk (by rw[O.o];omega) (by rw[O.o];have:=ae.o;omega)) (fun _=>rfl)
  (J1 w sb body K) (fun c V W=>c=.ret/\zD W (w.heap.size+1) 3 #[.int .i64 (Z:Int)]/\Bl w W)
  (zkV (by rw[O.o];omega)) (fun c=>znJ (by rw[O.o];omega)) zmv (zfA k0 k1 k2 ab (by rw[O.o];omega))
  (fun x=>{ tmps:=#[.pointer (some ⟨sb,0,none⟩),.int .u32 (m:Int),.pointer (some ⟨w.heap.size,0,none⟩),undef,.pointer (some ⟨w.heap.size+1,0,none⟩),.pointer (some ⟨w.heap.size+1+1,0,none⟩),.int .i64 (x:Int),undef,undef,.int .u32 (m:Int),.func (.func 166) #[] #[.pointer (some ⟨w.heap.size+1+1+1,0,none⟩)],.int .i64 (x:Int),undef,undef,undef,undef,undef,undef,undef,undef,undef,undef,undef,undef,undef,undef,undef,undef,undef,undef,undef,undef,undef],defers:=[]}) ?assign ?body ?done ?stop
 case assign=>
  intro l x W K N
  gi_wp2
  exact N
 case stop=>
  rintro D c V W R I⟨rfl,hr,X⟩N;have q:=N
  gi_wp2
  refine⟨zp,.inl ⟨_,_,rfl,run_takeDeferred q,?_⟩⟩;have L:=cell_kept (show W.cell? ⟨w.heap.size+1,0,none⟩=some (.int .i64 (Z:Int))from hr.cell 0) (grownBy_putObj' W D (.deferred none)) (fun r e=>by cases e;exact⟨_,q,rfl⟩);refine⟨.int .i64 (Z:Int),by simp[results,results48,go_sem,L],rfl,?_⟩;exact X.trans (belowK_b (w:=w) (zoZ _) W D _ _ (by have:=O.o;omega) q rfl rfl)
 case done=>
  rintro D xs W R rfl⟨h0,h1,⟨v,h2,hv⟩,U,X,Y⟩N;obtain rfl:v=(Z:Int):=zlr U hv an.o;have c2:=h2.cell 0;have c1:=h1.cell 0;have f1:=h1.frozen 0;have HK:=zz N;have I:=zz X;have Hd:=zz (show w.heap.size<=D by have:=O.o;omega);have H1:=zz h1;clear Y h0 h1 h2 hv U X N R k0 k1 k2 k3 ab
  gi_wp2
  have q:=(KeepsOthers.setCell W ⟨w.heap.size+1,0,none⟩ (.int .i64 (Z:Int))).same D _ HK.o rfl;refine⟨zp,.inl ⟨_,_,rfl,run_takeDeferred q,?_⟩⟩;have L:=cell_kept (show(W.setCell ⟨w.heap.size+1,0,none⟩ (.int .i64 (Z:Int))).cell? ⟨w.heap.size+1,0,none⟩=some (.int .i64 (Z:Int))from(H1.o.qE 0 (.int .i64 (Z:Int))).cell 0) (grownBy_putObj' _ D (.deferred none)) (fun r e=>by cases e;exact⟨_,q,rfl⟩);refine⟨.int .i64 (Z:Int),by simp[results,results48,go_sem,L],rfl,?_⟩;exact(I.o.setCell (by show w.heap.size<=w.heap.size+1;omega) _).trans (belowK_b (w:=w) (zoZ _) _ D _ _ Hd.o q rfl rfl)
 case body=>
  rintro l V x W q N;have HI:=zz q;obtain⟨h0,h1,⟨v,h2,hv⟩,U,X,ag⟩:=q;obtain⟨ak,L⟩:=N;have hL:bitsOf m=V++x::ak:=by rw[<-L];simp
  have ah:x∈bitsOf m:=by rw[hL];simp
  have ao:=ap.o x ah;have q:=HB.o.below X;have af:=H.o.below X;have Y:x<body.length:=by rw[q.len];exact ao
  have ad:body[x]? = some body[x]:=zo6 Y;have R:=q.step af x Y;obtain⟨b,o,rfl,aj,hr⟩:=q.rd.at Li.Yn x Y
  replace hr:W.rangeAt b (o+x*16) body[x].cells:=hr
  have d0:W.cell? ⟨b,o+x*16,none⟩=some (.int .i8 body[x].k):=by simpa using hr 0 _ rfl
  have e0:=af.r.cell 0;have c0:=h0.cell 0;generalize body[x]=y at *;have HV:Kz (posOf body V v):=hv;have ac:=zz ag;have ai:=zz U;have HL:=zz hL;have N:=zz ad;have aa:=zz R;have I:=zz X;have H0:=zz h0;have H1:=zz h1;have H2:=zz h2;have ar:nb<=24:=q.le;clear ag h0 h1 h2 hv U X L hL ah q af Y ad R aj hr ab k0 k1 k2 k3
  by_cases hk:y.k=1
  ·have L:Z3 body x:=⟨y,N.o,hk⟩;have ag:=zz L;have k1:(y.k==1)=true:=by simp[hk]
   have q:¬Zd body K x:=fun⟨z,R,X,_⟩=>by rw[N.o]at R;injection R with R;subst R;exact X hk
   have ad:Kz (∀i∈V++[x],¬Zd body K i):=fun i hi=>by rcases zo7.1 hi with h|h;exact ai.o i h;rw[zo2.1 h];exact q
   clear L hk q;have c2:=H2.o.cell 0;have U:=H2.o.frozen 0
   rcases zni HV.o with rfl |⟨i,rfl⟩
   ·gi_wp2
    exact⟨KeepsOthers.setCell _ _ _,Y2.zkr _ zd (by have:=ae.o;omega),H0.o.XQ (by show w.heap.size≠w.heap.size+1+1;omega) _,H1.o.XQ (by show w.heap.size+1≠w.heap.size+1+1;omega) _,⟨(x:Int),H2.o.qE 0 _,zjF HV.o ag.o⟩,ad.o,I.o.setCell (by show w.heap.size<=w.heap.size+1+1;omega) _,by simpa[World.setCell]using ac.o⟩
   ·have Y:decide ((i:Int)<0)=false:=zp
    gi_wp2
    exact⟨KeepsOthers.refl _,Y2.refl _,H0.o,H1.o,⟨(i:Int),H2.o,zjy HV.o⟩,ad.o,I.o,ac.o⟩
  ·have L:¬Z3 body x:=fun⟨z,R,X⟩=>by rw[N.o]at R;injection R with R;subst R;exact hk X
   have ag:=zz L;have Hk:=zz hk;have k1:(y.k==1)=false:=by simp[hk]
   clear L hk
   rcases hok:(stepOf K x y).isSome with _|_
   ·have q:¬Zd body K x:=fun⟨z,R,_,X⟩=>by rw[N.o]at R;injection R with R;subst R;rw[hok]at X;cases X
    have ad:Kz (∀i∈V++[x],¬Zd body K i):=fun i hi=>by rcases zo7.1 hi with h|h;exact ai.o i h;rw[zo2.1 h];exact q
    have af:=zz hok;clear hok q
    gi_wp2_with (refine⟨trivial,?_⟩;gi_at_call 49;refine(CallsIn.inRound l (callsIn_wide.2 aa.o)).mono ?_;rintro e w5⟨kk,kn,A5,U,n5,ah,rfl,L,-,Y⟩;obtain rfl:ah=false:=L.trans af.o;have aj:=zz Y;clear L Y)
    have q:=zbW (o:=.cells #[.int .i8 kk,.int .i64 (x:Int),.int .u32 (kn:Int),.slice A5 n5 U] 107) aj.o;exact⟨zdc q,Y2.xi q ac.o (by have:=ae.o;have:=I.o.size;omega),H0.o.below q,H1.o.below q,⟨v,H2.o.below q,zf2 HV.o ag.o⟩,ad.o,I.o.trans (q.mono I.o.size),zo0 ac.o q.size⟩
   ·have hx:Zd body K x:=⟨y,N.o,Hk.o,hok⟩;obtain rfl:x=Z:=ziM HL.o ai.o hx an.o;have af:=zz hok;clear hok hx
    gi_wp2_with (refine⟨trivial,?_⟩;gi_at_call 49;refine(CallsIn.inRound l (callsIn_wide.2 aa.o)).mono ?_;rintro e w5⟨kk,kn,A5,U,n5,ah,rfl,L,-,Y⟩;obtain rfl:ah=true:=L.trans af.o;have aj:=zz Y;have kx:=(H1.o.below Y).alloc (.cells #[.int .i8 kk,.int .i64 (x:Int),.int .u32 (kn:Int),.slice A5 n5 U] 107);have c1:=kx.cell 0;have f1:=kx.frozen 0;have HX:=zz kx;clear L Y kx)
    have q:=zbW (o:=.cells #[.int .i8 kk,.int .i64 (x:Int),.int .u32 (kn:Int),.slice A5 n5 U] 107) aj.o;exact⟨(zdc q).trans (KeepsOthers.setCell _ _ _),rfl,HX.o.qE 0 _,(I.o.trans (q.mono I.o.size)).setCell (by show w.heap.size<=w.heap.size+1;omega) _⟩
end
