/-
  What is worked out: what an expression comes to.
-/
import Derived.Test.YtfdickkdlcgicaaGreatDoorP26
set_option maxRecDepth 100000
set_option maxHeartbeats 8000000
set_option linter.all false
namespace Go.Proofs.YtfdickkdlcgicaaGreatDoor.C
open Go.Proofs.Tryz Go Go.RowKit Go.Maps Go.WideMaps
section
mutual
def Ex.may:Ex->Prop
 |.mk q t _ _ h=>-128<=q/\q<=127/\t.x.told/\h.length<=1048576/\Ex.Y8 h
def Ex.Y8:List Ex->Prop
 |[]=>True
 |e::h=>e.may/\Ex.Y8 h
end
theorem Ex.Y8.mem:∀{l:List Ex},Ex.Y8 l->∀e∈l,e.may
 |e::r,h,x,q=>by
  unfold Ex.Y8 at h
  rcases zpp.1 q with rfl|q
  ·exact h.1
  ·exact Ex.Y8.mem h.2 x q
theorem Ex.zdy:∀{l:List Ex}{e:Ex},e∈l->e.count<=Ex.XR l
 |y::l,e,h=>by
  show e.count<=y.count+Ex.XR l
  rcases zpp.1 h with rfl|h
  ·exact Nat.le_add_right _ _
  ·exact zpd (Ex.zdy h) (Nat.le_add_left _ _)
def zgx(c:Wc)(D:Nat->Prop)(L:Int)(q no:Nat)(w:World)(e:Ending)(w':World):Prop:=
 ∃(x:Th) (b:Bool) (h:Int),e=.returned (.tuple #[.agg x.cells.toArray,.bool b])/\x.qL/\q9 c D h q no w'/\zh (·=c.wb) w w'/\h<=L-1/\min L 0-1<=h/\(b=true->0<=h)
theorem JB(h:Array Value)(w:World)(g:Nat)(q:Array Value)(b:Bool)(N:h.getD 4 undef=.pointer (some ⟨g,0,none⟩))(O:h.getD 5 undef=.bool b)(R:w.heap[g]? = some (.cells q 277 (0,0)))(hi:(prog.info? 277).map (·.size)=some q.size):
 (results Tryz.f270 h).run prog w=.ok (.tuple #[.agg q,.bool b]) w:=by
 have I:h[4]?.getD undef=.pointer (some ⟨g,0,none⟩):=by simpa using N
 have r:h[5]?.getD undef=.bool b:=by simpa using O
 have L:=run_loadVar_row (P:=prog) w g 277 277 q (0,0) _ R underlying277 rfl hi;simp[results,results270,I,r,asAddr,L]
theorem zfE:∀(m:Nat)(x:Ex),x.count<=m->∀{c:Wc}{D:Nat->Prop}{L:Int}{nn no:Nat}{w:World},q9 c D L nn no w->nn<=4194303->-549755813888<=L->x.zO w->(x.yb fun g=>g≠c.wb)->x.may->
 Calls prog 270 #[.pointer (some ⟨c.eb,0,none⟩),.agg x.cells.toArray] w (zgx c D L nn no w):=by
 intro m
 induction m with
 |zero=>
  intro x r
  cases x
  unfold Ex.count at r;omega
 |succ m ih=>
  intro x r c D L nn no w h bs hL I U X;obtain⟨q,⟨v,⟨k,z,s⟩⟩,A,aJ,Z⟩:=x;have V:Ex.XR Z<=m:=by unfold Ex.count at r;omega
  unfold Ex.zO at I;unfold Ex.yb at U;unfold Ex.may at X;obtain⟨bC,bH,O,bo,R⟩:=X;have bd:=zz (fun(y:Ex) (X:y∈Z)=>@ih y (zpd (Ex.zdy X) V));have aa:=zz (zpf I.1 (zpf I.2.2 (zpf U R)));clear ih V I U R r;obtain⟨n,R⟩:∃n,Z.length=n:=⟨_,rfl⟩;have I:(Ex.mk q ⟨v,⟨k,z,s⟩⟩ A aJ Z).cells=[.int .i8 q,.string v,.int .i8 k,.int .i64 z,.string s,.slice A n aJ]:=by rw[<-R];rfl
  rw[R]at bo;rw[I];have Hn:=zz R;have aT:=zz O;have HW:=zz h;have bz:=h.lo;have bE:=h.hi;clear I R O h;obtain⟨W0,I,O⟩:=ya w 48 277 #[.int .i8 q,.string v,.int .i8 k,.int .i64 z,.string s,.slice A n aJ] #[.int .i8 0,.int .i64 0,.string ⟨#[]⟩,.string ⟨#[]⟩,.int .i64 0];have bq:=zz I;have HX:=zz O;have aH:=zz (HW.o.below O.below);obtain⟨N,H,bv,bt,bp,a8,R⟩:=aH.o.env;have e0:=R.zG.cell 0;have w0:=aH.o.work.cell 0;have bF:Kz (c.eb≠c.wb):=R.zG.yD aH.o.work zr;have V:=zz (zpf (HW.o.lt _ HW.o.Yt) (HW.o.lt _ HW.o.ZC));clear I O R;go_enter func270,ntmps270;go_upto_region 1 with fail
  rw[bq.o];go_upto_region 2 with(refine xy 3 _ _ rfl ?_;refine Xf zj 3 _ _ rfl c.wb 0 _ _ aH.o.work (.int .i64 (L-1)) rfl rfl zp (zo) rfl ?_;intro W1 a3;have aG:=zz a3;clear a3)
  clear e0 w0;have ab:=zz (show zD W1 c.wb 274 #[.int .i64 (L-1),.int .i64 c.zR,.int .i64 c.new,.map (some c.fb),.map (some c.tb)]from by have:=aG.o.zG;simpa using this);have aw:=zz (show zh (·=c.wb) w W1 from(zh.xi _ HX.o.below).trans aG.o.zC (fun x r _=>r));have ak:=zz (aG.o.qj HX.o.b0 (by have:=V.o.1;omega));have aI:=zz (aG.o.qj HX.o.b1 (by have:=V.o.1;omega));have Y:=zz (fun I R (O:zh (·=c.wb) w I) (hb:zD I c.wb 274 #[.int .i64 R,.int .i64 c.zR,.int .i64 c.new,.map (some c.fb),.map (some c.tb)]) h0 h1=>HW.o.ZU O hb h0 h1);have a4:=zz (Y.o W1 (L-1) aw.o ab.o zd (zd));obtain⟨N1,H1,bn,bi,a7,bm,I⟩:=a4.o.env;have e0:=I.zG.cell 0;have w0:=ab.o.cell 0;clear I
  by_cases bu:L-1<0
  ·go_wp2_with (refine xy 277 _ _ rfl ?_;refine Xu zj 277 _ _ rfl (w.heap.size+1) 0 _ _ aI.o [.int .i8 0,.int .i64 0,.string ⟨#[]⟩,.string ⟨#[]⟩,.int .i64 0] rfl rfl zp Xr zt ?_;intro W9 U;have I:=zz U;clear U)
   refine bodyPost_ret (v:=.tuple #[.agg #[.int .i8 0,.int .i64 0,.string ⟨#[]⟩,.string ⟨#[]⟩,.int .i64 0],.bool false]) (JB _ W9 (w.heap.size+1) _ false rfl rfl I.o.zG (by simpa using Xr)) rfl ?_;have R:zh (·=c.wb) w W9:=aw.o.trans I.o.zC (fun x r ai=>zd);exact⟨_,false,L-1,rfl,Th.T5,Y.o W9 (L-1) R (I.o.qj ab.o (by have:=V.o.1;omega)) zd (zd),R,zd,zd,fun h=>nomatch h⟩
  ·have b5:=ak.o.cell 5
   by_cases bk:n=0
   ·subst bk;have b1:=ak.o.cell 1;have b2:=ak.o.cell 2;have b3:=ak.o.cell 3;have b4:=ak.o.cell 4
    by_cases hv:v.toList=[]
    ·have k1:v.toList.isEmpty=true:=by simp[hv]
     have k2:(v.toList==([]:List UInt8))=true:=by simp[hv]
     go_wp2_with (refine xy 277 _ _ rfl ?_;refine Xu zj 277 _ _ rfl (w.heap.size+1) 0 _ _ aI.o [.int .i8 k,.int .i64 z,.string s,.string ⟨#[]⟩,.int .i64 0] rfl rfl zp Xr zt ?_;intro W9 U;have I:=zz U;clear U)
     refine bodyPost_ret (v:=.tuple #[.agg #[.int .i8 k,.int .i64 z,.string s,.string ⟨#[]⟩,.int .i64 0],.bool true]) (JB _ W9 (w.heap.size+1) _ true rfl rfl I.o.zG (by simpa using Xr)) rfl ?_;have R:zh (·=c.wb) w W9:=aw.o.trans I.o.zC (fun x r ai=>zd);exact⟨Vl.GI ⟨k,z,s⟩,true,L-1,rfl,aT.o.qL,Y.o W9 (L-1) R (I.o.qj ab.o (by have:=V.o.1;omega)) zd (zd),R,zd,zd,fun _=>zd⟩
    ·have k1:v.toList.isEmpty=false:=by simp[hv]
     have k2:(v.toList==([]:List UInt8))=false:=by simp[hv]
     have X:=zz (DL a4.o.env zd v)
     go_wp2_with (first
      |(go_at_call 209;refine X.o.mono ?_;rintro e w2⟨⟨rk,rn,rs,rm,rd⟩,rb,rfl,ah,ac⟩;have ad:=zz ac;have O:=zz ah;have ag:=zz (aI.o.below ac);clear ac ah;simp only[Th.cells])
      |(refine xy 277 _ _ rfl ?_;refine Xu zj 277 _ _ rfl (w.heap.size+1) 0 _ _ ag.o [.int .i8 rk,.int .i64 rn,.string rs,.string rm,.int .i64 rd] rfl rfl zp Xr zt ?_;intro W9 U;have I:=zz U;clear U))
     refine bodyPost_ret (v:=.tuple #[.agg #[.int .i8 rk,.int .i64 rn,.string rs,.string rm,.int .i64 rd],.bool rb]) (JB _ W9 (w.heap.size+1) _ rb rfl rfl I.o.zG (by simpa using Xr)) rfl ?_;have R:zh (·=c.wb) w W9:=(aw.o.trans (zh.xi (·=c.wb) ad.o) (fun x r _=>r)).trans I.o.zC (fun x r ai=>zd);exact⟨_,rb,L-1,rfl,O.o,Y.o W9 (L-1) R (I.o.qj (ab.o.below ad.o) (by have:=V.o.1;omega)) zd (zd),R,zd,zd,fun _=>zd⟩
   ·have bx:0<n:=zd;go_wp2;clear b5 e0 w0
    go_loopg[6,7,8,9] n (fun gk s6 s7 s8 s9 X=>∃(i:Nat) (L1:Int) (B:Option Addr) (zM:Nat) (l:List Th),i<=n/\gk=n-i/\s7=.int .i64 (i:Int)/\s6=.slice B i zM/\l.length=i/\Own Th.cells 277 5 X B zM l/\(∀g∈zw B,w.heap.size+2<=g)/\(∀x∈l,x.qL)/\0<=L1/\L1<=L-1/\
     zD X c.wb 274 #[.int .i64 L1,.int .i64 c.zR,.int .i64 c.new,.map (some c.fb),.map (some c.tb)]/\zD X w.heap.size 48 #[.int .i8 q,.string v,.int .i8 k,.int .i64 z,.string s,.slice A n aJ]/\zD X (w.heap.size+1) 277 #[.int .i8 0,.int .i64 0,.string ⟨#[]⟩,.string ⟨#[]⟩,.int .i64 0]/\zh (·=c.wb) w X)
    case atStart=>exact⟨0,L-1,none,0,[],zo5 _,rfl,rfl,rfl,rfl,Own.qC _,by simp[zw],zp,zd,zd,ab.o,ak.o,aI.o,aw.o⟩
    case round=>
     obtain⟨i,L1,B,zM,l,hi,rfl,rfl,rfl,hl,ae,af,ad,bg,bD,ac,X,aj,hC⟩:=hrel;have b5:=X.cell 5;have b0:=X.cell 0;have Hl:=zz hl;have aV:=zz ae;have aF:=zz af;have aR:=zz ad;have bl:=zz ac;have aL:=zz X;have ag:=zz aj;have HC:=zz hC;have aM:=zz (Y.o wr L1 hC ac zd (zd));clear hl ae af ad ac X aj hC
     by_cases ai:i<n
     ·have aj:i<Z.length:=by rw[Hn.o];exact ai
      have af:=aa.o.2.2.1.1 (fun e=>by rw[e]at aj;cases aj);obtain⟨b,o,rfl,ba,ad⟩:=(aa.o.1.kept HC.o af).at Ex.xF i aj;have a2:b≠c.wb:=af b (by simp[zw]);have X:=zo3 aj;have ac:=bd.o _ X aM.o bs zd ((Ex.qB.mem aa.o.2.1 _ X).YD HC.o (Ex.zaE.1 aa.o.2.2.1.2 _ X)) (Ex.zaE.1 aa.o.2.2.1.2 _ X) (Ex.Y8.mem aa.o.2.2.2 _ X);generalize Z[i]=y at ad ac;obtain⟨q3,⟨v3,⟨k3,z3,s3⟩⟩,A3,ae,au⟩:=y;obtain⟨p3,am⟩:∃p3,au.length=p3:=⟨_,rfl⟩;have al:(Ex.mk q3 ⟨v3,⟨k3,z3,s3⟩⟩ A3 ae au).cells=[.int .i8 q3,.string v3,.int .i8 k3,.int .i64 z3,.string s3,.slice A3 p3 ae]:=by rw[<-am];rfl
      rw[al]at ad ac;have bh:(prog.info? 48).map (·.size)=some [Value.int .i8 q3,.string v3,.int .i8 k3,.int .i64 z3,.string s3,.slice A3 p3 ae].length:=DP;have aP:=zz ac;have H5:Kz (∀W,zh (·=c.wb) wr W->W.cell? ⟨b,o+i*6+5,none⟩=some (.slice A3 p3 ae)):=fun W hW=>(hW.cell (p:=⟨b,o+i*6+5,none⟩) ba a2).trans (ad 5 _ rfl)
      have aW:=zz ad;clear ac al ad am X af aj;go_upto_region 13 with(first
       |(refine xV 48 _ rfl ?_;refine wpList_load_mid rfl 48 _ rfl b (o+i*6) rfl [.int .i8 q3,.string v3,.int .i8 k3,.int .i64 z3,.string s3,.slice A3 p3 ae] _ aW.o underlying48 rfl bh ?_)
       |(go_at_call 270;refine aP.o.mono ?_;rintro e w2⟨⟨rk,rn,rs,rm,rd⟩,rb,L2,rfl,ah,aZ,aX,bG,bI,a5⟩;have O:=zz ah;have bc:=zz aZ;have aQ:=zz aX;have bf:=zz a5;clear ah aZ aX a5 b5;simp only[Th.cells])
       |(refine xy 277 _ _ rfl ?_;refine XE zj 277 _ _ rfl _ [.int .i8 rk,.int .i64 rn,.string rs,.string rm,.int .i64 rd] rfl rfl zp Xr zt ?_;intro W3 a6;have am:=zz a6;clear a6))
      clear b0;have bB:=HX.o.size;have bA:=HC.o.size;have bw:=aQ.o.size;have br:=aL.o.lt;have a9:=ag.o.lt;have aO:=zz (show zh (·=c.wb) w W3 from(HC.o.trans aQ.o (fun x r _=>r)).trans (zh.xi (·=c.wb) am.o.below) (fun x r _=>r));have aj:Kz (zh (·=c.wb) wr W3):=aQ.o.trans (zh.xi (·=c.wb) am.o.below) (fun x r _=>r);have av:=zz (bc.o.work.below am.o.below);have ap:=zz (aL.o.zC aj.o (by have:=V.o.1;omega));have aC:=zz (ag.o.zC aj.o (by have:=V.o.1;omega))
      cases rb with
      |false=>
       go_wp2_with (refine xy 277 _ _ rfl ?_;refine Xu zj 277 _ _ rfl (w.heap.size+1) 0 _ _ aC.o [.int .i8 0,.int .i64 0,.string ⟨#[]⟩,.string ⟨#[]⟩,.int .i64 0] rfl rfl zp Xr zt ?_;intro W9 U;have I:=zz U;clear U)
       refine bodyPost_ret (v:=.tuple #[.agg #[.int .i8 0,.int .i64 0,.string ⟨#[]⟩,.string ⟨#[]⟩,.int .i64 0],.bool false]) (JB _ W9 (w.heap.size+1) _ false rfl rfl I.o.zG (by simpa using Xr)) rfl ?_;have R:zh (·=c.wb) w W9:=aO.o.trans I.o.zC (fun x r ai=>zd);exact⟨_,false,L2,rfl,Th.T5,Y.o W9 L2 R (I.o.qj av.o (by have:=V.o.1;omega)) zd (zd),R,zd,zd,fun h=>nomatch h⟩
      |true=>
       have aY:=bf.out rfl;have k5:=H5.o W3 aj.o;have f5:=ap.o.cell 5;have d4:=am.o.b0.cell 4;have aK:Kz (Own Th.cells 277 5 W3 B zM l):=aV.o.zC aj.o (fun g hg e=>by have:=aF.o g hg;have:=V.o.1;omega)
       by_cases bJ:0<p3
       ·go_upto_region 17 with(refine xy 3 _ _ rfl ?_;refine Xf zj 3 _ _ rfl w2.heap.size 4 _ _ am.o.b0 (.int .i64 _) rfl rfl zp (zo) rfl ?_;intro W4 a1;have al:=zz a1;clear a1)
        obtain⟨dd,aA⟩:∃dd,wrap64 (rd-1)=dd:=⟨_,rfl⟩;have ac:zD W4 w2.heap.size 277 #[.int .i8 rk,.int .i64 rn,.string rs,.string rm,.int .i64 dd]:=by have:=al.o.zG;rw[<-aA];simpa using this
        have X:=zz ac;have aE:=zz (al.o.own aK.o (fun g hg e=>by have:=aV.o.lt g hg;omega));have ar:=zz (al.o.qj av.o (by have:=V.o.1;omega));have ao:=zz (al.o.qj ap.o zd);have af:=zz (al.o.qj aC.o zd);have aB:Kz (zh (·=c.wb) w W4):=aO.o.trans al.o.zC (fun x r aN=>zd);clear k5 d4 f5 ac aA;have d0:=X.o.cell 0;have d1:=X.o.cell 1;have d2:=X.o.cell 2;have d3:=X.o.cell 3;have d4:=X.o.cell 4
        go_wp2_with (at_builtin;refine ZG U8 (f:=Th.cells) (xs:=l) (aE.o.alloc _) Hl.o ⟨rk,rn,rs,rm,dd⟩ ?_)
        intro g an w6 az ax aD;have ay:zh (·∈zw B) W4 w6:=((zh.refl _ _).alloc _).trans ax (fun x r _=>r);have bj:=aB.o.size;have aq:w.heap.size+2<=g:=by
         rcases aD with h|h
         ·exact aF.o g h
         ·try simp at h
          have:=af.o.lt;omega
        have aU:=zz az;have ac:=zz ay;have aS:=zz aq;have ad:Kz (∀x,x<w.heap.size+2->¬x∈zw B):=fun x r h=>by have:=aF.o x h;omega
        clear az ax aD ay aq d0 d1 d2 d3 d4;go_wp2
        go_roundg (n-(i+1))
        case measure=>omega
        case rel=>
         have be:=V.o.1;exact⟨i+1,L2,some ⟨g,0,none⟩,an,l++[⟨rk,rn,rs,rm,dd⟩],ai,rfl,ze,rfl,by simp[Hl.o],aU.o,xW aS.o,fun x r=>by
          rcases zo7.1 r with r|r
          ·exact aR.o x r
          ·rw[zo2.1 r];exact⟨O.o.k0,O.o.k1,O.o.n0,O.o.n1,O.o.s,O.o.made⟩,aY,zd,
          ar.o.zC ac.o (ad.o _ zd),ao.o.zC ac.o (ad.o _ zd),af.o.zC ac.o (ad.o _ zd),aB.o.trans ac.o (fun x r aN=>absurd r (ad.o _ zd))⟩
       ·go_upto_region 17 with fail
        obtain⟨dd,aA⟩:∃dd,rd=dd:=⟨_,rfl⟩;have X:=zz (show zD W3 w2.heap.size 277 #[.int .i8 rk,.int .i64 rn,.string rs,.string rm,.int .i64 dd]from aA▸am.o.b0);have aE:=zz aK.o;have ar:=zz av.o;have ao:=zz ap.o;have af:=zz aC.o;have aB:=zz aO.o;clear k5 d4 f5 aA;have d0:=X.o.cell 0;have d1:=X.o.cell 1;have d2:=X.o.cell 2;have d3:=X.o.cell 3;have d4:=X.o.cell 4
        go_wp2_with (at_builtin;refine ZG U8 (f:=Th.cells) (xs:=l) (aE.o.alloc _) Hl.o ⟨rk,rn,rs,rm,dd⟩ ?_)
        intro g an w6 az ax aD;have ay:zh (·∈zw B) W3 w6:=((zh.refl _ _).alloc _).trans ax (fun x r _=>r);have bj:=aB.o.size;have aq:w.heap.size+2<=g:=by
         rcases aD with h|h
         ·exact aF.o g h
         ·try simp at h
          have:=af.o.lt;omega
        have aU:=zz az;have ac:=zz ay;have aS:=zz aq;have ad:Kz (∀x,x<w.heap.size+2->¬x∈zw B):=fun x r h=>by have:=aF.o x h;omega
        clear az ax aD ay aq d0 d1 d2 d3 d4;go_wp2
        go_roundg (n-(i+1))
        case measure=>omega
        case rel=>
         have be:=V.o.1;exact⟨i+1,L2,some ⟨g,0,none⟩,an,l++[⟨rk,rn,rs,rm,dd⟩],ai,rfl,ze,rfl,by simp[Hl.o],aU.o,xW aS.o,fun x r=>by
          rcases zo7.1 r with r|r
          ·exact aR.o x r
          ·rw[zo2.1 r];exact⟨O.o.k0,O.o.k1,O.o.n0,O.o.n1,O.o.s,O.o.made⟩,aY,zd,
          ar.o.zC ac.o (ad.o _ zd),ao.o.zC ac.o (ad.o _ zd),af.o.zC ac.o (ad.o _ zd),aB.o.trans ac.o (fun x r aN=>absurd r (ad.o _ zd))⟩
     ·obtain rfl:i=n:=zd;have ao:=Lib.itoa_length_le q zd (zd);have al:=zz (Tv wr aM.o.pw q zd (zd));have am:=zz (fun W (hW:Bl wr W)=>zkz W (aM.o.pw.below hW) ⟨(Lib.itoa q).toArray⟩ (by show(Lib.itoa q).toArray.size<=_;simp;omega) B zM i l (aV.o.xI.below hW) Hl.o zd aR.o);generalize Lib.itoa q=iq at *;have an:IntKind.i64.wrap q=q:=wrap_i64 zd (zd)
      go_wp2_with (first
       |(go_at_call 211;refine al.o.mono ?_;rintro e w4⟨rfl,aj⟩;have ad:=zz aj;clear aj)
       |(go_at_call 210;refine(am.o _ ad.o).mono ?_;rintro e w5⟨⟨rk,rn,rs,rm,rd⟩,rfl,ah,af⟩;have ac:=zz (zu ad.o af);have O:=zz ah;clear af ah;have X:=ag.o.below ac.o;have ae:=zz X;clear X;simp only[Th.cells])
       |(refine xy 277 _ _ rfl ?_;refine Xu zj 277 _ _ rfl (w.heap.size+1) 0 _ _ ae.o [.int .i8 rk,.int .i64 rn,.string rs,.string rm,.int .i64 rd] rfl rfl zp Xr zt ?_;intro W9 U;have I:=zz U;clear U))
      refine bodyPost_ret (v:=.tuple #[.agg #[.int .i8 rk,.int .i64 rn,.string rs,.string rm,.int .i64 rd],.bool true]) (JB _ W9 (w.heap.size+1) _ true rfl rfl I.o.zG (by simpa using Xr)) rfl ?_;have R:zh (·=c.wb) w W9:=(HC.o.trans (zh.xi (·=c.wb) ac.o) (fun x r _=>r)).trans I.o.zC (fun x r aN=>zd);exact⟨_,true,L1,rfl,O.o,Y.o W9 L1 R (I.o.qj (bl.o.below ac.o) (by have:=V.o.1;omega)) zd (zd),R,zd,zd,fun _=>bg⟩
end
