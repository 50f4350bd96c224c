/-
  What is worked out: variables that stand alone on a side of 
-/
import Derived.Test.YtfdickkdlcgicaaGreatDoorQ27
set_option maxRecDepth 100000
set_option maxHeartbeats 8000000
set_option linter.all false
namespace Go.Proofs.YtfdickkdlcgicaaGreatDoor.C
open Go.Proofs.Tryz Go Go.RowKit Go.Maps Go.WideMaps
variable {D:Nat->Prop}{w:World}
section
structure Vb (D:Nat->Prop) (w:World) (B:Option Addr) (body:List Li):Prop where
 rd:zZ Li.cells w B body
 off:qV (fun g=>¬D g/\g<w.heap.size) B
 zN:∀x∈body,x.zN w
 XO:∀x∈body,x.yh fun g=>¬D g/\g<w.heap.size
 may:∀x∈body,x.l.may/\x.r.may/\x.a.args.length<=1048576/\x.a.p.size<=1048576/\∀t∈x.a.args,t.x.told
theorem Vb.after{N:Nat->Prop}{w':World}{B:Option Addr}{body:List Li}(h:Vb D w B body)(I:xB D w w' N):Vb N w' B body:=by
 have O:∀g,(¬D g/\g<w.heap.size)->¬N g/\g<w'.heap.size:=fun g q=>⟨fun L=>(I.2 g L).elim q.1 fun h=>zd,zpz q.2 I.1.size⟩
 exact⟨h.rd.kept I.1 fun g q=>(h.off g q).1,fun g q=>O g (h.off g q),fun x L=>(h.zN x L).YO I.1 ((h.XO x L).mono fun g q=>q.1),fun x L=>(h.XO x L).mono O,h.may⟩
def znJ(c:Wc)(D:Nat->Prop)(L:Int)(N no:Nat)(w:World)(e:Ending)(w':World):Prop:=
 ∃(q:Int) (h:Nat) (I:Nat->Prop),e=.returned (.tuple #[])/\yg c I q h no w'/\xB D w w' I/\q<=L/\min L 0-200<=q/\N<=h
theorem zgF{c:Wc}{L:Int}{nn no:Nat}(h:yg c D L nn no w)(cp:nn<=2097152)(cm:-549755000000<=L)(co:L<=1000000)(B:Option Addr)(zM nb:Nat)(body:List Li)(hb:Vb D w B body)(hn:body.length=nb)(cr:nb<=16):
 Calls prog 246 #[.pointer (some ⟨c.eb,0,none⟩),.slice B nb zM] w (znJ c D L nn no w):=by
 have HW:=zz h;have bT:=zz hb;have Hn:=zz hn;clear h hb hn;go_enter func246,ntmps246;go_wp2
 go_loopg[4] (2*(L-(min L 0-200)).toNat+1) (fun gk s4 X=>∃(ag:Bool) (L1:Int) (n1:Nat) (D1:Nat->Prop),s4=.bool ag/\gk=2*(L1-(min L 0-200)).toNat+(if ag=true then 1 else 0)/\yg c D1 L1 n1 no X/\xB D w X D1/\L1<=L/\min L 0-96<=L1/\(ag=true->-48<=L1\/L1=L)/\(n1:Int)+L1<=nn+L/\nn<=n1)
 case atStart=>exact⟨true,L,nn,D,rfl,rfl,HW.o,xB.refl _ _,zd,zd,fun _=>.inr rfl,zd,zpx _⟩
 case round=>
  obtain⟨ag,L1,n1,D1,rfl,O,q,R,bg,ck,I,bQ,aS⟩:=hrel;have bj:=zz q;have aW:=zz R;have bP:=zz O;have b7:=zz I;clear q R O I
  cases ag with
  |false=>
   go_wp2;go_end0;exact⟨L1,n1,D1,rfl,bj.o,aW.o,bg,zd,aS⟩
  |true=>
   have b2:=zz (bT.o.after aW.o);obtain⟨W1,rfl⟩:∃W1,W1=wr:=⟨_,rfl⟩;go_wp2
   go_loopg[4,5] nb (fun q s4 I X=>∃(ag:Bool) (i:Nat) (L2:Int) (n2:Nat) (Y:Nat->Prop),s4=.bool ag/\I=.int .i64 (i:Int)/\i<=nb/\q=nb-i/\yg c Y L2 n2 no X/\xB D1 W1 X Y/\L2+i<=L1/\min L1 0-3*i<=L2/\(ag=true->-(3*(i:Int))<=L2/\1<=i)/\(n2:Int)+L2<=nn+L/\nn<=n2)
   case atStart=>exact⟨false,0,L1,n1,D1,rfl,rfl,zpD _,rfl,bj.o,xB.refl _ _,zd,zd,(fun h=>nomatch h),bQ,aS⟩
   case round=>
    obtain⟨ag,i,L2,n2,Y,rfl,rfl,hi,rfl,O,I,cl,cg,q,bn,an⟩:=hrel;have az:=zz O;have a6:=zz I;have aG:=zz q;clear O I q
    by_cases a4:i<nb
    ·have aM:=zz (b2.o.after a6.o);have Z:i<body.length:=by rw[Hn.o];exact a4
     obtain⟨b,o,rfl,bW,R⟩:=aM.o.rd.at Li.xG i Z;have O:=zpB Z;have au:=zz (aM.o.zN _ O);have ax:=zz (aM.o.XO _ O);have aC:=zz (aM.o.may _ O);generalize body[i]=x at R au ax aC;obtain⟨k,⟨p,aA,ap,bm⟩,rl,⟨q1,⟨v1,⟨k1,z1,s1⟩⟩,A1,q,ah⟩,⟨q2,⟨v2,⟨k2,z2,s2⟩⟩,A2,I,ai⟩⟩:=x;obtain⟨na,aa⟩:∃n,bm.length=n:=⟨_,rfl⟩;obtain⟨m1,ab⟩:∃n,ah.length=n:=⟨_,rfl⟩;obtain⟨m2,ac⟩:∃n,ai.length=n:=⟨_,rfl⟩;have V:(Ex.mk q1 ⟨v1,⟨k1,z1,s1⟩⟩ A1 q ah).cells=[.int .i8 q1,.string v1,.int .i8 k1,.int .i64 z1,.string s1,.slice A1 m1 q]:=by rw[<-ab];rfl
     have U:(Ex.mk q2 ⟨v2,⟨k2,z2,s2⟩⟩ A2 I ai).cells=[.int .i8 q2,.string v2,.int .i8 k2,.int .i64 z2,.string s2,.slice A2 m2 I]:=by rw[<-ac];rfl
     simp only[Li.cells,V,U,aa,zpJ,zpI]at R;have aE:(prog.info? 50).map (·.size)=some [Value.int .i8 k,.string p,.slice aA na ap,.int .i8 rl,.int .i8 q1,.string v1,.int .i8 k1,.int .i64 z1,.string s1,.slice A1 m1 q,.int .i8 q2,.string v2,.int .i8 k2,.int .i64 z2,.string s2,.slice A2 m2 I].length:=Dw;have bD:=zz R;have bf:=zz (zpG V U);clear R aa ab ac V U O Z;go_upto_region 7 with(first
      |(refine xW 50 _ rfl ?_;refine wpList_load_mid rfl 50 _ rfl b (o+i*16) rfl [.int .i8 k,.string p,.slice aA na ap,.int .i8 rl,.int .i8 q1,.string v1,.int .i8 k1,.int .i64 z1,.string s1,.slice A1 m1 q,.int .i8 q2,.string v2,.int .i8 k2,.int .i64 z2,.string s2,.slice A2 m2 I] _ bD.o underlying50 rfl aE ?_)
      |(refine xy 50 _ _ rfl ?_;refine XP zj 50 _ _ rfl _ [.int .i8 k,.string p,.slice aA na ap,.int .i8 rl,.int .i8 q1,.string v1,.int .i8 k1,.int .i64 z1,.string s1,.slice A1 m1 q,.int .i8 q2,.string v2,.int .i8 k2,.int .i64 z2,.string s2,.slice A2 m2 I] rfl rfl zp aE zt ?_;intro W3 ao;have aJ:=zz ao;clear ao))
     have al:=zz (az.o.below aJ.o.below);obtain⟨N3,H3,bR,ce,bN,b1,O⟩:=al.o.env;have e0:=O.zH.cell 0;have w0:=al.o.work.cell 0;have bl:=az.o.lo;clear O;go_upto_region 8 with(refine xy 3 _ _ rfl ?_;refine Xq zj 3 _ _ rfl c.wb 0 _ _ al.o.work (.int .i64 (L2-1)) rfl rfl zp (zo) rfl ?_;intro W4 bp;have aw:=zz bp;clear bp)
     clear e0 w0;have bw:=az.o.lt _ az.o.YB;have ak:=zz (al.o.Z7 aw.o.zC (L':=L2-1) (by have:=aw.o.zH;simpa using this) zd (zd));have bc:=zz (show xB D1 W1 W4 Y from a6.o.trans ((xB.below aJ.o.below).trans ⟨aw.o.zC.mono fun g R _=>R▸al.o.YB,fun g R=>.inl R⟩));have bI:=zz (show xB Y wr W4 Y from(xB.below aJ.o.below).trans ⟨aw.o.zC.mono fun g R _=>R▸al.o.YB,fun g R=>.inl R⟩);have V:=zz (aw.o.qj aJ.o.b0 zd);have b0:=V.o.cell 0;obtain⟨N4,H4,bX,cc,bO,ca,O⟩:=ak.o.env;have e0:=O.zH.cell 0;have w0:=ak.o.work.cell 0;clear O
     by_cases cd:k=3/\0<=L2-1
     ·obtain⟨rfl,cj⟩:=cd;have c4:=V.o.cell 4;have c5:=V.o.cell 5;have c6:=V.o.cell 6;have c7:=V.o.cell 7;have c8:=V.o.cell 8;have c9:=V.o.cell 9;have aa:=V.o.cell 10;have ac:=V.o.cell 11;have ae:=V.o.cell 12;have ab:=V.o.cell 13;have Z:=V.o.cell 14;have ad:=V.o.cell 15;obtain⟨W5,U,O⟩:=xi W4 408 #[.int .i8 q1,.string v1,.int .i8 k1,.int .i64 z1,.string s1,.slice A1 m1 q,.int .i8 q2,.string v2,.int .i8 k2,.int .i64 z2,.string s2,.slice A2 m2 I,.int .i8 q2,.string v2,.int .i8 k2,.int .i64 z2,.string s2,.slice A2 m2 I,.int .i8 q1,.string v1,.int .i8 k1,.int .i64 z1,.string s1,.slice A1 m1 q];have bS:=zz U;have am:=zz O;clear U O;go_upto_region 10 with fail
      clear c4 c5 c6 c7 c8 c9 aa ac ae ab Z ad;clear b0 e0 w0;rw[bS.o];have a3:=zz (fun(j:Nat) (hj:j<2)=>show ∃(yq:Int) (yv:ByteArray) (yk yn:Int) (ys:ByteArray) (yA:Option Addr) (ym ad:Nat) (z:Ex) (zq:Int) (zv:ByteArray) (zk zn:Int) (zs:ByteArray) (zA:Option Addr) (zm aa:Nat),z.cells=[.int .i8 zq,.string zv,.int .i8 zk,.int .i64 zn,.string zs,.slice zA zm aa]/\
       W5.rangeAt W4.heap.size (j*12) [.int .i8 yq,.string yv,.int .i8 yk,.int .i64 yn,.string ys,.slice yA ym ad,.int .i8 zq,.string zv,.int .i8 zk,.int .i64 zn,.string zs,.slice zA zm aa]/\z.zN wr/\(z.yh fun g=>¬Y g/\g<wr.heap.size)/\z.may from by
       have hr:=am.o.b0.range;have ab:j=0\/j=1:=zd
       rcases ab with rfl|rfl
       ·exact⟨q1,v1,k1,z1,s1,A1,m1,q,.mk q2 ⟨v2,⟨k2,z2,s2⟩⟩ A2 I ai,q2,v2,k2,z2,s2,A2,m2,I,bf.o.2,by simpa using Ub hr 0 12,au.o.r,ax.o.2.2,aC.o.2.1⟩
       ·exact⟨q2,v2,k2,z2,s2,A2,m2,I,.mk q1 ⟨v1,⟨k1,z1,s1⟩⟩ A1 q ah,q1,v1,k1,z1,s1,A1,m1,q,bf.o.1,by simpa using Ub hr 12 12,au.o.l,ax.o.2.1,aC.o.1⟩)
      have bL:=zz (ak.o.below am.o.below);have cb:Kz (xB D1 W1 W5 Y):=bc.o.trans (xB.below am.o.below);have bt:Kz (xB Y wr W5 Y):=bI.o.trans (xB.below am.o.below);have bz:=zz (show W4.heap.size<W5.heap.size/\¬Y W4.heap.size from⟨am.o.b0.lt,fun O=>by have:=ak.o.lt _ O;omega⟩);clear bl bw bW aE;obtain⟨Wl,rfl⟩:∃Wl,Wl=wr:=⟨_,rfl⟩
      go_loopg[4,60] 2 (fun O s4 U X=>∃(af:Bool) (j:Nat) (L3:Int) (n3:Nat) (D3:Nat->Prop),s4=.bool af/\U=.int .i64 (j:Int)/\j<=2/\O=2-j/\yg c D3 L3 n3 no X/\xB Y W5 X D3/\L3<=L2-1/\-(j:Int)<=L3/\(n3:Int)+L3<=nn+L/\nn<=n3)
      case atStart=>exact⟨ag,0,L2-1,n2,Y,rfl,rfl,zd,rfl,bL.o,xB.refl _ _,zd,zd,zd,an⟩
      case round=>
       obtain⟨af,j,L3,n3,D3,rfl,rfl,hj,rfl,O,U,cf,ci,ac,Z⟩:=hrel;have a7:=zz O;have ae:=zz U;clear O U
       by_cases ab:j<2
       ·obtain⟨yq,yv,yk,yn,ys,yA,ym,ad,z,zq,zv,zk,zn,zs,zA,zm,aa,aj,U,aq,ar,X⟩:=a3.o j ab;have Hz:=zz (zpG aj (zpG aq (zpG ar X)));have O:wr.rangeAt W4.heap.size (j*12) _:=UE U bz.o.1 ae.o.1 bz.o.2;have bo:=zz O;have aT:(prog.info? 408).map (·.size)=some [Value.int .i8 yq,.string yv,.int .i8 yk,.int .i64 yn,.string ys,.slice yA ym ad,.int .i8 zq,.string zv,.int .i8 zk,.int .i64 zn,.string zs,.slice zA zm aa].length:=zo;clear aj U aq ar X O;go_upto_region 12 with(first
         |(refine xW 408 _ rfl ?_;refine wpList_load_mid rfl 408 _ rfl W4.heap.size (j*12) rfl [.int .i8 yq,.string yv,.int .i8 yk,.int .i64 yn,.string ys,.slice yA ym ad,.int .i8 zq,.string zv,.int .i8 zk,.int .i64 zn,.string zs,.slice zA zm aa] _ bo.o underlying408 rfl aT ?_)
         |(refine xy 408 _ _ rfl ?_;refine XP zj 408 _ _ rfl _ [.int .i8 yq,.string yv,.int .i8 yk,.int .i64 yn,.string ys,.slice yA ym ad,.int .i8 zq,.string zv,.int .i8 zk,.int .i64 zn,.string zs,.slice zA zm aa] rfl rfl zp aT zt ?_;intro W6 bd;have av:=zz bd;clear bd))
        have aI:=zz av.o.below;have aQ:=zz (a7.o.below av.o.below);have t1:=av.o.b0.cell 1;have t5:=av.o.b0.cell 5
        by_cases cn:0<ym
        ·
         go_wp2
         go_roundg (2-(j+1))
         case measure=>omega
         case rel=>exact⟨af,j+1,L3,n3,D3,rfl,ze,ab,rfl,aQ.o,ae.o.trans (xB.below aI.o),zd,zd,ac,Z⟩
        ·by_cases aO:yv.toList=[]
         ·have k1:yv.toList.isEmpty=true:=by simp[aO]
          have k2:(yv.toList==([]:List UInt8))=true:=by simp[aO]
          go_wp2
          go_roundg (2-(j+1))
          case measure=>omega
          case rel=>exact⟨af,j+1,L3,n3,D3,rfl,ze,ab,rfl,aQ.o,ae.o.trans (xB.below aI.o),zd,zd,ac,Z⟩
         ·have k1:yv.toList.isEmpty=false:=by simp[aO]
          have k2:(yv.toList==([]:List UInt8))=false:=by simp[aO]
          by_cases bG:yv.toList=[95]
          ·have k3:(yv.toList==[95])=true:=by simp[bG]
           go_wp2
           go_roundg (2-(j+1))
           case measure=>omega
           case rel=>exact⟨af,j+1,L3,n3,D3,rfl,ze,ab,rfl,aQ.o,ae.o.trans (xB.below aI.o),zd,zd,ac,Z⟩
          ·have k3:(yv.toList==[95])=false:=by simp[bG]
           have aX:=zz (zab aQ.o.env zd yv);go_upto_region 15 with(first
            |(go_at_call 209;refine aX.o.mono ?_;rintro e w7⟨⟨rk,rn,rs,rm,rd⟩,rb,rfl,bZ,a9⟩;have bv:=zz a9;have b6:=zz (zl aI.o a9);clear a9 bZ;simp only[Th.cells])
            |(refine xy 277 _ _ rfl ?_;refine XP zj 277 _ _ rfl _ [.int .i8 rk,.int .i64 rn,.string rs,.string rm,.int .i64 rd] rfl rfl zp XD zt ?_;intro W8 bC;have bA:=zz bC;clear bC))
           have aN:=zz (zl b6.o bA.o.below);have a5:=zz (a7.o.below aN.o);clear t1 t5
           cases rb with
           |true=>
            go_wp2
            go_roundg (2-(j+1))
            case measure=>omega
            case rel=>exact⟨af,j+1,L3,n3,D3,rfl,ze,ab,rfl,a5.o,ae.o.trans (xB.below aN.o),zd,zd,ac,Z⟩
           |false=>
            have O:=(av.o.b0.below bv.o).below bA.o.below;have t6:=O.cell 6;have t7:=O.cell 7;have t8:=O.cell 8;have t9:=O.cell 9;have ar:=O.cell 10;have aq:=O.cell 11;have aj:zh Y Wl W8:=(bt.o.1.trans ae.o.1 (fun x X _=>X)).trans (zh.xj Y aN.o) (fun x X _=>X);have U:=zgf z.count z (zpx _) a5.o zd (zd) (Hz.o.2.1.YO aj (Hz.o.2.2.1.mono fun g R=>R.1)) (Ex.yh.mono (Q':=fun g=>g≠c.wb) (fun g R (e:g=c.wb)=>R.1 (e▸ak.o.YB)) Hz.o.2.2.1) Hz.o.2.2.2;rw[Hz.o.1]at U;have b3:=zz U;clear O aj U;go_upto_region 17 with(first
             |(go_at_call 270;refine b3.o.mono ?_;rintro e w9⟨⟨xk,xn,xs,xm,xd⟩,rb,L4,rfl,bh,bq,bx,cq,ct,bF⟩;have b4:=zz bh;have aF:=zz bq;have bV:=zz bx;have b9:=zz bF;clear bh bq bx bF;simp only[Th.cells])
             |(refine xy 277 _ _ rfl ?_;refine XP zj 277 _ _ rfl _ [.int .i8 xk,.int .i64 xn,.string xs,.string xm,.int .i64 xd] rfl rfl zp XD zt ?_;intro W3 ao;have aj:=zz ao;clear ao))
            clear t6 t7 t8 t9 ar aq;have ar:=zz (aF.o.below aj.o.below);have aR:=zz (show xB Y W5 W3 D3 from ae.o.trans ((xB.below aN.o).trans ((show xB D3 W8 w9 D3 from⟨bV.o.mono fun g R _=>R▸a5.o.YB,fun g R=>.inl R⟩).trans (xB.below aj.o.below))))
            cases rb with
            |false=>
             go_wp2
             go_roundg (2-(j+1))
             case measure=>omega
             case rel=>exact⟨af,j+1,L4,n3,D3,rfl,ze,ab,rfl,ar.o,aR.o,zd,zd,zd,Z⟩
            |true=>
             have cs:=b9.out rfl;obtain⟨N,H,ch,aq,aH,ay,O⟩:=ar.o.env;have He:=zz O;have e1:=O.zH.cell 1;have aU:∀g∈zw N,g≠c.eb:=X0 O.XU O.zH zr;have aL:∀g∈zw H,g≠c.eb:=X0 O.xV O.zH zr;have aP:∀g∈zw N,g∉zw H:=fun g R U=>O.XU.ZU O.xV zr g R U
             have aD:∀g∈zw N,g<w9.heap.size:=fun g R=>aF.o.lt g (O.nD g R)
             have aB:∀g∈zw H,g<w9.heap.size:=fun g R=>aF.o.lt g (O.hD g R)
             have aK:c.eb<w9.heap.size:=aF.o.lt _ aF.o.ZL;have U:=zz (zpG aU (zpG aL (zpG aP (zpG aD (zpG aB aK)))));have bk:=zz aj.o.below.size;clear O aU aL aP aD aB aK;go_upto_region 19 with(first
              |(at_builtin;refine ZP Vh (f:=xD) (xs:=aH) (He.o.XU.alloc _) He.o.Z0 yv ?_;intro g1 q w5 ba bs bM;have bB:=zz (show zh (·∈zw N) W3 w5 from((zh.refl _ W3).alloc _).trans bs (fun x X _=>X));have b5:=zz ba;have aZ:Kz (g1∈zw N\/W3.heap.size<=g1):=bM.imp id (fun h=>by simp at h;omega);have bU:=zz (He.o.zH.zC bB.o (fun h=>U.o.1 _ h rfl));clear ba bs bM e1)
              |(refine xy 86 _ _ rfl ?_;refine Xq zj 86 _ _ rfl c.eb 1 _ _ bU.o (.slice (some ⟨g1,0,none⟩) (n3+1) q) rfl rfl zp (zo) rfl ?_;intro O bE;have a8:=zz bE;clear bE))
             have aB:zh (fun g=>g=c.eb\/g∈zw N) W3 O:=(bB.o.mono (S':=fun g=>g=c.eb\/g∈zw N) fun x X _=>.inr X).trans a8.o.zC (fun x X _=>.inl X);have aD:zD O c.eb 352 #[.pointer (some ⟨c.wb,0,none⟩),.slice (some ⟨g1,0,none⟩) (n3+1) q,.slice H n3 aq]:=by have:=a8.o.zH;simpa using this
             have aL:Own xD 9 1 O (some ⟨g1,0,none⟩) q (aH++[yv]):=a8.o.own b5.o (xY (fun e=>by
              rcases aZ.o with h|h
              ·exact U.o.1 _ h e
              ·have:=U.o.2.2.2.2.2;have:=bk.o;omega))
             have aY:Own Th.cells 277 5 O H aq ay:=He.o.xV.zC aB (fun g R h=>by
              rcases h with h|h
              ·exact U.o.2.1 _ R h
              ·exact U.o.2.2.1 _ h R)
             have a1:g1∉zw H:=fun h=>by
              rcases aZ.o with h1|h1
              ·exact U.o.2.2.1 _ h1 h
              ·have:=U.o.2.2.2.2.1 _ h;have:=bk.o;omega
             have a2:zD O w9.heap.size 277 #[.int .i8 xk,.int .i64 xn,.string xs,.string xm,.int .i64 xd]:=aj.o.b0.zC aB (fun e=>by
              rcases e with e|e
              ·have:=U.o.2.2.2.2.2;omega
              ·have:=U.o.2.2.2.1 _ e;omega)
             have aV:=zz aD;have be:=zz aB;have bi:=zz aL;have b8:=zz aY;have bY:=zz a1;have aU:=aD.lt;have aP:=zz (show ∀W,zh (fun g=>g=c.eb\/g∈zw H) O W->W.cell? ⟨w9.heap.size,0,none⟩=some (.int .i8 xk)/\W.cell? ⟨w9.heap.size,1,none⟩=some (.int .i64 xn)/\W.cell? ⟨w9.heap.size,2,none⟩=some (.string xs)/\W.cell? ⟨w9.heap.size,3,none⟩=some (.string xm)/\W.cell? ⟨w9.heap.size,4,none⟩=some (.int .i64 xd)from fun W hW=>by
              have hb:=a2.zC hW (fun e=>by
               rcases e with e|e
               ·have:=U.o.2.2.2.2.2;omega
               ·have:=U.o.2.2.2.2.1 _ e;omega)
              exact⟨hb.cell 0,hb.cell 1,hb.cell 2,hb.cell 3,hb.cell 4⟩)
             have aK:Kz (∀W:World,W.heap[c.eb]? = O.heap[c.eb]?->W.cell? ⟨c.eb,2,none⟩=some (.slice H n3 aq)):=fun W hW=>(aV.o.same hW).cell 2
             clear aD aB aL aY a1 a2;refine XT [0,0,0,0,1,1,2,2,0,0,3] 10 (fun W=>zh (fun g=>g=c.eb\/g∈zw H) O W) (fun W=>W.heap[c.eb]? = O.heap[c.eb]?) ?s0 ?s1 ?_
             case s0=>exact yw
             case s1=>rfl
             try refine zQ ?_
             repeat refine xM aP.o aK.o ?_
             refine xf fun K hK=>?_
             go_simp;refine hK.out _ _ ((zh.refl _ _).drew.alloc _) (fun _=>by exact Below.heap_alloc _ _ _ aU) ?_;clear hK K;try refine zQ ?_
             repeat refine xM aP.o aK.o ?_
             refine xf fun K hK=>?_
             refine ZE _ _ rfl Jo (f:=Th.cells) (xs:=ay) ((b8.o.same (w':=O.drew) fun _ _=>rfl).alloc _) He.o.hlen ⟨xk,xn,xs,xm,xd⟩ _ 0 1 rfl rfl rfl (yt _ _ _ rfl) zt (zd) zr ?_;intro g2 I bH bJ bu bK;have aD:zh (fun x=>x∈zw H) O bH:=((zh.refl _ O).drew.alloc _).trans bu (fun x X _=>X);have aY:bH.heap[c.eb]? = O.heap[c.eb]?:=aD.block _ aU (fun h=>U.o.2.1 _ h rfl);refine hK.out _ _ (aD.mono fun x X _=>.inr X) (fun _=>aY) ?_;clear hK K;try refine zQ ?_
             repeat refine xM aP.o aK.o ?_
             refine Xf zj (fun K hK=>?_);refine XC 275 _ _ rfl c.eb 2 _ _ (aV.o.same aY) (.slice (some ⟨g2,0,none⟩) (n3+1) I) rfl rfl zp (zo) rfl ?_;intro aL aB;refine hK.out _ _ ((aD.mono (S':=fun g=>g=c.eb\/g∈zw H) fun x X _=>.inr X).trans aB.zC (fun x X _=>.inl X)) ?_;clear hK K;try refine zQ ?_
             repeat refine xM aP.o aK.o ?_
             refine xt ?_;have a1:g2∈zw H\/O.heap.size<=g2:=bK.imp id (fun h=>by simp at h;omega);have a2:zh (fun g=>g=c.eb\/g∈zw H) O aL:=(aD.mono (S':=fun g=>g=c.eb\/g∈zw H) fun x X _=>.inr X).trans aB.zC (fun x X _=>.inl X);have br:=zz (show ∃D',yg c D' L4 (n3+1) no aL/\xB Y W5 aL D' from by
              have hC:zh (fun g=>g=c.eb\/g∈zw N\/g∈zw H) W3 aL:=(be.o.mono (S':=fun g=>g=c.eb\/g∈zw N\/g∈zw H) fun x X _=>X.imp id .inl).trans a2 (fun x X _=>X.imp id .inr);have hv:=(ar.o).var He.o hC (s:=yv) (x:=⟨xk,xn,xs,xm,xd⟩) b4.o (by have:=aB.zH;simpa using this) (bi.o.zC a2 (fun g R h=>by
               obtain rfl:g=g1:=by simpa[zw]using R
               rcases h with h|h
               ·exact X0 bi.o aV.o zr _ R h
               ·exact bY.o h)) (aB.own bJ (xY (fun e=>by
               rcases a1 with h|h
               ·exact U.o.2.1 _ h e
               ·omega))) aZ.o (a1.imp id fun h=>zpK be.o.size h)
              exact⟨_,hv.1,aR.o.trans hv.2⟩)
             clear a1 a2 aB aD aY bJ bu bK;go_wp2
             go_roundg (2-(j+1))
             case measure=>omega
             case rel=>
              obtain⟨D',h1,h2⟩:=br.o;exact⟨true,j+1,L4,n3+1,D',rfl,ze,ab,rfl,h1,h2,zd,zd,zd,zd⟩
       ·obtain rfl:j=2:=zd;go_wp2
        go_roundg (nb-(i+1))
        case measure=>omega
        case rel=>exact⟨af,i+1,L3,n3,D3,rfl,ze,a4,rfl,a7.o,cb.o.trans ae.o,zd,zd,fun _=>zd,ac,Z⟩
     ·have X:=zz (show yg c Y (L2-1) n2 no W4/\xB D1 W1 W4 Y from⟨ak.o,bc.o⟩);have O:(k != 3)=true\/((k != 3)=false/\L2-1<0):=by
       by_cases U:k=3
       ·right;exact⟨by simp[U],zd⟩
       ·left;simpa using U
      rcases O with U |⟨U,Z⟩
      all_goals
       go_wp2
       go_roundg (nb-(i+1))
       case measure=>omega
       case rel=>exact⟨ag,i+1,L2-1,n2,Y,rfl,ze,a4,rfl,X.o.1,X.o.2,zd,zd,fun h=>⟨by have:=(aG.o h).1;omega,zd⟩,zd,an⟩
    ·obtain rfl:i=nb:=zd;go_wp2;have R:=bP.o;have q:=b7.o trivial;simp only[if_true]at R
     go_roundg (2*(L2-(min L 0-200)).toNat+(if ag=true then 1 else 0))
     case measure=>
      cases ag with
      |false=>simp only[zqw,if_false];omega
      |true=>have:=aG.o rfl;simp only[if_true];omega
     case rel=>exact⟨ag,L2,n2,Y,rfl,rfl,az.o,aW.o.trans a6.o,zd,zd,fun h=>by have:=aG.o h;omega,bn,an⟩
end
