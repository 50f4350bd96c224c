/-
  What is worked out: each way in which a body's atoms fit fac
-/
import Derived.Test.YtfdickkdlcgicaaGreatDoorQ29
set_option maxRecDepth 100000
set_option maxHeartbeats 8000000
set_option linter.all false
namespace Go.Proofs.YtfdickkdlcgicaaGreatDoor.C
open Go.Proofs.Tryz Go Go.RowKit Go.Maps Go.WideMaps
section
theorem ziU{c:Wc}(b0 b1 b2 b3 b4:Nat)(p:ByteArray)(B:Option Addr)(nb zM:Nat)(body:List Li)(hn:body.length=nb)(bA:nb<=16):∀(d ah:Nat),nb-ah=d->ah<=nb->∀{D:Nat->Prop}{L:Int}{R no:Nat}{w:World},yg c D L R no w->Vb D w B body->Jn c D w b0 b1 b3 p B nb zM->0<=L->L<=1000000->R+Y8 (body.drop ah)<=2097152->(no:Int)+L<=3000000->
 Calls prog 207 #[.pointer (some ⟨c.wb,0,none⟩),.slice B nb zM,.int .i64 (ah:Int),.pointer (some ⟨c.eb,0,none⟩),.func (.func 208) #[] #[.pointer (some ⟨b0,0,none⟩),.pointer (some ⟨b1,0,none⟩),.pointer (some ⟨b2,0,none⟩),.pointer (some ⟨b3,0,none⟩),.pointer (some ⟨b4,0,none⟩),.pointer (some ⟨c.ob,0,none⟩)]] w (zky c D L R no d w):=by
 intro d
 induction d using Nat.strongRecOn with
 |_ d ih=>
  intro ah hd bK D L R no w h O U bV bH I bW;have bC:=zz ih;have HW:=zz h;have HB:=zz O;have Hc:=zz U;have Hn:=zz hn;have bk:=zz I;clear ih h O U I;go_enter func207,ntmps207;go_wp2
  go_loopg[2] d (fun gk I X=>∃j:Nat,ah<=j/\j<=nb/\gk=nb-j/\I=.int .i64 (j:Int)/\X=w)
  case atStart=>exact⟨ah,zpx _,bK,hd.symm,rfl,rfl⟩
  case round=>
   obtain⟨j,bF,bY,rfl,rfl,rfl⟩:=hrel
   by_cases a3:j<nb
   ·have bd:j<body.length:=by rw[Hn.o];exact a3
    obtain⟨b,o,rfl,bT,aj⟩:=HB.o.rd.at Li.xG j bd;have k0:wr.cell? ⟨b,o+j*16,none⟩=some (.int .i8 body[j].k):=aj 0 _ rfl
    by_cases aO:body[j].k=1
    ·have aC:=zpB bd;have aW:=zz (HB.o.XO _ aC);have aR:=zz (HB.o.zN _ aC);have aT:=zz (HB.o.may _ aC);have aU:=zz (zcR body j bd);have aY:=zz (zlh body ah j bF);generalize body[j]=x at aj aW aR aT aU k0 aO;obtain⟨k,⟨q,aA,ai,ax⟩,rl,l,r⟩:=x;simp only at aO;subst aO;obtain⟨na,O⟩:∃n,ax.length=n:=⟨_,rfl⟩;have c1:wr.cell? ⟨b,o+j*16+1,none⟩=some (.string q):=aj 1 _ rfl;have c2:wr.cell? ⟨b,o+j*16+2,none⟩=some (.slice aA na ai):=by rw[<-O];exact aj 2 _ rfl
     have U:=aT.o;simp only[O]at U;obtain⟨_,_,av,aS,I⟩:=U;have a9:=zz I;have bq:=zz O;clear aj I O;have U:=aU.o;simp only[bq.o]at U;have I:=aY.o;have O:=bk.o;have bh:=zz (show R+na+Y8 (body.drop (j+1))<=2097152 from zd);have bR:R+na<=2097152:=zd;clear U I O;obtain⟨fA,bn,rs,I,bI,V,O,Y⟩:=HW.o.facts.V4 q na (zf0 q na av aS);obtain⟨nr,U⟩:∃n,rs.length=n:=⟨_,rfl⟩;rw[U]at I bI;have a1:=zz I;have aL:=zz (zpG V (zpG O (zpG Y U)));clear I V O Y U;go_upto_region 8 with(refine xy 38 _ _ rfl ?_;refine XP zj 38 _ _ rfl _ [.string q,.slice aA na ai] rfl rfl zp (zo) zt ?_;intro W1 bl;have ap:=zz bl;clear bl)
     clear c1 c2 k0;have bg:=zz (HW.o.below ap.o.below);have H8:=zz (show ∀W,Bl W1 W->W.cell? ⟨c.wb,3,none⟩=some (.map (some c.fb))/\W.cell? ⟨wr.heap.size,0,none⟩=some (.string q)/\W.cell? ⟨wr.heap.size,1,none⟩=some (.slice aA na ai)/\(Instr.lookup 271 (.map (some c.fb)) (.string (yl q na)) false).run prog W=.ok (.slice fA nr bn) W from fun W U=>
      ⟨(bg.o.work.below U).cell 3,(ap.o.b0.below U).cell 0,(ap.o.b0.below U).cell 1,a1.o W (zl ap.o.below U)⟩)
     refine xX [0,0,0,0,0,0,0,0,0,2,0,0] (fun W=>Bl W1 W) ?_
     repeat refine zS H8.o ?_
     refine xf fun K hK=>?_
     go_simp;refine(zfB _ (bg.o.pw.below (Below.refl _ _).drew) q na av aS).mono ?_;rintro e w2⟨rfl,O⟩;have I:Bl W1 w2:=zl (Below.refl _ _).drew O;refine hK.out _ _ I (fun _=>trivial) ?_;clear hK K;try refine zQ ?_
     repeat refine zS H8.o ?_
     refine xt ?_;have bB:=zz (bg.o.below I);have aE:=zz (zl ap.o.below I);have a4:=zz (ap.o.b0.below I);have aD:¬D wr.heap.size:=fun hd=>by have:=HW.o.lt _ hd;omega
     clear O I;obtain⟨W0,rfl⟩:∃W0,W0=wr:=⟨_,rfl⟩;go_wp2
     go_loopg[13,14,15,16] nr (fun gk I O aa Y X=>∃(i:Nat) (L1:Int) (ak:Nat) (D1:Nat->Prop),i<=nr/\gk=nr-i/\I=.int .i64 (i:Int)/\yg c D1 L1 R ak X/\xB D w2 X D1/\L1<=L/\-(((d:Int)-1)*66000+300)<=L1/\no<=ak/\(ak:Int)+L1<=no+L)
     case atStart=>exact⟨0,L,no,D,zpD _,rfl,rfl,bB.o,xB.refl _ _,zqM _,zd,zpx _,zqM _⟩
     case round=>
      obtain⟨i,L1,ak,D1,hi,rfl,rfl,I,O,bs,bP,aI,bu⟩:=hrel;have aw:=zz I;have a7:=zz O;have bU:=I.lo;have bX:=I.hi;clear I O
      by_cases aN:i<nr
      ·have bv:Kz (∀W,zh (·=c.wb) wr W->W.cell? ⟨W0.heap.size,1,none⟩=some (.slice aA na ai)):=fun W U=>((a4.o.zC a7.o.1 aD).zC U (fun e=>by have:=HW.o.lt _ HW.o.YB;omega)).cell 1
       have bw:Kz (∀W:World,W.heap[c.wb]? = wr.heap[c.wb]?->W.cell? ⟨c.wb,0,none⟩=some (.int .i64 L1)):=fun W U=>(aw.o.work.same U).cell 0
       go_upto_region 12 with fail
       refine XT [0,0,0,0,1,0,0,1,0,0,0,0,0,3] 13 (fun W=>zh (·=c.wb) wr W) (fun W=>W.heap[c.wb]? = wr.heap[c.wb]?) ?s0 ?s1 ?_
       case s0=>exact yw
       case s1=>rfl
       try refine zQ ?_
       repeat refine xM bv.o bw.o ?_
       refine Xf zj (fun K hK=>?_);refine XC 3 _ _ rfl c.wb 0 _ _ (aw.o.work.drew) (.int .i64 _) rfl rfl zp (zo) rfl ?_;intro W3 V;have I:=V.zH;simp only[zp4,zqm]at I;have O:zh (·=c.wb) wr W3:=(zh.refl _ wr).drew.trans V.zC (fun x hx _=>hx);refine hK.out _ _ O ?_;clear hK K;try refine zQ ?_
       repeat refine xM bv.o bw.o ?_
       refine xt ?_;obtain⟨L2,Z⟩:∃L2,L1-1-(na:Int) / 16=L2:=⟨_,rfl⟩;rw[wrap_i64 (k:=(na:Int) / 16) zd (zd),wrap_i64 (k:=L1-1) zd (zd),wrap_i64 (k:=L1-1-(na:Int) / 16) zd (zd),Z]at I;have bS:L2<=L1-1:=zd;have bQ:L1-65600<=L2:=zd;have aF:=zz (aw.o.Z7 O I zd (zd));have aq:=zz (show xB D w2 W3 D1 from a7.o.trans ⟨O.mono fun g hg _=>hg▸aw.o.YB,fun g hg=>.inl hg⟩);have bx:=zz (a4.o.zC aq.o.1 aD);clear I V O Z;have w0:=aF.o.work.cell 0
       by_cases bO:L2<0
       ·go_wp2;go_end0;exact⟨L2,ak,D1,rfl,aF.o,(xB.below aE.o).trans aq.o,zd,zd,aI,zd⟩
       ·obtain⟨N3,H3,bG,bL,bz,bJ,I⟩:=aF.o.env;have e1:=I.zH.cell 1;have ay:=bx.o.cell 1;clear I;go_wp2;clear e1 w0 ay
        go_loopg[15,16] na (fun gk aa Y X=>∃(ok:Bool) (k:Nat) (n4:Nat) (D4:Nat->Prop),aa=.bool ok/\Y=.int .i64 (k:Int)/\k<=na/\gk=na-k/\yg c D4 L2 n4 ak X/\xB D1 W3 X D4/\R<=n4/\n4<=R+k)
        case atStart=>exact⟨true,0,R,D1,rfl,rfl,zpD _,rfl,aF.o,xB.refl _ _,zpx _,zpx _⟩
        case round=>
         obtain⟨ok,k,n4,D4,rfl,rfl,hk,rfl,az,ao,aV,bN⟩:=hrel;have an:=zz az;have am:=zz (show xB D W0 wr D4 from(xB.below aE.o).trans (aq.o.trans ao));have aB:Kz (xB D w2 wr D4):=aq.o.trans ao;have bo:=zz ao;have aX:=zz (a4.o.zC aB.o.1 aD);have ay:=aX.o.cell 1;clear az ao
         cases ok with
         |false=>
          go_upto_region 22 with fail
          all_goals
           clear ay;obtain⟨N,H,O,I,aH,ar,Z⟩:=an.o.env;have He:=zz Z;have aG:n4<=O:=by have:=Z.XU.U4;rw[Z.Z0]at this;exact this
           have aJ:n4<=I:=by have:=Z.xV.U4;rw[Z.hlen]at this;exact this
           have ae:Kz (∀W:World,W.heap[c.eb]? = wr.heap[c.eb]?->W.cell? ⟨c.eb,1,none⟩=some (.slice N n4 O)/\W.cell? ⟨c.eb,2,none⟩=some (.slice H n4 I)/\(0:Int)<=(R:Int)/\(R:Int)<=(O:Int)/\(R:Int)<=(I:Int)):=fun W U=>⟨(Z.zH.same U).cell 1,(Z.zH.same U).cell 2,zd,zd,zd⟩
           have ac:Kz (∀W:World,zh (·=c.eb) wr W->(0:Int)<=(R:Int)/\(R:Int)<=(O:Int)/\(R:Int)<=(I:Int)):=fun _ _=>⟨zd,zd,zd⟩
           clear Z;refine XT [0,0,0,0,0,1,0,0,0,0,0,1,0,0,0,0,3,0,0,2] 16 (fun W=>zh (·=c.eb) wr W) (fun W=>W.heap[c.eb]? = wr.heap[c.eb]?) ?s0 ?s1 ?_
           case s0=>exact yw
           case s1=>rfl
           try refine zQ ?_
           repeat refine xM ac.o ae.o ?_
           refine Xf zj (fun K hK=>?_);refine XC 86 _ _ rfl c.eb 1 _ _ (He.o.zH.drew) (.slice N R O) rfl rfl zp (zo) rfl ?_;intro W5 ab;have af:zh (·=c.eb) wr W5:=(zh.refl _ wr).drew.trans ab.zC (fun x hx _=>hx);refine hK.out _ _ af ?_;clear hK K;try refine zQ ?_
           repeat refine xM ac.o ae.o ?_
           refine xf fun K hK=>?_
           have al:=ab.zH;refine XC 275 _ _ rfl c.eb 2 _ _ al (.slice H R I) rfl rfl zp (zo) rfl ?_;intro W6 aa;have ad:zh (·=c.eb) wr W6:=af.trans aa.zC (fun x hx _=>hx);refine hK.out _ _ ad (fun h=>nomatch h) ?_;clear hK K;try refine zQ ?_
           repeat refine xM ac.o ae.o ?_
           refine xt ?_;have Y:=zz (an.o.Dq He.o aV ad (by have:=aa.zH;simpa using this));clear ab aa af ad al aG aJ;go_wp2
           go_roundg (nr-(i+1))
           case measure=>omega
           case rel=>exact⟨i+1,L2,ak,_,aN,rfl,ze,Y.o.1,aB.o.trans Y.o.2,zd,zd,aI,zd⟩
         |true=>
          by_cases aK:k<na
          ·have a6:i<rs.length:=by rw[aL.o.2.2.2];exact aN
           have a5:k<ax.length:=by rw[bq.o];exact aK
           have hr:=aL.o.2.2.1 _ (zpB a6);obtain⟨bf,a2,rfl,bD,ag⟩:=(aL.o.1.kept am.o.1 (fun g hg=>(aL.o.2.1 g hg).1)).at (c:=0) (fun _=>rfl) i a6;obtain⟨ba,oa,rfl,aP,X⟩:=(aR.o.a.rd.YO am.o.1 (fun V g hg=>(aW.o.1 V g hg).1)).at Tm.xG k a5;have be:=a9.o _ (zpB a5);generalize rs[i]=V at hr ag;generalize ax[k]=t at X be;obtain⟨rA,aQ,rl⟩:=V;obtain⟨aM,aZ,a8,bi⟩:=hr;simp only at aM aZ a8 bi;have bj:k<rl.length:=by rw[aM];exact aK
           obtain⟨bt,ot,rfl,au,V⟩:=(aZ.kept am.o.1 (fun g hg=>(a8 g hg).1)).at (c:=4) (fun _=>rfl) k bj;have bc:=bi _ (zpB bj);generalize rl[k]=x at V bc;obtain⟨v,⟨tk,tn,ts⟩⟩:=t;obtain⟨xk,xn,xs,xm,xd⟩:=x;simp only[Rt.cells,aM]at ag;simp only[Tm.cells]at X;simp only[Th.cells]at V;have q0:wr.cell? ⟨bf,a2+i,none⟩=some (.slice (some ⟨bt,ot,none⟩) na aQ):=by simpa using ag 0 _ rfl
           replace X:wr.rangeAt ba (oa+k*4) _:=X
           replace V:wr.rangeAt bt (ot+k*5) _:=V
           obtain⟨d0,d1,d2,d3⟩:=four X;obtain⟨x0,x1,x2,x3,x4⟩:=ZY V;have bE:(k:Int)<(na:Int):=zd;have bM:(i:Int)<(nr:Int):=zd;have bm:=zz (show ∀W,Bl wr W->W.cell? ⟨W0.heap.size,1,none⟩=some (.slice (some ⟨ba,oa,none⟩) na ai)/\W.cell? ⟨bf,a2+i,none⟩=some (.slice (some ⟨bt,ot,none⟩) na aQ)/\
            W.cell? ⟨ba,oa+k*4,none⟩=some (.string v)/\W.cell? ⟨ba,oa+k*4+1,none⟩=some (.int .i8 tk)/\W.cell? ⟨ba,oa+k*4+2,none⟩=some (.int .i64 tn)/\W.cell? ⟨ba,oa+k*4+3,none⟩=some (.string ts)/\
            W.cell? ⟨bt,ot+k*5,none⟩=some (.int .i8 xk)/\W.cell? ⟨bt,ot+k*5+1,none⟩=some (.int .i64 xn)/\W.cell? ⟨bt,ot+k*5+2,none⟩=some (.string xs)/\W.cell? ⟨bt,ot+k*5+3,none⟩=some (.string xm)/\W.cell? ⟨bt,ot+k*5+4,none⟩=some (.int .i64 xd)from fun W U=>
            ⟨(
             aX.o.below U).cell 1,(U.cell (p:=⟨bf,a2+i,none⟩) bD).trans q0,(U.cell (p:=⟨ba,oa+k*4,none⟩) aP).trans d0,(U.cell (p:=⟨ba,oa+k*4+1,none⟩) aP).trans d1,(U.cell (p:=⟨ba,oa+k*4+2,none⟩) aP).trans d2,(U.cell (p:=⟨ba,oa+k*4+3,none⟩) aP).trans d3,
             (U.cell (p:=⟨bt,ot+k*5,none⟩) au).trans x0,(U.cell (p:=⟨bt,ot+k*5+1,none⟩) au).trans x1,(U.cell (p:=⟨bt,ot+k*5+2,none⟩) au).trans x2,(U.cell (p:=⟨bt,ot+k*5+3,none⟩) au).trans x3,(U.cell (p:=⟨bt,ot+k*5+4,none⟩) au).trans x4⟩)
           have br:Kz (∀W:World,True->(k:Int)<(na:Int)/\(i:Int)<(nr:Int)/\k<na/\i<nr):=fun _ _=>⟨bE,bM,aK,aN⟩
           have bp:=zz (zpG be bc);clear q0 d0 d1 d2 d3 x0 x1 x2 x3 x4 ag X V aM aZ a8 bi a6 a5 bj be bc;go_upto_region 19 with fail
           clear ay;refine XT [0,0,1,0,0,1,0,0,0,1,0,0,1,3,0] 13 (fun _=>True) (fun W=>Bl wr W) ?s0 ?s1 ?_
           case s0=>trivial
           case s1=>exact(Below.refl _ _).drew
           try refine zQ ?_
           repeat refine xM br.o bm.o ?_
           refine Xf zj (fun K hK=>?_);go_simp;refine(zmq (an.o.below (Below.refl _ _).drew) zd ⟨v,⟨tk,tn,ts⟩⟩ bp.o.1 ⟨xk,xn,xs,xm,xd⟩ bp.o.2).mono ?_;rintro e w5⟨aZ,n5,D5,rfl,a5,a6,V,X⟩;refine hK.out _ _ trivial ?_;clear hK K;try refine zQ ?_
           repeat refine xM br.o bm.o ?_
           refine xt ?_;have ag:=zz V;have aM:Kz (xB D1 W3 w5 D5):=bo.o.trans ((xB.below (Below.refl _ _).drew).trans X);clear V X;go_wp2
           go_roundg (na-(k+1))
           case measure=>omega
           case rel=>exact⟨aZ,k+1,n5,D5,rfl,ze,aK,rfl,ag.o,aM.o,zd,zd⟩
          ·obtain rfl:k=na:=zd;have au:=zz (bC.o (nb-(j+1)) zd (j+1) rfl a3 an.o (HB.o.after am.o) (Hc.o.after am.o) zd (zd) (by have:=bh.o;omega) zd);go_upto_region 22 with(go_at_call 207;refine au.o.mono ?_;rintro e w5⟨L5,aP,D5,rfl,V,X,aQ,a2,a5,aZ⟩;have ag:=zz V;have aM:=zz X;clear V X ay)
           obtain⟨N,H,O,I,aH,ar,Z⟩:=ag.o.env;have He:=zz Z;have aG:n4<=O:=by have:=Z.XU.U4;rw[Z.Z0]at this;exact this
           have aJ:n4<=I:=by have:=Z.xV.U4;rw[Z.hlen]at this;exact this
           have ae:Kz (∀W:World,W.heap[c.eb]? = w5.heap[c.eb]?->W.cell? ⟨c.eb,1,none⟩=some (.slice N n4 O)/\W.cell? ⟨c.eb,2,none⟩=some (.slice H n4 I)/\(0:Int)<=(R:Int)/\(R:Int)<=(O:Int)/\(R:Int)<=(I:Int)):=fun W U=>⟨(Z.zH.same U).cell 1,(Z.zH.same U).cell 2,zd,zd,zd⟩
           have ac:Kz (∀W:World,zh (·=c.eb) w5 W->(0:Int)<=(R:Int)/\(R:Int)<=(O:Int)/\(R:Int)<=(I:Int)):=fun _ _=>⟨zd,zd,zd⟩
           clear Z;refine XT [0,0,0,0,0,1,0,0,0,0,0,1,0,0,0,0,3,0,0,2] 16 (fun W=>zh (·=c.eb) w5 W) (fun W=>W.heap[c.eb]? = w5.heap[c.eb]?) ?s0 ?s1 ?_
           case s0=>exact yw
           case s1=>rfl
           try refine zQ ?_
           repeat refine xM ac.o ae.o ?_
           refine Xf zj (fun K hK=>?_);refine XC 86 _ _ rfl c.eb 1 _ _ (He.o.zH.drew) (.slice N R O) rfl rfl zp (zo) rfl ?_;intro W5 ab;have af:zh (·=c.eb) w5 W5:=(zh.refl _ w5).drew.trans ab.zC (fun x hx _=>hx);refine hK.out _ _ af ?_;clear hK K;try refine zQ ?_
           repeat refine xM ac.o ae.o ?_
           refine xf fun K hK=>?_
           have al:=ab.zH;refine XC 275 _ _ rfl c.eb 2 _ _ al (.slice H R I) rfl rfl zp (zo) rfl ?_;intro W6 aa;have ad:zh (·=c.eb) w5 W6:=af.trans aa.zC (fun x hx _=>hx);refine hK.out _ _ ad (fun h=>nomatch h) ?_;clear hK K;try refine zQ ?_
           repeat refine xM ac.o ae.o ?_
           refine xt ?_;have Y:=zz (ag.o.Dq He.o aV ad (by have:=aa.zH;simpa using this));clear ab aa af ad al aG aJ;go_wp2
           go_roundg (nr-(i+1))
           case measure=>omega
           case rel=>exact⟨i+1,L5,aP,_,aN,rfl,ze,Y.o.1,aB.o.trans (aM.o.trans Y.o.2),zd,zd,zd,zd⟩
      ·obtain rfl:i=nr:=zd;go_wp2;go_end0;exact⟨L1,ak,D1,rfl,aw.o,(xB.below aE.o).trans a7.o,bs,zd,aI,bu⟩
    ·have V:(body[j].k != 1)=true:=by simpa using aO
     go_wp2
     go_roundg (nb-(j+1))
     case measure=>omega
     case rel=>exact⟨j+1,zd,a3,rfl,ze,rfl⟩
   ·obtain rfl:j=nb:=zd;obtain⟨N0,H0,av,aB,aj,ak,V⟩:=HW.o.env;have e1:=V.zH.cell 1;clear V;have ay:=zz (zgF HW.o (by have:=bk.o;omega) zd bH B zM j body HB.o Hn.o bA);go_upto_region 6 with(first
     |(go_at_call 246;refine ay.o.mono ?_;rintro e w3⟨L3,n4,D3,rfl,ag,X,aK,aE,ax⟩;have aF:=zz ag;have aq:=zz X;have aw:=zz (zmC ag (no:=no) zd (zd) b0 b1 b2 b3 b4 p B j zM (Hc.o.after X));clear ag X e1)
     |(go_at_call 208;refine aw.o.mono ?_;rintro e V⟨L4,ap,D4,rfl,az,ao,aD,aI,au,aC⟩;have an:=zz az;have am:=zz ao;clear az ao))
    have ai:R<=n4:=ax;obtain⟨N,H,O,I,aH,ar,Z⟩:=an.o.env;have He:=zz Z;have aG:n4<=O:=by have:=Z.XU.U4;rw[Z.Z0]at this;exact this
    have aJ:n4<=I:=by have:=Z.xV.U4;rw[Z.hlen]at this;exact this
    have ae:Kz (∀W:World,W.heap[c.eb]? = V.heap[c.eb]?->W.cell? ⟨c.eb,1,none⟩=some (.slice N n4 O)/\W.cell? ⟨c.eb,2,none⟩=some (.slice H n4 I)/\(0:Int)<=(R:Int)/\(R:Int)<=(O:Int)/\(R:Int)<=(I:Int)):=fun W U=>⟨(Z.zH.same U).cell 1,(Z.zH.same U).cell 2,zd,zd,zd⟩
    have ac:Kz (∀W:World,zh (·=c.eb) V W->(0:Int)<=(R:Int)/\(R:Int)<=(O:Int)/\(R:Int)<=(I:Int)):=fun _ _=>⟨zd,zd,zd⟩
    clear Z;refine XT [0,0,0,0,0,1,0,0,0,0,0,1,0,0,0,0,3,0,0,2] 16 (fun W=>zh (·=c.eb) V W) (fun W=>W.heap[c.eb]? = V.heap[c.eb]?) ?s0 ?s1 ?_
    case s0=>exact yw
    case s1=>rfl
    try refine zQ ?_
    repeat refine xM ac.o ae.o ?_
    refine Xf zj (fun K hK=>?_);refine XC 86 _ _ rfl c.eb 1 _ _ (He.o.zH.drew) (.slice N R O) rfl rfl zp (zo) rfl ?_;intro W5 ab;have af:zh (·=c.eb) V W5:=(zh.refl _ V).drew.trans ab.zC (fun x hx _=>hx);refine hK.out _ _ af ?_;clear hK K;try refine zQ ?_
    repeat refine xM ac.o ae.o ?_
    refine xf fun K hK=>?_
    have al:=ab.zH;refine XC 275 _ _ rfl c.eb 2 _ _ al (.slice H R I) rfl rfl zp (zo) rfl ?_;intro W6 aa;have ad:zh (·=c.eb) V W6:=af.trans aa.zC (fun x hx _=>hx);refine hK.out _ _ ad (fun h=>nomatch h) ?_;clear hK K;try refine zQ ?_
    repeat refine xM ac.o ae.o ?_
    refine xt ?_;have Y:=zz (an.o.Dq He.o ai ad (by have:=aa.zH;simpa using this));clear ab aa af ad al aG aJ;go_wp2;go_end0;exact⟨L4,ap,_,rfl,Y.o.1,aq.o.trans (am.o.trans Y.o.2),zd,zd,au,zd⟩
end
