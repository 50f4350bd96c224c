/-
  law13's JoinCuts: answers true. The fixed join of the law's 
-/
import Derived.Test.YtfdickkdlcgicaaGreatDoorQ40
import Derived.Test.YtfdickkdlcgicaaGreatDoorQ41
set_option maxRecDepth 100000
set_option maxHeartbeats 8000000
set_option linter.all false
namespace Go.Proofs.YtfdickkdlcgicaaGreatDoor.C
open Go.Proofs.Tryz Go Go.RowKit Go.Maps Go.WideMaps
variable {A F G J S:Option Addr}{I N c g h:Nat}{q:Array Value}{t:TypeId}{u v:ByteArray}{w:World}{x y:Vl}{α:Type}{ρ:Env}
section
theorem zm7(aq:∀W tk,Pw W->Tz W->Tk W tk->Calls prog 11 #[] W (TB W))(w:World)(r:Ru)(F:Option Addr)(fs:List Fa)(tk:Nat->Int)(g:VK r fs)(h:UT w r F fs tk)(ai nf:Nat)(aN:fs.length=nf)(li U:Int):
 Calls prog 3 #[.agg r.cells.toArray,.slice F nf ai,.agg #[.int .i64 li,.int .i64 U]] w (TB w):=by
 obtain⟨W0,O,L⟩:=yb w 25 28 r.cells.toArray #[.int .i64 li,.int .i64 U];have cF:=zz L.below;have cx:=zz L.b0;have R:Kz (∀W,Bl W0 W->W.cell? ⟨w.heap.size+1,0,none⟩=some (.int .i64 li)/\W.cell? ⟨w.heap.size+1,1,none⟩=some (.int .i64 U)):=fun W I=>⟨(L.b1.below I).cell 0,(L.b1.below I).cell 1⟩
 have bB:=zz (fun W (I:Bl w W)=>zfm r W (h.zN.below I));have a5:=zz (fun W (I:Bl w W)=>zdK F ai nf fs W (h.facts.rd.below I) aN (by have:=g.nf;omega) fun f hf=>by have:=(g.facts f hf).1;omega);have bE:=zz (fun W (I:Bl w W)=>zem W (h.pw.below I) r.B r.body.length r.zM r.body rfl (by have:=g.y8;omega) F nf ai fs aN (by have:=g.nf;omega) (⟨h.zN.rd.below I,fun x hx=>⟨fun h=>h,zpz (h.YV x hx) I.size⟩,fun x hx=>(h.zN.body x hx).below I,fun x hx=>(h.zN.body x hx).yh.mono fun g hg=>⟨fun h=>h,zpz hg I.size⟩,g.may⟩) (h.facts.below I) g.args);have bI:=zz (fun W (I:Bl w W)=>aq W tk (h.pw.below I) (h.tz.below I (zpx _)) (h.tk.below I (zpx _)));have ah:=zz (fun W (I:Bl w W)=>zcN W r (h.zN.below I) g.fits g.zO g.XY g.y8 F ai nf fs (h.facts.rd.below I) (fun f hf=>⟨(h.facts.each f hf).1.below I,by have:=(g.facts f hf).1;omega⟩) (fun f hf=>zpK (g.facts f hf).2.1 zr) aN (by have:=g.nf;omega));have Hg:=zz g;have Hh:=zz h;have bK:=zz aN;clear L aq g h aN;obtain⟨p,A,qM,N,B,zM,q⟩:=r;go_enter func3,ntmps3;go_upto_region 1 with fail
 try rw[O]
 clear O;refine xX [0,0,0,0,0,0] (fun W=>Bl W0 W) ?_
 repeat refine zS R.o ?_
 refine xt ?_;have I:Bl W0 W0.drew:=(Below.refl _ _).drew;generalize W0.drew=W1 at I ⊢;have bN:=zz (zl cF.o I);have Hk:=zz (cx.o.below I);clear I R;have X:=Hk.o.cell 0;have c1:=Hk.o.cell 1;have c2:=Hk.o.cell 2;go_upto_region 6 with(first
  |(go_at_call 8;refine(bB.o W1 bN.o).mono ?_;rintro e w2⟨b2,rfl,-,az⟩;have bv:=zz (zl bN.o az);clear X c1 c2;have X:=(Hk.o.below az).cell 0;have c1:=(Hk.o.below az).cell 1;have c2:=(Hk.o.below az).cell 2;have a3:=zz (Hk.o.below az);clear az)
  |(go_at_call 9;refine(a5.o w2 bv.o).mono ?_;rintro e w3⟨b3,rfl,-,av⟩;have bD:=zz (zl bv.o av);clear X c1 c2;have X:=(a3.o.below av).cell 0;have c1:=(a3.o.below av).cell 1;have c2:=(a3.o.below av).cell 2;have a8:=zz (a3.o.below av);clear av)
  |(go_at_call 10;refine(bE.o w3 bD.o).mono ?_;rintro e w4⟨b4,rfl,bi,aB⟩;have bq:=zz (zl bD.o aB);have b9:=zz bi;clear X c1 c2;have X:=(a8.o.below aB).cell 0;have c1:=(a8.o.below aB).cell 1;have c2:=(a8.o.below aB).cell 2;have a2:=zz (a8.o.below aB);clear aB bi)
  |(go_at_call 11;refine(bI.o w4 bq.o).mono ?_;rintro e w5⟨rfl,aw⟩;have ag:=zz (zl bq.o aw);clear X c1 c2;have X:=(a2.o.below aw).cell 0;have c1:=(a2.o.below aw).cell 1;have c2:=(a2.o.below aw).cell 2;have Z:=zz (a2.o.below aw);clear aw))
 ·go_returns;exact⟨rfl,bv.o⟩
 ·go_returns;exact⟨rfl,bD.o⟩
 ·go_returns;exact⟨rfl,bq.o⟩
 have R:=zz (b9.o za)
 by_cases ap:li<0
 ·go_wp2_with (go_at_call 12;go_loud (refine(ah.o w5 ag.o).mono ?_;rintro e w6⟨b6,rfl,V,I⟩;have ad:=zz (zl ag.o I);clear X c1;have L:=(Z.o.below I).cell 2;clear c2 I V))
  all_goals go_returns
  all_goals exact⟨rfl,ad.o⟩
 by_cases bZ:(q.length:Int)<=li
 ·have d1:decide (li<0)=false:=decide_eq_false ap;have d2:decide ((q.length:Int)<=li)=true:=decide_eq_true bZ
  go_wp2_with (go_at_call 12;go_loud (refine(ah.o w5 ag.o).mono ?_;rintro e w6⟨b6,rfl,V,I⟩;have ad:=zz (zl ag.o I);clear X c1;have L:=(Z.o.below I).cell 2;clear c2 I V))
  all_goals go_returns
  all_goals exact⟨rfl,ad.o⟩
 obtain⟨i,rfl⟩:∃i:Nat,li=(i:Int):=⟨li.toNat,zd⟩;have hi:i<q.length:=zd;have d1:decide ((i:Int)<0)=false:=decide_eq_false ap;have d2:decide ((q.length:Int)<=(i:Int))=false:=decide_eq_false bZ;have d3:decide (q.length<=i)=false:=decide_eq_false zd;have d4:¬q.length<=i:=zd;obtain⟨bb,ob,O,cp,L⟩:=(Hh.o.zN.rd.below ag.o).at Li.xG i hi;have bx:Kz (B=some ⟨bb,ob,none⟩):=O;clear O;have O:w5.cell? ⟨bb,ob+i*16,none⟩=some (.int .i8 q[i].k):=by simpa using L 0 _ rfl
 have cj:Kz (w5.cell? ⟨bb,ob+i*16+1,none⟩=some (.string q[i].a.p)):=L 1 _ rfl;have bC:=zz cp;clear L
 by_cases ak:q[i].k≠1
 ·have e1:(q[i].k != 1)=true:=by simpa using ak
  have e2:(q[i].k==1)=false:=by simpa using ak
  go_wp2_with (go_at_call 12;go_loud (refine(ah.o w5 ag.o).mono ?_;rintro e w6⟨b6,rfl,V,I⟩;have ad:=zz (zl ag.o I);have bo:=zz V;have bh:=zz I;clear X c1 c2;have X:=(Z.o.below I).cell 0;have c1:=(Z.o.below I).cell 1;have c2:=(Z.o.below I).cell 2;rw[bx.o]at c2;have Y:=(I.cell (p:=⟨bb,ob+i*16,none⟩) bC.o).trans O;have au:=zz (Z.o.below I);clear I V O))
  all_goals go_returns
  all_goals exact⟨rfl,ad.o⟩
 have ak:q[i].k=1:=Classical.not_not.1 ak;rw[ak]at O
 go_wp2_with (go_at_call 12;go_loud (refine(ah.o w5 ag.o).mono ?_;rintro e w6⟨b6,rfl,V,I⟩;have ad:=zz (zl ag.o I);have bo:=zz V;have bh:=zz I;clear X c1 c2;have X:=(Z.o.below I).cell 0;have c1:=(Z.o.below I).cell 1;have c2:=(Z.o.below I).cell 2;rw[bx.o]at c2;have Y:=(I.cell (p:=⟨bb,ob+i*16,none⟩) bC.o).trans O;have au:=zz (Z.o.below I);clear I V O))
 ·go_returns;exact⟨rfl,ad.o⟩
 have bn:b6=true:=za;have L:=zz (show Fit ⟨p,A,qM,N,B,zM,q⟩ fs from⟨(bo.o bn).1,(bo.o bn).2⟩);have Hi:=zz (show ∃h:i<q.length,q[i].k=1 from⟨hi,ak⟩);have aa:=zz (Hh.o.below ad.o);clear Y;refine(DU w6 F ai nf fs aa.o.facts.rd bK.o (fun x hx=>⟨(aa.o.facts.each x hx).1,by have:=(Hg.o.facts x hx).1;omega⟩) (fun x hx=>zpK (Hg.o.facts x hx).2.1 zr) L.o.Zq.facts (fun a ha b hb=>L.o.Zq.cons a (zpR _ ha) b (zpR _ hb)) (by have:=Hg.o.nf;have:=bK.o;omega) aa.o.zam (fun x hx v hv=>⟨(L.o.Zq.facts x hx).2.2 v hv,Gi ((Hg.o.facts x hx).2.2 v hv)⟩)).mono ?_;rintro e w7⟨wb,rfl,ac,O⟩;have cC:=zz ac.cut;have aA:=zz O;clear X c1 c2;have X:=(au.o.below O).cell 0;have c1:=(au.o.below O).cell 1;have c2:=(au.o.below O).cell 2;have bu:=zz (au.o.below O);have br:=zz (zcf w7 ⟨p,A,qM,N,B,zM,q⟩ (aa.o.zN.below O) Hg.o.fits Hg.o.zO L.o.ok L.o.lim (aa.o.tz.below O (zpx _)) (i:Int) (some i) (.inr ⟨i,rfl,rfl,hi,ak⟩));clear ac O;go_upto_region 10 with(go_at_call 14;go_loud (refine br.o.mono ?_;rintro e w8⟨px,rfl,aX,aI,hR,bz,bl,aQ,aH,aY,O⟩;obtain⟨W9,ab,an⟩:=xi w8 57 #[.string px.r.p,.slice px.r.A px.r.head.length px.r.cap,.slice px.r.B px.r.body.length px.r.zM,.slice px.A px.ss.length px.cap];have ax:=zz (zpG aX (zpG aI (zpG hR (zpG aQ (zpG aH aY)))));have a6:=zz (bl i rfl);have cw:=zz O;have cl:=zz an;have Y:=zz (zl O an.below);clear aX aI hR bz bl aQ aH aY O an X c1 c2;have X:=(bu.o.below Y.o).cell 0;have c1:=(bu.o.below Y.o).cell 1;have c2:=(bu.o.below Y.o).cell 2))
 clear ab;have bc:=zz (zcf W9 ⟨p,A,qM,N,B,zM,q⟩ (aa.o.zN.below (zl aA.o Y.o)) Hg.o.fits Hg.o.zO L.o.ok L.o.lim (aa.o.tz.below (zl aA.o Y.o) (zpx _)) (-1) none (.inl ⟨rfl,rfl⟩));go_upto_region 13 with(go_at_call 14;go_loud (refine bc.o.mono ?_;rintro e ck⟨qx,rfl,aX,aI,hR,bz,-,aQ,aH,aY,O⟩;obtain⟨cQ,ae,an⟩:=xi ck 57 #[.string qx.r.p,.slice qx.r.A qx.r.head.length qx.r.cap,.slice qx.r.B qx.r.body.length qx.r.zM,.slice qx.A qx.ss.length qx.cap];have ab:=zz (zpG aX (zpG aI (zpG hR (zpG aQ (zpG aH aY)))));have bL:=zz O;have bR:=zz an;have aT:=zz (zl O an.below);clear aX aI hR bz aQ aH aY O an X c1 c2))
 clear ae;obtain⟨S,hS⟩:∃S:Nat->Prop,(fun g=>w6.heap.size<=g/\g<w7.heap.size)=S:=⟨_,rfl⟩;have ae:∀g,S g->w6.heap.size<=g/\g<w7.heap.size:=fun g hg=>by rw[<-hS]at hg;exact hg
 have ac:=cC.o;rw[hS]at ac;have X:=aa.o.tk.below aA.o (zpx _);have bj:=zz ((Live.made (r:=⟨p,A,qM,N,B,zM,q⟩) (px:=px) ac ae aA.o.size X aa.o.ZI (Below.refl _ _) cw.o cl.o ax.o.1 ax.o.2.1 ax.o.2.2.1 ax.o.2.2.2.1 ax.o.2.2.2.2.1 ax.o.2.2.2.2.2).below aT.o);have bV:=zz (Live.made (r:=⟨p,A,qM,N,B,zM,q⟩) (px:=qx) ac ae aA.o.size X aa.o.ZI Y.o bL.o bR.o ab.o.1 ab.o.2.1 ab.o.2.2.1 ab.o.2.2.2.1 ab.o.2.2.2.2.1 ab.o.2.2.2.2.2);have aU:=zz (zl aA.o (zl Y.o aT.o));clear hS ae ac X;obtain⟨sp,ae⟩:∃sp,Xc ⟨p,A,qM,N,B,zM,q⟩ fs=sp:=⟨_,rfl⟩;obtain⟨n,hn⟩:∃n,YF (yz fs) q[i].a.p=n:=⟨_,rfl⟩;have aM:=zz (show n=sp i by rw[<-ae,VN hi,<-hn];exact(if_pos ak).symm);have aj:∀t:Nat,t<=n->∀j:Nat,(j:Int)=(i:Int)->t<=sp j:=fun t X j e=>by
  obtain rfl:j=i:=zd;rw[<-aM.o];exact X
 have aC:=zz aj;have am:=zz ae;obtain⟨hf,af⟩:∃hf:Env->ByteArray×List Vl,(fun ρ:Env=>(p,(N.map (·.t)).map fun t=>t.at ρ))=hf:=⟨_,rfl⟩;have X:=zz af;have cS:n<=1048576:=by have h1:=zaT fs q[i].a.p;have h2:=Hg.o.nf;omega
 have ac:=JY bj.o.Xs q[i].a.p (Hg.o.fits.2.1 _ (zpB hi));rw[hn]at ac;have cq:=zz ac;have bw:=zz (zl bh.o aU.o);have q1:=(bw.o.cell (p:=⟨bb,ob+i*16+1,none⟩) bC.o).trans cj.o;have c2:=(au.o.below aU.o).cell 2;rw[bx.o]at c2;clear ae af aj ac hn;have aE:(0:Int)<(n:Int)+1:=zd;have bY:¬((n:Int)+1=0):=zd;have cs:U.tmod ((n:Int)+1)<(n:Int)+1:=Int.tmod_lt_of_pos U aE;have cD:-((n:Int)+1)<U.tmod ((n:Int)+1):=by
  rcases Int.le_total 0 U with h|h
  ·have:=Int.tmod_nonneg ((n:Int)+1) h;omega
  ·have h1:=Int.tmod_lt_of_pos (-U) aE;rw[Int.neg_tmod]at h1;omega
 go_upto_if 117 with(go_at_call 15;refine cq.o.mono ?_;rintro e cJ⟨rfl,ao⟩;have bQ:=zz (zl aU.o ao);have HP:=zz (bj.o.below ao);have HQ:=zz (bV.o.below ao);clear ao c2 q1)
 go_cut [16] (fun v wx=>cJ=wx/\∃k:Nat,k<=n/\v=.int .i64 (k:Int))
 case first=>
  go_wp2
  ·have ap:U.tmod ((n:Int)+1)<0:=za;obtain⟨k,hk⟩:∃k:Nat,U.tmod ((n:Int)+1)+(n:Int)+1=(k:Int):=⟨(U.tmod ((n:Int)+1)+(n:Int)+1).toNat,zd⟩
   go_meet
   exact⟨rfl,k,zd,by rw[hk]⟩
  ·have ap:¬U.tmod ((n:Int)+1)<0:=by first|assumption|exact Int.not_lt.2 za
   obtain⟨k,hk⟩:∃k:Nat,U.tmod ((n:Int)+1)=(k:Int):=⟨(U.tmod ((n:Int)+1)).toNat,zd⟩
   go_meet
   exact⟨rfl,k,zd,by rw[hk]⟩
 case rest=>
  obtain⟨rfl,k,hk,rfl⟩:=hcut;have Hk:=zz hk;clear hk;clear cs cD bY aE d1 d2 d3 d4;have p0:=HP.o.box.cell 0;have p1:=HP.o.box.cell 1;have p2:=HP.o.box.cell 2;have p3:=HP.o.box.cell 3;go_upto_region 18 with(go_at_call 16;go_loud (refine(UC am X Hg L R HP (-1) 0 0 (zpx 0) (by intros;omega)).mono ?_;rintro e v1⟨A1,bJ,l1,S1,rfl,cb,cI,aZ,bS⟩;clear p0 p1 p2 p3))
  have p0:=aZ.o.box.cell 0;have p1:=aZ.o.box.cell 1;have p2:=aZ.o.box.cell 2;have p3:=aZ.o.box.cell 3;go_upto_region 19 with(go_at_call 16;go_loud (refine(UC am X Hg L R aZ (i:Int) 0 k (zpD k) (aC.o _ Hk.o)).mono ?_;rintro e v2⟨A2,cN,l2,S2,rfl,cz,cm,aS,bF⟩;clear p0 p1 p2 p3))
  have p0:=aS.o.box.cell 0;have p1:=aS.o.box.cell 1;have p2:=aS.o.box.cell 2;have p3:=aS.o.box.cell 3;go_upto_region 20 with(go_at_call 16;go_loud (refine(UC am X Hg L R aS (i:Int) k n Hk.o (aC.o _ (zpx n))).mono ?_;rintro e v3⟨A3,cM,l3,S3,rfl,cA,co,aK,bT⟩;clear p0 p1 p2 p3))
  have p0:=aK.o.box.cell 0;have p1:=aK.o.box.cell 1;have p2:=aK.o.box.cell 2;have p3:=aK.o.box.cell 3;go_upto_region 21 with(go_at_call 16;go_loud (refine(UC am X Hg L R aK (i:Int) k k (zpx k) (aC.o _ Hk.o)).mono ?_;rintro e v4⟨A4,cO,l4,S4,rfl,cR,cf,cP,bX⟩;clear p0 p1 p2 p3))
  have aW:=zz (HQ.o.on (bS.o.trans (bF.o.trans (bT.o.trans bX.o))));have p0:=aW.o.box.cell 0;have p1:=aW.o.box.cell 1;have p2:=aW.o.box.cell 2;have p3:=aW.o.box.cell 3;go_upto_region 22 with(go_at_call 16;go_loud (refine(UC am X Hg L R aW (-1) 0 0 (zpx 0) (by intros;omega)).mono ?_;rintro e v5⟨A5,bU,l5,S5,rfl,ch,b8,aJ,ct⟩;clear p0 p1 p2 p3))
  have p0:=aJ.o.box.cell 0;have p1:=aJ.o.box.cell 1;have p2:=aJ.o.box.cell 2;have p3:=aJ.o.box.cell 3;go_upto_region 23 with(go_at_call 16;go_loud (refine(UC am X Hg L R aJ (i:Int) 0 k (zpD k) (aC.o _ Hk.o)).mono ?_;rintro e v6⟨A6,cL,l6,S6,rfl,ci,cy,aO,cu⟩;clear p0 p1 p2 p3))
  have p0:=aO.o.box.cell 0;have p1:=aO.o.box.cell 1;have p2:=aO.o.box.cell 2;have p3:=aO.o.box.cell 3;go_upto_region 24 with(go_at_call 16;go_loud (refine(UC am X Hg L R aO (i:Int) k n Hk.o (aC.o _ (zpx n))).mono ?_;rintro e v7⟨A7,cK,l7,S7,rfl,cv,cg,b5,bG⟩;clear p0 p1 p2 p3))
  have ae:sp i=n:=aM.o.symm;obtain rfl:l4=[]:=by
   have h:=cf.o;rw[zkB HP.o.yS.copy HP.o.yS.right Hi.o.choose Hi.o.choose_spec]at h;exact List.map_eq_nil_iff.1 h
  have e1:=zhq (tk:=tk) (fs:=fs) HP.o.yS.copy HP.o.yS.right a6.o Hi.o.choose Hi.o.choose_spec ae Hk.o;have e2:=zhp (tk:=tk) (fs:=fs) HQ.o.yS.copy HQ.o.yS.right Hi.o.choose Hi.o.choose_spec ae Hk.o;have m1:=cI.o;have m2:=cm.o;have m3:=co.o;have m5:=b8.o;have m6:=cy.o;have m7:=cg.o;have bs:=zz (show(l2++l3).map qO=l1.map qO by rw[zp1,m1,m2,m3,e1,zp1]);have bW:=zz (show((l6++l7).map qO).Perm (l5.map qO) by rw[zp1,m5,m6,m7,<-zp1];exact(e2.map hf).symm);have aj:=zpK (G4 (tk:=tk) (fs:=fs) HP.o.yS.copy HP.o.yS.right (Xl (-1) 0) (Xb (-1) 0 sp)) R.o;have af:=zpK (G4 (tk:=tk) (fs:=fs) HQ.o.yS.copy HQ.o.yS.right (Xl (-1) 0) (Xb (-1) 0 sp)) R.o;have g1:=congrArg List.length m1;have g5:=congrArg List.length m5;rw[zpO,zpO]at g1 g5;have ba:=zz (show l2.length+l3.length=l1.length by have h:=congrArg List.length bs.o;simpa using h);have a7:=zz (show l6.length+l7.length=l5.length by have h:=bW.o.length_eq;simpa using h);have bA:=zz (show l2.length+l3.length<=2147483647 by have:=ba.o;omega);have bp:=zz (show l6.length+l7.length<=2147483647 by have:=a7.o;omega);have ac:(N.map (·.t)).length<=1048576:=by rw[zpO];exact Hg.o.XY
  have cE:=zz (Jm X.o m1 ac);have cn:=zz (Jm X.o m5 ac);have cc:=zz (Jm X.o (l:=l2++l3) (by rw[bs.o];exact m1) ac);have ca:=zz (Jm X.o (l:=l6++l7) (by rw[zp1,m6,m7,<-zp1]) ac);have bf:=zz (cu.o.trans bG.o);have bM:=zz (ct.o.trans bf.o);have bm:=zz (bX.o.trans bM.o);have bk:=zz (bT.o.trans bm.o);have bg:=zz (bF.o.trans bk.o);have ce:=zz (cb.o.on bg.o);have bO:=zz (cz.o.on bk.o);have bH:=zz (cA.o.on bm.o);have cd:=zz (ch.o.on bf.o);have cr:=zz (ci.o.on bG.o);have cG:=cv;have b7:=zz (bQ.o.trans ((bS.o.trans bg.o).zC.below HP.o.le HP.o.low));clear ae e1 e2 m1 m2 m3 m5 m6 m7 aj af g1 g5 ac
  go_wp2_with (at_builtin;refine TE (n:=0) rfl _ _ rfl VW (Own.qz _) bO.o.own rfl rfl rfl rfl (fun y _=>rfl) (fun y _=>zt) (by have:=bA.o;omega) zr ?_)
  intro A8 aV w8 ac aP af;have ac:Own Fa.cells 71 2 w8 A8 aV l2:=ac;have af:∀g∈zw A8,v7.heap.size<=g:=fun g hg=>(af g hg).elim (fun h=>nomatch h) id
  have O:Bl v7 w8:=aP.below (zpx _) (fun x hx=>nomatch hx);have a9:=zz ac;have ar:=zz af;have aj:=zz O;have a4:=zz (bH.o.own.below O);clear ac aP af O
  go_wp2_with (at_builtin;refine TE rfl _ _ rfl VW a9.o a4.o rfl rfl rfl rfl (fun y _=>rfl) (fun y _=>zt) (by have:=bA.o;omega) zr ?_)
  intro A9 aG x1 aL aF ae;have ae:∀g∈zw A9,v7.heap.size<=g:=fun g hg=>(ae g hg).elim (ar.o g) fun h=>by have:=aj.o.size;omega
  have al:Bl v7 x1:=aj.o.trans (aF.below aj.o.size ar.o);have a1:=zz (bO.o.two bH.o b5.o.lt al aL ae);have ay:=zz al;clear aL aF ae al;have bt:=zz (zhn x1 A9 A1 l1.length aG bJ (l2++l3) l1 (a1.o.rd cc.o) ((ce.o.below ay.o).rd cE.o) bs.o (by rw[zpA];exact ba.o) (by have:=ba.o;have:=bA.o;omega))
  go_wp2_with (first
   |(go_at_call 17;go_loud (rw[ba.o];refine bt.o.mono ?_;rintro e x2⟨rfl,aR⟩;have aD:=zz (zl ay.o aR);have bP:=zz (cd.o.below aD.o);have be:=zz (cr.o.below aD.o);have bd:=zz (cG.o.below aD.o);clear aR a1 ay a9 ar aj a4))
   |(at_builtin;go_loud (refine zdg (n:=0) zj _ _ rfl VW (Own.qz _) be.o.own rfl rfl rfl rfl (fun y _=>rfl) (fun y _=>zt) (by have:=bp.o;omega) zr ?_)))
  intro A8 aV w8 ac aP af;have ac:Own Fa.cells 71 2 w8 A8 aV l6:=ac;have af:∀g∈zw A8,x2.heap.size<=g:=fun g hg=>(af g hg).elim (fun h=>nomatch h) id
  have O:Bl x2 w8:=aP.below (zpx _) (fun x hx=>nomatch hx);have a9:=zz ac;have ar:=zz af;have aj:=zz O;have a4:=zz (bd.o.own.below O);clear ac aP af O
  go_wp2_with (at_builtin;refine zdg zj _ _ rfl VW a9.o a4.o rfl rfl rfl rfl (fun y _=>rfl) (fun y _=>zt) (by have:=bp.o;omega) zr ?_)
  intro A9 aG x3 aL aF ae;have ae:∀g∈zw A9,x2.heap.size<=g:=fun g hg=>(ae g hg).elim (ar.o g) fun h=>by have:=aj.o.size;omega
  have al:Bl x2 x3:=aj.o.trans (aF.below aj.o.size ar.o);have a1:=zz (be.o.two bd.o (fun g hg=>zpz (b5.o.lt g hg) aD.o.size) al aL ae);have ay:=zz al;clear aL aF ae al;have ac:=zz (zcd x3 A9 A5 l5.length aG bU (l6++l7) l5 (a1.o.rd ca.o) ((bP.o.below ay.o).rd cn.o) bW.o (by rw[zpA];exact a7.o) (by have:=a7.o;have:=bp.o;omega))
  go_wp2_with (go_at_call 18;go_loud (rw[a7.o];refine ac.o.mono ?_;rintro e x4⟨rfl,aR⟩;have ae:=zz (zl ay.o aR);clear aR))
  go_returns;exact⟨rfl,zl ad.o (zl b7.o (zl aD.o ae.o))⟩
abbrev bE:ByteArray:=⟨#[101]⟩
abbrev bP:ByteArray:=⟨#[112]⟩
abbrev bX:ByteArray:=⟨#[88]⟩
abbrev bY:ByteArray:=⟨#[89]⟩
abbrev bZ:ByteArray:=⟨#[90]⟩
theorem ZT(a:Array UInt8):(⟨a⟩:ByteArray).toList=a.toList:=ByteArray.toList_eq _
theorem TX{a b:Array UInt8}(h:a.toList≠b.toList):(⟨a⟩:ByteArray)≠⟨b⟩:=fun e=>h (by
 have:=congrArg ByteArray.toList e
 rwa [ZT,ZT]at this)
abbrev xR(v:ByteArray):Tm:=⟨v,⟨0,0,⟨#[]⟩⟩⟩
abbrev JB:Ex:=.mk 0 (xR ⟨#[]⟩) none 0 []
abbrev Yd(A:Option Addr)(c:Nat)(u v:ByteArray):Li:=⟨1,⟨bE,A,c,[xR u,xR v]⟩,0,JB,JB⟩
abbrev X8(H:Option Addr)(cH:Nat)(B:Option Addr)(cB:Nat)(A1:Option Addr)(c1:Nat)(A2:Option Addr)(c2:Nat):Ru:=⟨bP,H,cH,[⟨0,xR bX⟩,⟨0,xR bZ⟩],B,cB,[Yd A1 c1 bX bY,Yd A2 c2 bY bZ]⟩
abbrev vN(n:Int):Vl:=⟨1,n,⟨#[]⟩⟩
abbrev Zv(A:Option Addr)(h:Nat)(B:Option Addr)(cB:Nat):List Fa:=[⟨bE,A,h,[vN 1,vN 2]⟩,⟨bE,B,cB,[vN 2,vN 3]⟩]
abbrev J6(G:Option Addr)(q:Nat)(J:Option Addr)(h:Nat):List Sx:=[⟨⟨1,0,0,[bX,bY]⟩,G,q⟩,⟨⟨2,1,1,[bZ]⟩,J,h⟩]
theorem VU:isVar bX:=⟨by rw[ZT];decide,by rw[ZT];decide⟩
theorem VE:isVar bY:=⟨by rw[ZT];decide,by rw[ZT];decide⟩
theorem Uc:isVar bZ:=⟨by rw[ZT];decide,by rw[ZT];decide⟩
theorem JZ:¬isVar (⟨#[]⟩:ByteArray):=fun h=>h.1 (by rw[ZT])
theorem nXY:bX≠bY:=TX zr
theorem nYX:bY≠bX:=TX zr
theorem TT:bZ≠bX:=TX zr
theorem GN:bZ≠bY:=TX zr
theorem J3{c:UInt8}{a b:Nat}(I:a<=c.toNat)(q:c.toNat<=b)(L:Ug c.toNat):Wd ⟨#[c]⟩ a b:=
 ⟨by show 0<1;decide,by show 1<=120;decide,⟨I,q⟩,fun i h=>by
  have N:i<1:=h;obtain rfl:i=0:=zd;exact L⟩
theorem nmE:Nm bE:=⟨by rw[ZT];decide,J3 zr (zr) (.inl zr)⟩
theorem nmP:Nm bP:=⟨by rw[ZT];decide,J3 zr (zr) (.inl zr)⟩
theorem vrX:Vr bX:=J3 zr (zr) (.inr (.inl zr))
theorem vrY:Vr bY:=J3 zr (zr) (.inr (.inl zr))
theorem vrZ:Vr bZ:=J3 zr (zr) (.inr (.inl zr))
theorem TU(h:isVar v)(q:Vr v):(xR v).ok:=.inr ⟨⟨rfl,rfl,rfl⟩,.inr ⟨h.1,h.2,q⟩⟩
theorem zbv:JB.empty:=by unfold Ex.empty;exact⟨rfl,⟨rfl,rfl,rfl,rfl⟩,rfl⟩
theorem DJ:(⟨0,0,⟨#[]⟩⟩:Vl).told:=⟨zr,zr,zr,zr,zr⟩
theorem Tg{n:Int}(h0:0<=n)(h:n<=9):(vN n).told:=⟨by show(-128:Int)<=1;decide,by show(1:Int)<=127;decide,by show(-9223372036854775808:Int)<=n;omega,by show n<=9223372036854775807;omega,by show(0:Nat)<=_;decide⟩
theorem zdi:JB.may:=by
 unfold Ex.may Ex.Zg;exact⟨zr,zr,DJ,zr,trivial⟩
section
variable {H B A1 A2:Option Addr}{cH cB c1 c2:Nat}
theorem zfo(N:isVar u)(I:Vr u)(L:isVar v)(h:Vr v):(Yd A c u v).ok:=
 .inl ⟨.inl rfl,rfl,zbv,zbv,nmE,by show 2<=24;decide,fun t q=>by
  rcases zpU.1 q with rfl|q
  ·exact TU N I
  ·obtain rfl:=zpy.1 q;exact TU L h⟩
theorem JR:(X8 H cH B cB A1 c1 A2 c2).zO=[xR bX,xR bZ,xR bX,xR bY,xR ⟨#[]⟩,xR ⟨#[]⟩,xR bY,xR bZ,xR ⟨#[]⟩,xR ⟨#[]⟩]:=by
 simp[Ru.zO,Li.zO,Ex.zO,Ex.qq]
theorem zlp:∀t∈(X8 H cH B cB A1 c1 A2 c2).zO,t.v.size<=1:=fun t h=>by
 rw[JR]at h;simp only[zpU,zqY,or_false]at h
 rcases h with rfl|rfl|rfl|rfl|rfl|rfl|rfl|rfl|rfl|rfl<;>decide
theorem zer{L:Nat}:VK (X8 H cH B cB A1 c1 A2 c2) (Zv F N J L) where
 fits:=⟨by show 1<=maxLen;decide,fun x q=>by
  rcases zpU.1 q with rfl|q
  ·show 1<=maxLen;decide
  ·obtain rfl:=zpy.1 q;show 1<=maxLen;decide,fun t I=>zpK (zlp t I) zr⟩
 zO:=by rw[JR];decide
 XY:=by show 2<=_;decide
 y8:=by show 2<=_;decide
 may:=fun x q=>by
  have h:∀(A:Option Addr)(c:Nat)(u v:ByteArray),(Yd A c u v).l.may/\(Yd A c u v).r.may/\(Yd A c u v).a.args.length<=1048576/\(Yd A c u v).a.p.size<=1048576/\∀t∈(Yd A c u v).a.args,t.x.told:=fun A c u v=>
   ⟨zdi,zdi,by show 2<=_;decide,by show 1<=_;decide,fun t I=>by
    rcases zpU.1 I with rfl|I
    ·exact DJ
    ·obtain rfl:=zpy.1 I;exact DJ⟩
  rcases zpU.1 q with rfl|q
  ·exact h _ _ _ _
  ·obtain rfl:=zpy.1 q;exact h _ _ _ _
 args:=by show 4<=_;decide
 nf:=by show 2<=_;decide
 facts:=fun f I=>by
  rcases zpU.1 I with rfl|I
  ·exact⟨by show 2<=_;decide,by show 1<=_;decide,fun v q=>by
    rcases zpU.1 q with rfl|q
    ·exact Tg zr (zr)
    ·obtain rfl:=zpy.1 q;exact Tg zr (zr)⟩
  ·obtain rfl:=zpy.1 I;exact⟨by show 2<=_;decide,by show 1<=_;decide,fun v q=>by
    rcases zpU.1 q with rfl|q
    ·exact Tg zr (zr)
    ·obtain rfl:=zpy.1 q;exact Tg zr (zr)⟩
theorem zcO(R:isVar u)(L:isVar v)(q:v≠u):(Yd A c u v).vars=[u,v]:=by
 have e:(Yd A c u v).zO=[xR u,xR v,xR ⟨#[]⟩,xR ⟨#[]⟩]:=by simp[Li.zO,Ex.zO,Ex.qq]
 unfold Li.vars;rw[e,VX,VX,VX,VX];have O:addVar [] u=[u]:=by unfold addVar;rw[if_pos ⟨R,zqY⟩];rfl
 have N:addVar [u] v=[u,v]:=by unfold addVar;rw[if_pos ⟨L,by simpa using q⟩];rfl
 have I:addVar [u,v] ⟨#[]⟩=[u,v]:=by unfold addVar;rw[if_neg fun h=>JZ h.1]
 rw[O,N,I,I];rfl
theorem zfs:∀w,(w=u\/w=v)->isVar w->w∈(Yd A c u v).a.vars:=fun w q h=>
 At.qJ.2 ⟨h,by
  rcases q with rfl|rfl
  ·exact⟨xR w,zp,rfl⟩
  ·exact⟨xR w,zp,rfl⟩⟩
theorem Tq{W X:Nat}:Fit (X8 H cH B cB A1 c1 A2 c2) (Zv F W J X) where
 flat:=fun a q=>by
  rcases zpU.1 q with rfl|q
  ·rfl
  ·obtain rfl:=zpy.1 q;rfl
 Zq:={
  rules:=fun r I=>by
   obtain rfl:=zpy.1 I;refine⟨⟨nmP,by show 2<=24;decide,by show 2<=16;decide,fun a q=>?_,fun x R=>?_,?_⟩,fun v L=>?_⟩
   ·rcases zpU.1 q with rfl|q
    ·exact .inl ⟨rfl,VU.2,TU VU vrX⟩
    ·obtain rfl:=zpy.1 q;exact .inl ⟨rfl,Uc.2,TU Uc vrZ⟩
   ·rcases zpU.1 R with rfl|R
    ·exact zfo VU vrX VE vrY
    ·obtain rfl:=zpy.1 R;exact zfo VE vrY Uc vrZ
   ·have h:=Ux (X8 H cH B cB A1 c1 A2 c2).zO [];rw[JR]at h;unfold Ru.vars;rw[JR];exact zpK h zr
   ·obtain⟨I,t,N,rfl⟩:=C.qJ.1 L;rw[JR]at N;simp only[zpU,zqY,or_false]at N;have U:∀w,(w=bX\/w=bY)->isVar w->yo (X8 H cH B cB A1 c1 A2 c2).body w:=fun w O h=>.atom zpP rfl (zfs w O h)
    have V:∀w,(w=bY\/w=bZ)->isVar w->yo (X8 H cH B cB A1 c1 A2 c2).body w:=fun w O h=>.atom (zpQ _ zpP) rfl (zfs w O h)
    rcases N with rfl|rfl|rfl|rfl|rfl|rfl|rfl|rfl|rfl|rfl
    ·exact U _ (.inl rfl) I
    ·exact V _ (.inr rfl) I
    ·exact U _ (.inl rfl) I
    ·exact U _ (.inr rfl) I
    ·exact absurd I JZ
    ·exact absurd I JZ
    ·exact V _ (.inl rfl) I
    ·exact V _ (.inr rfl) I
    ·exact absurd I JZ
    ·exact absurd I JZ
  facts:=fun f I=>by
   have h:∀(A:Option Addr)(c:Nat)(i j:Int),(⟨bE,A,c,[vN i,vN j]⟩:Fa).ok:=fun A c i j=>⟨nmE,by show 2<=24;decide,fun v L=>by
    rcases zpU.1 L with rfl|L
    ·exact .inl ⟨rfl,rfl⟩
    ·obtain rfl:=zpy.1 L;exact .inl ⟨rfl,rfl⟩⟩
   rcases zpU.1 I with rfl|I
   ·exact h _ _ _ _
   ·obtain rfl:=zpy.1 I;exact h _ _ _ _
  cons:=fun a q b I _=>by
   have h:∀a∈([X8 H cH B cB A1 c1 A2 c2].flatMap ya++(Zv F W J X).map yc),a.2=2:=fun a q=>by
    simp[ya,Yo,yc]at q
    rcases q with rfl|rfl<;>rfl
   rw[h a q,h b I]}
theorem ziD:qF [] (Yd A c bX bY)=[bX,bY]:=by
 unfold qF;rw[zcO VU VE nYX];simp[qu]
theorem zn6:qF [bX,bY] (Yd A c bY bZ)=[bZ]:=by
 unfold qF;rw[zcO VE Uc GN];have I:(!tf (bY∈[bX,bY]))=false:=by rw[qs zp];rfl
 have q:(!tf (bZ∈[bX,bY]))=true:=by
  rw[qu]
  ·rfl
  ·intro h
   rcases zpU.1 h with h|h
   ·exact TT h
   ·exact GN (zpy.1 h)
 rw[zqp (by rw[I];exact zqV),zqK (p:=fun v=>!tf (v∈[bX,bY])) q];rfl
theorem ziX:qm [] 0 [xR bX,xR bY]=0:=by
 unfold qm;rw[if_neg (fun h=>h.elim VU.1 zqY)];unfold qm;rw[if_neg (fun h=>h.elim VE.1 zqY)];rfl
theorem zkL:qm [bX,bY] 0 [xR bY,xR bZ]=1:=by
 unfold qm;rw[if_pos (.inr zp)];unfold qm;rw[if_neg (fun h=>h.elim Uc.1 fun h=>by
  rcases zpU.1 h with h|h
  ·exact TT h
  ·exact GN (zpy.1 h))]
 rfl
theorem step1:stepOf [] 0 (Yd A c bX bY)=some ⟨1,0,0,[bX,bY]⟩:=by
 unfold stepOf;rw[if_pos rfl,ziD];show some (Sp.mk (if qm [] 0 [xR bX,xR bY]=_ then _ else _) 0 (qm [] 0 [xR bX,xR bY]) _)=_;rw[ziX];rfl
theorem step2:stepOf [bX,bY] 1 (Yd A c bY bZ)=some ⟨2,1,1,[bZ]⟩:=by
 unfold stepOf;rw[if_pos rfl,zn6];show some (Sp.mk (if qm [bX,bY] 0 [xR bY,xR bZ]=_ then _ else _) 1 (qm [bX,bY] 0 [xR bY,xR bZ]) _)=_;rw[zkL];rfl
theorem zkx{q:Nat}:yi (X8 H cH B cB A1 c1 A2 c2).body [] (List.range (X8 H cH B cB A1 c1 A2 c2).body.length) ((J6 G q J h).map (·.s)):=
 .cons (i:=0) (s:=⟨1,0,0,[bX,bY]⟩) (show 0∈List.range 2 from zr) (by show 0<2;decide) step1 (.cons (i:=1) (s:=⟨2,1,1,[bZ]⟩) (show 1∈(List.range 2).erase 0 from zr) (by show 1<2;decide) step2 .nil)
theorem zjI{q:Nat}:mulL (X2 (X8 H cH B cB A1 c1 A2 c2).body (Yb (Zv F I J q))) (List.range (X8 H cH B cB A1 c1 A2 c2).body.length)<=2147483647:=by
 have h:∀i,i<2->X2 (X8 H cH B cB A1 c1 A2 c2).body (Yb (Zv F I J q)) i<=2:=fun i L=>by
  rcases(show i=0\/i=1 from zd)with rfl|rfl
  ·rw[GR (by show 0<2;decide) rfl];exact zaj _ _
  ·rw[GR (by show 1<2;decide) rfl];exact zaj _ _
 have N:=h 0 zr;have L:=h 1 zr;show X2 _ _ 0*(X2 _ _ 1*1)<=_;have:=zrx N (zrx L (zpx 1));omega
theorem zcQ{q:Nat}:yz (Zv F N J q) bE=some (2,[[vN 1,vN 2],[vN 2,vN 3]]):=by
 show Z8 (Z8 (fun _=>none) bE [vN 1,vN 2]) bE [vN 2,vN 3] bE=_;unfold Z8;rw[if_pos rfl,if_pos rfl];have L:Vf ((((fun _=>none:yW) bE).map (·.2)).getD []) [vN 1,vN 2]=[[vN 1,vN 2]]:=by
  show Vf [] _=_;unfold Vf;rw[if_neg zqY];rfl
 simp only[zqh,zqr];rw[L];have I:Vf [[vN 1,vN 2]] [vN 2,vN 3]=[[vN 1,vN 2],[vN 2,vN 3]]:=by
  unfold Vf;rw[if_neg fun h=>by
   have h:=zpy.1 h;injection h with h
   injection h with _ h
   omega]
  rfl
 rw[I];rfl
theorem zbl{q:Nat}:YF (yz (Zv F h J q)) bE=2:=by
 unfold YF;rw[zcQ];rfl
abbrev ZG:List (List Vl):=[[vN 1,vN 2],[vN 2,vN 3]]
theorem DY{i j:Int}(h:vN i=vN j):i=j:=by injection h
theorem zms{args:List Tm}:XN ZG 0 ρ args 0 2=[0,1]:=by
 unfold XN;have h:∀n,tf (Zu 0 ρ args (ZG.getD n []))=true:=fun n=>qs fun i _ q=>by rw[Nat.zero_testBit]at q;cases q
 rw[List.filter_eq_self.2 fun n _=>h n];rfl
theorem G6{row:List Vl}:Zu 1 ρ [xR u,xR v] row↔row[0]? = some ((xR u).at ρ):=by
 constructor
 ·intro h;exact h 0 (by show 0<2;decide) rfl
 ·intro h i q I;have q:i<2:=q
  rcases(show i=0\/i=1 from zd)with rfl|rfl
  ·exact h
  ·cases I
theorem JL(q:isVar v)(h:ρ v=some x):(xR v).at ρ=x:=by
 unfold Tm.at;rw[if_neg q.1,h];rfl
theorem zmm(q:isVar u)(h:ρ u=some (vN 2)):XN ZG 1 ρ [xR u,xR v] 0 2=[1]:=by
 unfold XN;have L:tf (Zu 1 ρ [xR u,xR v] (ZG.getD 0 []))=false:=qu fun I=>by
  have:=G6.1 I;rw[JL q h]at this;injection this with this
  have:=DY this;omega
 have I:tf (Zu 1 ρ [xR u,xR v] (ZG.getD 1 []))=true:=qs (G6.2 (by rw[JL q h];rfl));show(([0,1]:List Nat).filter _).filter _=_;rw[zqp (by rw[L];exact zqV),zqK (p:=fun n=>tf (Zu 1 ρ [xR u,xR v] (ZG.getD n []))) I];rfl
theorem zg8(I:isVar u)(h:ρ u=some (vN 3)):XN ZG 1 ρ [xR u,xR v] 0 2=[]:=by
 unfold XN;have N:tf (Zu 1 ρ [xR u,xR v] (ZG.getD 0 []))=false:=qu fun q=>by
  have:=G6.1 q;rw[JL I h]at this;injection this with this
  have:=DY this;omega
 have L:tf (Zu 1 ρ [xR u,xR v] (ZG.getD 1 []))=false:=qu fun q=>by
  have:=G6.1 q;rw[JL I h]at this;injection this with this
  have:=DY this;omega
 show(([0,1]:List Nat).filter _).filter _=_;rw[zqp (by rw[N];exact zqV),zqp (by rw[L];exact zqV)];rfl
theorem zeS(O:isVar u)(I:isVar v)(q:v≠u)(N:ρ u=none)(L:ρ v=none):fit 0 0 [xR u,xR v] [x,y] ρ=(true,qR (qR ρ u x) v y):=by
 rw[VO,if_neg (fun h=>h.elim (fun h=>by rw[Nat.zero_testBit]at h;cases h) O.2)];rw[N];simp only;rw[VO,if_neg (fun h=>h.elim (fun h=>by rw[Nat.zero_testBit]at h;cases h) I.2)];have:qR ρ u x v=none:=by rw[YG,if_neg q];exact L
 rw[this];simp only;unfold fit;rfl
theorem zjU(q:isVar v)(I:ρ v=none):fit 1 0 [xR u,xR v] [x,y] ρ=(true,qR ρ v y):=by
 rw[VO,if_pos (.inl rfl)];rw[VO,if_neg (fun h=>h.elim (fun h=>by cases h) q.2)];rw[I];simp only;unfold fit;rfl
theorem zlF(tk:Nat->Int){K:Option Addr}{R O q:Nat}(lo hi:Nat->Nat)(Y:lo 0=0)(l1:lo 1=0)(h0:hi 0=2)(X:hi 1=2):
 (Xw tk (Zv F h J R) ⟨X8 H cH B cB A1 c1 A2 c2,S,q,J6 G O K I⟩ lo hi).map (fun ρ=>(bP,((X8 H cH B cB A1 c1 A2 c2).head.map (·.t)).map fun t=>t.at ρ))=[(bP,[vN 1,vN 3])]:=by
 have U:(((yz (Zv F h J R) bE).map (·.2)).getD [])=ZG:=by rw[zcQ];rfl
 have hm:((⟨X8 H cH B cB A1 c1 A2 c2,S,q,J6 G O K I⟩:Px).ss.map fun s=>madeOf (X8 H cH B cB A1 c1 A2 c2).body lo hi s.s)=[.rows bE [xR bX,xR bY] 0 [bX,bY] 0 2,.rows bE [xR bY,xR bZ] 1 [bZ] 0 2]:=by
  show [St.rows bE [xR bX,xR bY] 0 [bX,bY] (lo 0) (hi 0),St.rows bE [xR bY,xR bZ] 1 [bZ] (lo 1) (hi 1)]=_;rw[Y,l1,h0,X]
 unfold Xw VD;rw[hm];unfold solve;rw[U,zms,zpZ,zpZ,zru,zp7];have V:ZG.getD 0 []=[vN 1,vN 2]:=rfl;have N:ZG.getD 1 []=[vN 2,vN 3]:=rfl;rw[V,N,zeS VU VE nYX rfl rfl,zeS VU VE nYX rfl rfl];simp only[if_true];have L:∀x y:Vl,qR (qR (fun _=>none) bX x) bY y bY=some y:=fun x y=>by rw[YG,if_pos rfl]
 have f2:∀x y:Vl,qR (qR (fun _=>none) bX x) bY y bZ=none:=fun x y=>by rw[YG,if_neg GN,YG,if_neg TT]
 unfold solve;rw[U,zmm VE (L _ _),zg8 VE (L _ _),zpZ,zru,zp7,zru,zp7,N,zjU Uc (f2 _ _)];simp only[if_true];unfold solve;have Z:qR (qR (qR (fun _=>none) bX (vN 1)) bY (vN 2)) bZ (vN 3) bX=some (vN 1):=by
  rw[YG,if_neg (zrA TT),YG,if_neg nXY,YG,if_pos rfl]
 have W:qR (qR (qR (fun _=>none) bX (vN 1)) bY (vN 2)) bZ (vN 3) bZ=some (vN 3):=by
  rw[YG,if_pos rfl]
 show [(bP,[(xR bX).at _,(xR bZ).at _])]=_;rw[JL VU Z,JL Uc W]
end
end
section
theorem zD.xI{f:α->List Value}{xs:List α}(h:zD w g t q)(e:q.toList=xs.flatMap f):zZ f w (some ⟨g,0,none⟩) xs:=fun _=>⟨g,0,rfl,h.lt,e▸h.range⟩
theorem ZA{f:α->List Value}{x y:α}(h:zD w g t q)(e:q.toList=f x++f y):zZ f w (some ⟨g,0,none⟩) [x,y]:=h.xI (by rw[e];simp)
theorem zjl{f:α->List Value}{x:α}(h:zD w g t q)(e:q.toList=f x):zZ f w (some ⟨g,0,none⟩) [x]:=h.xI (by rw[e];simp)
theorem zoi(W:World)(A B F:Option Addr)(L:Nat)(hF:zZ Fa.cells W F (Zv A 2 B 2))(R:zZ Vl.cells W A [vN 1,vN 2])(O:zZ Vl.cells W B [vN 2,vN 3])(q:∀g∈zw F,g<W.heap.size):
 Calls prog 13 #[.slice F 2 L] W (zfS (Zv A 2 B 2) W):=
 DU W F L 2 _ hF rfl (fun x h=>by
  rcases zpU.1 h with rfl|h
  ·exact⟨R,by show 2*32<=_;decide⟩
  ·obtain rfl:=zpy.1 h;exact⟨O,by show 2*32<=_;decide⟩) (fun x h=>by
  rcases zpU.1 h with rfl|h
  ·show 1<=maxLen;decide
  ·obtain rfl:=zpy.1 h;show 1<=maxLen;decide) (Tq (H:=none) (B:=none) (A1:=none) (A2:=none) (cH:=0) (cB:=0) (c1:=0) (c2:=0)).Zq.facts (fun a I b N=>(Tq (H:=none) (B:=none) (A1:=none) (A2:=none) (cH:=0) (cB:=0) (c1:=0) (c2:=0)).Zq.cons a (zpR _ I) b (zpR _ N)) zr q
  (fun x h v I=>⟨((Tq (H:=none) (B:=none) (A1:=none) (A2:=none) (cH:=0) (cB:=0) (c1:=0) (c2:=0)).Zq.facts x h).2.2 v I,Gi (((zer (H:=none) (B:=none) (A1:=none) (A2:=none) (cH:=0) (cB:=0) (c1:=0) (c2:=0)).facts x h).2.2 v I)⟩)
theorem zbI{Q:Nat->Prop}(h:Q g):qV Q (some ⟨g,c,none⟩):=fun x q=>by
 simp only[zw,zqh,zqU,zpy]at q;subst q;exact h
theorem Ts(w:World):JB.zN w:=by
 unfold Ex.zN;exact⟨fun h=>absurd rfl h,zr,by unfold Ex.qG;trivial⟩
theorem Da(Q:Nat->Prop):JB.off Q:=by
 unfold Ex.off;exact⟨fun g h=>(nomatch h),by unfold Ex.YN;trivial⟩
def zmW(lo hi:Nat)(w:World)(e:Ending)(w':World):Prop:=
 ∃A h f,e=.returned (.tuple #[.slice A 1 h,.int .i64 0])/\qO f=(bP,[vN 1,vN 3])/\zZ Fa.cells w' A [f]/\zZ Vl.cells w' f.A f.args/\zh (fun g=>lo<=g/\g<hi) w w'
theorem znv{Z:Nat}{B H D A1 A2 T:Option Addr}{lo hi:Nat}(h:yd w Z (yz (Zv A 2 B 2)) (fun g=>lo<=g/\g<hi) N)(U:hi<=w.heap.size)(tk:Nat->Int)(hT:Tk w tk)(aa:2<lo)(q:∀X∈[H,D,A1,A2,S,G,J],qV (fun g=>hi<=g/\g<w.heap.size) X)(l1:zZ Ar.cells w H [⟨0,xR bX⟩,⟨0,xR bZ⟩])(l2:zZ Li.cells w D [Yd A1 2 bX bY,Yd A2 2 bY bZ])(l3:zZ Tm.cells w A1 [xR bX,xR bY])(l4:zZ Tm.cells w A2 [xR bY,xR bZ])(l5:zZ Sx.cells w S (J6 G 2 J 1))(l6:zZ xD w G [bX,bY])(l7:zZ xD w J [bZ])(l8:zZ yX w F [0,0])(l9:zZ yX w T [2,2]):
 Calls prog 19 #[.pointer (some ⟨Z,0,none⟩),.agg #[.string bP,.slice H 2 2,.slice D 2 2,.slice S 2 2],.slice F 2 2,.slice T 2 2] w (zmW lo hi w):=by
 have hq:∀g,(hi<=g/\g<w.heap.size)->¬(lo<=g/\g<hi)/\g<w.heap.size:=fun g R=>⟨fun h=>zd,R.2⟩
 have I:∀X∈[H,D,A1,A2,S,G,J],qV (fun g=>¬(lo<=g/\g<hi)/\g<w.heap.size) X:=fun X L g R=>hq g (q X L g R)
 have Y:∀x∈[Yd A1 2 bX bY,Yd A2 2 bY bZ],x.zN w:=fun x I=>by
  rcases zpU.1 I with rfl|I
  ·exact⟨⟨l3,by show 2*48<=_;decide⟩,Ts w,Ts w⟩
  ·obtain rfl:=zpy.1 I;exact⟨⟨l4,by show 2*48<=_;decide⟩,Ts w,Ts w⟩
 have hp:U1 (X8 H 2 D 2 A1 2 A2 2) ⟨X8 H 2 D 2 A1 2 A2 2,S,2,J6 G 2 J 1⟩ (fun g=>lo<=g/\g<hi) w:={
  copy:=⟨rfl⟩
  zN:=⟨⟨l1,by show 2*56<=_;decide,l2,by show 2*216<=_;decide,Y⟩,l5,fun s L=>by
   rcases zpU.1 L with rfl|L
   ·exact l6
   ·obtain rfl:=zpy.1 L;exact l7⟩
  right:=zkx
  off:=⟨I H zp,I D zp,fun x O=>by
   rcases zpU.1 O with rfl|O
   ·exact⟨I A1 zp,Da _,Da _⟩
   ·obtain rfl:=zpy.1 O;exact⟨I A2 zp,Da _,Da _⟩⟩
  XO:=fun s L=>by
   rcases zpU.1 L with rfl|L
   ·exact I G zp
   ·obtain rfl:=zpy.1 L;exact I J zp
  DW:=I S zp}
 have W:∀i,i<2->Xc (X8 H 2 D 2 A1 2 A2 2) (Zv A 2 B 2) i=2:=fun i hi=>by
  rcases(show i=0\/i=1 from zd)with rfl|rfl
  ·rw[VN (by show 0<2;decide)];exact(if_pos rfl).trans zbl
  ·rw[VN (by show 1<2;decide)];exact(if_pos rfl).trans zbl
 refine(Dg h (fun g R=>zpz R.2 U) tk hT (fun L=>by have:=L.1;omega) zer Tq zjI _ hp F T 2 2 2 rfl [0,0] [2,2] l8 l9 rfl rfl (fun i hi=>by
  rw[W i hi]
  rcases(show i=0\/i=1 from zd)with rfl|rfl
  ·exact⟨zr,zr⟩
  ·exact⟨zr,zr⟩)).mono ?_
 rintro e w'⟨C,O,l,S',rfl,R,L,V,_,_,_,_,hc⟩;rw[zlF tk _ _ rfl rfl rfl rfl]at L
 match l,L,R,V with
 |[f],L,R,V=>exact⟨C,O,f,rfl,by
  have L:[qO f]=[(bP,[vN 1,vN 3])]:=L;injection L,R.xI,V f zpP,hc⟩
 |[],L,_,_=>cases L
 |_::_::_,L,_,_=>exact absurd (congrArg List.length L) zp
end
