/-
  law13's JoinDeltas: answers true.
-/
import Derived.Test.YtfdickkdlcgicaaGreatDoorP39
set_option maxRecDepth 100000
set_option maxHeartbeats 8000000
set_option linter.all false
namespace Go.Proofs.YtfdickkdlcgicaaGreatDoor.C
open Go.Proofs.Tryz Go Go.RowKit Go.Maps Go.WideMaps
section
def zdd(w:World)(e:Ending)(w':World):Prop:=e=.returned (.bool true)/\Bl w w'
structure Jy (w:World) (r:Ru) (F:Option Addr) (fs:List Fa) (tk:Nat->Int):Prop where
 zO:r.zO w
 YX:qU (·<w.heap.size) r.B
 facts:Ui w F fs
 zdn:qU (·<w.heap.size) F
 pw:Pw w
 tz:Tz w
 tk:Tk w tk
 VP:2<w.heap.size
theorem Jy.below{w w':World}{r:Ru}{F:Option Addr}{fs:List Fa}{tk:Nat->Int}(h:Jy w r F fs tk)(q:Bl w w'):Jy w' r F fs tk:=
 ⟨h.zO.below q,fun g I=>zo0 (h.YX g I) q.size,h.facts.below q,fun g I=>zo0 (h.zdn g I) q.size,h.pw.below q,h.tz.below q (zoZ _),h.tk.below q (zoZ _),zo0 h.VP q.size⟩
theorem zds{l:List Fa}{es:List Env}{p:ByteArray}{q:List Tm}{I:Env->ByteArray×List Vl}(r:(fun ρ:Env=>(p,q.map fun t=>t.at ρ))=I)(h:l.map yf=es.map I)(O:q.length<=1048576):∀f∈l,f.args.length<=140737488351232:=fun f N=>by
 have L:yf f∈l.map yf:=zpA.2 ⟨f,N,rfl⟩;rw[h,<-r]at L;obtain⟨ρ,_,e⟩:=zpA.1 L;have e2:(q.map fun t=>t.at ρ)=f.args:=congrArg Prod.snd e;rw[<-e2,zph];omega
theorem ziq(aC:∀W tk,Pw W->Tz W->Tk W tk->Calls prog 11 #[] W (zdd W))(w:World)(r:Ru)(F:Option Addr)(fs:List Fa)(tk:Nat->Int)(g:Jm r fs)(h:Jy w r F fs tk)(av nf:Nat)(aR:fs.length=nf)(C:Option Addr)(bT nc:Nat)(ah:List Int)(hC:zY (fun c:Int=>[.int .i64 c]) w C ah)(bE:ah.length=nc)(bW:∀c∈ah,-9223372036854775808<=c/\c<=9223372036854775807):
 Calls prog 4 #[.agg r.cells.toArray,.slice F nf av,.slice C nc bT] w (zdd w):=by
 obtain⟨W1,az,N⟩:=xj w 25 r.cells.toArray;have bP:=zz N.below;have Hk:=zz N.b0;have bq:=zz (fun W (L:Bl w W)=>zmN r W (h.zO.below L));have a9:=zz (fun W (L:Bl w W)=>zjJ F av nf fs W (h.facts.rd.below L) aR (by have:=g.nf;omega) fun f hf=>by have:=(g.facts f hf).1;omega);have br:=zz (fun W (L:Bl w W)=>zld W (h.pw.below L) r.B r.body.length r.zM r.body rfl (by have:=g.Xz;omega) F nf av fs aR (by have:=g.nf;omega) (⟨h.zO.rd.below L,fun x hx=>⟨fun h=>h,zo0 (h.YX x hx) L.size⟩,fun x hx=>(h.zO.body x hx).below L,fun x hx=>(h.zO.body x hx).yb.mono fun g hg=>⟨fun h=>h,zo0 hg L.size⟩,g.may⟩) (h.facts.below L) g.args);have bC:=zz (fun W (L:Bl w W)=>aC W tk (h.pw.below L) (h.tz.below L (zoZ _)) (h.tk.below L (zoZ _)));have bw:=zz (fun W (L:Bl w W)=>zhR W r (h.zO.below L) g.fits g.zN g.X9 g.Xz F av nf fs (h.facts.rd.below L) (fun f hf=>⟨(h.facts.each f hf).1.below L,by have:=(g.facts f hf).1;omega⟩) (fun f hf=>zpd (g.facts f hf).2.1 zr) aR (by have:=g.nf;omega));have Hg:=zz g;have Hh:=zz h;have bD:=zz aR;have HC:=zz (zpf hC (zpf bE bW));clear N aC g h aR hC bE bW;obtain⟨p,A,yc,L,B,zM,I⟩:=r;have c0:=Hk.o.cell 0;have c1:=Hk.o.cell 1;have c2:=Hk.o.cell 2;go_enter func4,ntmps4
 go_wp2_with (first
  |(go_at_call 8;refine(bq.o W1 bP.o).mono ?_;rintro e w2⟨b2,rfl,-,aK⟩;have bo:=zz (zu bP.o aK);clear c0 c1 c2 az;have c0:=(Hk.o.below aK).cell 0;have c1:=(Hk.o.below aK).cell 1;have c2:=(Hk.o.below aK).cell 2;have a7:=zz (Hk.o.below aK);clear aK)
  |(go_at_call 9;refine(a9.o w2 bo.o).mono ?_;rintro e w3⟨b3,rfl,-,aG⟩;have aM:=zz (zu bo.o aG);clear c0 c1 c2;have c0:=(a7.o.below aG).cell 0;have c1:=(a7.o.below aG).cell 1;have c2:=(a7.o.below aG).cell 2;have bc:=zz (a7.o.below aG);clear aG)
  |(go_at_call 10;refine(br.o w3 aM.o).mono ?_;rintro e w4⟨b4,rfl,bf,al⟩;have bk:=zz (zu aM.o al);have cn:=zz bf;clear c0 c1 c2;have c0:=(bc.o.below al).cell 0;have c1:=(bc.o.below al).cell 1;have c2:=(bc.o.below al).cell 2;have a3:=zz (bc.o.below al);clear al bf)
  |(go_at_call 11;refine(bC.o w4 bk.o).mono ?_;rintro e w5⟨rfl,ai⟩;have ca:=zz (zu bk.o ai);clear c0 c1 c2;have c0:=(a3.o.below ai).cell 0;have c1:=(a3.o.below ai).cell 1;have c2:=(a3.o.below ai).cell 2;have a8:=zz (a3.o.below ai);clear ai)
  |(go_at_call 12;refine(bw.o w5 ca.o).mono ?_;rintro e w6⟨b6,rfl,bg,aI⟩;have aE:=zz (zu ca.o aI);have bs:=zz bg;clear c0 c1 c2;have c0:=(a8.o.below aI).cell 0;have c1:=(a8.o.below aI).cell 1;have c2:=(a8.o.below aI).cell 2;have aD:=zz (a8.o.below aI);clear aI bg))
 ·go_returns;exact⟨rfl,bo.o⟩
 ·go_returns;exact⟨rfl,aM.o⟩
 ·go_returns;exact⟨rfl,bk.o⟩
 ·go_returns;exact⟨rfl,aE.o⟩
 have bh:b6=true:=by simpa using ‹(!b6)=false›
 have ad:=zz (show Fit ⟨p,A,yc,L,B,zM,I⟩ fs from⟨(bs.o bh).1,(bs.o bh).2⟩);have aX:=zz (cn.o za);have aA:=zz (Hh.o.below aE.o);refine(zcQ w6 F av nf fs aA.o.facts.rd bD.o (fun x hx=>⟨(aA.o.facts.each x hx).1,by have:=(Hg.o.facts x hx).1;omega⟩) (fun x hx=>zpd (Hg.o.facts x hx).2.1 zr) ad.o.ZZ.facts (fun a ha b hb=>ad.o.ZZ.cons a (zpk _ ha) b (zpk _ hb)) (by have:=Hg.o.nf;have:=bD.o;omega) aA.o.zdn (fun x hx v hv=>⟨(ad.o.ZZ.facts x hx).2.2 v hv,Tr ((Hg.o.facts x hx).2.2 v hv)⟩)).mono ?_;rintro e w7⟨wb,rfl,R,N⟩;have cL:=zz R.cut;have ba:=zz N;clear c0 c1 c2;have c0:=(aD.o.below N).cell 0;have c1:=(aD.o.below N).cell 1;have c2:=(aD.o.below N).cell 2;have cF:=zz (aD.o.below N);have bl:=zz (zjh w7 ⟨p,A,yc,L,B,zM,I⟩ (aA.o.zO.below N) Hg.o.fits Hg.o.zN ad.o.ok ad.o.lim (aA.o.tz.below N (zoZ _)));clear R N
 go_wp2_with (go_at_call 14;refine bl.o.mono ?_;rintro e w8⟨px,rfl,cd,bB,hR,cN,-,bN,bz,ci,ch⟩;have aq:=zz (zpf cd (zpf bB (zpf hR (zpf bN (zpf bz ci)))));have b5:=zz ch;clear cd bB hR cN bN bz ci ch c0 c1 c2;obtain⟨W9,ab,cg⟩:=xj w8 57 #[.string px.r.p,.slice px.r.A px.r.head.length px.r.cap,.slice px.r.B px.r.body.length px.r.zM,.slice px.A px.ss.length px.cap];have aH:=zz cg;clear cg)
 obtain⟨S,hS⟩:∃S:Nat->Prop,(fun g=>w6.heap.size<=g/\g<w7.heap.size)=S:=⟨_,rfl⟩;have aa:=ba.o.size;have V:=b5.o.size;have U:=aE.o.size;have O:∀g,S g->w6.heap.size<=g/\g<w7.heap.size:=fun g hg=>by rw[<-hS]at hg;exact hg
 have N:Bl w7 W9:=zu b5.o aH.o.below;have R:=cL.o;rw[hS]at R;have HL:=zz (show Live ⟨p,A,yc,L,B,zM,I⟩ fs tk px w8.heap.size wb w6.heap.size (24*fs.length) S W9 from {
  Yv:=R.below N
  lt:=fun g hg=>zo0 (O g hg).2 N.size
  low:=fun g hg=>(O g hg).1
  Y3:=⟨aq.o.1,aq.o.2.1.below aH.o.below,aq.o.2.2.1,aq.o.2.2.2.1.Yc (fun g hg=>⟨fun h=>by have:=(O g h).2;omega,by have:=aH.o.size;omega⟩),fun s hs g hg=>⟨fun h=>by have:=(O g h).2;have:=aq.o.2.2.2.2.1 s hs g hg;omega,by have:=aH.o.size;have:=aq.o.2.2.2.2.1 s hs g hg;omega⟩,fun g hg=>⟨fun h=>by have:=(O g h).2;have:=aq.o.2.2.2.2.2 g hg;omega,by have:=aH.o.size;have:=aq.o.2.2.2.2.2 g hg;omega⟩⟩
  box:=aH.o.b0
  TM:=fun hg=>by have:=(O _ hg).2;omega
  tk:=aA.o.tk.below (zu ba.o N) (zoZ _)
  VP:=aA.o.VP
  le:=zpd ba.o.size N.size })
 have cP:=zz (cF.o.below N);have bn:Kz (Bl w6 W9):=zu ba.o N;clear hS O N R ab aa V U;obtain⟨sp,N⟩:∃sp,XL ⟨p,A,yc,L,B,zM,I⟩ fs=sp:=⟨_,rfl⟩;have ap:=zz N;clear N
 go_loopg[11,12,13,14,15,16] I.length (fun gk N R U O aa V wx=>∃(i:Nat) (Z Y X:Option Addr) (cz cy cx:Nat) (ys:List Nat),i<=I.length/\gk=I.length-i/\N=.slice Z i cz/\R=.slice Y i cy/\U=.slice X i cx/\O=.int .i64 (i:Int)/\Yk wx W9.heap.size Z Y X cz cy cx ((List.range i).map fun _=>0) ys ((List.range i).map sp)/\ys.length=i/\(∀j,j<i->ys.getD j 0<=sp j)/\Bl W9 wx)
 case atStart=>exact⟨0,none,none,none,0,0,0,[],zo5 _,rfl,rfl,rfl,rfl,rfl,Yk.nil _ _,rfl,fun j hj=>absurd hj (zqR _),Below.refl _ _⟩
 case round=>
  obtain⟨i,Z,Y,X,cz,cy,cx,ys,hi,rfl,rfl,rfl,rfl,rfl,U,N,O,V⟩:=hrel;have HT:=zz U;have R:=zz (zpf N O);have HB:=zz V;clear U N O V;have c2:=(cP.o.below HB.o).cell 2
  by_cases aa:i<I.length
  ·have bd:Kz (Bl w wr):=zu aE.o (zu bn.o HB.o);obtain⟨bb,ob,rfl,cu,am⟩:=(Hh.o.zO.rd.below bd.o).at Li.xF i aa;have p0:wr.cell? ⟨bb,ob+i*16,none⟩=some (.int .i8 I[i].k):=by simpa using am 0 _ rfl
   have p1:wr.cell? ⟨bb,ob+i*16+1,none⟩=some (.string I[i].a.p):=am 1 _ rfl;have cO:i<=4194304:=by have:=Hg.o.Xz;simp only at this;omega
   by_cases aW:I[i].k=1
   ·obtain⟨n,O⟩:∃n,YW (yL fs) I[i].a.p=n:=⟨_,rfl⟩;have U:=zz (show n=sp i by rw[<-ap.o,Ju aa,<-O];exact(if_pos aW).symm);have aT:n<=1048576:=by have h1:=zes fs I[i].a.p;have h2:=Hg.o.nf;omega
    have N:=Dh (HL.o.Yv.below HB.o) I[i].a.p (Hg.o.fits.2.1 _ (zo3 aa));rw[O]at N;have aN:=zz N;clear O N am
    by_cases aS:i<nc
    ·have aL:i<ah.length:=by rw[HC.o.2.1];exact aS
     obtain⟨cb,co,rfl,aQ,N⟩:=(HC.o.1.below bd.o).at (c:=0) (fun _=>rfl) i aL;have O:wr.cell? ⟨cb,co+i,none⟩=some (.int .i64 ah[i]):=by simpa using N 0 _ rfl
     clear N;obtain⟨q,N⟩:∃q,ah[i]=q:=⟨_,rfl⟩;rw[N]at O;have au:(0:Int)<(n:Int)+1:=zd;have aB:¬((n:Int)+1=0):=zd;have aj:q.tmod ((n:Int)+1)<(n:Int)+1:=Int.tmod_lt_of_pos q au;have aO:-((n:Int)+1)<q.tmod ((n:Int)+1):=by
      rcases Int.le_total 0 q with h|h
      ·have:=Int.tmod_nonneg ((n:Int)+1) h;omega
      ·have h1:=Int.tmod_lt_of_pos (-q) au;rw[Int.neg_tmod]at h1;omega
     clear N;go_upto_region 23 with(go_at_call 15;refine aN.o.mono ?_;rintro e aP⟨rfl,af⟩;have aw:=zz (zu HB.o af);have ax:=zz (HT.o.below af);have d1:=(af.cell (p:=⟨cb,co+i,none⟩) aQ).trans O;clear af c2 p0 p1 O)
     ·have ay:q.tmod ((n:Int)+1)<0:=za;obtain⟨k,hk⟩:∃k:Nat,q.tmod ((n:Int)+1)+(n:Int)+1=(k:Int):=⟨(q.tmod ((n:Int)+1)+(n:Int)+1).toNat,zd⟩;have ao:=zz (show k<=n from zd);rw[hk];clear hk ay aj aO aB au d1
      go_wp2_with (at_builtin;refine X6 ax aw (n:=i) (by simp[R.o.1]) 0 Yf ?_)
      intro g1 V v1 ae O an
      go_wp2_with (at_builtin;refine X6 ae O (n:=i) (by simp[R.o.1]) k Yf ?_)
      intro g2 ab v2 ac N aJ
      go_wp2_with (at_builtin;refine X6 ac N (n:=i) (by simp[R.o.1]) n Yf ?_)
      intro g3 ar v3 ak ag aF;go_wp2
      go_roundg (I.length-(i+1))
      case measure=>omega
      case rel=>exact⟨i+1,_,_,_,_,_,_,ys++[k],aa,rfl,rfl,rfl,rfl,ze,by
       have h:=ak.o;rw[zp2,zpt,zpt,zpR,zpR,<-U.o];exact h,by rw[zo1,R.o.1,zpD],fun j hj=>by
       by_cases e:j<i
       ·rw[zo8,zpY (by rw[R.o.1];exact e),<-zo8];exact R.o.2 j e
       ·obtain rfl:j=i:=zd;rw[zo8,zpS (by rw[R.o.1];exact zoZ _),R.o.1,zqw];have:=ao.o;rw[<-U.o];exact this,ag.o⟩
     ·have ay:¬q.tmod ((n:Int)+1)<0:=by first|assumption|exact Int.not_lt.2 za
      obtain⟨k,hk⟩:∃k:Nat,q.tmod ((n:Int)+1)=(k:Int):=⟨(q.tmod ((n:Int)+1)).toNat,zd⟩;have ao:=zz (show k<=n from zd);rw[hk];clear hk ay aj aO aB au d1
      go_wp2_with (at_builtin;refine X6 ax aw (n:=i) (by simp[R.o.1]) 0 Yf ?_)
      intro g1 V v1 ae O an
      go_wp2_with (at_builtin;refine X6 ae O (n:=i) (by simp[R.o.1]) k Yf ?_)
      intro g2 ab v2 ac N aJ
      go_wp2_with (at_builtin;refine X6 ac N (n:=i) (by simp[R.o.1]) n Yf ?_)
      intro g3 ar v3 ak ag aF;go_wp2
      go_roundg (I.length-(i+1))
      case measure=>omega
      case rel=>exact⟨i+1,_,_,_,_,_,_,ys++[k],aa,rfl,rfl,rfl,rfl,ze,by
       have h:=ak.o;rw[zp2,zpt,zpt,zpR,zpR,<-U.o];exact h,by rw[zo1,R.o.1,zpD],fun j hj=>by
       by_cases e:j<i
       ·rw[zo8,zpY (by rw[R.o.1];exact e),<-zo8];exact R.o.2 j e
       ·obtain rfl:j=i:=zd;rw[zo8,zpS (by rw[R.o.1];exact zoZ _),R.o.1,zqw];have:=ao.o;rw[<-U.o];exact this,ag.o⟩
    ·have ao:=zz (zo5 n);go_upto_region 23 with(go_at_call 15;refine aN.o.mono ?_;rintro e aP⟨rfl,af⟩;have aw:=zz (zu HB.o af);have ax:=zz (HT.o.below af);clear af c2 p0 p1)
     go_wp2_with (at_builtin;refine X6 ax aw (n:=i) (by simp[R.o.1]) 0 Yf ?_)
     intro g1 V v1 ae O an
     go_wp2_with (at_builtin;refine X6 ae O (n:=i) (by simp[R.o.1]) 0 Yf ?_)
     intro g2 ab v2 ac N aJ
     go_wp2_with (at_builtin;refine X6 ac N (n:=i) (by simp[R.o.1]) n Yf ?_)
     intro g3 ar v3 ak ag aF;go_wp2
     go_roundg (I.length-(i+1))
     case measure=>omega
     case rel=>exact⟨i+1,_,_,_,_,_,_,ys++[0],aa,rfl,rfl,rfl,rfl,ze,by
      have h:=ak.o;rw[zp2,zpt,zpt,zpR,zpR,<-U.o];exact h,by rw[zo1,R.o.1,zpD],fun j hj=>by
      by_cases e:j<i
      ·rw[zo8,zpY (by rw[R.o.1];exact e),<-zo8];exact R.o.2 j e
      ·obtain rfl:j=i:=zd;rw[zo8,zpS (by rw[R.o.1];exact zoZ _),R.o.1,zqw];have:=ao.o;rw[<-U.o];exact this,ag.o⟩
   ·have U:=zz (show 0=sp i by rw[<-ap.o,Ju aa];exact(if_neg aW).symm);have ao:=zz (zoZ 0);have ax:=HT
    go_wp2_with (at_builtin;refine X6 ax HB (n:=i) (by simp[R.o.1]) 0 Yf ?_)
    intro g1 V v1 ae O an
    go_wp2_with (at_builtin;refine X6 ae O (n:=i) (by simp[R.o.1]) 0 Yf ?_)
    intro g2 ab v2 ac N aJ
    go_wp2_with (at_builtin;refine X6 ac N (n:=i) (by simp[R.o.1]) 0 Yf ?_)
    intro g3 ar v3 ak ag aF;go_wp2
    go_roundg (I.length-(i+1))
    case measure=>omega
    case rel=>exact⟨i+1,_,_,_,_,_,_,ys++[0],aa,rfl,rfl,rfl,rfl,ze,by
     have h:=ak.o;rw[zp2,zpt,zpt,zpR,zpR,<-U.o];exact h,by rw[zo1,R.o.1,zpD],fun j hj=>by
     by_cases e:j<i
     ·rw[zo8,zpY (by rw[R.o.1];exact e),<-zo8];exact R.o.2 j e
     ·obtain rfl:j=i:=zd;rw[zo8,zpS (by rw[R.o.1];exact zoZ _),R.o.1,zqw];have:=ao.o;rw[<-U.o];exact this,ag.o⟩
  ·obtain rfl:i=I.length:=zd;obtain⟨c,hc⟩:∃c:Nat->Nat,(fun k=>ys.getD k 0)=c:=⟨_,rfl⟩;have Hc:=zz hc;have ax:Kz (∀j,j<I.length->c j<=XL ⟨p,A,yc,L,B,zM,I⟩ fs j):=fun j hj=>by rw[<-hc,ap.o];exact R.o.2 j hj
   have bp:=zz (show ∀k,I.length<=k->c k=0 from fun k hk=>by
    rw[<-hc];show ys.getD k 0=0;rw[zo8,zp6 (by rw[R.o.1];exact hk)];rfl)
   have a2:=zz (Td I.length (fun _=>0) fun _ _=>rfl);have bK:=zz (Td I.length sp fun k hk=>by rw[<-ap.o];exact zah hk);have ay:=zz (HL.o.below HB.o);have cA:=zz (zu bn.o HB.o);have bM:=zz (show YJ S wr Z cz ((List.range I.length).map fun _=>0)from⟨HT.o.z,fun g hg hs=>by have:=HT.o.hz g hg;have:=HL.o.lt g hs;omega⟩);have cC:=zz (show YJ S wr Y cy ys from⟨HT.o.y,fun g hg hs=>by have:=HT.o.hy g hg;have:=HL.o.lt g hs;omega⟩);have b1:=zz (show YJ S wr X cx ((List.range I.length).map sp)from⟨HT.o.x,fun g hg hs=>by have:=HT.o.hx g hg;have:=HL.o.lt g hs;omega⟩);have aP:=zz (fun(S':Nat->Prop) (W:World) (U:Live ⟨p,A,yc,L,B,zM,I⟩ fs tk px w8.heap.size wb w6.heap.size (24*fs.length) S' W) (F' T':Option Addr) (cf ct:Nat) (a6 aQ:List Nat) (h1:YJ S' W F' cf a6) (h2:YJ S' W T' ct aQ) (h3:a6.length=I.length) (h4:aQ.length=I.length) (h5:∀i,i<I.length->a6.getD i 0<=aQ.getD i 0/\aQ.getD i 0<=XL ⟨p,A,yc,L,B,zM,I⟩ fs i)=>
    za6 U.Yv U.lt tk U.tk (fun h=>by have:=U.low _ h;have:=U.VP;omega) Hg.o ad.o aX.o px U.Y3 F' T' cf ct I.length rfl a6 aQ h1.own.xI h2.own.xI h3 h4 h5)
   clear hc HT HB bn HL;have p0:=ay.o.box.cell 0;have p1:=ay.o.box.cell 1;have p2:=ay.o.box.cell 2;have p3:=ay.o.box.cell 3;obtain⟨hf,aT⟩:∃hf:Env->ByteArray×List Vl,(fun ρ:Env=>(p,(L.map (·.t)).map fun t=>t.at ρ))=hf:=⟨_,rfl⟩;go_upto_region 27 with(go_at_call 19;refine(aP.o S wr ay.o Z X cz cx _ _ bM.o b1.o zp (zp) (fun i hi=>⟨by rw[show((List.range I.length).map fun _=>0).getD i 0=0 from congrFun a2.o i];exact zo5 _,by rw[show((List.range I.length).map sp).getD i 0=sp i from congrFun bK.o i,ap.o];exact zoZ _⟩)).mono ?_;rintro e bZ⟨A1,V,aB,S1,rfl,aS,aj,aU,aN,a1,az,ah,af⟩;rw[a2.o,bK.o,<-ap.o]at aj;have cm:=zz (aj.trans (congrArg (fun g=>List.map g _) aT));have cp:=zz (show Ym S1 bZ A1 V aB from⟨aS,aU,aN,a1⟩);have aw:=zz (ay.o.next af az ah);have bH:=zz (bM.o.next af ah);have bi:=zz (cC.o.next af ah);have bI:=zz (b1.o.next af ah);have bJ:=zz (cA.o.trans (af.below ay.o.le ay.o.low));clear aS aj aU aN a1 az ah af p0 p1 p2 p3)
   have p0:=aw.o.box.cell 0;have p1:=aw.o.box.cell 1;have p2:=aw.o.box.cell 2;have p3:=aw.o.box.cell 3;go_upto_region 28 with(go_at_call 19;refine(aP.o S1 bZ aw.o Z Y cz cy _ _ bH.o bi.o zp R.o.1 (fun i hi=>⟨by rw[show((List.range I.length).map fun _=>0).getD i 0=0 from congrFun a2.o i];exact zo5 _,by have h:=ax.o i hi;rw[<-Hc.o]at h;exact h⟩)).mono ?_;rintro e cQ⟨A2,ab,bL,S2,rfl,aS,aj,aU,aN,a1,az,ah,af⟩;rw[a2.o,Hc.o]at aj;have cs:=zz (aj.trans (congrArg (fun g=>List.map g _) aT));have cJ:=zz (show Ym S2 cQ A2 ab bL from⟨aS,aU,aN,a1⟩);have bS:=zz (cp.o.next af ah);have a5:=zz (aw.o.next af az ah);have aV:=zz (bi.o.next af ah);have aY:=zz (bI.o.next af ah);have bX:=zz (bJ.o.trans (af.below aw.o.le aw.o.low));clear aS aj aU aN a1 az ah af p0 p1 p2 p3)
   clear c2;go_wp2
   go_loopg[19,21,22,23,24,25,26] I.length (fun gk ak U be bj a4 aF ao wx=>∃(i:Nat) (Aa:Option Addr) (au:Nat) (ag:List Fa) (S':Nat->Prop),i<=I.length/\gk=I.length-i/\ak=.slice Aa ag.length au/\U=.int .i64 (i:Int)/\Ym S' wx Aa au ag/\ag.map yf=(Zz tk fs px ZW c++(List.range i).flatMap (ZI tk ⟨p,A,yc,L,B,zM,I⟩ fs px c)).map hf/\Ym S' wx A1 V aB/\Live ⟨p,A,yc,L,B,zM,I⟩ fs tk px w8.heap.size wb w6.heap.size (24*fs.length) S' wx/\YJ S' wx Y cy ys/\YJ S' wx X cx ((List.range I.length).map sp)/\Bl w6 wx)
   case atStart=>exact⟨0,A2,ab,bL,S2,zo5 _,rfl,rfl,rfl,cJ.o,by rw[cs.o];simp;rfl,bS.o,a5.o,aV.o,aY.o,bX.o⟩
   case round=>
    obtain⟨i,Aa,au,ag,S',hi,rfl,rfl,rfl,hA,bm,bv,U,bu,bt,ao⟩:=hrel;have HA:=zz hA;have aL:=zz bm;have HF:=zz bv;have ak:=zz U;have aO:=zz bu;have aZ:=zz bt;have aF:=zz ao;clear hA bm bv U bu bt ao;obtain⟨wq,rfl⟩:∃wq,wq=wr:=⟨_,rfl⟩;have cO:i<=4194303:=by have:=Hg.o.Xz;simp only at this;omega
    have c2:=(aD.o.below aF.o).cell 2
    by_cases aa:i<I.length
    ·have bd:Kz (Bl w wq):=zu aE.o aF.o;obtain⟨bb,ob,U,cu,am⟩:=(Hh.o.zO.rd.below bd.o).at Li.xF i aa;have ce:Kz (B=some ⟨bb,ob,none⟩):=U;clear U;rw[ce.o]at c2;have q0:wq.cell? ⟨bb,ob+i*16,none⟩=some (.int .i8 I[i].k):=by simpa using am 0 _ rfl
     clear am
     by_cases aW:I[i].k=1
     ·go_wp2;clear q0 c2
      go_loopg[22,23,24] I.length (fun gk be bj a4 wx=>∃(k:Nat) (F' T':Option Addr) (cf ct:Nat),k<=I.length/\gk=I.length-k/\be=.slice F' k cf/\bj=.slice T' k ct/\a4=.int .i64 (k:Int)/\Yk wx wq.heap.size F' T' none cf ct 0 ((List.range k).map (X5 c i)) ((List.range k).map (qR c sp i)) []/\Bl wq wx)
      case atStart=>exact⟨0,none,none,0,0,zo5 _,rfl,rfl,rfl,rfl,Yk.nil _ _,Below.refl _ _⟩
      case round=>
       obtain⟨k,F',T',cf,ct,hk,rfl,rfl,rfl,rfl,a4,ao⟩:=hrel;have am:=zz a4;have U:=zz ao;clear a4 ao;have c2:=(aD.o.below (zu aF.o U.o)).cell 2;rw[ce.o]at c2
       by_cases ao:k<I.length
       ·have bA:k<=4194303:=by have:=Hg.o.Xz;simp only at this;omega
        obtain⟨gy,oy,bv,bm,bt⟩:=(aO.o.own.xI).at (c:=0) (fun _=>rfl) k (by rw[R.o.1];exact ao);obtain⟨gx,ox,bx,a4,bj⟩:=(aZ.o.own.xI).at (c:=0) (fun _=>rfl) k (by simpa using ao);have y0:wr.cell? ⟨gy,oy+k,none⟩=some (.int .i64 (c k:Int)):=by
         have h:wq.cell? ⟨gy,oy+k,none⟩=some (.int .i64 ((ys[k]'(by rw[R.o.1];exact ao):Nat):Int)):=by simpa using bt 0 _ rfl
         have e:ys[k]'(by rw[R.o.1];exact ao)=c k:=by
          rw[<-Hc.o];show _=ys.getD k 0;rw[zo8,zo6 (by rw[R.o.1];exact ao)];rfl
         rw[e]at h;exact(U.o.cell (p:=⟨gy,oy+k,none⟩) bm).trans h
        have x0:wr.cell? ⟨gx,ox+k,none⟩=some (.int .i64 (sp k:Int)):=by
         have h:wq.cell? ⟨gx,ox+k,none⟩=some (.int .i64 ((((List.range I.length).map sp)[k]'(by simpa using ao):Nat):Int)):=by simpa using bj 0 _ rfl
         rw[zp4,List.getElem_range]at h;exact(U.o.cell (p:=⟨gx,ox+k,none⟩) a4).trans h
        have bu:gy<wr.heap.size:=zo0 bm U.o.size;have be:gx<wr.heap.size:=zo0 a4 U.o.size;subst bv bx;clear bt bj
        by_cases bj:k<i
        ·clear x0
         go_wp2_with (at_builtin;refine X6 am U (n:=k) zp 0 Yf ?_)
         intro g1 V v1 ae O an;have d1:=(an.o.cell (p:=⟨gy,oy+k,none⟩) bu (fun hh=>by have h1:wq.heap.size<=gy:=am.o.hz _ hh;have h2:=bm;omega)).trans y0;clear y0
         go_wp2_with (at_builtin;refine X6 ae O (n:=k) zp (c k) Yf ?_)
         intro g2 ab v2 ac N aJ;clear d1;go_wp2
         go_roundg (I.length-(k+1))
         case measure=>omega
         case rel=>exact⟨k+1,_,_,_,_,ao,rfl,rfl,rfl,ze,by
          have h:=ac.o.TE;rw[zp2,zpt,zpt,zpR,zpR,(show X5 c i k=0 from if_neg zd),(show qR c sp i k=c k from if_pos bj)];exact h,N.o⟩
        ·by_cases bt:k=i
         ·subst bt
          go_wp2_with (at_builtin;refine X6 am U (n:=k) zp (c k) Yf ?_)
          intro g1 V v1 ae O an;have d1:=(an.o.cell (p:=⟨gx,ox+k,none⟩) be (fun hh=>by have h1:wq.heap.size<=gx:=am.o.hz _ hh;have h2:=a4;omega)).trans x0;clear x0
          go_wp2_with (at_builtin;refine X6 ae O (n:=k) zp (sp k) Yf ?_)
          intro g2 ab v2 ac N aJ;clear d1;go_wp2
          go_roundg (I.length-(k+1))
          case measure=>omega
          case rel=>exact⟨k+1,_,_,_,_,ao,rfl,rfl,rfl,ze,by
           have h:=ac.o.TE;rw[zp2,zpt,zpt,zpR,zpR,(show X5 c k k=c k from if_pos rfl),(show qR c sp k k=sp k from if_neg bj)];exact h,N.o⟩
         ·clear y0
          go_wp2_with (at_builtin;refine X6 am U (n:=k) zp 0 Yf ?_)
          intro g1 V v1 ae O an;have d1:=(an.o.cell (p:=⟨gx,ox+k,none⟩) be (fun hh=>by have h1:wq.heap.size<=gx:=am.o.hz _ hh;have h2:=a4;omega)).trans x0;clear x0
          go_wp2_with (at_builtin;refine X6 ae O (n:=k) zp (sp k) Yf ?_)
          intro g2 ab v2 ac N aJ;clear d1;go_wp2
          go_roundg (I.length-(k+1))
          case measure=>omega
          case rel=>exact⟨k+1,_,_,_,_,ao,rfl,rfl,rfl,ze,by
           have h:=ac.o.TE;rw[zp2,zpt,zpt,zpR,zpR,(show X5 c i k=0 from if_neg bt),(show qR c sp i k=sp k from if_neg bj)];exact h,N.o⟩
       ·obtain rfl:k=I.length:=zd;have N:=zz (ak.o.below U.o);have cl:=zz (aO.o.below U.o);have bF:=zz (aZ.o.below U.o);have cE:=zz (HF.o.below U.o);have cr:=zz (HA.o.below U.o);have cw:=zz (show YJ S' wr F' cf ((List.range I.length).map (X5 c i))from⟨am.o.z,fun g hg hs=>by have:=am.o.hz g hg;have:=ak.o.lt g hs;omega⟩);have cD:=zz (show YJ S' wr T' ct ((List.range I.length).map (qR c sp i))from⟨am.o.y,fun g hg hs=>by have:=am.o.hy g hg;have:=ak.o.lt g hs;omega⟩);have bO:=zz (Td I.length (X5 c i) fun k hk=>if_neg zd);have bQ:=zz (Td I.length (qR c sp i) fun k hk=>by
         show(if k<i then c k else sp k)=0;rw[if_neg zd,<-ap.o];exact zah hk)
        have cv:=zz (show ∀j,j<I.length->((List.range I.length).map (X5 c i)).getD j 0<=((List.range I.length).map (qR c sp i)).getD j 0/\((List.range I.length).map (qR c sp i)).getD j 0<=XL ⟨p,A,yc,L,B,zM,I⟩ fs j from fun j hj=>by
         rw[show((List.range I.length).map (X5 c i)).getD j 0=X5 c i j from congrFun bO.o j,show((List.range I.length).map (qR c sp i)).getD j 0=qR c sp i j from congrFun bQ.o j];have h1:=ax.o j hj;rw[ap.o]at h1 ⊢;unfold X5 qR
         by_cases e1:j<i
         ·rw[if_pos e1,if_neg zd];exact⟨zo5 _,h1⟩
         ·rw[if_neg e1]
          by_cases e2:j=i
          ·rw[if_pos e2];exact⟨h1,zoZ _⟩
          ·rw[if_neg e2];exact⟨zo5 _,zoZ _⟩)
        have cI:Kz (Bl w6 wr):=zu aF.o U.o;have bV:=zz (show ag.length+(ZI tk ⟨p,A,yc,L,B,zM,I⟩ fs px c i).length<=2147483647 from by
         have h1:=zc4 (tk:=tk) ak.o.Y3.copy ak.o.Y3.right ax.o bp.o aX.o (i:=i+1) aa;have h2:=congrArg List.length aL.o;rw[zph,zph,zo1]at h2;rw[zp2,zpq,zqx,zo1]at h1;omega)
        have p0:=N.o.box.cell 0;have p1:=N.o.box.cell 1;have p2:=N.o.box.cell 2;have p3:=N.o.box.cell 3;go_upto_region 47 with(go_at_call 19;go_loud (refine(aP.o S' wr N.o F' T' cf ct _ _ cw.o cD.o zp (zp) cv.o).mono ?_;rintro e an⟨A3,ar,a4,S3,rfl,b9,bm,bx,bu,cj,bR,ac,O⟩;rw[bO.o,bQ.o,<-ap.o]at bm;have bG:=zz (show a4.map yf=(ZI tk ⟨p,A,yc,L,B,zM,I⟩ fs px c i).map hf from by rw[zhb aa aW];exact bm.trans (congrArg (fun g=>List.map g _) aT));have bv:=zz (show Ym S3 an A3 ar a4 from⟨b9,bx,bu,cj⟩);have bY:=zz (cr.o.next O ac);have cK:=zz (cE.o.next O ac);have a5:=zz (N.o.next O bR ac);have aV:=zz (cl.o.next O ac);have aY:=zz (bF.o.next O ac);have aM:=zz (cI.o.trans (O.below N.o.le N.o.low));clear b9 bm bx bu cj bR ac O p0 p1 p2 p3 c2))
        have ae:=zz (show ag.length+a4.length<=2147483647 from by
         have h1:=congrArg List.length bG.o;rw[zph,zph]at h1;have:=bV.o;omega)
        go_wp2_with (at_builtin;refine zdm (n:=0) rfl _ _ rfl G6 (Own.qC _) bY.o.own rfl rfl rfl rfl (fun y _=>rfl) (fun y _=>zt) (by have:=ae.o;omega) zr ?_)
        intro A4 b7 ck be bt aJ;have be:Own Fa.cells 71 2 ck A4 b7 ag:=be;have aJ:∀g∈zw A4,an.heap.size<=g:=fun g hg=>(aJ g hg).elim (fun h=>nomatch h) id
        have al:Bl an ck:=bt.below (zoZ _) (fun x hx=>nomatch hx);have cq:=zz be;have bA:=zz aJ;have bj:=zz al;have cc:=zz (bv.o.own.below al);clear be bt aJ al
        go_wp2_with (at_builtin;refine zdm rfl _ _ rfl G6 cq.o cc.o rfl rfl rfl rfl (fun y _=>rfl) (fun y _=>zt) (by have:=ae.o;omega) zr ?_)
        intro A5 b8 cG bt bU be;have be:∀g∈zw A5,an.heap.size<=g:=fun g hg=>(be g hg).elim (bA.o g) fun h=>by have:=bj.o.size;omega
        have ai:Bl an cG:=bj.o.trans (bU.below bj.o.size bA.o);have cM:=zz (bY.o.two bv.o a5.o.lt ai bt be);have aJ:=zz ai;clear bt bU be ai;go_wp2
        go_roundg (I.length-(i+1))
        case measure=>omega
        case rel=>exact⟨i+1,A5,b8,ag++a4,S3,aa,rfl,by rw[zo1],ze,cM.o,by rw[zpt,aL.o,bG.o,zp2,zpq,zqx];simp only[zpt,zpo],cK.o.below aJ.o,a5.o.below aJ.o,aV.o.below aJ.o,aY.o.below aJ.o,aM.o.trans (aJ.o.mono aM.o.size)⟩
     ·go_wp2
      go_roundg (I.length-(i+1))
      case measure=>omega
      case rel=>exact⟨i+1,Aa,au,ag,S',aa,rfl,rfl,ze,HA.o,by rw[aL.o,zp2,zpq,zqx,zjx aa aW,zpw],HF.o,ak.o,aO.o,aZ.o,aF.o⟩
    ·obtain rfl:i=I.length:=zd;have N:(aB.map yf).Perm (ag.map yf):=by
      rw[cm.o,aL.o];have h:=(zeO (tk:=tk) ak.o.Y3.copy ak.o.Y3.right ax.o bp.o).map hf;exact h
     have ac:=zz (show ag.length=aB.length by have:=N.length_eq;simpa using this.symm);have O:(L.map (·.t)).length<=1048576:=by rw[zph];exact Hg.o.X9
     have U:aB.length<=9007199254740992:=by
      have h1:=zc4 (tk:=tk) ak.o.Y3.copy ak.o.Y3.right ax.o bp.o aX.o (i:=I.length) (zoZ _);have h2:=congrArg List.length aL.o;have h3:=ac.o;rw[zph,zph,zo1]at h2;omega
     have ae:=zz (zgR wq A1 Aa aB.length V au aB ag (HF.o.rd (zds aT cm.o O)) (HA.o.rd (zds aT aL.o O)) N rfl U);clear N O U
     go_wp2_with (go_at_call 18;rw[ac.o];refine ae.o.mono ?_;rintro e U⟨rfl,N⟩;have O:=zz N;clear N)
     go_returns;exact⟨rfl,zu aE.o (zu aF.o O.o)⟩
end
