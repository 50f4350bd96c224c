/-
  What is worked out: a rule without a head over facts. Plain 
-/
import Derived.Test.YtfdickkdlcgicaaGreatDoorQ31
set_option maxRecDepth 100000
set_option maxHeartbeats 8000000
set_option linter.all false
namespace Go.Proofs.YtfdickkdlcgicaaGreatDoor.C
open Go.Proofs.Tryz Go Go.RowKit Go.Maps Go.WideMaps
variable {K:List ByteArray}{body:List Li}{i:Nat}{left:List Nat}{lo:Nat->Nat}{s:Sp}{w w':World}
section
structure Uv (w:World) (F:Option Addr) (fs:List Fa):Prop where
 rd:zZ Fa.cells w F fs
 each:∀f∈fs,zZ Vl.cells w f.A f.args/\f.args.length<=1048576/\f.p.size<=1048576/\∀v∈f.args,v.told
theorem Uv.below{F:Option Addr}{fs:List Fa}(h:Uv w F fs)(I:Bl w w'):Uv w' F fs:=⟨h.rd.below I,fun f q=>⟨(h.each f q).1.below I,(h.each f q).2⟩⟩
theorem yP.start(w W:World)(hP:Pw w)(I O U:Nat)(L zR:Int)(hB:Bl w W)(Y:xv prog 9 W I fun _=>none)(X:xv prog 9 W O fun _=>none)(V:zD W U 274 #[.int .i64 L,.int .i64 zR,.int .i64 0,.map (some I),.map (some O)])(g1:w.heap.size<=I)(g2:w.heap.size<=O)(g3:w.heap.size<=U)(R:I≠O):yP U I O zR L 0 0 (fun g=>g<w.heap.size) W:=by
 have q:∀g,qh I (fun _=>none) g->g=I:=fun g N=>by
  rcases N with h |⟨x,v,h,_⟩
  ·exact h
  ·cases h
 have hp:=hP.lt;exact⟨V,⟨_,X,fun v x h=>nomatch h⟩,⟨_,_,Xo.zdn Y,fun _=>zpx _,(fun p m aa Z=>nomatch Z),fun g N Z=>by have:=q g N;omega,fun h=>R (q _ h).symm,fun h=>V.qU Y (q _ h),fun h=>by have:=q _ h;omega⟩,
  hP.below hB,zd,zd,fun g N=>zpz N hB.size,V.qU X,zd,zd⟩
theorem zdm{b:Nat}{f:Value->Option Value}(h:xv prog 9 w b f):∃n:Int,∀(W:World)(I:TypeId),W.heap[b]? = w.heap[b]?->(Builtin.len_ #[272] I #[.map (some b)]).run prog W=.ok (.int .i64 n) W:=by
 obtain⟨N,q,O,_⟩:=h;exact⟨N.size,fun W I L=>by simp[Builtin.len_,run_underlying underlying272,MapKept.run_getObj_map (L.trans O),goInt,Result.andThen]⟩
theorem yP.zgR{V fb Y:Nat}{zR L L' N:Int}{T:Nat}{R:Nat->Prop}(h:yP V fb Y zR L N T R w)(U:zh (·=V) w w')(hk:zD w' V 274 #[.int .i64 L',.int .i64 zR,.int .i64 N,.map (some fb),.map (some Y)]):yP V fb Y zR L' N T (fun g=>R g\/(w.heap.size<=g/\g<w'.heap.size)) w':=by
 have W:=h.Z7 U hk;obtain⟨f,G,hG,Z,O,hR,ht,hw,hp⟩:=h.facts;obtain⟨ft,hm,hb⟩:=h.there;have h1:=h.work.lt;have h2:=hm.lt;refine⟨W.work,W.there,⟨f,G,hG.same fun g q=>U.block g (hG.lt g q) (fun e=>hw (e▸q)),Z,fun p m aa I=>?_,fun g q I=>?_,ht,hw,hp⟩,W.pw,fun I=>?_,fun I=>?_,fun g q=>?_,h.VZ,h.V6,h.Ue⟩
 ·obtain⟨r,e,h1,h2,h3,X⟩:=O p m aa I;exact⟨r,e,h1,h2.kept U fun g q=>(X g q).2.1,h3,fun g q=>⟨zpz (X g q).1 U.size,(X g q).2⟩⟩
 ·rcases I with I|I
  ·exact hR g q I
  ·have:=hG.lt g q;omega
 ·rcases I with I|I
  ·exact h.VF I
  ·omega
 ·rcases I with I|I
  ·exact h.VI I
  ·omega
 ·rcases q with q|q
  ·exact zpz (h.VC g q) U.size
  ·exact q.2
theorem zih(w:World)(t:TypeId)(Z:Nat->Nat->Array Value):∃W,((w.alloc (.map #[] 0)).alloc (.map #[] 0)).alloc (.cells (Z w.heap.size (w.heap.size+1)) t)=W/\Bl w W/\W.heap.size=w.heap.size+3/\xv prog 9 W w.heap.size (fun _=>none)/\xv prog 9 W (w.heap.size+1) (fun _=>none)/\zD W (w.heap.size+1+1) t (Z w.heap.size (w.heap.size+1)):=by
 obtain⟨h,I⟩:∃h,w.alloc (.map #[] 0)=h:=⟨_,rfl⟩;have O:h.heap.size=w.heap.size+1:=by rw[<-I];simp
 have Y:Bl w h:=by rw[<-I];exact xq w _
 have ab:xv prog 9 h w.heap.size fun _=>none:=by rw[<-I];exact xv.new w 0
 obtain⟨L,q⟩:∃L,h.alloc (.map #[] 0)=L:=⟨_,rfl⟩;have aa:L.heap.size=h.heap.size+1:=by rw[<-q];simp
 have N:Bl h L:=by rw[<-q];exact xq h _
 have V:xv prog 9 L h.heap.size fun _=>none:=by rw[<-q];exact xv.new h 0
 obtain⟨W3,X,U⟩:=xi L t (Z w.heap.size (w.heap.size+1));have R:=U.b0;rw[O]at V;rw[aa,O]at R;exact⟨W3,by rw[I,q,X],zl Y (zl N U.below),by rw[U.size];omega,(ab.below N).below U.below,V.below U.below,R⟩
theorem zmB(w:World)(hP:Pw w)(aB aH:Nat)(p:ByteArray)(hp:p.size<=1048576)(B:Option Addr)(nb zM:Nat)(body:List Li)(hn:body.length=nb)(bG:nb<=1048576)(hk:zD w aB 25 #[.string p,.slice none 0 0,.slice B nb zM])(F:Option Addr)(nf a1:Nat)(fs:List Fa)(aM:fs.length=nf)(a9:nf<=1048576)(hl:zD w aH 26 #[.slice F nf a1])(hb:Vb (fun _=>False) w B body)(hf:Uv w F fs)(aj:Y8 body<=2097152):
 Calls prog 85 #[.int .i64 20000,.slice (some ⟨aB,0,none⟩) 1 1,.slice (some ⟨aH,0,none⟩) 1 1] w fun e q=>∃a b:Int,e=.returned (.tuple #[.int .i64 a,.int .i64 b])/\Bl w q:=by
 have HP:=zz hP;have Hk:=zz hk;have Hl:=zz hl;have Hb:=zz hb;have Hf:=zz hf;have Hn:=zz (zpG hn aM);have aG:=zz aj;have Z:=@run_makeMap prog;clear hP hk hl hb hf hn aM aj;go_enter func85,ntmps85;go_upto_region 3 with fail
 obtain⟨W0,U,I,Y,X,N,q⟩:=zih w 274 fun a b=>#[.int .i64 20000,.int .i64 2,.int .i64 0,.map (some a),.map (some b)]
 rw[U];have bu:=zz (yP.start w W0 HP.o w.heap.size (w.heap.size+1) (w.heap.size+1+1) 20000 2 I X N q (zpx _) zd (zd) zd);have bl:=zz I;have bm:=zz q;have bx:min (1:Int) 4096=1:=zr;obtain⟨fb,V⟩:∃fb,w.heap.size=fb:=⟨_,rfl⟩;have bK:=zz V;clear Z I Y X N q U V;go_upto_region 4 with(refine xy 3 _ _ rfl ?_;refine Xq zj 3 _ _ rfl (w.heap.size+1+1) 0 _ _ bm.o (.int .i64 20000) rfl (by first|rfl|decide) zp (zo) rfl ?_;intro W1 aW;have au:=zz aW;clear aW)
 have bn:=zz (bu.o.Z7 (L':=20000) au.o.zC (by have:=au.o.zH;simpa using this));have aZ:Kz (Bl w W1):=au.o.below bl.o (zpx _) zd;have q:=(Hl.o.below aZ.o).cell 0;go_wp2;clear q
 go_loopg[10,11,12,13] 1 (fun gk I q X N Z=>∃(i T:Nat) (R:Nat->Prop),i<=1/\gk=1-i/\I=.int .i64 (i:Int)/\yP (w.heap.size+1+1) w.heap.size (w.heap.size+1) 2 20000 0 T R Z/\T<=i*nf/\(∀g,g<w.heap.size->R g)/\Bl w Z)
 case atStart=>exact⟨0,0,_,zpD _,rfl,rfl,bn.o,zd,fun g V=>V,aZ.o⟩
 case round=>
  obtain⟨i,T,R,hi,rfl,rfl,hW,hT,hR,hB⟩:=hrel;have ax:=zz hW;have aP:=zz hR;have aC:=zz hB;clear hW hR hB;have w0:=ax.o.work.cell 0;have l0:=(Hl.o.below aC.o).cell 0
  by_cases aD:i=0
  ·subst aD;go_wp2;clear w0
   go_loopg[11,12,13] nf (fun gk q X N Z=>∃(k T:Nat) (R:Nat->Prop),k<=nf/\gk=nf-k/\q=.int .i64 (k:Int)/\yP (w.heap.size+1+1) w.heap.size (w.heap.size+1) 2 20000 0 T R Z/\T<=k/\(∀g,g<w.heap.size->R g)/\Bl w Z)
   case atStart=>exact⟨0,T,R,zpD _,rfl,rfl,ax.o,zd,aP.o,aC.o⟩
   case round=>
    obtain⟨k,T2,R2,hk,rfl,rfl,ak,aO,ah,ac⟩:=hrel;have Y:=zz ak;have ab:=zz ah;have ad:=zz ac;clear ak ah ac l0;have l0:=(Hl.o.below ad.o).cell 0
    by_cases af:k<nf
    ·have aa:k<fs.length:=by rw[Hn.o.2];exact af
     obtain⟨bf,al,rfl,ap,q⟩:=(Hf.o.rd.below ad.o).at (c:=1) (fun _=>rfl) k aa;have I:=Hf.o.each _ (zpB aa);generalize fs[k]=f at q I;obtain⟨fp,fA,aN,U⟩:=f;obtain⟨ae,am,az,ao⟩:=I;simp only[Fa.cells]at q ae am az ao;obtain⟨na,I⟩:∃n,U.length=n:=⟨_,rfl⟩;rw[I]at q am
     replace q:wr.rangeAt bf (al+k*2) _:=q
     have ai:=zz (two q);have ay:=zz ap;have an:=zz (zpG ae (zpG ao I));clear q ae ao I ap aa;obtain⟨Wk,rfl⟩:∃Wk,Wk=wr:=⟨_,rfl⟩;go_wp2;clear l0
     go_loopg[12,13] na (fun gk X N Z=>∃(j:Nat) (A:Option Addr) (ae:Nat) (l:List Th),j<=na/\gk=na-j/\N=.int .i64 (j:Int)/\X=.slice A j ae/\l.length=j/\Own Th.cells 277 5 Z A ae l/\(∀g∈zw A,Wk.heap.size<=g)/\(∀x∈l,x.qT)/\Bl Wk Z)
     case atStart=>exact⟨0,none,0,[],zpD _,rfl,rfl,rfl,rfl,Own.qz _,(fun g V=>nomatch V),(fun x N=>nomatch N),Below.refl _ _⟩
     case round=>
      obtain⟨j,A,ae,l,hj,rfl,rfl,rfl,hl,ho,V,ao,I⟩:=hrel;have aq:=zz hl;have Ho:=zz ho;have Hg:=zz V;have av:=zz ao;have aa:=zz I;have X:=zz (zl ad.o I);clear hl ho V ao I;have l0:=(Hl.o.below X.o).cell 0;have f0:=(aa.o.cell (p:=⟨bf,al+k*2,none⟩) ay.o).trans ai.o.1;have f1:=(aa.o.cell (p:=⟨bf,al+k*2+1,none⟩) ay.o).trans ai.o.2
      by_cases ar:j<na
      ·have ap:j<U.length:=by rw[an.o.2.2];exact ar
       obtain⟨ba,oa,rfl,aQ,I⟩:=(an.o.1.below X.o).at (c:=2) (fun _=>rfl) j ap;have ao:=an.o.2.1 _ (zpB ap);generalize U[j]=v at I ao;obtain⟨vk,vn,vs⟩:=v;simp only[Vl.cells]at I
       replace I:wr.rangeAt ba (oa+j*3) _:=I
       obtain⟨v0,v1,v2⟩:=three I;have aK:=zz ao.qT;clear I ao ap
       go_wp2_with (at_builtin;refine ZP Jo (f:=Th.cells) (xs:=l) (Ho.o.alloc _) aq.o (Vl.G0 ⟨vk,vn,vs⟩) ?_)
       intro g ao w6 aF aw aI;have aA:zh (·∈zw A) wr w6:=((zh.refl _ _).alloc _).trans aw (fun x N _=>N);have aE:Bl Wk w6:=aA.qt aa.o (zpx _) Hg.o;have ap:Wk.heap.size<=g:=by
        rcases aI with h|h
        ·exact Hg.o g h
        ·have I:=aa.o.size;try simp at h
         omega
       have aL:=zz aF;have I:=zz aE;have aJ:=zz ap;clear aF aw aI aA aE ap v0 v1 v2 f0 f1 l0;go_wp2
       go_roundg (na-(j+1))
       case measure=>omega
       case rel=>exact⟨j+1,some ⟨g,0,none⟩,ao,l++[Vl.G0 ⟨vk,vn,vs⟩],ar,rfl,ze,rfl,by simp[aq.o],aL.o,xY aJ.o,fun x N=>by
        rcases zpE.1 N with N|N
        ·exact av.o x N
        ·rw[zpy.1 N];exact aK.o,I.o⟩
      ·obtain rfl:j=na:=zd;have HK:=zz (Y.o.qj aa.o);have ao:=zz (zb7 HK.o fp az A ae j l Ho.o.xI aq.o am av.o (fun g V=>.inr ⟨Hg.o g V,Ho.o.lt g V⟩) zd true zd (zd) zd (zd))
       go_wp2_with (go_at_call 147;refine ao.o.mono ?_;rintro e w7⟨L7,aI,T7,rfl,ap,aA,aK,aT,aR,aL,aw,aQ,aJ,aS⟩;have aF:=zz ap;have aE:=zz aA;clear ap aA)
       obtain⟨rfl,rfl⟩:=(by first|exact aw trivial|exact aw rfl)
       go_roundg (nf-(k+1))
       case measure=>omega
       case rel=>exact⟨k+1,T7,_,af,rfl,ze,aF.o,zd,fun g V=>.inl (ab.o g V),X.o.trans (aE.o.below X.o.size fun x N=>by
        rcases zrz x w.heap.size with h|h
        ·exact absurd (.inl (ab.o x h)) N
        ·exact h)⟩
    ·obtain rfl:k=nf:=zd;go_wp2
     go_roundg 0
     case measure=>omega
     case rel=>exact⟨1,T2,R2,zpx _,rfl,ze,Y.o,zd,ab.o,ad.o⟩
  ·obtain rfl:i=1:=zd;go_wp2;clear w0 l0
   go_loopg[14,15,16,17,18] 40001 (fun gk U X ai al ap Z=>∃(ag:Bool) (L am:Int) (T:Nat) (R:Nat->Prop),U=.bool ag/\gk=2*L.toNat+(if ag=true then 1 else 0)/\yP (w.heap.size+1+1) w.heap.size (w.heap.size+1) 2 L am T R Z/\(T:Int)+L<=nf+20000/\0<=am/\am<=T/\-1300000<=L/\L<=20000/\(∀g,g<w.heap.size->R g)/\Bl w Z)
   case atStart=>exact⟨true,20000,0,T,R,rfl,rfl,ax.o,zd,zqM _,zd,zd,zqM _,aP.o,aC.o⟩
   case round=>
    obtain⟨ag,L,am,T,R,rfl,X,hW,bt,bk,bc,bh,bF,hR,hB⟩:=hrel;have aa:=zz hW;have bs:=zz hR;have U:=zz hB;have a7:=zz X;clear hW hR hB X;have w0:=aa.o.work.cell 0;have w4:=aa.o.work.cell 4;obtain⟨ft,X,_⟩:=aa.o.there;have ao:=X.lt;obtain⟨ml,aA⟩:=zdm X;have ae:=fun ty=>aA wr ty rfl
    clear X
    cases ag with
    |false=>
     clear ae;have aF:Kz (∀W,Bl wr W->W.cell? ⟨w.heap.size+1+1,0,none⟩=some (.int .i64 L)/\W.cell? ⟨w.heap.size+1+1,4,none⟩=some (.map (some (w.heap.size+1)))/\(Builtin.len_ #[272] 3 #[.map (some (w.heap.size+1))]).run prog W=.ok (.int .i64 ml) W):=fun W hW=>⟨(aa.o.work.below hW).cell 0,(aa.o.work.below hW).cell 4,aA W _ (hW.block _ ao)⟩
     go_upto_region 30 with fail
     refine xX [0,0,0,0,0,0,0,0,0,0,0,0,0,0] (fun W=>Bl wr W) ?_
     repeat refine zS aF.o ?_
     refine xt ?_;go_wp2;go_returns
     first|exact⟨_,_,rfl,U.o.drew⟩|exact U.o.drew|exact⟨⟨_,_,rfl⟩,U.o.drew⟩ |(simp only[exists_and_right];exact⟨⟨_,_,rfl⟩,U.o.drew⟩) |(simp;exact⟨⟨_,_,rfl⟩,U.o.drew⟩)
    |true=>
     by_cases hL:0<L
     ·go_wp2;clear ae w4;obtain⟨Wb,rfl⟩:∃Wb,Wb=wr:=⟨_,rfl⟩
      go_loopg[16,17,18] 1 (fun gk ai al ap Z=>∃(i:Nat) (L2 X:Int) (T2:Nat) (R2:Nat->Prop),i<=1/\gk=1-i/\ai=.int .i64 (i:Int)/\yP (w.heap.size+1+1) w.heap.size (w.heap.size+1) 2 L2 X T2 R2 Z/\L2+i<=L/\(i=0->L2=L)/\(T2:Int)+L2<=nf+20000/\0<=X/\X<=T2/\-1300000<=L2/\(∀g,g<w.heap.size->R2 g)/\Bl w Z)
      case atStart=>exact⟨0,L,am,T,R,zpD _,rfl,rfl,aa.o,zd,fun _=>rfl,bt,bk,bc,bh,bs.o,U.o⟩
      case round=>
       obtain⟨i,L2,X,T2,R2,hi,rfl,rfl,ak,bH,an,a3,al,ai,aS,ah,ac⟩:=hrel;have Y:=zz ak;have ab:=zz ah;have ad:=zz ac;clear ak ah ac w0;have w0:=Y.o.work.cell 0
       by_cases aD:i=0
       ·subst aD;obtain rfl:=an rfl;clear an;go_upto_region 23 with(refine xy 3 _ _ rfl ?_;refine Xq zj 3 _ _ rfl (w.heap.size+1+1) 0 _ _ Y.o.work (.int .i64 (L2-1)) rfl rfl zp (zo) rfl ?_;intro W6 aK;have az:=zz aK;clear aK)
        clear w0;have ah:=zz (Y.o.Z7 (L':=L2-1) az.o.zC (by have:=az.o.zH;simpa using this));have I:Kz (Bl w W6):=az.o.below ad.o (zpx _) zd;have r0:=(Hk.o.below I.o).cell 0;have r1:=(Hk.o.below I.o).cell 1;have r2:=(Hk.o.below I.o).cell 2
        by_cases be:nb<=16
        ·have br:=zz (zns ah.o.work (ah.o.zmG zd) ah.o.pw ah.o.V6 B zM nb body ⟨Hb.o.rd.below I.o,fun g V=>⟨by have:=(Hb.o.off g V).2;omega,zpz (Hb.o.off g V).2 I.o.size⟩,fun x N=>(Hb.o.zN x N).below I.o,fun x N=>(Hb.o.XO x N).mono fun g V=>⟨by have:=V.2;omega,zpz V.2 I.o.size⟩,Hb.o.may⟩ Hn.o.1 be p 0 zd (zd) aG.o);go_upto_region 25 with(go_at_call 148;refine br.o.mono ?_;rintro e w8⟨L8,O,bA,no,rfl,hO,aI,aV,bL,bJ,bI,aw⟩;have HO:=zz hO;have bv:=zz aI;have bi:=zz (ah.o.zgR aw aV);have bp:=zz aw;clear hO aI aV aw)
         clear r0 r1 r2;have aU:Kz (Bl w w8):=I.o.trans (bp.o.below I.o.size fun x N=>zd);go_wp2
         go_loopg[18] no (fun gk ap Z=>∃(k:Nat) (L9 ac:Int) (T9:Nat),k<=no/\gk=no-k/\ap=.int .i64 (k:Int)/\yP (w.heap.size+1+1) w.heap.size (w.heap.size+1) 2 L9 ac T9 (fun g=>R2 g\/(W6.heap.size<=g/\g<w8.heap.size)) Z/\zh (fun g=>¬(R2 g\/(W6.heap.size<=g/\g<w8.heap.size))) w8 Z/\L9<=L8/\-1300000<=L9/\(T9:Int)+L9<=nf+20000/\0<=ac/\ac<=T9)
         case atStart=>exact⟨0,L8,X,T2,zpD _,rfl,rfl,bi.o,zh.refl _ _,zqM _,zd,zd,al,ai⟩
         case round=>
          obtain⟨k,L9,ac,T9,hk,rfl,rfl,ak,Z,bE,ar,aR,ap,a6⟩:=hrel;have aJ:=zz ak;have av:=zz Z;have aO:=zz (show Bl w wr from aU.o.trans (Z.below aU.o.size fun x N=>by
           rcases zrz x w.heap.size with h|h
           ·exact absurd (.inl (ab.o x h)) N
           ·exact h))
          clear ak Z
          by_cases af:k<no
          ·have ak:k<(List.replicate no ()).length:=by rw[zqT];exact af
           obtain⟨Z,oo,rfl,ay,q⟩:=HO.o.xI.at (c:=0) (fun _=>rfl) k ak;have aX:R2 Z\/(W6.heap.size<=Z/\Z<w8.heap.size):=.inr ⟨bv.o Z (by simp[zw]),ay⟩;have o0:wr.cell? ⟨Z,oo+k,none⟩=some (.slice none 0 0):=(av.o.cell (p:=⟨Z,oo+k,none⟩) ay (fun h=>h aX)).trans (by simpa using q 0 _ rfl);have bj:Z<wr.heap.size:=zpz ay av.o.size;have bd:(k:Int)<(no:Int):=zd;have aT:Kz (∀W,Bl wr W->W.cell? ⟨aB,0,none⟩=some (.string p)/\W.cell? ⟨Z,oo+k,none⟩=some (.slice none 0 0)):=fun W hW=>⟨(Hk.o.below (zl aO.o hW)).cell 0,(hW.cell (p:=⟨Z,oo+k,none⟩) bj).trans o0⟩
           have aN:Kz (∀W:World,True->(k:Int)<(no:Int)/\k<no):=fun _ _=>⟨bd,af⟩
           clear o0 q ak;go_upto_region 28 with fail
           refine XT [0,0,0,0,0,1,0,0,0,1,3] 10 (fun _=>True) (fun W=>Bl wr W) ?s0 ?s1 ?_
           case s0=>trivial
           case s1=>exact(Below.refl _ _).drew
           try refine zQ ?_
           repeat refine xM aN.o aT.o ?_
           refine Xf zj (fun K hK=>?_);go_simp;refine(zb7 (aJ.o.below (Below.refl _ _).drew) p hp none 0 0 [] (fun a8=>absurd rfl a8) rfl zd (fun x N=>nomatch N) (fun g V=>nomatch V) zd false zd (zd) ap zd).mono ?_;rintro e bq⟨aL,aE,a5,rfl,ak,aq,bC,bB,bw,a2,aY,bz,bD,q⟩;refine hK.out _ _ trivial ?_;clear hK K;try refine zQ ?_
           repeat refine xM aN.o aT.o ?_
           refine xt ?_;have aQ:=zz ak;have a4:Kz (zh (fun g=>¬(R2 g\/(W6.heap.size<=g/\g<w8.heap.size))) w8 bq):=av.o.trans ((zh.xj _ (Below.refl _ _).drew).trans aq (fun x N _=>N)) (fun x N _=>N);have bg:(a5:Int)+aL<=T9+L9:=by
            rcases q with h|h
            ·exact h
            ·cases h
           clear ak aq q aY;go_wp2
           go_roundg (no-(k+1))
           case measure=>omega
           case rel=>exact⟨k+1,aL,aE,a5,af,rfl,ze,aQ.o,a4.o,zd,by
            by_cases h:L9<0
            ·rw[a2 h];exact ar
            ·omega,zd,zd,zd⟩
          ·obtain rfl:k=no:=zd;go_wp2
           go_roundg 0
           case measure=>omega
           case rel=>exact⟨1,L9,ac,T9,_,zpx _,rfl,ze,aJ.o,zd,(fun h=>nomatch h),aR,ap,a6,ar,fun g V=>.inl (ab.o g V),aO.o⟩
        ·go_wp2
         go_roundg 0
         case measure=>omega
         case rel=>exact⟨1,L2-1,X,T2,R2,zpx _,rfl,ze,ah.o,zd,(fun h=>nomatch h),zd,al,ai,zd,ab.o,I.o⟩
       ·obtain rfl:i=1:=zd;obtain⟨Z,q,_⟩:=Y.o.there;obtain⟨N,I⟩:=zdm q;have ae:=fun ty=>I wr ty rfl
        have w4:=Y.o.work.cell 4;clear q I;go_wp2;have V:=a7.o
        go_roundg (2*L2.toNat+(if decide (ml<N)=true then 1 else 0))
        case measure=>
         simp only[if_true]at V;split<;>omega
        case rel=>exact⟨decide (ml<N),L2,X,T2,R2,by first|rfl|simp,rfl,Y.o,a3,al,ai,aS,zd,ab.o,ad.o⟩
     ·clear ae;have aF:Kz (∀W,Bl wr W->W.cell? ⟨w.heap.size+1+1,0,none⟩=some (.int .i64 L)/\W.cell? ⟨w.heap.size+1+1,4,none⟩=some (.map (some (w.heap.size+1)))/\(Builtin.len_ #[272] 3 #[.map (some (w.heap.size+1))]).run prog W=.ok (.int .i64 ml) W):=fun W hW=>⟨(aa.o.work.below hW).cell 0,(aa.o.work.below hW).cell 4,aA W _ (hW.block _ ao)⟩
      go_upto_region 30 with fail
      refine xX [0,0,0,0,0,0,0,0,0,0,0,0,0,0] (fun W=>Bl wr W) ?_
      repeat refine zS aF.o ?_
      refine xt ?_;go_wp2;go_returns
      first|exact⟨_,_,rfl,U.o.drew⟩|exact U.o.drew|exact⟨⟨_,_,rfl⟩,U.o.drew⟩ |(simp only[exists_and_right];exact⟨⟨_,_,rfl⟩,U.o.drew⟩) |(simp;exact⟨⟨_,_,rfl⟩,U.o.drew⟩)
theorem JX{j:Nat}(I:j<body.length)(L:body[j].k=1)(q:stepOf K j body[j]=some s)(lo hi:Nat->Nat):
 madeOf body lo hi s=.rows body[j].a.p body[j].a.args s.known s.gives (lo j) (hi j):=by
 have N:=(YQ q).1;have h:s.k≠4/\s.k≠5/\s.k≠6:=by
  unfold stepOf at q;rw[if_pos L]at q;injection q with q
  subst q;refine⟨?_,?_,?_⟩<;>(simp only;split<;>(try split)<;>decide)
 unfold madeOf;rw[N,zpF I];simp only;rw[if_neg h.1,if_neg h.2.1,if_neg h.2.2]
theorem zmI{I:List Sp}(h:yi body K left I)(hi:i∈left)(W:i<body.length)(N:body[i].k=1){hi':Nat->Nat}(O:hi' i<=lo i):Void (I.map (madeOf body lo hi')):=by
 induction h with
 |nil=>cases hi
 |@cons K left j s L Y q U X V=>
  rw[zqb]
  by_cases e:j=i
  ·subst e;rw[JX q N U];exact .here O
  ·exact .next (V ((List.mem_erase_of_ne (zrA e)).2 hi))
section
variable (ev:Env->Ex->Option Vl)(ho:Int->Vl->Vl->Bool)(R:ByteArray->List (List Vl))
theorem zjL{rest:List Sp}(h:yi body K left (s::rest))(hn:left.Nodup)(hb:s.lit<body.length)(I:body[s.lit].k=1){hi O L q N:Nat->Nat}(X:∀j,j≠s.lit->O j=lo j/\q j=lo j/\L j=hi j/\N j=hi j)(h1:O s.lit=lo s.lit)(h2:L s.lit=q s.lit)(h3:N s.lit=hi s.lit)(h4:lo s.lit<=q s.lit)(h5:q s.lit<=hi s.lit)(ρ:Env):
 solve ev ho R ((s::rest).map (madeOf body lo hi)) ρ=solve ev ho R ((s::rest).map (madeOf body O L)) ρ++solve ev ho R ((s::rest).map (madeOf body q N)) ρ:=by
 obtain⟨hq,W,V,Y⟩:=Dm h;have U:s.lit∉left.erase s.lit:=fun Z=>by rw[hn.mem_erase_iff]at Z;exact Z.1 rfl
 have e1:rest.map (madeOf body O L)=rest.map (madeOf body lo hi):=zaY (fun k I=>(X k I).1) (fun k I=>(X k I).2.2.1) Y U;have e2:rest.map (madeOf body q N)=rest.map (madeOf body lo hi):=zaY (fun k I=>(X k I).2.1) (fun k I=>(X k I).2.2.2) Y U;rw[zqb,zqb,zqb,e1,e2,JX W I V,JX W I V,JX W I V,h1,h2,h3];exact zfE ev ho R h4 h5 ρ
def YE:Nat->Nat:=fun _=>0
end
end
section
def mulL(f:Nat->Nat):List Nat->Nat
 |[]=>1
 |i::l=>f i*mulL f l
theorem zdW(f:Nat->Nat){j:Nat}:∀{l:List Nat},j∈l->mulL f l=f j*mulL f (l.erase j)
 |[],h=>by cases h
 |i::l,h=>by
  by_cases e:i=j
  ·subst e;rw[List.erase_cons_head];rfl
  ·have q:j∈l:=by
    rcases zpU.1 h with h|h
    ·exact absurd h.symm e
    ·exact h
   rw[List.erase_cons_tail (by simpa using e)];show f i*mulL f l=f j*(f i*mulL f (l.erase j));rw[zdW f q,Nat.mul_left_comm]
theorem zfF(f:Nat->Nat)(i:Nat):∀l:List Nat,mulL f (l++[i])=mulL f l*f i
 |[]=>by show f i*1=1*f i;omega
 |k::l=>by
  show f k*mulL f (l++[i])=f k*mulL f l*f i;rw[zfF f i l,Nat.mul_assoc]
theorem ze0(f:Nat->Nat)(n:Nat):mulL f (List.range (n+1))=mulL f (List.range n)*f n:=by rw[zrf,zfF]
theorem zfG{α β:Type}{f:α->List β}{b:Nat}:∀(l:List α),(∀x∈l,(f x).length<=b)->(l.flatMap f).length<=l.length*b
 |[],_=>zp
 |x::l,h=>by
  rw[zpZ,zpA,zpV,zrq];have L:=h x zpP;have I:=zfG l fun y q=>h y (zpQ _ q)
  omega
def X2(body:List Li)(h:ByteArray->Nat)(i:Nat):Nat:=match body[i]? with
 |some x=>if x.k=1 then h x.a.p else 1
 |none=>1
theorem zdQ{I:ByteArray->Nat}(q:i<body.length)(h:body[i].k≠1):X2 body I i=1:=by
 unfold X2;rw[zpF q];exact if_neg h
theorem GR{h:ByteArray->Nat}(I:i<body.length)(q:body[i].k=1):X2 body h i=h body[i].a.p:=by
 unfold X2;rw[zpF I];exact if_pos q
section
variable (ev:Env->Ex->Option Vl)(ho:Int->Vl->Vl->Bool)(R:ByteArray->List (List Vl))
theorem zny(T:List (List Vl))(m:Nat)(ρ:Env)(args:List Tm)(lo hi:Nat):(XN T m ρ args lo hi).length<=T.length:=by
 unfold XN;refine zpK (zqS _ _) (zpK (zqS _ _) ?_);rw[zro];exact zpx _
theorem zi8{X:List Sp}(h:yi body K left X)(V:ByteArray->Nat)(W:∀p,(R p).length<=V p)(lo hi:Nat->Nat):
 ∀ρ,(solve ev ho R (X.map (madeOf body lo hi)) ρ).length<=mulL (X2 body V) left:=by
 induction h with
 |nil=>intro ρ;exact zpx _
 |@cons K left j s Y hj q I hr O=>
  intro ρ;rw[zqb,zdW _ hj];have Z:=(YQ I).1
  by_cases N:body[j].k=1
  ·rw[JX q N I,GR q N];unfold solve;refine zpK (zfG _ (b:=mulL (X2 body V) (left.erase j)) fun n _=>?_) (zqF _ (zpK (zny _ _ _ _ _ _) (W _)));split
   ·exact O _
   ·exact zpD _
  ·rw[zdQ q N,zry];have U:s.k=4\/s.k=5\/s.k=6:=by
    unfold stepOf at I;rw[if_neg N]at I
    repeat' split at I
    all_goals(first |(cases I;done) |(injection I with I;subst I;simp))
   have L:∃v e,madeOf body lo hi s=.Xm body[j].a.p body[j].a.args s.known\/madeOf body lo hi s=.test body[j].rl body[j].l body[j].r\/madeOf body lo hi s=.set v e:=by
    unfold madeOf;rw[Z,zpF q];simp only
    rcases U with h|h|h
    ·exact⟨⟨#[]⟩,body[j].l,.inl (by rw[if_pos h])⟩
    ·exact⟨⟨#[]⟩,body[j].l,.inr (.inl (by rw[if_neg zd,if_pos h]))⟩
    ·rw[if_neg zd,if_neg zd,if_pos h];split
     ·exact⟨_,_,.inr (.inr rfl)⟩
     ·exact⟨_,_,.inr (.inr rfl)⟩
   obtain⟨v,e,L⟩:=L
   rcases L with L|L|L<;>rw[L]<;>unfold solve
   ·split
    ·exact O _
    ·exact zpD _
   ·split
    ·split
     ·exact O _
     ·exact zpD _
    ·exact zpD _
   ·split
    ·exact O _
    ·exact zpD _
end
end
