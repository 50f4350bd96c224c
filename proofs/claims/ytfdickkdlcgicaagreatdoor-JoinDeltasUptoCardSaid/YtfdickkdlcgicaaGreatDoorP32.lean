/-
  What is worked out: a rule without a head over facts. Plain 
-/
import Derived.Test.YtfdickkdlcgicaaGreatDoorP31
set_option maxRecDepth 100000
set_option maxHeartbeats 8000000
set_option linter.all false
namespace Go.Proofs.YtfdickkdlcgicaaGreatDoor.C
open Go.Proofs.Tryz Go Go.RowKit Go.Maps Go.WideMaps
variable {K:List ByteArray}{body:List Li}{i:Nat}{w w':World}
section
structure Ui (w:World) (F:Option Addr) (fs:List Fa):Prop where
 rd:zY Fa.cells w F fs
 each:∀f∈fs,zY Vl.cells w f.A f.args/\f.args.length<=1048576/\f.p.size<=1048576/\∀v∈f.args,v.told
theorem Ui.below{F:Option Addr}{fs:List Fa}(h:Ui w F fs)(r:Bl w w'):Ui w' F fs:=⟨h.rd.below r,fun f q=>⟨(h.each f q).1.below r,(h.each f q).2⟩⟩
theorem yJ.start(w W:World)(Z:Pw w)(r N R:Nat)(L zR:Int)(hB:Bl w W)(X:xv prog 9 W r fun _=>none)(V:xv prog 9 W N fun _=>none)(U:zD W R 274 #[.int .i64 L,.int .i64 zR,.int .i64 0,.map (some r),.map (some N)])(g1:w.heap.size<=r)(g2:w.heap.size<=N)(g3:w.heap.size<=R)(O:r≠N):yJ R r N zR L 0 0 (fun g=>g<w.heap.size) W:=by
 have q:∀g,xZ r (fun _=>none) g->g=r:=fun g I=>by
  rcases I with h |⟨x,v,h,_⟩
  ·exact h
  ·cases h
 have hp:=Z.lt;exact⟨U,⟨_,V,fun v x h=>nomatch h⟩,⟨_,_,Xc.zcM X,fun _=>zoZ _,(fun p m aa Y=>nomatch Y),fun g I Y=>by have:=q g I;omega,fun h=>O (q _ h).symm,fun h=>U.qM X (q _ h),fun h=>by have:=q _ h;omega⟩,
  Z.below hB,zd,zd,fun g I=>zo0 I hB.size,U.qM V,zd,zd⟩
theorem zcL{b:Nat}{f:Value->Option Value}(h:xv prog 9 w b f):∃n:Int,∀(W:World)(r:TypeId),W.heap[b]? = w.heap[b]?->(Builtin.len_ #[272] r #[.map (some b)]).run prog W=.ok (.int .i64 n) W:=by
 obtain⟨L,q,N,_⟩:=h;exact⟨L.size,fun W r I=>by simp[Builtin.len_,run_underlying underlying272,MapKept.run_getObj_map (I.trans N),goInt,Result.andThen]⟩
theorem yJ.zgh{V fb Y:Nat}{zR L L' N:Int}{T:Nat}{R:Nat->Prop}(h:yJ V fb Y zR L N T R w)(U:zh (·=V) w w')(hk:zD w' V 274 #[.int .i64 L',.int .i64 zR,.int .i64 N,.map (some fb),.map (some Y)]):yJ V fb Y zR L' N T (fun g=>R g\/(w.heap.size<=g/\g<w'.heap.size)) w':=by
 have W:=h.ZU U hk;obtain⟨f,G,hG,Z,O,hR,ht,hw,hp⟩:=h.facts;obtain⟨ft,hm,hb⟩:=h.there;have h1:=h.work.lt;have h2:=hm.lt;refine⟨W.work,W.there,⟨f,G,hG.same fun g q=>U.block g (hG.lt g q) (fun e=>hw (e▸q)),Z,fun p m aa I=>?_,fun g q I=>?_,ht,hw,hp⟩,W.pw,fun I=>?_,fun I=>?_,fun g q=>?_,h.VN,h.VU,h.V2⟩
 ·obtain⟨r,e,h1,h2,h3,X⟩:=O p m aa I;exact⟨r,e,h1,h2.kept U fun g q=>(X g q).2.1,h3,fun g q=>⟨zo0 (X g q).1 U.size,(X g q).2⟩⟩
 ·rcases I with I|I
  ·exact hR g q I
  ·have:=hG.lt g q;omega
 ·rcases I with I|I
  ·exact h.Vv I
  ·omega
 ·rcases I with I|I
  ·exact h.Vy I
  ·omega
 ·rcases q with q|q
  ·exact zo0 (h.Vs g q) U.size
  ·exact q.2
theorem zhH(w:World)(t:TypeId)(Y:Nat->Nat->Array Value):∃W,((w.alloc (.map #[] 0)).alloc (.map #[] 0)).alloc (.cells (Y w.heap.size (w.heap.size+1)) t)=W/\Bl w W/\W.heap.size=w.heap.size+3/\xv prog 9 W w.heap.size (fun _=>none)/\xv prog 9 W (w.heap.size+1) (fun _=>none)/\zD W (w.heap.size+1+1) t (Y w.heap.size (w.heap.size+1)):=by
 obtain⟨h,r⟩:∃h,w.alloc (.map #[] 0)=h:=⟨_,rfl⟩;have N:h.heap.size=w.heap.size+1:=by rw[<-r];simp
 have X:Bl w h:=by rw[<-r];exact xo w _
 have aa:xv prog 9 h w.heap.size fun _=>none:=by rw[<-r];exact xv.new w 0
 obtain⟨I,q⟩:∃I,h.alloc (.map #[] 0)=I:=⟨_,rfl⟩;have Z:I.heap.size=h.heap.size+1:=by rw[<-q];simp
 have L:Bl h I:=by rw[<-q];exact xo h _
 have U:xv prog 9 I h.heap.size fun _=>none:=by rw[<-q];exact xv.new h 0
 obtain⟨W3,V,R⟩:=xj I t (Y w.heap.size (w.heap.size+1));have O:=R.b0;rw[N]at U;rw[Z,N]at O;exact⟨W3,by rw[r,q,V],zu X (zu L R.below),by rw[R.size];omega,(aa.below L).below R.below,U.below R.below,O⟩
theorem zl3(w:World)(hP:Pw w)(aA aG:Nat)(p:ByteArray)(hp:p.size<=1048576)(B:Option Addr)(nb zM:Nat)(body:List Li)(hn:body.length=nb)(bE:nb<=1048576)(hk:zD w aA 25 #[.string p,.slice none 0 0,.slice B nb zM])(F:Option Addr)(nf aZ:Nat)(fs:List Fa)(aL:fs.length=nf)(a8:nf<=1048576)(hl:zD w aG 26 #[.slice F nf aZ])(hb:Z0 (fun _=>False) w B body)(hf:Ui w F fs)(ai:YV body<=2097152):
 Calls prog 85 #[.int .i64 20000,.slice (some ⟨aA,0,none⟩) 1 1,.slice (some ⟨aG,0,none⟩) 1 1] w fun e q=>∃a b:Int,e=.returned (.tuple #[.int .i64 a,.int .i64 b])/\Bl w q:=by
 have HP:=zz hP;have Hk:=zz hk;have Hl:=zz hl;have Hb:=zz hb;have Hf:=zz hf;have Hn:=zz (zpf hn aL);have aF:=zz ai;have Y:=@run_makeMap prog;clear hP hk hl hb hf hn aL ai;go_enter func85,ntmps85;go_upto_region 3 with fail
 obtain⟨W0,N,r,X,V,I,q⟩:=zhH w 274 fun a b=>#[.int .i64 20000,.int .i64 2,.int .i64 0,.map (some a),.map (some b)]
 rw[N];have bs:=zz (yJ.start w W0 HP.o w.heap.size (w.heap.size+1) (w.heap.size+1+1) 20000 2 r V I q (zoZ _) zd (zd) zd);have bj:=zz r;have bk:=zz q;have bv:min (1:Int) 4096=1:=zr;obtain⟨fb,U⟩:∃fb,w.heap.size=fb:=⟨_,rfl⟩;have bI:=zz U;clear Y r X V I q N U;go_upto_region 4 with(refine xy 3 _ _ rfl ?_;refine Xf zj 3 _ _ rfl (w.heap.size+1+1) 0 _ _ bk.o (.int .i64 20000) rfl (by first|rfl|decide) zp (zo) rfl ?_;intro W1 aV;have ar:=zz aV;clear aV)
 have bl:=zz (bs.o.ZU (L':=20000) ar.o.zC (by have:=ar.o.zG;simpa using this));have aY:Kz (Bl w W1):=ar.o.below bj.o (zoZ _) zd;have q:=(Hl.o.below aY.o).cell 0;go_wp2;clear q
 go_loopg[10,11,12,13] 1 (fun gk r q V I Y=>∃(i T:Nat) (R:Nat->Prop),i<=1/\gk=1-i/\r=.int .i64 (i:Int)/\yJ (w.heap.size+1+1) w.heap.size (w.heap.size+1) 2 20000 0 T R Y/\T<=i*nf/\(∀g,g<w.heap.size->R g)/\Bl w Y)
 case atStart=>exact⟨0,0,_,zo5 _,rfl,rfl,bl.o,zd,fun g U=>U,aY.o⟩
 case round=>
  obtain⟨i,T,R,hi,rfl,rfl,hW,hT,hR,hB⟩:=hrel;have aw:=zz hW;have aO:=zz hR;have aB:=zz hB;clear hW hR hB;have w0:=aw.o.work.cell 0;have l0:=(Hl.o.below aB.o).cell 0
  by_cases aC:i=0
  ·subst aC;go_wp2;clear w0
   go_loopg[11,12,13] nf (fun gk q V I Y=>∃(k T:Nat) (R:Nat->Prop),k<=nf/\gk=nf-k/\q=.int .i64 (k:Int)/\yJ (w.heap.size+1+1) w.heap.size (w.heap.size+1) 2 20000 0 T R Y/\T<=k/\(∀g,g<w.heap.size->R g)/\Bl w Y)
   case atStart=>exact⟨0,T,R,zo5 _,rfl,rfl,aw.o,zd,aO.o,aB.o⟩
   case round=>
    obtain⟨k,T2,R2,hk,rfl,rfl,aj,aN,af,ab⟩:=hrel;have X:=zz aj;have aa:=zz af;have ac:=zz ab;clear aj af ab l0;have l0:=(Hl.o.below ac.o).cell 0
    by_cases ae:k<nf
    ·have Z:k<fs.length:=by rw[Hn.o.2];exact ae
     obtain⟨bf,ak,rfl,ao,q⟩:=(Hf.o.rd.below ac.o).at (c:=1) (fun _=>rfl) k Z;have r:=Hf.o.each _ (zo3 Z);generalize fs[k]=f at q r;obtain⟨fp,fA,aM,N⟩:=f;obtain⟨ad,al,ay,an⟩:=r;simp only[Fa.cells]at q ad al ay an;obtain⟨na,r⟩:∃n,N.length=n:=⟨_,rfl⟩;rw[r]at q al
     replace q:wr.rangeAt bf (ak+k*2) _:=q
     have ah:=zz (two q);have ax:=zz ao;have am:=zz (zpf ad (zpf an r));clear q ad an r ao Z;obtain⟨Wk,rfl⟩:∃Wk,Wk=wr:=⟨_,rfl⟩;go_wp2;clear l0
     go_loopg[12,13] na (fun gk V I Y=>∃(j:Nat) (A:Option Addr) (ad:Nat) (l:List Th),j<=na/\gk=na-j/\I=.int .i64 (j:Int)/\V=.slice A j ad/\l.length=j/\Own Th.cells 277 5 Y A ad l/\(∀g∈zw A,Wk.heap.size<=g)/\(∀x∈l,x.qL)/\Bl Wk Y)
     case atStart=>exact⟨0,none,0,[],zo5 _,rfl,rfl,rfl,rfl,Own.qC _,(fun g U=>nomatch U),(fun x I=>nomatch I),Below.refl _ _⟩
     case round=>
      obtain⟨j,A,ad,l,hj,rfl,rfl,rfl,hl,ho,U,an,r⟩:=hrel;have ap:=zz hl;have Ho:=zz ho;have Hg:=zz U;have au:=zz an;have Z:=zz r;have V:=zz (zu ac.o r);clear hl ho U an r;have l0:=(Hl.o.below V.o).cell 0;have f0:=(Z.o.cell (p:=⟨bf,ak+k*2,none⟩) ax.o).trans ah.o.1;have f1:=(Z.o.cell (p:=⟨bf,ak+k*2+1,none⟩) ax.o).trans ah.o.2
      by_cases aq:j<na
      ·have ao:j<N.length:=by rw[am.o.2.2];exact aq
       obtain⟨ba,oa,rfl,aP,r⟩:=(am.o.1.below V.o).at (c:=2) (fun _=>rfl) j ao;have an:=am.o.2.1 _ (zo3 ao);generalize N[j]=v at r an;obtain⟨vk,vn,vs⟩:=v;simp only[Vl.cells]at r
       replace r:wr.rangeAt ba (oa+j*3) _:=r
       obtain⟨v0,v1,v2⟩:=three r;have aJ:=zz an.qL;clear r an ao
       go_wp2_with (at_builtin;refine ZG U8 (f:=Th.cells) (xs:=l) (Ho.o.alloc _) ap.o (Vl.GI ⟨vk,vn,vs⟩) ?_)
       intro g an w6 aE av aH;have az:zh (·∈zw A) wr w6:=((zh.refl _ _).alloc _).trans av (fun x I _=>I);have aD:Bl Wk w6:=az.qq Z.o (zoZ _) Hg.o;have ao:Wk.heap.size<=g:=by
        rcases aH with h|h
        ·exact Hg.o g h
        ·have r:=Z.o.size;try simp at h
         omega
       have aK:=zz aE;have r:=zz aD;have aI:=zz ao;clear aE av aH az aD ao v0 v1 v2 f0 f1 l0;go_wp2
       go_roundg (na-(j+1))
       case measure=>omega
       case rel=>exact⟨j+1,some ⟨g,0,none⟩,an,l++[Vl.GI ⟨vk,vn,vs⟩],aq,rfl,ze,rfl,by simp[ap.o],aK.o,xW aI.o,fun x I=>by
        rcases zo7.1 I with I|I
        ·exact au.o x I
        ·rw[zo2.1 I];exact aJ.o,r.o⟩
      ·obtain rfl:j=na:=zd;have HK:=zz (X.o.qj Z.o);have an:=zz (zbC HK.o fp ay A ad j l Ho.o.xI ap.o al au.o (fun g U=>.inr ⟨Hg.o g U,Ho.o.lt g U⟩) zd true zd (zd) zd (zd))
       go_wp2_with (go_at_call 147;refine an.o.mono ?_;rintro e w7⟨L7,aH,T7,rfl,ao,az,aJ,aS,aQ,aK,av,aP,aI,aR⟩;have aE:=zz ao;have aD:=zz az;clear ao az)
       obtain⟨rfl,rfl⟩:=(by first|exact av trivial|exact av rfl)
       go_roundg (nf-(k+1))
       case measure=>omega
       case rel=>exact⟨k+1,T7,_,ae,rfl,ze,aE.o,zd,fun g U=>.inl (aa.o g U),V.o.trans (aD.o.below V.o.size fun x I=>by
        rcases zq2 x w.heap.size with h|h
        ·exact absurd (.inl (aa.o x h)) I
        ·exact h)⟩
    ·obtain rfl:k=nf:=zd;go_wp2
     go_roundg 0
     case measure=>omega
     case rel=>exact⟨1,T2,R2,zoZ _,rfl,ze,X.o,zd,aa.o,ac.o⟩
  ·obtain rfl:i=1:=zd;go_wp2;clear w0 l0
   go_loopg[14,15,16,17,18] 40001 (fun gk N V ah ak ao Y=>∃(ag:Bool) (L al:Int) (T:Nat) (R:Nat->Prop),N=.bool ag/\gk=2*L.toNat+(if ag=true then 1 else 0)/\yJ (w.heap.size+1+1) w.heap.size (w.heap.size+1) 2 L al T R Y/\(T:Int)+L<=nf+20000/\0<=al/\al<=T/\-1300000<=L/\L<=20000/\(∀g,g<w.heap.size->R g)/\Bl w Y)
   case atStart=>exact⟨true,20000,0,T,R,rfl,rfl,aw.o,zd,zqf _,zd,zd,zqf _,aO.o,aB.o⟩
   case round=>
    obtain⟨ag,L,al,T,R,rfl,V,hW,br,bi,a9,be,bD,hR,hB⟩:=hrel;have Z:=zz hW;have bq:=zz hR;have N:=zz hB;have a6:=zz V;clear hW hR hB V;have w0:=Z.o.work.cell 0;have w4:=Z.o.work.cell 4;obtain⟨ft,V,_⟩:=Z.o.there;have an:=V.lt;obtain⟨ml,az⟩:=zcL V;have ad:=fun ty=>az wr ty rfl
    clear V
    cases ag with
    |false=>
     clear ad;have aE:Kz (∀W,Bl wr W->W.cell? ⟨w.heap.size+1+1,0,none⟩=some (.int .i64 L)/\W.cell? ⟨w.heap.size+1+1,4,none⟩=some (.map (some (w.heap.size+1)))/\(Builtin.len_ #[272] 3 #[.map (some (w.heap.size+1))]).run prog W=.ok (.int .i64 ml) W):=fun W hW=>⟨(Z.o.work.below hW).cell 0,(Z.o.work.below hW).cell 4,az W _ (hW.block _ an)⟩
     go_upto_region 30 with fail
     refine xX [0,0,0,0,0,0,0,0,0,0,0,0,0,0] (fun W=>Bl wr W) ?_
     repeat refine zT aE.o ?_
     refine xu ?_;go_wp2;go_returns
     first|exact⟨_,_,rfl,N.o.drew⟩|exact N.o.drew|exact⟨⟨_,_,rfl⟩,N.o.drew⟩ |(simp only[exists_and_right];exact⟨⟨_,_,rfl⟩,N.o.drew⟩) |(simp;exact⟨⟨_,_,rfl⟩,N.o.drew⟩)
    |true=>
     by_cases hL:0<L
     ·go_wp2;clear ad w4;obtain⟨Wb,rfl⟩:∃Wb,Wb=wr:=⟨_,rfl⟩
      go_loopg[16,17,18] 1 (fun gk ah ak ao Y=>∃(i:Nat) (L2 V:Int) (T2:Nat) (R2:Nat->Prop),i<=1/\gk=1-i/\ah=.int .i64 (i:Int)/\yJ (w.heap.size+1+1) w.heap.size (w.heap.size+1) 2 L2 V T2 R2 Y/\L2+i<=L/\(i=0->L2=L)/\(T2:Int)+L2<=nf+20000/\0<=V/\V<=T2/\-1300000<=L2/\(∀g,g<w.heap.size->R2 g)/\Bl w Y)
      case atStart=>exact⟨0,L,al,T,R,zo5 _,rfl,rfl,Z.o,zd,fun _=>rfl,br,bi,a9,be,bq.o,N.o⟩
      case round=>
       obtain⟨i,L2,V,T2,R2,hi,rfl,rfl,aj,bF,am,a2,ak,ah,aR,af,ab⟩:=hrel;have X:=zz aj;have aa:=zz af;have ac:=zz ab;clear aj af ab w0;have w0:=X.o.work.cell 0
       by_cases aC:i=0
       ·subst aC;obtain rfl:=am rfl;clear am;go_upto_region 23 with(refine xy 3 _ _ rfl ?_;refine Xf zj 3 _ _ rfl (w.heap.size+1+1) 0 _ _ X.o.work (.int .i64 (L2-1)) rfl rfl zp (zo) rfl ?_;intro W6 aJ;have ay:=zz aJ;clear aJ)
        clear w0;have af:=zz (X.o.ZU (L':=L2-1) ay.o.zC (by have:=ay.o.zG;simpa using this));have r:Kz (Bl w W6):=ay.o.below ac.o (zoZ _) zd;have r0:=(Hk.o.below r.o).cell 0;have r1:=(Hk.o.below r.o).cell 1;have r2:=(Hk.o.below r.o).cell 2
        by_cases bd:nb<=16
        ·have bp:=zz (zmU af.o.work (af.o.zl8 zd) af.o.pw af.o.VU B zM nb body ⟨Hb.o.rd.below r.o,fun g U=>⟨by have:=(Hb.o.off g U).2;omega,zo0 (Hb.o.off g U).2 r.o.size⟩,fun x I=>(Hb.o.zO x I).below r.o,fun x I=>(Hb.o.XD x I).mono fun g U=>⟨by have:=U.2;omega,zo0 U.2 r.o.size⟩,Hb.o.may⟩ Hn.o.1 bd p 0 zd (zd) aF.o);go_upto_region 25 with(go_at_call 148;refine bp.o.mono ?_;rintro e w8⟨L8,O,bx,no,rfl,hO,aH,aU,bJ,bH,bG,av⟩;have HO:=zz hO;have bt:=zz aH;have bg:=zz (af.o.zgh av aU);have bm:=zz av;clear hO aH aU av)
         clear r0 r1 r2;have aT:Kz (Bl w w8):=r.o.trans (bm.o.below r.o.size fun x I=>zd);go_wp2
         go_loopg[18] no (fun gk ao Y=>∃(k:Nat) (L9 ab:Int) (T9:Nat),k<=no/\gk=no-k/\ao=.int .i64 (k:Int)/\yJ (w.heap.size+1+1) w.heap.size (w.heap.size+1) 2 L9 ab T9 (fun g=>R2 g\/(W6.heap.size<=g/\g<w8.heap.size)) Y/\zh (fun g=>¬(R2 g\/(W6.heap.size<=g/\g<w8.heap.size))) w8 Y/\L9<=L8/\-1300000<=L9/\(T9:Int)+L9<=nf+20000/\0<=ab/\ab<=T9)
         case atStart=>exact⟨0,L8,V,T2,zo5 _,rfl,rfl,bg.o,zh.refl _ _,zqf _,zd,zd,ak,ah⟩
         case round=>
          obtain⟨k,L9,ab,T9,hk,rfl,rfl,aj,Y,bC,aq,aQ,ao,a5⟩:=hrel;have aI:=zz aj;have au:=zz Y;have aN:=zz (show Bl w wr from aT.o.trans (Y.below aT.o.size fun x I=>by
           rcases zq2 x w.heap.size with h|h
           ·exact absurd (.inl (aa.o x h)) I
           ·exact h))
          clear aj Y
          by_cases ae:k<no
          ·have aj:k<(List.replicate no ()).length:=by rw[zqm];exact ae
           obtain⟨Y,oo,rfl,ax,q⟩:=HO.o.xI.at (c:=0) (fun _=>rfl) k aj;have aW:R2 Y\/(W6.heap.size<=Y/\Y<w8.heap.size):=.inr ⟨bt.o Y (by simp[zw]),ax⟩;have o0:wr.cell? ⟨Y,oo+k,none⟩=some (.slice none 0 0):=(au.o.cell (p:=⟨Y,oo+k,none⟩) ax (fun h=>h aW)).trans (by simpa using q 0 _ rfl);have bh:Y<wr.heap.size:=zo0 ax au.o.size;have bc:(k:Int)<(no:Int):=zd;have aS:Kz (∀W,Bl wr W->W.cell? ⟨aA,0,none⟩=some (.string p)/\W.cell? ⟨Y,oo+k,none⟩=some (.slice none 0 0)):=fun W hW=>⟨(Hk.o.below (zu aN.o hW)).cell 0,(hW.cell (p:=⟨Y,oo+k,none⟩) bh).trans o0⟩
           have aM:Kz (∀W:World,True->(k:Int)<(no:Int)/\k<no):=fun _ _=>⟨bc,ae⟩
           clear o0 q aj;go_upto_region 28 with fail
           refine XH [0,0,0,0,0,1,0,0,0,1,3] 10 (fun _=>True) (fun W=>Bl wr W) ?s0 ?s1 ?_
           case s0=>trivial
           case s1=>exact(Below.refl _ _).drew
           try refine zQ ?_
           repeat refine xK aM.o aS.o ?_
           refine y7 zj (fun K hK=>?_);go_simp;refine(zbC (aI.o.below (Below.refl _ _).drew) p hp none 0 0 [] (fun a7=>absurd rfl a7) rfl zd (fun x I=>nomatch I) (fun g U=>nomatch U) zd false zd (zd) ao zd).mono ?_;rintro e bn⟨aK,aD,a4,rfl,aj,ap,bA,bz,bu,a1,aX,bw,bB,q⟩;refine hK.out _ _ trivial ?_;clear hK K;try refine zQ ?_
           repeat refine xK aM.o aS.o ?_
           refine xu ?_;have aP:=zz aj;have a3:Kz (zh (fun g=>¬(R2 g\/(W6.heap.size<=g/\g<w8.heap.size))) w8 bn):=au.o.trans ((zh.xi _ (Below.refl _ _).drew).trans ap (fun x I _=>I)) (fun x I _=>I);have I:(a4:Int)+aK<=T9+L9:=by
            rcases q with h|h
            ·exact h
            ·cases h
           clear aj ap q aX;go_wp2
           go_roundg (no-(k+1))
           case measure=>omega
           case rel=>exact⟨k+1,aK,aD,a4,ae,rfl,ze,aP.o,a3.o,zd,by
            by_cases h:L9<0
            ·rw[a1 h];exact aq
            ·omega,zd,zd,zd⟩
          ·obtain rfl:k=no:=zd;go_wp2
           go_roundg 0
           case measure=>omega
           case rel=>exact⟨1,L9,ab,T9,_,zoZ _,rfl,ze,aI.o,zd,(fun h=>nomatch h),aQ,ao,a5,aq,fun g U=>.inl (aa.o g U),aN.o⟩
        ·go_wp2
         go_roundg 0
         case measure=>omega
         case rel=>exact⟨1,L2-1,V,T2,R2,zoZ _,rfl,ze,af.o,zd,(fun h=>nomatch h),zd,ak,ah,zd,aa.o,r.o⟩
       ·obtain rfl:i=1:=zd;obtain⟨Y,q,_⟩:=X.o.there;obtain⟨I,r⟩:=zcL q;have ad:=fun ty=>r wr ty rfl
        have w4:=X.o.work.cell 4;clear q r;go_wp2;have U:=a6.o
        go_roundg (2*L2.toNat+(if decide (ml<I)=true then 1 else 0))
        case measure=>
         simp only[if_true]at U;split<;>omega
        case rel=>exact⟨decide (ml<I),L2,V,T2,R2,by first|rfl|simp,rfl,X.o,a2,ak,ah,aR,zd,aa.o,ac.o⟩
     ·clear ad;have aE:Kz (∀W,Bl wr W->W.cell? ⟨w.heap.size+1+1,0,none⟩=some (.int .i64 L)/\W.cell? ⟨w.heap.size+1+1,4,none⟩=some (.map (some (w.heap.size+1)))/\(Builtin.len_ #[272] 3 #[.map (some (w.heap.size+1))]).run prog W=.ok (.int .i64 ml) W):=fun W hW=>⟨(Z.o.work.below hW).cell 0,(Z.o.work.below hW).cell 4,az W _ (hW.block _ an)⟩
      go_upto_region 30 with fail
      refine xX [0,0,0,0,0,0,0,0,0,0,0,0,0,0] (fun W=>Bl wr W) ?_
      repeat refine zT aE.o ?_
      refine xu ?_;go_wp2;go_returns
      first|exact⟨_,_,rfl,N.o.drew⟩|exact N.o.drew|exact⟨⟨_,_,rfl⟩,N.o.drew⟩ |(simp only[exists_and_right];exact⟨⟨_,_,rfl⟩,N.o.drew⟩) |(simp;exact⟨⟨_,_,rfl⟩,N.o.drew⟩)
theorem JJ{j:Nat}(r:j<body.length)(I:body[j].k=1){s:Sp}(q:stepOf K j body[j]=some s)(lo hi:Nat->Nat):
 madeOf body lo hi s=.rows body[j].a.p body[j].a.args s.known s.gives (lo j) (hi j):=by
 have L:=(Y6 q).1;have h:s.k≠4/\s.k≠5/\s.k≠6:=by
  unfold stepOf at q;rw[if_pos I]at q;injection q with q
  subst q;refine⟨?_,?_,?_⟩<;>(simp only;split<;>(try split)<;>decide)
 unfold madeOf;rw[L,zo6 r];simp only;rw[if_neg h.1,if_neg h.2.1,if_neg h.2.2]
section
variable (ev:Env->Ex->Option Vl)(ho:Int->Vl->Vl->Bool)(R:ByteArray->List (List Vl))
def qR(q h:Nat->Nat)(t:Nat):Nat->Nat:=fun k=>if k<t then q k else h k
def X5(h:Nat->Nat)(t:Nat):Nat->Nat:=fun k=>if k=t then h k else 0
def ZW:Nat->Nat:=fun _=>0
noncomputable def U4(body:List Li)(h q:Nat->Nat)(r:List Sp)(ρ:Env)(i:Nat):List Env:=
 if(body.map (·.k))[i]? = some 1 then solve ev ho R (r.map (madeOf body (X5 h i) (qR h q i))) ρ else []
theorem zcj{body:List Li}{L:List Sp}(h:yu body [] (List.range body.length) L)(r q:Nat->Nat)(O:∀i,i<body.length->r i<=q i)(W:∀i (h:i<body.length),body[i].k≠1->r i=q i)(ρ:Env):∀t,t<=body.length->
 (solve ev ho R (L.map (madeOf body ZW q)) ρ).Perm (solve ev ho R (L.map (madeOf body ZW (qR r q t))) ρ++(List.range t).flatMap (U4 ev ho R body r q L ρ))
 |0,_=>by
  have e:qR r q 0=q:=by funext k;unfold qR;rw[if_neg (zqR k)]
  rw[e];simp
 |t+1,X=>by
  have I:t<body.length:=X;refine(zcj h r q O W ρ t (zqB I)).trans ?_;rw[zp2,zpq,zqx,<-zpo]
  by_cases U:body[t].k=1
  ·have Y:UG (L.map (madeOf body ZW (qR r q t))) (L.map (madeOf body ZW (qR r q (t+1)))) (L.map (madeOf body (X5 r t) (qR r q t))):=
    zmk h List.nodup_range (zqc.2 I) I U (mid:=r t) (zo5 _) (by unfold qR;rw[if_neg (zqq t)];exact O t I) (X5 r t) (qR r q (t+1))
     (fun j N=>by unfold X5 ZW;rw[if_neg N]) (fun j N=>by
      unfold qR
      by_cases N:j<t
      ·rw[if_pos N,if_pos zd]
      ·rw[if_neg N,if_neg zd]) (by unfold X5;rw[if_pos rfl]) (by unfold qR;rw[if_pos (Nat.lt_succ_self t)])
   have V:U4 ev ho R body r q L ρ t=solve ev ho R (L.map (madeOf body (X5 r t) (qR r q t))) ρ:=by
    unfold U4;rw[if_pos];rw[zpX,zo6 I];simp[U]
   rw[V];refine((zf7 ev ho R Y ρ).append_right _).trans ?_;rw[zpo,zpo];exact List.Perm.append_left _ List.perm_append_comm
  ·have V:U4 ev ho R body r q L ρ t=[]:=by
    unfold U4;rw[if_neg];rw[zpX,zo6 I];simp[U]
   have e:qR r q (t+1)=qR r q t:=by
    funext k
    unfold qR
    by_cases N:k<t
    ·rw[if_pos N,if_pos zd]
    ·rw[if_neg N];split
     ·have:k=t:=zd;subst this;exact W k I U
     ·rfl
   rw[V,e,zpw]
end
end
section
def mulL(f:Nat->Nat):List Nat->Nat
 |[]=>1
 |i::l=>f i*mulL f l
theorem zdo(f:Nat->Nat){j:Nat}:∀{l:List Nat},j∈l->mulL f l=f j*mulL f (l.erase j)
 |[],h=>by cases h
 |i::l,h=>by
  by_cases e:i=j
  ·subst e;rw[List.erase_cons_head];rfl
  ·have q:j∈l:=by
    rcases zpp.1 h with h|h
    ·exact absurd h.symm e
    ·exact h
   rw[List.erase_cons_tail (by simpa using e)];show f i*mulL f l=f j*(f i*mulL f (l.erase j));rw[zdo f q,Nat.mul_left_comm]
theorem ze3(f:Nat->Nat)(i:Nat):∀l:List Nat,mulL f (l++[i])=mulL f l*f i
 |[]=>by show f i*1=1*f i;omega
 |k::l=>by
  show f k*mulL f (l++[i])=f k*mulL f l*f i;rw[ze3 f i l,Nat.mul_assoc]
theorem zeo(f:Nat->Nat)(n:Nat):mulL f (List.range (n+1))=mulL f (List.range n)*f n:=by rw[zp2,ze3]
theorem ze4{α β:Type}{f:α->List β}{b:Nat}:∀(l:List α),(∀x∈l,(f x).length<=b)->(l.flatMap f).length<=l.length*b
 |[],_=>zp
 |x::l,h=>by
  rw[zps,zo1,zpn,zqS];have I:=h x zpi;have r:=ze4 l fun y q=>h y (zpj _ q)
  omega
def X1(body:List Li)(h:ByteArray->Nat)(i:Nat):Nat:=match body[i]? with
 |some x=>if x.k=1 then h x.a.p else 1
 |none=>1
theorem zdg{r:ByteArray->Nat}(q:i<body.length)(h:body[i].k≠1):X1 body r i=1:=by
 unfold X1;rw[zo6 q];exact if_neg h
theorem GA{h:ByteArray->Nat}(r:i<body.length)(q:body[i].k=1):X1 body h i=h body[i].a.p:=by
 unfold X1;rw[zo6 r];exact if_pos q
section
variable (ev:Env->Ex->Option Vl)(ho:Int->Vl->Vl->Bool)(R:ByteArray->List (List Vl))
theorem zm0(T:List (List Vl))(m:Nat)(ρ:Env)(args:List Tm)(lo hi:Nat):(XC T m ρ args lo hi).length<=T.length:=by
 unfold XC;refine zpd (zql _ _) (zpd (zql _ _) ?_);rw[zqQ];exact zoZ _
theorem ziC{left:List Nat}{X:List Sp}(h:yu body K left X)(V:ByteArray->Nat)(W:∀p,(R p).length<=V p)(lo hi:Nat->Nat):
 ∀ρ,(solve ev ho R (X.map (madeOf body lo hi)) ρ).length<=mulL (X1 body V) left:=by
 induction h with
 |nil=>intro ρ;exact zoZ _
 |@cons K left j s Y hj q I hr O=>
  intro ρ;rw[zpM,zdo _ hj];have Z:=(Y6 I).1
  by_cases N:body[j].k=1
  ·rw[JJ q N I,GA q N];unfold solve;refine zpd (ze4 _ (b:=mulL (X1 body V) (left.erase j)) fun n _=>?_) (zp9 _ (zpd (zm0 _ _ _ _ _ _) (W _)));split
   ·exact O _
   ·exact zo5 _
  ·rw[zdg q N,zq1];have U:s.k=4\/s.k=5\/s.k=6:=by
    unfold stepOf at I;rw[if_neg N]at I
    repeat' split at I
    all_goals(first |(cases I;done) |(injection I with I;subst I;simp))
   have L:∃v e,madeOf body lo hi s=.Xb body[j].a.p body[j].a.args s.known\/madeOf body lo hi s=.test body[j].rl body[j].l body[j].r\/madeOf body lo hi s=.set v e:=by
    unfold madeOf;rw[Z,zo6 q];simp only
    rcases U with h|h|h
    ·exact⟨⟨#[]⟩,body[j].l,.inl (by rw[if_pos h])⟩
    ·exact⟨⟨#[]⟩,body[j].l,.inr (.inl (by rw[if_neg zd,if_pos h]))⟩
    ·rw[if_neg zd,if_neg zd,if_pos h];split
     ·exact⟨_,_,.inr (.inr rfl)⟩
     ·exact⟨_,_,.inr (.inr rfl)⟩
   obtain⟨v,e,L⟩:=L
   rcases L with L|L|L<;>rw[L]<;>unfold solve
   ·split
    ·exact O _
    ·exact zo5 _
   ·split
    ·split
     ·exact O _
     ·exact zo5 _
    ·exact zo5 _
   ·split
    ·exact O _
    ·exact zo5 _
end
end
