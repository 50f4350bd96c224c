/-
  What is worked out: what an expression comes to.
-/
import Derived.Test.YtfdickkdlcgicaaGreatDoorQ26
set_option maxRecDepth 100000
set_option maxHeartbeats 8000000
set_option linter.all false
namespace Go.Proofs.YtfdickkdlcgicaaGreatDoor.C
open Go.Proofs.Tryz Go Go.RowKit Go.Maps Go.WideMaps
section
mutual
def Ex.may:Ex->Prop
 |.mk q t _ _ h=>-128<=q/\q<=127/\t.x.told/\h.length<=1048576/\Ex.Zg h
def Ex.Zg:List Ex->Prop
 |[]=>True
 |e::h=>e.may/\Ex.Zg h
end
theorem Ex.Zg.mem:∀{l:List Ex},Ex.Zg l->∀e∈l,e.may
 |e::I,h,x,q=>by
  unfold Ex.Zg at h
  rcases zpU.1 q with rfl|q
  ·exact h.1
  ·exact Ex.Zg.mem h.2 x q
theorem Ex.zd5:∀{l:List Ex}{e:Ex},e∈l->e.count<=Ex.X5 l
 |y::l,e,h=>by
  show e.count<=y.count+Ex.X5 l
  rcases zpU.1 h with rfl|h
  ·exact Nat.le_add_right _ _
  ·exact zpK (Ex.zd5 h) (Nat.le_add_left _ _)
def zg6(c:Wc)(D:Nat->Prop)(L:Int)(q no:Nat)(w:World)(e:Ending)(w':World):Prop:=
 ∃(x:Th) (b:Bool) (h:Int),e=.returned (.tuple #[.agg x.cells.toArray,.bool b])/\x.qT/\yg c D h q no w'/\zh (·=c.wb) w w'/\h<=L-1/\min L 0-1<=h/\(b=true->0<=h)
theorem JO(h:Array Value)(w:World)(g:Nat)(q:Array Value)(b:Bool)(O:h.getD 4 undef=.pointer (some ⟨g,0,none⟩))(R:h.getD 5 undef=.bool b)(U:w.heap[g]? = some (.cells q 277 (0,0)))(hi:(prog.info? 277).map (·.size)=some q.size):
 (results Tryz.f270 h).run prog w=.ok (.tuple #[.agg q,.bool b]) w:=by
 have L:h[4]?.getD undef=.pointer (some ⟨g,0,none⟩):=by simpa using O
 have I:h[5]?.getD undef=.bool b:=by simpa using R
 have N:=run_loadVar_row (P:=prog) w g 277 277 q (0,0) _ U underlying277 rfl hi;simp[results,results270,L,I,asAddr,N]
theorem zgf:∀(m:Nat)(x:Ex),x.count<=m->∀{c:Wc}{D:Nat->Prop}{L:Int}{nn no:Nat}{w:World},yg c D L nn no w->nn<=4194303->-549755813888<=L->x.zN w->(x.yh fun g=>g≠c.wb)->x.may->
 Calls prog 270 #[.pointer (some ⟨c.eb,0,none⟩),.agg x.cells.toArray] w (zg6 c D L nn no w):=by
 intro m
 induction m with
 |zero=>
  intro x I
  cases x
  unfold Ex.count at I;omega
 |succ m ih=>
  intro x I c D L nn no w h bt hL O V Y;obtain⟨q,⟨v,⟨k,z,s⟩⟩,A,aK,aa⟩:=x;have X:Ex.X5 aa<=m:=by unfold Ex.count at I;omega
  unfold Ex.zN at O;unfold Ex.yh at V;unfold Ex.may at Y;obtain⟨bD,bI,R,bp,U⟩:=Y;have be:=zz (fun(y:Ex) (Y:y∈aa)=>@ih y (zpK (Ex.zd5 Y) X));have ab:=zz (zpG O.1 (zpG O.2.2 (zpG V U)));clear ih X O V U I;obtain⟨n,U⟩:∃n,aa.length=n:=⟨_,rfl⟩;have O:(Ex.mk q ⟨v,⟨k,z,s⟩⟩ A aK aa).cells=[.int .i8 q,.string v,.int .i8 k,.int .i64 z,.string s,.slice A n aK]:=by rw[<-U];rfl
  rw[U]at bp;rw[O];have Hn:=zz U;have aU:=zz R;have HW:=zz h;have bA:=h.lo;have bF:=h.hi;clear O U R h;obtain⟨W0,O,R⟩:=yb w 48 277 #[.int .i8 q,.string v,.int .i8 k,.int .i64 z,.string s,.slice A n aK] #[.int .i8 0,.int .i64 0,.string ⟨#[]⟩,.string ⟨#[]⟩,.int .i64 0];have br:=zz O;have HX:=zz R;have aI:=zz (HW.o.below R.below);obtain⟨N,H,bw,bu,bq,a9,U⟩:=aI.o.env;have e0:=U.zH.cell 0;have w0:=aI.o.work.cell 0;have bG:Kz (c.eb≠c.wb):=U.zH.yK aI.o.work zr;have X:=zz (zpG (HW.o.lt _ HW.o.YB) (HW.o.lt _ HW.o.ZL));clear O R U;go_enter func270,ntmps270;go_upto_region 1 with fail
  rw[br.o];go_upto_region 2 with(refine xy 3 _ _ rfl ?_;refine Xq zj 3 _ _ rfl c.wb 0 _ _ aI.o.work (.int .i64 (L-1)) rfl rfl zp (zo) rfl ?_;intro W1 a4;have aH:=zz a4;clear a4)
  clear e0 w0;have ac:=zz (show zD W1 c.wb 274 #[.int .i64 (L-1),.int .i64 c.zR,.int .i64 c.new,.map (some c.fb),.map (some c.tb)]from by have:=aH.o.zH;simpa using this);have ax:=zz (show zh (·=c.wb) w W1 from(zh.xj _ HX.o.below).trans aH.o.zC (fun x I _=>I));have al:=zz (aH.o.qj HX.o.b0 (by have:=X.o.1;omega));have aJ:=zz (aH.o.qj HX.o.b1 (by have:=X.o.1;omega));have Z:=zz (fun O U (R:zh (·=c.wb) w O) (hb:zD O c.wb 274 #[.int .i64 U,.int .i64 c.zR,.int .i64 c.new,.map (some c.fb),.map (some c.tb)]) h0 h1=>HW.o.Z7 R hb h0 h1);have a5:=zz (Z.o W1 (L-1) ax.o ac.o zd (zd));obtain⟨N1,H1,bo,bj,a8,bn,O⟩:=a5.o.env;have e0:=O.zH.cell 0;have w0:=ac.o.cell 0;clear O
  by_cases bv:L-1<0
  ·go_wp2_with (refine xy 277 _ _ rfl ?_;refine XG zj 277 _ _ rfl (w.heap.size+1) 0 _ _ aJ.o [.int .i8 0,.int .i64 0,.string ⟨#[]⟩,.string ⟨#[]⟩,.int .i64 0] rfl rfl zp XD zt ?_;intro W9 V;have O:=zz V;clear V)
   refine bodyPost_ret (v:=.tuple #[.agg #[.int .i8 0,.int .i64 0,.string ⟨#[]⟩,.string ⟨#[]⟩,.int .i64 0],.bool false]) (JO _ W9 (w.heap.size+1) _ false rfl rfl O.o.zH (by simpa using XD)) rfl ?_;have U:zh (·=c.wb) w W9:=ax.o.trans O.o.zC (fun x I aj=>zd);exact⟨_,false,L-1,rfl,Th.Du,Z.o W9 (L-1) U (O.o.qj ac.o (by have:=X.o.1;omega)) zd (zd),U,zd,zd,fun h=>nomatch h⟩
  ·have b5:=al.o.cell 5
   by_cases bl:n=0
   ·subst bl;have b1:=al.o.cell 1;have b2:=al.o.cell 2;have b3:=al.o.cell 3;have b4:=al.o.cell 4
    by_cases hv:v.toList=[]
    ·have k1:v.toList.isEmpty=true:=by simp[hv]
     have k2:(v.toList==([]:List UInt8))=true:=by simp[hv]
     go_wp2_with (refine xy 277 _ _ rfl ?_;refine XG zj 277 _ _ rfl (w.heap.size+1) 0 _ _ aJ.o [.int .i8 k,.int .i64 z,.string s,.string ⟨#[]⟩,.int .i64 0] rfl rfl zp XD zt ?_;intro W9 V;have O:=zz V;clear V)
     refine bodyPost_ret (v:=.tuple #[.agg #[.int .i8 k,.int .i64 z,.string s,.string ⟨#[]⟩,.int .i64 0],.bool true]) (JO _ W9 (w.heap.size+1) _ true rfl rfl O.o.zH (by simpa using XD)) rfl ?_;have U:zh (·=c.wb) w W9:=ax.o.trans O.o.zC (fun x I aj=>zd);exact⟨Vl.G0 ⟨k,z,s⟩,true,L-1,rfl,aU.o.qT,Z.o W9 (L-1) U (O.o.qj ac.o (by have:=X.o.1;omega)) zd (zd),U,zd,zd,fun _=>zd⟩
    ·have k1:v.toList.isEmpty=false:=by simp[hv]
     have k2:(v.toList==([]:List UInt8))=false:=by simp[hv]
     have Y:=zz (zab a5.o.env zd v)
     go_wp2_with (first
      |(go_at_call 209;refine Y.o.mono ?_;rintro e w2⟨⟨rk,rn,rs,rm,rd⟩,rb,rfl,ai,ad⟩;have ae:=zz ad;have R:=zz ai;have ah:=zz (aJ.o.below ad);clear ad ai;simp only[Th.cells])
      |(refine xy 277 _ _ rfl ?_;refine XG zj 277 _ _ rfl (w.heap.size+1) 0 _ _ ah.o [.int .i8 rk,.int .i64 rn,.string rs,.string rm,.int .i64 rd] rfl rfl zp XD zt ?_;intro W9 V;have O:=zz V;clear V))
     refine bodyPost_ret (v:=.tuple #[.agg #[.int .i8 rk,.int .i64 rn,.string rs,.string rm,.int .i64 rd],.bool rb]) (JO _ W9 (w.heap.size+1) _ rb rfl rfl O.o.zH (by simpa using XD)) rfl ?_;have U:zh (·=c.wb) w W9:=(ax.o.trans (zh.xj (·=c.wb) ae.o) (fun x I _=>I)).trans O.o.zC (fun x I aj=>zd);exact⟨_,rb,L-1,rfl,R.o,Z.o W9 (L-1) U (O.o.qj (ac.o.below ae.o) (by have:=X.o.1;omega)) zd (zd),U,zd,zd,fun _=>zd⟩
   ·have bz:0<n:=zd;go_wp2;clear b5 e0 w0
    go_loopg[6,7,8,9] n (fun gk s6 s7 s8 s9 Y=>∃(i:Nat) (L1:Int) (B:Option Addr) (zM:Nat) (l:List Th),i<=n/\gk=n-i/\s7=.int .i64 (i:Int)/\s6=.slice B i zM/\l.length=i/\Own Th.cells 277 5 Y B zM l/\(∀g∈zw B,w.heap.size+2<=g)/\(∀x∈l,x.qT)/\0<=L1/\L1<=L-1/\
     zD Y c.wb 274 #[.int .i64 L1,.int .i64 c.zR,.int .i64 c.new,.map (some c.fb),.map (some c.tb)]/\zD Y w.heap.size 48 #[.int .i8 q,.string v,.int .i8 k,.int .i64 z,.string s,.slice A n aK]/\zD Y (w.heap.size+1) 277 #[.int .i8 0,.int .i64 0,.string ⟨#[]⟩,.string ⟨#[]⟩,.int .i64 0]/\zh (·=c.wb) w Y)
    case atStart=>exact⟨0,L-1,none,0,[],zpD _,rfl,rfl,rfl,rfl,Own.qz _,by simp[zw],zp,zd,zd,ac.o,al.o,aJ.o,ax.o⟩
    case round=>
     obtain⟨i,L1,B,zM,l,hi,rfl,rfl,rfl,hl,af,ag,ae,bh,bE,ad,Y,ak,hC⟩:=hrel;have b5:=Y.cell 5;have b0:=Y.cell 0;have Hl:=zz hl;have aW:=zz af;have aG:=zz ag;have aS:=zz ae;have bm:=zz ad;have aM:=zz Y;have ah:=zz ak;have HC:=zz hC;have aN:=zz (Z.o wr L1 hC ad zd (zd));clear hl af ag ae ad Y ak hC
     by_cases aj:i<n
     ·have ak:i<aa.length:=by rw[Hn.o];exact aj
      have ag:=ab.o.2.2.1.1 (fun e=>by rw[e]at ak;cases ak);obtain⟨b,o,rfl,bc,ae⟩:=(ab.o.1.kept HC.o ag).at Ex.xG i ak;have a3:b≠c.wb:=ag b (by simp[zw]);have Y:=zpB ak;have ad:=be.o _ Y aN.o bt zd ((Ex.qG.mem ab.o.2.1 _ Y).YO HC.o (Ex.za1.1 ab.o.2.2.1.2 _ Y)) (Ex.za1.1 ab.o.2.2.1.2 _ Y) (Ex.Zg.mem ab.o.2.2.2 _ Y);generalize aa[i]=y at ae ad;obtain⟨q3,⟨v3,⟨k3,z3,s3⟩⟩,A3,af,av⟩:=y;obtain⟨p3,an⟩:∃p3,av.length=p3:=⟨_,rfl⟩;have am:(Ex.mk q3 ⟨v3,⟨k3,z3,s3⟩⟩ A3 af av).cells=[.int .i8 q3,.string v3,.int .i8 k3,.int .i64 z3,.string s3,.slice A3 p3 af]:=by rw[<-an];rfl
      rw[am]at ae ad;have bi:(prog.info? 48).map (·.size)=some [Value.int .i8 q3,.string v3,.int .i8 k3,.int .i64 z3,.string s3,.slice A3 p3 af].length:=zag;have aQ:=zz ad;have H5:Kz (∀W,zh (·=c.wb) wr W->W.cell? ⟨b,o+i*6+5,none⟩=some (.slice A3 p3 af)):=fun W hW=>(hW.cell (p:=⟨b,o+i*6+5,none⟩) bc a3).trans (ae 5 _ rfl)
      have aX:=zz ae;clear ad am ae an Y ag ak;go_upto_region 13 with(first
       |(refine xW 48 _ rfl ?_;refine wpList_load_mid rfl 48 _ rfl b (o+i*6) rfl [.int .i8 q3,.string v3,.int .i8 k3,.int .i64 z3,.string s3,.slice A3 p3 af] _ aX.o underlying48 rfl bi ?_)
       |(go_at_call 270;refine aQ.o.mono ?_;rintro e w2⟨⟨rk,rn,rs,rm,rd⟩,rb,L2,rfl,ai,a1,aY,bH,bJ,a6⟩;have R:=zz ai;have bd:=zz a1;have aR:=zz aY;have bg:=zz a6;clear ai a1 aY a6 b5;simp only[Th.cells])
       |(refine xy 277 _ _ rfl ?_;refine XP zj 277 _ _ rfl _ [.int .i8 rk,.int .i64 rn,.string rs,.string rm,.int .i64 rd] rfl rfl zp XD zt ?_;intro W3 a7;have an:=zz a7;clear a7))
      clear b0;have bC:=HX.o.size;have bB:=HC.o.size;have bx:=aR.o.size;have bs:=aM.o.lt;have ba:=ah.o.lt;have aP:=zz (show zh (·=c.wb) w W3 from(HC.o.trans aR.o (fun x I _=>I)).trans (zh.xj (·=c.wb) an.o.below) (fun x I _=>I));have ak:Kz (zh (·=c.wb) wr W3):=aR.o.trans (zh.xj (·=c.wb) an.o.below) (fun x I _=>I);have aw:=zz (bd.o.work.below an.o.below);have aq:=zz (aM.o.zC ak.o (by have:=X.o.1;omega));have aD:=zz (ah.o.zC ak.o (by have:=X.o.1;omega))
      cases rb with
      |false=>
       go_wp2_with (refine xy 277 _ _ rfl ?_;refine XG zj 277 _ _ rfl (w.heap.size+1) 0 _ _ aD.o [.int .i8 0,.int .i64 0,.string ⟨#[]⟩,.string ⟨#[]⟩,.int .i64 0] rfl rfl zp XD zt ?_;intro W9 V;have O:=zz V;clear V)
       refine bodyPost_ret (v:=.tuple #[.agg #[.int .i8 0,.int .i64 0,.string ⟨#[]⟩,.string ⟨#[]⟩,.int .i64 0],.bool false]) (JO _ W9 (w.heap.size+1) _ false rfl rfl O.o.zH (by simpa using XD)) rfl ?_;have U:zh (·=c.wb) w W9:=aP.o.trans O.o.zC (fun x I aj=>zd);exact⟨_,false,L2,rfl,Th.Du,Z.o W9 L2 U (O.o.qj aw.o (by have:=X.o.1;omega)) zd (zd),U,zd,zd,fun h=>nomatch h⟩
      |true=>
       have aZ:=bg.out rfl;have k5:=H5.o W3 ak.o;have f5:=aq.o.cell 5;have d4:=an.o.b0.cell 4;have aL:Kz (Own Th.cells 277 5 W3 B zM l):=aW.o.zC ak.o (fun g hg e=>by have:=aG.o g hg;have:=X.o.1;omega)
       by_cases bK:0<p3
       ·go_upto_region 17 with(refine xy 3 _ _ rfl ?_;refine Xq zj 3 _ _ rfl w2.heap.size 4 _ _ an.o.b0 (.int .i64 _) rfl rfl zp (zo) rfl ?_;intro W4 a2;have am:=zz a2;clear a2)
        obtain⟨dd,aB⟩:∃dd,wrap64 (rd-1)=dd:=⟨_,rfl⟩;have ad:zD W4 w2.heap.size 277 #[.int .i8 rk,.int .i64 rn,.string rs,.string rm,.int .i64 dd]:=by have:=am.o.zH;rw[<-aB];simpa using this
        have Y:=zz ad;have aF:=zz (am.o.own aL.o (fun g hg e=>by have:=aW.o.lt g hg;omega));have au:=zz (am.o.qj aw.o (by have:=X.o.1;omega));have ap:=zz (am.o.qj aq.o zd);have ag:=zz (am.o.qj aD.o zd);have aC:Kz (zh (·=c.wb) w W4):=aP.o.trans am.o.zC (fun x I aO=>zd);clear k5 d4 f5 ad aB;have d0:=Y.o.cell 0;have d1:=Y.o.cell 1;have d2:=Y.o.cell 2;have d3:=Y.o.cell 3;have d4:=Y.o.cell 4
        go_wp2_with (at_builtin;refine ZP Jo (f:=Th.cells) (xs:=l) (aF.o.alloc _) Hl.o ⟨rk,rn,rs,rm,dd⟩ ?_)
        intro g ao w6 aA ay aE;have az:zh (·∈zw B) W4 w6:=((zh.refl _ _).alloc _).trans ay (fun x I _=>I);have bk:=aC.o.size;have ar:w.heap.size+2<=g:=by
         rcases aE with h|h
         ·exact aG.o g h
         ·try simp at h
          have:=ag.o.lt;omega
        have aV:=zz aA;have ad:=zz az;have aT:=zz ar;have ae:Kz (∀x,x<w.heap.size+2->¬x∈zw B):=fun x I h=>by have:=aG.o x h;omega
        clear aA ay aE az ar d0 d1 d2 d3 d4;go_wp2
        go_roundg (n-(i+1))
        case measure=>omega
        case rel=>
         have bf:=X.o.1;exact⟨i+1,L2,some ⟨g,0,none⟩,ao,l++[⟨rk,rn,rs,rm,dd⟩],aj,rfl,ze,rfl,by simp[Hl.o],aV.o,xY aT.o,fun x I=>by
          rcases zpE.1 I with I|I
          ·exact aS.o x I
          ·rw[zpy.1 I];exact⟨R.o.k0,R.o.k1,R.o.n0,R.o.n1,R.o.s,R.o.made⟩,aZ,zd,
          au.o.zC ad.o (ae.o _ zd),ap.o.zC ad.o (ae.o _ zd),ag.o.zC ad.o (ae.o _ zd),aC.o.trans ad.o (fun x I aO=>absurd I (ae.o _ zd))⟩
       ·go_upto_region 17 with fail
        obtain⟨dd,aB⟩:∃dd,rd=dd:=⟨_,rfl⟩;have Y:=zz (show zD W3 w2.heap.size 277 #[.int .i8 rk,.int .i64 rn,.string rs,.string rm,.int .i64 dd]from aB▸an.o.b0);have aF:=zz aL.o;have au:=zz aw.o;have ap:=zz aq.o;have ag:=zz aD.o;have aC:=zz aP.o;clear k5 d4 f5 aB;have d0:=Y.o.cell 0;have d1:=Y.o.cell 1;have d2:=Y.o.cell 2;have d3:=Y.o.cell 3;have d4:=Y.o.cell 4
        go_wp2_with (at_builtin;refine ZP Jo (f:=Th.cells) (xs:=l) (aF.o.alloc _) Hl.o ⟨rk,rn,rs,rm,dd⟩ ?_)
        intro g ao w6 aA ay aE;have az:zh (·∈zw B) W3 w6:=((zh.refl _ _).alloc _).trans ay (fun x I _=>I);have bk:=aC.o.size;have ar:w.heap.size+2<=g:=by
         rcases aE with h|h
         ·exact aG.o g h
         ·try simp at h
          have:=ag.o.lt;omega
        have aV:=zz aA;have ad:=zz az;have aT:=zz ar;have ae:Kz (∀x,x<w.heap.size+2->¬x∈zw B):=fun x I h=>by have:=aG.o x h;omega
        clear aA ay aE az ar d0 d1 d2 d3 d4;go_wp2
        go_roundg (n-(i+1))
        case measure=>omega
        case rel=>
         have bf:=X.o.1;exact⟨i+1,L2,some ⟨g,0,none⟩,ao,l++[⟨rk,rn,rs,rm,dd⟩],aj,rfl,ze,rfl,by simp[Hl.o],aV.o,xY aT.o,fun x I=>by
          rcases zpE.1 I with I|I
          ·exact aS.o x I
          ·rw[zpy.1 I];exact⟨R.o.k0,R.o.k1,R.o.n0,R.o.n1,R.o.s,R.o.made⟩,aZ,zd,
          au.o.zC ad.o (ae.o _ zd),ap.o.zC ad.o (ae.o _ zd),ag.o.zC ad.o (ae.o _ zd),aC.o.trans ad.o (fun x I aO=>absurd I (ae.o _ zd))⟩
     ·obtain rfl:i=n:=zd;have ap:=Lib.itoa_length_le q zd (zd);have am:=zz (TQ wr aN.o.pw q zd (zd));have an:=zz (fun W (hW:Bl wr W)=>zk8 W (aN.o.pw.below hW) ⟨(Lib.itoa q).toArray⟩ (by show(Lib.itoa q).toArray.size<=_;simp;omega) B zM i l (aW.o.xI.below hW) Hl.o zd aS.o);generalize Lib.itoa q=iq at *;have ao:IntKind.i64.wrap q=q:=wrap_i64 zd (zd)
      go_wp2_with (first
       |(go_at_call 211;refine am.o.mono ?_;rintro e w4⟨rfl,ak⟩;have ae:=zz ak;clear ak)
       |(go_at_call 210;refine(an.o _ ae.o).mono ?_;rintro e w5⟨⟨rk,rn,rs,rm,rd⟩,rfl,ai,ag⟩;have ad:=zz (zl ae.o ag);have R:=zz ai;clear ag ai;have Y:=ah.o.below ad.o;have af:=zz Y;clear Y;simp only[Th.cells])
       |(refine xy 277 _ _ rfl ?_;refine XG zj 277 _ _ rfl (w.heap.size+1) 0 _ _ af.o [.int .i8 rk,.int .i64 rn,.string rs,.string rm,.int .i64 rd] rfl rfl zp XD zt ?_;intro W9 V;have O:=zz V;clear V))
      refine bodyPost_ret (v:=.tuple #[.agg #[.int .i8 rk,.int .i64 rn,.string rs,.string rm,.int .i64 rd],.bool true]) (JO _ W9 (w.heap.size+1) _ true rfl rfl O.o.zH (by simpa using XD)) rfl ?_;have U:zh (·=c.wb) w W9:=(HC.o.trans (zh.xj (·=c.wb) ad.o) (fun x I _=>I)).trans O.o.zC (fun x I aO=>zd);exact⟨_,true,L1,rfl,R.o,Z.o W9 L1 U (O.o.qj (bm.o.below ad.o) (by have:=X.o.1;omega)) zd (zd),U,zd,zd,fun _=>bh⟩
end
