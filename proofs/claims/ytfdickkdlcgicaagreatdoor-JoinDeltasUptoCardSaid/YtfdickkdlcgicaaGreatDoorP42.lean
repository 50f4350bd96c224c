/-
  The law's own fixed join: lives answers true.
-/
import Derived.Test.YtfdickkdlcgicaaGreatDoorP41
set_option maxRecDepth 100000
set_option maxHeartbeats 8000000
set_option linter.all false
namespace Go.Proofs.YtfdickkdlcgicaaGreatDoor.C
open Go.Proofs.Tryz Go Go.RowKit Go.Maps Go.WideMaps
section
theorem zgP(w:World)(n:Int):Calls prog 80 #[.int .i64 n] w fun e h=>e=.returned (.agg #[.int .i8 1,.int .i64 n,.string ⟨#[]⟩])/\Bl w h:=by
 go_enter func80,ntmps80;go_wp2;go_returns;exact⟨rfl,xo w _⟩
theorem zhY(w:World)(n:Int):Calls prog 31 #[.int .i64 n] w fun e h=>e=.returned (.agg #[.int .i8 1,.int .i64 n,.string ⟨#[]⟩])/\Bl w h:=by
 obtain⟨Y,q,h⟩:=xj w 43 #[.int .i8 0,.int .i64 0,.string ⟨#[]⟩];have O:=zz h.below;have r:=zz h.b0;have R:=zz q;clear q h;go_enter func31,ntmps31;go_upto_region 1 with fail
 rw[R.o]
 go_wp2_with (first
  |(go_at_call 80;refine(zgP _ n).mono ?_;rintro e Z⟨rfl,q⟩;have U:=zz q;have I:=zz (r.o.below q);clear q)
  |(refine xy 43 _ _ rfl ?_;refine yE 43 w.heap.size 0 I.o [.int .i8 1,.int .i64 n,.string ⟨#[]⟩] ?_;intro L h;have X:L.cell? ⟨w.heap.size,0,none⟩=some (.int .i8 1):=h.zG.cell 0;have W:L.cell? ⟨w.heap.size,1,none⟩=some (.int .i64 n):=h.zG.cell 1;have V:L.cell? ⟨w.heap.size,2,none⟩=some (.string ⟨#[]⟩):=h.zG.cell 2;have N:=zz h;clear h))
 refine bodyPost_ret (v:=.agg #[.int .i8 1,.int .i64 n,.string ⟨#[]⟩]) (by simp[results,results31,go_sem,X,W,V]) rfl ?_;exact⟨rfl,N.o.below (zu O.o U.o) (zoZ _) (zoZ _)⟩
def zjK(w:World)(e:Ending)(w':World):Prop:=e=.returned (.bool true)/\Bl w w'
theorem zi4(w:World)(tk:Nat->Int)(aU:Tk w tk):Calls prog 11 #[] w (zjK w):=by
 have N:=zz (fun(n:Int) (W:World)=>zhY W n);have aE:=zz aU;clear aU;go_enter func11,ntmps11;go_upto_region 2 with(first
  |(go_at_call 13;rw[a5.o,aY.o];refine(aF.o).mono ?_;rintro e w8⟨wb,rfl,aS,aC⟩;have ah:=zz aC;have ax:=zz aS.cut;clear aC aS)
  |(go_at_call 31;refine(N.o 3 w4).mono ?_;rintro e w5⟨rfl,ai⟩;obtain⟨W6,aw,aa⟩:=xj w5 43 #[.int .i8 1,.int .i64 2,.string ⟨#[]⟩,.int .i8 1,.int .i64 3,.string ⟨#[]⟩];obtain⟨W7,aH,ab⟩:=xj W6 71 #[.string ⟨#[101]⟩,.slice (some ⟨w2.heap.size,0,none⟩) 2 2,.string ⟨#[101]⟩,.slice (some ⟨w5.heap.size,0,none⟩) 2 2];have a5:=zz aw;have bd:=zz aa;have aY:=zz aH;have be:=zz ab;have bf:=zz ai;have av:Kz (Bl w W7):=zu (zu (zu (zu (zu (zu a8.o a4.o) aK.o.below) aO.o) ai) aa.below) ab.below;have aF:=zz (znK W7 (some ⟨w2.heap.size,0,none⟩) (some ⟨w5.heap.size,0,none⟩) (some ⟨w5.heap.size+1,0,none⟩) 2 (by rw[<-aa.size];exact Zr ab.b0 rfl) ((Zr aK.o.b0 rfl).below (zu (zu (zu aO.o ai) aa.below) ab.below)) ((Zr aa.b0 rfl).below ab.below) (by rw[<-aa.size];exact zbf (Q:=(·<W7.heap.size)) ab.b0.lt));clear aw aa aH ab ai)
  |(go_at_call 31;rw[a7.o];refine(N.o 2 W3).mono ?_;rintro e w4⟨rfl,aW⟩;have aO:=zz aW;clear aW)
  |(go_at_call 31;refine(N.o 2 w1).mono ?_;rintro e w2⟨rfl,aJ⟩;obtain⟨W3,aP,aV⟩:=xj w2 43 #[.int .i8 1,.int .i64 1,.string ⟨#[]⟩,.int .i8 1,.int .i64 2,.string ⟨#[]⟩];have a7:=zz aP;have aK:=zz aV;have a4:=zz aJ;clear aP aV aJ)
  |(go_at_call 31;refine(N.o 1 w).mono ?_;rintro e w1⟨rfl,aX⟩;have a8:=zz aX;clear aX))
 have h:=Dh ax.o ⟨#[101]⟩ (by show 1<=maxLen;decide);rw[zaU]at h;have aZ:=zz h;clear h;go_upto_region 4 with(go_at_call 15;refine aZ.o.mono ?_;rintro e a9⟨rfl,ap⟩;have aQ:=zz ap;clear ap)
 obtain⟨U,q,h⟩:=Va a9 45 45 45 #[.string ⟨#[88]⟩,.int .i8 0,.int .i64 0,.string ⟨#[]⟩] #[.string ⟨#[89]⟩,.int .i8 0,.int .i64 0,.string ⟨#[]⟩] #[.string ⟨#[90]⟩,.int .i8 0,.int .i64 0,.string ⟨#[]⟩];have aM:=zz q;clear q;go_upto_region 5 with fail
 rw[aM.o];have x0:=h.b0.cell 0;have x1:=h.b0.cell 1;have R:=h.b0.cell 2;have x3:=h.b0.cell 3;have y0:=h.b1.cell 0;have y1:=h.b1.cell 1;have y2:=h.b1.cell 2;have I:=h.b1.cell 3;have Y:=zz h;clear h;obtain⟨V,q,h⟩:=ya U 45 50 #[.string ⟨#[88]⟩,.int .i8 0,.int .i64 0,.string ⟨#[]⟩,.string ⟨#[89]⟩,.int .i8 0,.int .i64 0,.string ⟨#[]⟩] #[.int .i8 1,.string ⟨#[101]⟩,.slice (some ⟨U.heap.size,0,none⟩) 2 2,.int .i8 0,.int .i8 0,.string ⟨#[]⟩,.int .i8 0,.int .i64 0,.string ⟨#[]⟩,.slice none 0 0,.int .i8 0,.string ⟨#[]⟩,.int .i8 0,.int .i64 0,.string ⟨#[]⟩,.slice none 0 0];have aI:=zz q;clear q;go_upto_region 6 with fail
 rw[aI.o];clear x0 x1 R x3 y0 y1 y2 I;have r:=Y.o.b1.below h.below;have q:=Y.o.b2.below h.below;have y0:=r.cell 0;have y1:=r.cell 1;have y2:=r.cell 2;have I:=r.cell 3;have Z:=q.cell 0;have z1:=q.cell 1;have z2:=q.cell 2;have z3:=q.cell 3;have O:=zz h;clear h r q;obtain⟨L,r,h⟩:=ya V 45 50 #[.string ⟨#[89]⟩,.int .i8 0,.int .i64 0,.string ⟨#[]⟩,.string ⟨#[90]⟩,.int .i8 0,.int .i64 0,.string ⟨#[]⟩] #[.int .i8 1,.string ⟨#[101]⟩,.slice (some ⟨V.heap.size,0,none⟩) 2 2,.int .i8 0,.int .i8 0,.string ⟨#[]⟩,.int .i8 0,.int .i64 0,.string ⟨#[]⟩,.slice none 0 0,.int .i8 0,.string ⟨#[]⟩,.int .i8 0,.int .i64 0,.string ⟨#[]⟩,.slice none 0 0];have aR:=zz r;clear r;go_upto_region 7 with fail
 rw[aR.o];clear y0 y1 y2 I Z z1 z2 z3;have r:=(Y.o.b0.below O.o.below).below h.below;have q:=(Y.o.b2.below O.o.below).below h.below;have x0:=r.cell 0;have x1:=r.cell 1;have R:=r.cell 2;have x3:=r.cell 3;have Z:=q.cell 0;have z1:=q.cell 1;have z2:=q.cell 2;have z3:=q.cell 3;have ac:=zz h;have a3:=zz (O.o.b1.below h.below);have a2:=zz h.b1;clear h r q;obtain⟨q,r,h⟩:=Va L 102 50 25 #[.int .i8 0,.string ⟨#[88]⟩,.int .i8 0,.int .i64 0,.string ⟨#[]⟩,.int .i8 0,.string ⟨#[90]⟩,.int .i8 0,.int .i64 0,.string ⟨#[]⟩] #[.int .i8 1,.string ⟨#[101]⟩,.slice (some ⟨U.heap.size,0,none⟩) 2 2,.int .i8 0,.int .i8 0,.string ⟨#[]⟩,.int .i8 0,.int .i64 0,.string ⟨#[]⟩,.slice none 0 0,.int .i8 0,.string ⟨#[]⟩,.int .i8 0,.int .i64 0,.string ⟨#[]⟩,.slice none 0 0,.int .i8 1,.string ⟨#[101]⟩,.slice (some ⟨V.heap.size,0,none⟩) 2 2,.int .i8 0,.int .i8 0,.string ⟨#[]⟩,.int .i8 0,.int .i64 0,.string ⟨#[]⟩,.slice none 0 0,.int .i8 0,.string ⟨#[]⟩,.int .i8 0,.int .i64 0,.string ⟨#[]⟩,.slice none 0 0] #[.string ⟨#[112]⟩,.slice (some ⟨L.heap.size,0,none⟩) 2 2,.slice (some ⟨L.heap.size+1,0,none⟩) 2 2];have aB:=zz r;clear r;go_upto_region 8 with(first
  |(refine xV 50 _ rfl ?_;refine yZ rfl 50 _ rfl (U.heap.size+1) 0 rfl [.int .i8 1,.string ⟨#[101]⟩,.slice (some ⟨U.heap.size,0,none⟩) 2 2,.int .i8 0,.int .i8 0,.string ⟨#[]⟩,.int .i8 0,.int .i64 0,.string ⟨#[]⟩,.slice none 0 0,.int .i8 0,.string ⟨#[]⟩,.int .i8 0,.int .i64 0,.string ⟨#[]⟩,.slice none 0 0] _ (a3.o.below (xo _ _)).range underlying50 rfl zo ?_)
  |(refine xV 50 _ rfl ?_;refine yZ rfl 50 _ rfl (V.heap.size+1) 0 rfl [.int .i8 1,.string ⟨#[101]⟩,.slice (some ⟨V.heap.size,0,none⟩) 2 2,.int .i8 0,.int .i8 0,.string ⟨#[]⟩,.int .i8 0,.int .i64 0,.string ⟨#[]⟩,.slice none 0 0,.int .i8 0,.string ⟨#[]⟩,.int .i8 0,.int .i64 0,.string ⟨#[]⟩,.slice none 0 0] _ (a2.o.below (xo _ _)).range underlying50 rfl zo ?_))
 rw[aB.o];clear x0 x1 R x3 Z z1 z2 z3;have I:=h.b2.cell 0;have r1:=h.b2.cell 1;have r2:=h.b2.cell 2;have R:=zz h;clear h;obtain⟨aj,h,Z⟩:=ya q 9 9 #[.string ⟨#[88]⟩,.string ⟨#[89]⟩] #[.string ⟨#[90]⟩];have aL:=zz h;clear h;obtain⟨ad,r,h⟩:=ya aj 107 57 #[.int .i8 1,.int .i64 0,.int .u32 0,.slice (some ⟨q.heap.size,0,none⟩) 2 2,.int .i8 2,.int .i64 1,.int .u32 1,.slice (some ⟨q.heap.size+1,0,none⟩) 1 1] #[.string ⟨#[112]⟩,.slice (some ⟨L.heap.size,0,none⟩) 2 2,.slice (some ⟨L.heap.size+1,0,none⟩) 2 2,.slice (some ⟨q.heap.size+1+1,0,none⟩) 2 2];have aN:=zz r;clear r;go_upto_region 9 with fail
 rw[aL.o];rw[aN.o];clear I r1 r2;have JD:=Z.size;have kp:=h.b1;rw[JD]at kp;have c0:=kp.cell 0;have c1:=kp.cell 1;have c2:=kp.cell 2;have c3:=kp.cell 3;have I:=zz Z;have r:=zz h;have ba:=zz JD;clear Z h kp JD;obtain⟨Z,af,h⟩:=ya ad 3 3 #[.int .i64 0,.int .i64 0] #[.int .i64 2,.int .i64 2];have az:=zz af;have bc:=zz h;have ak:Bl w8 U:=zu aQ.o Y.o.below;have au:Bl U Z:=zu (zu (zu (zu (zu O.o.below ac.o.below) R.o.below) I.o.below) r.o.below) h.below;have aq:Bl V Z:=zu (zu (zu (zu ac.o.below R.o.below) I.o.below) r.o.below) h.below;have ao:Bl L Z:=zu (zu (zu R.o.below I.o.below) r.o.below) h.below;have am:Bl q Z:=zu (zu I.o.below r.o.below) h.below;have an:Bl aj Z:=zu r.o.below h.below;have al:Bl ad Z:=h.below;have aA:q.heap.size=L.heap.size+1+1+1:=R.o.size;have aD:L.heap.size=V.heap.size+1+1:=ac.o.size;have aG:V.heap.size=U.heap.size+1+1:=O.o.size;have ar:aj.heap.size=q.heap.size+1+1:=I.o.size;have ay:ad.heap.size=aj.heap.size+1+1:=r.o.size;have n1:=ak.size;have n2:=al.size;have ae:Bl w8 Z:=zu ak au;have aT:=zz (zmX (w:=Z) (A:=some ⟨w2.heap.size,0,none⟩) (B:=some ⟨w5.heap.size,0,none⟩) (H:=some ⟨L.heap.size,0,none⟩) (D:=some ⟨L.heap.size+1,0,none⟩) (A1:=some ⟨U.heap.size,0,none⟩) (A2:=some ⟨V.heap.size,0,none⟩) (S:=some ⟨q.heap.size+1+1,0,none⟩) (G:=some ⟨q.heap.size,0,none⟩) (J:=some ⟨q.heap.size+1,0,none⟩) (F:=some ⟨ad.heap.size,0,none⟩) (T:=some ⟨ad.heap.size+1,0,none⟩)
  (ax.o.below ae) ae.size tk (aE.o.below (zu av.o (zu ah.o ae)) (zoZ _)) (zo0 aE.o.lt av.o.size) (fun X hX=>by
   simp only[zpp,zqv,or_false]at hX
   rcases hX with rfl|rfl|rfl|rfl|rfl|rfl|rfl<;>exact zbf ⟨zd,zd⟩)
  ((Zr R.o.b0 rfl).below am) ((Zr R.o.b1 rfl).below am) ((Zr O.o.b0 rfl).below aq) ((Zr ac.o.b0 rfl).below ao)
  ((show zY Sx.cells ad (some ⟨q.heap.size+1+1,0,none⟩) _ by rw[<-ar];exact Zr r.o.b0 rfl).below al) ((Zr I.o.b0 rfl).below an) ((ziQ I.o.b1 rfl).below an) (Zr h.b0 rfl) (Zr h.b1 rfl))
 have ag:=zz ae;clear af h ak au aq ao am an al aG aD aA ar ay n1 n2 ae;go_upto_region 10 with(go_at_call 19;rw[az.o];refine aT.o.mono ?_;rintro e h⟨A,bg,f,rfl,hf,aD,aA,ak⟩;have Hf:=zz (zpf hf aA);have am:=zz aD;have al:=zz ak;clear hf aD aA ak c0 c1 c2 c3)
 obtain⟨ae,hv⟩:=Hf.o;obtain⟨fp,fA,fc,fa⟩:=f;obtain⟨rfl,rfl⟩:fp=bP/\fa=[vN 1,vN 3]:=⟨congrArg Prod.fst ae,congrArg Prod.snd ae⟩;obtain⟨gA,oA,rfl,ay,af⟩:=am.o.at (c:=1) (fun _=>rfl) 0 zp;have q0:h.cell? ⟨gA,oA,none⟩=some (.string bP):=by simpa using af 0 _ rfl
 have q1:h.cell? ⟨gA,oA+1,none⟩=some (.slice fA 2 fc):=by simpa using af 1 _ rfl
 have Hv:Kz (zY Vl.cells h fA [vN 1,vN 3]):=hv;have H9:Kz (∀W,Bl h W->W.cell? ⟨gA,oA,none⟩=some (.string bP)/\W.cell? ⟨gA,oA+1,none⟩=some (.slice fA 2 fc)):=fun W hW=>⟨(hW.cell (p:=⟨gA,oA,none⟩) ay).trans q0,(hW.cell (p:=⟨gA,oA+1,none⟩) ay).trans q1⟩
 clear ae hv af q0 q1 Hf am;refine xX [0,0,0,0,0,0,0,0,0,0,0,2,2,2,0,2,0,0] (fun W=>Bl h W) ?_
 repeat refine zT H9.o ?_
 refine xc fun K hK=>?_
 go_simp;refine(N.o 1 _).mono ?_;rintro e a6⟨rfl,ae⟩;have am:Bl h a6:=(Below.refl _ _).drew.trans ae;refine hK.out _ _ am (fun _=>trivial) ?_;clear hK K ae;try refine zQ ?_
 repeat refine zT H9.o ?_
 refine xc fun K hK=>?_
 go_simp;refine(N.o 3 _).mono ?_;rintro e af⟨rfl,ae⟩;have aq:Bl h af:=zu am ae;refine hK.out _ _ aq (fun _=>trivial) ?_;clear hK K ae;try refine zQ ?_
 repeat refine zT H9.o ?_
 obtain⟨aG,an,ar⟩:=xj af 43 #[.int .i8 1,.int .i64 1,.string ⟨#[]⟩,.int .i8 1,.int .i64 3,.string ⟨#[]⟩];have ae:Bl h aG:=zu aq ar.below;refine xc fun K hK=>?_
 go_simp;try rw[an]
 refine hK.out _ _ ae (fun _=>trivial) ?_;clear hK K;try refine zQ ?_
 repeat refine zT H9.o ?_
 clear an;have au:=zz (zeN aG ⟨bP,fA,fc,[vN 1,vN 3]⟩ ⟨bP,some ⟨af.heap.size,0,none⟩,2,[vN 1,vN 3]⟩ (Hv.o.below ae) (Zr ar.b0 rfl) (by show 2<=_;decide));refine xc fun K hK=>?_
 go_simp;refine au.o.mono ?_;rintro e a1⟨rfl,ao⟩;have an:Bl h a1:=zu ae ao;refine hK.out _ _ an (fun _=>trivial) ?_;clear hK K ao;rw[qs (show yf ⟨bP,fA,fc,[vN 1,vN 3]⟩=yf ⟨bP,some ⟨af.heap.size,0,none⟩,2,[vN 1,vN 3]⟩from rfl)];try refine zQ ?_
 repeat refine zT H9.o ?_
 refine xu ?_;go_wp2;go_returns;exact⟨rfl,zu av.o ((zu ah.o ag.o).trans (al.o.below (zpd ah.o.size ag.o.size) (fun x hx=>hx.1) |>.trans (an.mono (zpd (zpd ah.o.size ag.o.size) al.o.size))))⟩
end
