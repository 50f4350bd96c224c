/-
  The law's own fixed join: lives answers true.
-/
import Derived.Test.YtfdickkdlcgicaaGreatDoorQ42
set_option maxRecDepth 100000
set_option maxHeartbeats 8000000
set_option linter.all false
namespace Go.Proofs.YtfdickkdlcgicaaGreatDoor.C
open Go.Proofs.Tryz Go Go.RowKit Go.Maps Go.WideMaps
section
theorem zho(w:World)(n:Int):Calls prog 80 #[.int .i64 n] w fun e h=>e=.returned (.agg #[.int .i8 1,.int .i64 n,.string ⟨#[]⟩])/\Bl w h:=by
 go_enter func80,ntmps80;go_wp2;go_returns;exact⟨rfl,xq w _⟩
theorem zix(w:World)(n:Int):Calls prog 31 #[.int .i64 n] w fun e h=>e=.returned (.agg #[.int .i8 1,.int .i64 n,.string ⟨#[]⟩])/\Bl w h:=by
 obtain⟨Z,q,h⟩:=xi w 43 #[.int .i8 0,.int .i64 0,.string ⟨#[]⟩];have R:=zz h.below;have I:=zz h.b0;have U:=zz q;clear q h;go_enter func31,ntmps31;go_upto_region 1 with fail
 rw[U.o]
 go_wp2_with (first
  |(go_at_call 80;refine(zho _ n).mono ?_;rintro e w2⟨rfl,q⟩;have V:=zz q;have L:=zz (I.o.below q);clear q)
  |(refine xy 43 _ _ rfl ?_;refine yH 43 w.heap.size 0 L.o [.int .i8 1,.int .i64 n,.string ⟨#[]⟩] ?_;intro N h;have Y:N.cell? ⟨w.heap.size,0,none⟩=some (.int .i8 1):=h.zH.cell 0;have X:N.cell? ⟨w.heap.size,1,none⟩=some (.int .i64 n):=h.zH.cell 1;have W:N.cell? ⟨w.heap.size,2,none⟩=some (.string ⟨#[]⟩):=h.zH.cell 2;have O:=zz h;clear h))
 refine bodyPost_ret (v:=.agg #[.int .i8 1,.int .i64 n,.string ⟨#[]⟩]) (by simp[results,results31,go_sem,Y,X,W]) rfl ?_;exact⟨rfl,O.o.below (zl R.o V.o) (zpx _) (zpx _)⟩
def zkg(w:World)(e:Ending)(w':World):Prop:=e=.returned (.bool true)/\Bl w w'
theorem zjz(w:World)(tk:Nat->Int)(aV:Tk w tk):Calls prog 11 #[] w (zkg w):=by
 have O:=zz (fun(n:Int) (W:World)=>zix W n);have aF:=zz aV;clear aV;go_enter func11,ntmps11;go_upto_region 2 with(first
  |(go_at_call 13;rw[a6.o,aZ.o];refine(aG.o).mono ?_;rintro e w8⟨wb,rfl,aT,aD⟩;have ai:=zz aD;have ay:=zz aT.cut;clear aD aT)
  |(go_at_call 31;refine(O.o 3 w4).mono ?_;rintro e w5⟨rfl,aj⟩;obtain⟨W6,ax,ab⟩:=xi w5 43 #[.int .i8 1,.int .i64 2,.string ⟨#[]⟩,.int .i8 1,.int .i64 3,.string ⟨#[]⟩];obtain⟨W7,aI,ac⟩:=xi W6 71 #[.string ⟨#[101]⟩,.slice (some ⟨w2.heap.size,0,none⟩) 2 2,.string ⟨#[101]⟩,.slice (some ⟨w5.heap.size,0,none⟩) 2 2];have a6:=zz ax;have be:=zz ab;have aZ:=zz aI;have bf:=zz ac;have bg:=zz aj;have aw:Kz (Bl w W7):=zl (zl (zl (zl (zl (zl a9.o a5.o) aL.o.below) aP.o) aj) ab.below) ac.below;have aG:=zz (zoi W7 (some ⟨w2.heap.size,0,none⟩) (some ⟨w5.heap.size,0,none⟩) (some ⟨w5.heap.size+1,0,none⟩) 2 (by rw[<-ab.size];exact ZA ac.b0 rfl) ((ZA aL.o.b0 rfl).below (zl (zl (zl aP.o aj) ab.below) ac.below)) ((ZA ab.b0 rfl).below ac.below) (by rw[<-ab.size];exact zbI (Q:=(·<W7.heap.size)) ac.b0.lt));clear ax ab aI ac aj)
  |(go_at_call 31;rw[a8.o];refine(O.o 2 W3).mono ?_;rintro e w4⟨rfl,aX⟩;have aP:=zz aX;clear aX)
  |(go_at_call 31;refine(O.o 2 w1).mono ?_;rintro e w2⟨rfl,aK⟩;obtain⟨W3,aQ,aW⟩:=xi w2 43 #[.int .i8 1,.int .i64 1,.string ⟨#[]⟩,.int .i8 1,.int .i64 2,.string ⟨#[]⟩];have a8:=zz aQ;have aL:=zz aW;have a5:=zz aK;clear aQ aW aK)
  |(go_at_call 31;refine(O.o 1 w).mono ?_;rintro e w1⟨rfl,aY⟩;have a9:=zz aY;clear aY))
 have h:=JY ay.o ⟨#[101]⟩ (by show 1<=maxLen;decide);rw[zbl]at h;have a1:=zz h;clear h;go_upto_region 4 with(go_at_call 15;refine a1.o.mono ?_;rintro e ba⟨rfl,aq⟩;have aR:=zz aq;clear aq)
 obtain⟨V,q,h⟩:=Vj ba 45 45 45 #[.string ⟨#[88]⟩,.int .i8 0,.int .i64 0,.string ⟨#[]⟩] #[.string ⟨#[89]⟩,.int .i8 0,.int .i64 0,.string ⟨#[]⟩] #[.string ⟨#[90]⟩,.int .i8 0,.int .i64 0,.string ⟨#[]⟩];have aN:=zz q;clear q;go_upto_region 5 with fail
 rw[aN.o];have x0:=h.b0.cell 0;have x1:=h.b0.cell 1;have U:=h.b0.cell 2;have x3:=h.b0.cell 3;have y0:=h.b1.cell 0;have y1:=h.b1.cell 1;have y2:=h.b1.cell 2;have L:=h.b1.cell 3;have Z:=zz h;clear h;obtain⟨Y,q,h⟩:=yb V 45 50 #[.string ⟨#[88]⟩,.int .i8 0,.int .i64 0,.string ⟨#[]⟩,.string ⟨#[89]⟩,.int .i8 0,.int .i64 0,.string ⟨#[]⟩] #[.int .i8 1,.string ⟨#[101]⟩,.slice (some ⟨V.heap.size,0,none⟩) 2 2,.int .i8 0,.int .i8 0,.string ⟨#[]⟩,.int .i8 0,.int .i64 0,.string ⟨#[]⟩,.slice none 0 0,.int .i8 0,.string ⟨#[]⟩,.int .i8 0,.int .i64 0,.string ⟨#[]⟩,.slice none 0 0];have aJ:=zz q;clear q;go_upto_region 6 with fail
 rw[aJ.o];clear x0 x1 U x3 y0 y1 y2 L;have I:=Z.o.b1.below h.below;have q:=Z.o.b2.below h.below;have y0:=I.cell 0;have y1:=I.cell 1;have y2:=I.cell 2;have L:=I.cell 3;have z0:=q.cell 0;have z1:=q.cell 1;have z2:=q.cell 2;have z3:=q.cell 3;have R:=zz h;clear h I q;obtain⟨N,I,h⟩:=yb Y 45 50 #[.string ⟨#[89]⟩,.int .i8 0,.int .i64 0,.string ⟨#[]⟩,.string ⟨#[90]⟩,.int .i8 0,.int .i64 0,.string ⟨#[]⟩] #[.int .i8 1,.string ⟨#[101]⟩,.slice (some ⟨Y.heap.size,0,none⟩) 2 2,.int .i8 0,.int .i8 0,.string ⟨#[]⟩,.int .i8 0,.int .i64 0,.string ⟨#[]⟩,.slice none 0 0,.int .i8 0,.string ⟨#[]⟩,.int .i8 0,.int .i64 0,.string ⟨#[]⟩,.slice none 0 0];have aS:=zz I;clear I;go_upto_region 7 with fail
 rw[aS.o];clear y0 y1 y2 L z0 z1 z2 z3;have I:=(Z.o.b0.below R.o.below).below h.below;have q:=(Z.o.b2.below R.o.below).below h.below;have x0:=I.cell 0;have x1:=I.cell 1;have U:=I.cell 2;have x3:=I.cell 3;have z0:=q.cell 0;have z1:=q.cell 1;have z2:=q.cell 2;have z3:=q.cell 3;have ad:=zz h;have a4:=zz (R.o.b1.below h.below);have a3:=zz h.b1;clear h I q;obtain⟨q,I,h⟩:=Vj N 102 50 25 #[.int .i8 0,.string ⟨#[88]⟩,.int .i8 0,.int .i64 0,.string ⟨#[]⟩,.int .i8 0,.string ⟨#[90]⟩,.int .i8 0,.int .i64 0,.string ⟨#[]⟩] #[.int .i8 1,.string ⟨#[101]⟩,.slice (some ⟨V.heap.size,0,none⟩) 2 2,.int .i8 0,.int .i8 0,.string ⟨#[]⟩,.int .i8 0,.int .i64 0,.string ⟨#[]⟩,.slice none 0 0,.int .i8 0,.string ⟨#[]⟩,.int .i8 0,.int .i64 0,.string ⟨#[]⟩,.slice none 0 0,.int .i8 1,.string ⟨#[101]⟩,.slice (some ⟨Y.heap.size,0,none⟩) 2 2,.int .i8 0,.int .i8 0,.string ⟨#[]⟩,.int .i8 0,.int .i64 0,.string ⟨#[]⟩,.slice none 0 0,.int .i8 0,.string ⟨#[]⟩,.int .i8 0,.int .i64 0,.string ⟨#[]⟩,.slice none 0 0] #[.string ⟨#[112]⟩,.slice (some ⟨N.heap.size,0,none⟩) 2 2,.slice (some ⟨N.heap.size+1,0,none⟩) 2 2];have aC:=zz I;clear I;go_upto_region 8 with(first
  |(refine xW 50 _ rfl ?_;refine y7 rfl 50 _ rfl (V.heap.size+1) 0 rfl [.int .i8 1,.string ⟨#[101]⟩,.slice (some ⟨V.heap.size,0,none⟩) 2 2,.int .i8 0,.int .i8 0,.string ⟨#[]⟩,.int .i8 0,.int .i64 0,.string ⟨#[]⟩,.slice none 0 0,.int .i8 0,.string ⟨#[]⟩,.int .i8 0,.int .i64 0,.string ⟨#[]⟩,.slice none 0 0] _ (a4.o.below (xq _ _)).range underlying50 rfl zo ?_)
  |(refine xW 50 _ rfl ?_;refine y7 rfl 50 _ rfl (Y.heap.size+1) 0 rfl [.int .i8 1,.string ⟨#[101]⟩,.slice (some ⟨Y.heap.size,0,none⟩) 2 2,.int .i8 0,.int .i8 0,.string ⟨#[]⟩,.int .i8 0,.int .i64 0,.string ⟨#[]⟩,.slice none 0 0,.int .i8 0,.string ⟨#[]⟩,.int .i8 0,.int .i64 0,.string ⟨#[]⟩,.slice none 0 0] _ (a3.o.below (xq _ _)).range underlying50 rfl zo ?_))
 rw[aC.o];clear x0 x1 U x3 z0 z1 z2 z3;have L:=h.b2.cell 0;have r1:=h.b2.cell 1;have r2:=h.b2.cell 2;have U:=zz h;clear h;obtain⟨ak,h,aa⟩:=yb q 9 9 #[.string ⟨#[88]⟩,.string ⟨#[89]⟩] #[.string ⟨#[90]⟩];have aM:=zz h;clear h;obtain⟨ae,I,h⟩:=yb ak 107 57 #[.int .i8 1,.int .i64 0,.int .u32 0,.slice (some ⟨q.heap.size,0,none⟩) 2 2,.int .i8 2,.int .i64 1,.int .u32 1,.slice (some ⟨q.heap.size+1,0,none⟩) 1 1] #[.string ⟨#[112]⟩,.slice (some ⟨N.heap.size,0,none⟩) 2 2,.slice (some ⟨N.heap.size+1,0,none⟩) 2 2,.slice (some ⟨q.heap.size+1+1,0,none⟩) 2 2];have aO:=zz I;clear I;go_upto_region 9 with fail
 rw[aM.o];rw[aO.o];clear L r1 r2;have JQ:=aa.size;have kp:=h.b1;rw[JQ]at kp;have c0:=kp.cell 0;have c1:=kp.cell 1;have c2:=kp.cell 2;have c3:=kp.cell 3;have L:=zz aa;have I:=zz h;have bc:=zz JQ;clear aa h kp JQ;obtain⟨aa,ag,h⟩:=yb ae 3 3 #[.int .i64 0,.int .i64 0] #[.int .i64 2,.int .i64 2];have aA:=zz ag;have bd:=zz h;have al:Bl w8 V:=zl aR.o Z.o.below;have av:Bl V aa:=zl (zl (zl (zl (zl R.o.below ad.o.below) U.o.below) L.o.below) I.o.below) h.below;have ar:Bl Y aa:=zl (zl (zl (zl ad.o.below U.o.below) L.o.below) I.o.below) h.below;have ap:Bl N aa:=zl (zl (zl U.o.below L.o.below) I.o.below) h.below;have an:Bl q aa:=zl (zl L.o.below I.o.below) h.below;have ao:Bl ak aa:=zl I.o.below h.below;have am:Bl ae aa:=h.below;have aB:q.heap.size=N.heap.size+1+1+1:=U.o.size;have aE:N.heap.size=Y.heap.size+1+1:=ad.o.size;have aH:Y.heap.size=V.heap.size+1+1:=R.o.size;have au:ak.heap.size=q.heap.size+1+1:=L.o.size;have az:ae.heap.size=ak.heap.size+1+1:=I.o.size;have n1:=al.size;have n2:=am.size;have af:Bl w8 aa:=zl al av;have aU:=zz (znv (w:=aa) (A:=some ⟨w2.heap.size,0,none⟩) (B:=some ⟨w5.heap.size,0,none⟩) (H:=some ⟨N.heap.size,0,none⟩) (D:=some ⟨N.heap.size+1,0,none⟩) (A1:=some ⟨V.heap.size,0,none⟩) (A2:=some ⟨Y.heap.size,0,none⟩) (S:=some ⟨q.heap.size+1+1,0,none⟩) (G:=some ⟨q.heap.size,0,none⟩) (J:=some ⟨q.heap.size+1,0,none⟩) (F:=some ⟨ae.heap.size,0,none⟩) (T:=some ⟨ae.heap.size+1,0,none⟩)
  (ay.o.below af) af.size tk (aF.o.below (zl aw.o (zl ai.o af)) (zpx _)) (zpz aF.o.lt aw.o.size) (fun X hX=>by
   simp only[zpU,zqY,or_false]at hX
   rcases hX with rfl|rfl|rfl|rfl|rfl|rfl|rfl<;>exact zbI ⟨zd,zd⟩)
  ((ZA U.o.b0 rfl).below an) ((ZA U.o.b1 rfl).below an) ((ZA R.o.b0 rfl).below ar) ((ZA ad.o.b0 rfl).below ap)
  ((show zZ Sx.cells ae (some ⟨q.heap.size+1+1,0,none⟩) _ by rw[<-au];exact ZA I.o.b0 rfl).below am) ((ZA L.o.b0 rfl).below ao) ((zjl L.o.b1 rfl).below ao) (ZA h.b0 rfl) (ZA h.b1 rfl))
 have ah:=zz af;clear ag h al av ar ap an ao am aH aE aB au az n1 n2 af;go_upto_region 10 with(go_at_call 19;rw[aA.o];refine aU.o.mono ?_;rintro e h⟨A,bh,f,rfl,hf,aE,aB,al⟩;have Hf:=zz (zpG hf aB);have an:=zz aE;have am:=zz al;clear hf aE aB al c0 c1 c2 c3)
 obtain⟨af,hv⟩:=Hf.o;obtain⟨fp,fA,fc,fa⟩:=f;obtain⟨rfl,rfl⟩:fp=bP/\fa=[vN 1,vN 3]:=⟨congrArg Prod.fst af,congrArg Prod.snd af⟩;obtain⟨gA,oA,rfl,az,ag⟩:=an.o.at (c:=1) (fun _=>rfl) 0 zp;have q0:h.cell? ⟨gA,oA,none⟩=some (.string bP):=by simpa using ag 0 _ rfl
 have q1:h.cell? ⟨gA,oA+1,none⟩=some (.slice fA 2 fc):=by simpa using ag 1 _ rfl
 have Hv:Kz (zZ Vl.cells h fA [vN 1,vN 3]):=hv;have H9:Kz (∀W,Bl h W->W.cell? ⟨gA,oA,none⟩=some (.string bP)/\W.cell? ⟨gA,oA+1,none⟩=some (.slice fA 2 fc)):=fun W hW=>⟨(hW.cell (p:=⟨gA,oA,none⟩) az).trans q0,(hW.cell (p:=⟨gA,oA+1,none⟩) az).trans q1⟩
 clear af hv ag q0 q1 Hf an;refine xX [0,0,0,0,0,0,0,0,0,0,0,2,2,2,0,2,0,0] (fun W=>Bl h W) ?_
 repeat refine zS H9.o ?_
 refine xf fun K hK=>?_
 go_simp;refine(O.o 1 _).mono ?_;rintro e a7⟨rfl,af⟩;have an:Bl h a7:=(Below.refl _ _).drew.trans af;refine hK.out _ _ an (fun _=>trivial) ?_;clear hK K af;try refine zQ ?_
 repeat refine zS H9.o ?_
 refine xf fun K hK=>?_
 go_simp;refine(O.o 3 _).mono ?_;rintro e ag⟨rfl,af⟩;have ar:Bl h ag:=zl an af;refine hK.out _ _ ar (fun _=>trivial) ?_;clear hK K af;try refine zQ ?_
 repeat refine zS H9.o ?_
 obtain⟨aH,ao,au⟩:=xi ag 43 #[.int .i8 1,.int .i64 1,.string ⟨#[]⟩,.int .i8 1,.int .i64 3,.string ⟨#[]⟩];have af:Bl h aH:=zl ar au.below;refine xf fun K hK=>?_
 go_simp;try rw[ao]
 refine hK.out _ _ af (fun _=>trivial) ?_;clear hK K;try refine zQ ?_
 repeat refine zS H9.o ?_
 clear ao;have av:=zz (za8 aH ⟨bP,fA,fc,[vN 1,vN 3]⟩ ⟨bP,some ⟨ag.heap.size,0,none⟩,2,[vN 1,vN 3]⟩ (Hv.o.below af) (ZA au.b0 rfl) (by show 2<=_;decide));refine xf fun K hK=>?_
 go_simp;refine av.o.mono ?_;rintro e a2⟨rfl,ap⟩;have ao:Bl h a2:=zl af ap;refine hK.out _ _ ao (fun _=>trivial) ?_;clear hK K ap;rw[qs (show qO ⟨bP,fA,fc,[vN 1,vN 3]⟩=qO ⟨bP,some ⟨ag.heap.size,0,none⟩,2,[vN 1,vN 3]⟩from rfl)];try refine zQ ?_
 repeat refine zS H9.o ?_
 refine xt ?_;go_wp2;go_returns;exact⟨rfl,zl aw.o ((zl ai.o ah.o).trans (am.o.below (zpK ai.o.size ah.o.size) (fun x hx=>hx.1) |>.trans (ao.mono (zpK (zpK ai.o.size ah.o.size) am.o.size))))⟩
end
