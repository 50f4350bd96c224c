/-
  Walks: the steps of a rule, with one literal first or with n
-/
import Derived.Test.YtfdickkdlcgicaaGreatDoorQ13
set_option maxRecDepth 100000
set_option maxHeartbeats 8000000
set_option linter.all false
namespace Go.Proofs.YtfdickkdlcgicaaGreatDoor.C
open Go.Proofs.Tryz Go Go.RowKit Go.Maps Go.WideMaps
section
theorem zcf(w:World)(r:Ru)(hl:r.zN w)(hf:r.fits)(ht:r.zO.length<=1048576)(h:r.ok)(hv:∀v∈r.vars,yo r.body v)(hT:Tz w)(v:Int)(V:Option Nat)(am:(v=-1/\V=none)\/∃j:Nat,v=(j:Int)/\V=some j/\∃hj:j<r.body.length,r.body[j].k=1):
 Calls prog 14 #[.agg r.cells.toArray,.slice none 0 0,.int .i64 v] w (zcM r V w):=by
 have Hv:=zz (show(v=-1/\V=none)\/∃j:Nat,v=(j:Int)/\V=some j/\j<24/\j<r.body.length/\(∀I:Ru,qE r I->∀h:j<I.body.length,I.body[j].k=1)/\∃Y oB,r.B=some ⟨Y,oB,none⟩/\∀W,Bl w W->W.cell? ⟨Y,oB+j*16,none⟩=some (.int .i8 1)from by
  rcases am with hf |⟨j,e1,e2,hj,ag⟩
  ·exact .inl hf
  ·obtain⟨Y,oB,L,R,U⟩:=hl.rd.at Li.Yn j hj;refine .inr ⟨j,e1,e2,by have:=h.y8;omega,hj,fun I O h=>(O.kind h hj).trans ag,Y,oB,L,fun W N=>?_⟩;rw[N.cell (p:=⟨Y,oB+j*16,none⟩) R,<-ag];simpa using U 0 _ rfl)
 have bs:=zz (show ∀j,V=some j->j<r.body.length from fun j hj=>by
  rcases am with⟨_,e⟩ |⟨j',_,e,af,_⟩
  ·rw[e]at hj;cases hj
  ·rw[e]at hj;injection hj with hj;exact hj▸af)
 clear am;have X:=h.y8;have aH:=zz (fun W (N:Bl w W)=>DS W r (hl.below N) hf ht h hv);have aQ:=zz (fun W (N:Bl w W)=>zc7 W r (hl.below N) ht zd h.XY);have bN:=zz (fun(I:Ru) (O:qE r I) W (N:I.zN W)=>O.at N h hf ht);have a9:=zz (fun(I:Ru) (O:qE r I)=>O.lim hv);have HT:=zz hT;obtain⟨O,U⟩:∃O,r.body.length=O:=⟨_,rfl⟩;have bT:=zz (U▸(fun W=>GU W r.body.length zd):∀W,Calls prog 47 #[.int .i64 (O:Int)] W fun e N=>e=.returned (.int .u32 ((2 ^ O-1:Nat):Int))/\N=W);have bJ:O<=16:=zd;have ah:=zz U;have R:r.cells=[.string r.p,.slice r.A r.head.length r.cap,.slice r.B O r.zM]:=by rw[<-U]
 have cb:=zz R;rw[R];obtain⟨W2,Z,hX⟩:=yb w 25 57 #[.string r.p,.slice r.A r.head.length r.cap,.slice r.B O r.zM] #[.string ⟨#[]⟩,.slice none 0 0,.slice none 0 0,.slice none 0 0];have HX:=zz hX;have bL:=zz Z;simp only[R]at aH aQ;clear hX Z hl hf ht hv hT U X R;rw[ah.o]at bs Hv;go_enter func14,ntmps14;go_upto_region 4 with(go_at_call 44;rw[bL.o];refine(aH.o _ HX.o.below).mono ?_;rintro e w3⟨rfl,av⟩;have aw:=zz (HX.o.b0.below av);have bA:=zz (HX.o.b1.below av);have a3:=zz (zl HX.o.below av);have a0:=aw.o.cell 0;have a1:=aw.o.cell 1;have a2:=aw.o.cell 2;clear av)
 go_cut [43] (fun x wx=>w3=wx/\x=.bool false)
 case first=>
  rcases Hv.o with⟨rfl,-⟩ |⟨j,rfl,-,-,hj,-,Y,oB,L,R⟩
  ·have U:decide ((O:Int)<=-1)=false:=zb;go_wp2
   go_meet
   exact⟨rfl,rfl⟩
  ·rw[L]at a2;have U:decide ((O:Int)<=(j:Int))=false:=by first |(simp;done) |(simp;omega)
   have aa:decide ((j:Int)< -1)=false:=by first |(simp;done) |(simp;omega)
   have X:decide (0<=(j:Int))=true:=zp;have Z:decide ((j:Int)<0)=false:=zp;have d0:=R _ a3.o;clear L;go_wp2
   go_meet
   exact⟨rfl,rfl⟩
 case rest=>
  obtain⟨rfl,rfl⟩:=hcut;go_upto_region 7 with(go_at_call 45;refine(aQ.o _ a3.o).mono ?_;rintro e w4⟨I,rfl,an,bu,bC,aB⟩;have HC:=zz (qE.mk an:qE r I);have aM:I.body.length=O:=(HC.o.len.trans ah.o);have aP:I.cells.toArray=#[.string I.p,.slice I.A I.head.length I.cap,.slice I.B O I.zM]:=(by rw[<-aM]);rw[aP];have bW:=zz (aw.o.below aB);have be:=zz (bA.o.below aB);have a5:=zz (zl a3.o aB);have aV:=zz bu;have bn:Kz (I.off (fun g=>w.heap.size+1+1<=g/\g<w4.heap.size)):=(bC.XW fun g hg=>by have:=bA.o.lt;omega);clear a0 a1 a2 an bu bC aB aM aP)
  obtain⟨W5,R,L⟩:=xi w4 57 #[.string I.p,.slice I.A I.head.length I.cap,.slice I.B O I.zM,.slice none 0 0];rw[R];have ax:=zz L.b0;have ba:=zz L.below;have bS:=zz (bW.o.below L.below);have bZ:=zz (be.o.below L.below);have bX:=zz (zl a5.o L.below);have bQ:=zz (aV.o.below L.below);have c2:W5.cell? ⟨w4.heap.size,2,none⟩=some (.slice I.B O I.zM):=ax.o.cell 2;have bp:=zz L.size;clear L R;go_upto_region 8 with(go_at_call 46;refine(za3 _ _ _ _).mono ?_;rintro e w6⟨sb,mb,f6,rfl,bD,a4,bE,ae⟩;have aX:=zz bD;have bG:=zz ae;have bR:=zz a4;have aW:=zz bE;have bh:=zz (ax.o.below ae);have bY:=zz (bS.o.below ae);have b4:=zz (bZ.o.below ae);have bc:=zz (zl bX.o ae);have b9:=zz (bQ.o.below ae);have b2:=bY.o.cell 2;clear bD a4 bE ae c2)
  go_upto_region 9 with(go_at_call 47;refine(bT.o _).mono ?_;rintro e w7⟨rfl,b3⟩;obtain rfl:w6=w7:=b3.symm)
  obtain⟨m0,U⟩:∃m0,2 ^ O-1=m0:=⟨_,rfl⟩;have L:=DR O zd;have Y:2 ^ O<=2 ^ 24:=zqo zr (zd);rw[U]at L ⊢;have Z:m0<2 ^ 24:=by have:0<2 ^ O:=Nat.pow_pos zr;omega
  have R:=zz L;have bm:=zz Z;have X:=zz (bN.o I HC.o w4 aV.o);have az:Kz (Bl w4 w6):=zl ba.o bG.o;have bv:=zz (a9.o I HC.o);clear U L Y Z b2;obtain⟨q,L⟩:∃q,I.body=q:=⟨_,rfl⟩;have ap:=zz L;rw[ah.o]at X;rw[L]at X bv;clear L;have L:sb≠w4.heap.size:=by have:=bR.o;have:=ax.o.lt;omega
  have U:mb≠w4.heap.size:=by have:=aW.o;have:=ax.o.lt;omega
  have bU:=zz L;have b5:=zz U;have cc:=zz (aX.o.r.qU aX.o.m);have bo:=zz (show w.heap.size+1+1<=w4.heap.size by have:=HX.o.size;have:=be.o.lt;omega);clear L U
  go_loopg[11,12,13,14] O (fun gk L aa Y U wx=>∃(m:Nat) (K:List ByteArray) (f:Value->Option Value) (ss:List Sx) (A:Option Addr) (N n:Nat),L=.int .u32 (m:Int)/\gk=(bitsOf m).length/\ZZ w6 sb mb w4.heap.size I.B I.zM O q (.string I.p) (.slice I.A I.head.length I.cap) (.slice I.B O I.zM) V m K f ss A N n wx)
  case atStart=>
   refine⟨m0,[],f6,[],none,0,0,rfl,by rw[R.o,zro],⟨bm.o,fun i hi=>by rw[R.o]at hi;exact zqA.1 hi,aX.o,bh.o,rfl,by rw[R.o,zro,zp6],Own.qz _,fun s Y=>(by cases Y),zh.refl _ _,fun rest L=>?_,fun i hi U=>?_,fun j1 aa=>.inl ⟨rfl,by rw[R.o];exact zqA.2 (bs.o j1 aa)⟩,fun g hg=>(by simp[zw]at hg),bU.o,b5.o,bh.o.lt,fun s Y=>(by cases Y)⟩⟩
   ·rw[R.o]at L;exact L
   ·rw[R.o,zqA]at U;have:=X.o.len;omega
  case round=>
   obtain⟨m,K,f,ss,A,N,n,rfl,rfl,U⟩:=hrel;have L:=zz U;clear U;have ay:Kz (Bl w4 wr):=az.o.trans (L.o.zC.below az.o.size (fun x hx=>by have:=aW.o;have:=bp.o;rcases hx with h|h<;>omega));have bd:Kz (Bl w wr):=a5.o.trans (ay.o.mono a5.o.size);have aU:=zz (X.o.below ay.o);have bV:=zz (HT.o.below bd.o (zpx _))
   by_cases h0:m=0
   ·have bI:((m:Int) != 0)=false:=by subst h0;rfl
    subst h0;have U:bitsOf 0=[]:=DT;have ac:=zz (show yi q [] (List.range O) (ss.map (·.s))from by have:=L.o.zbq [] (by rw[U];exact .nil);simpa using this);have ai:=zz (show ss.length=O by have:=L.o.le;rw[U]at this;have:=L.o.len;simp at *;omega);have ad:=zz (show ∀j1,V=some j1->∃s rest,ss.map (·.s)=s::rest/\s.lit=j1 from fun j1 aa=>by
     rcases L.o.first j1 aa with⟨_,h⟩ |⟨_,h⟩
     ·rw[U]at h;cases h
     ·exact h)
    have aa:Kz (zD wr (w.heap.size+1) 57 _):=b4.o.zC L.o.zC (fun h=>by have:=aW.o;have:=bo.o;have:=bp.o;rcases h with h|h<;>omega);clear U
    go_wp2_with (first
     |(refine xW 57 _ rfl ?_;refine y7 zj 57 _ rfl w4.heap.size 0 rfl [.string I.p,.slice I.A I.head.length I.cap,.slice I.B O I.zM,.slice A n N] _ L.o.yS.range underlying57 rfl zo ?_)
     |(refine xy 57 _ _ rfl ?_;refine yH 57 (w.heap.size+1) 0 aa.o [.string I.p,.slice I.A I.head.length I.cap,.slice I.B O I.zM,.slice A n N] ?_;intro aj U;have z0:=U.zH.cell 0;have z1:=U.zH.cell 1;have z2:=U.zH.cell 2;have z3:=U.zH.cell 3;have HF:=zz U;clear U))
    simp only[zpY,zpI,zpL,zpJ,zpH,zpM]at z0 z1 z2 z3;refine bodyPost_ret (v:=.tuple #[.agg #[.string I.p,.slice I.A I.head.length I.cap,.slice I.B O I.zM,.slice A n N],.int .i64 0]) (by simp[results,results14,go_sem,z0,z1,z2,z3]) rfl ?_;have ab:=HF.o.below bd.o (zpx _) zd;refine⟨⟨I,A,N,ss⟩,by rw[Px.cells,HC.o.len,ah.o,L.o.len],HC.o,⟨(aV.o.below ay.o).kept HF.o.zC (bn.o.XW fun g hg e=>zd),(HF.o.own L.o.own (fun g hg e=>?ga)).xI,fun s Y=>Sx.own.zN (HF.o.own (L.o.each s Y) (fun g hg e=>(L.o.each s Y).yD aa.o zr (e▸hg)))⟩,by rw[ap.o,ah.o];exact ac.o,by rw[ah.o];exact ai.o,ad.o,bn.o.XW (fun g hg=>by have:=ay.o.size;have:=HF.o.zC.size;omega),fun s Y g hg=>⟨zpK bc.o.size (L.o.DB s Y g hg),zpz (Own.lt (L.o.each s Y) g hg) HF.o.zC.size⟩,fun g hg=>⟨zpK bc.o.size (L.o.news g hg),zpz (L.o.own.lt g hg) HF.o.zC.size⟩,ab⟩
    case ga=>
     have:=L.o.news g hg;have:=az.o.size;have:=bo.o;omega
   ·have bI:((m:Int) != 0)=true:=zb;go_upto_region 11 with fail
    go_cut [68] (fun x wx=>wr=wx/\∃b:Bool,x=.bool b/\(b=true->∀j,V=some j->m.testBit j=false)/\(b=false->∃j:Nat,v=(j:Int)/\V=some j/\j<24/\m.testBit j=true/\∀I:Ru,qE r I->∀h:j<I.body.length,I.body[j].k=1))
    case first=>
     rcases Hv.o with⟨rfl,Y⟩ |⟨j,rfl,Y,ab,hj,ag,-⟩
     ·go_wp2
      go_meet
      exact⟨rfl,true,rfl,(fun _ j hj=>by rw[Y]at hj;cases hj),(fun h=>nomatch h)⟩
     ·have ad:=GB j m ab L.o.lt;have Z:decide ((j:Int)<0)=false:=zp
      by_cases U:m.testBit j=true
      ·have hz:(((m &&& 2 ^ j:Nat):Int)==0)=false:=by
        have:¬m &&& 2 ^ j=0:=fun e=>by rw[(and_zero m j).1 e]at U;cases U
        simp;omega
       have ac:=zz (zpG U Y);clear U Y;go_wp2
       go_meet
       exact⟨rfl,false,rfl,(fun h=>nomatch h),fun _=>⟨j,rfl,ac.o.2,ab,ac.o.1,ag⟩⟩
      ·have aa:m.testBit j=false:=by simpa using U
       have hz:(((m &&& 2 ^ j:Nat):Int)==0)=true:=by
        have:=(and_zero m j).2 aa;simp;omega
       have ac:=zz (zpG aa Y);clear U aa Y;go_wp2
       go_meet
       exact⟨rfl,true,rfl,(fun _ j' af=>by rw[ac.o.2]at af;injection af with e;subst e;exact ac.o.1),(fun h=>nomatch h)⟩
    case rest=>
     obtain⟨rfl,b,rfl,Z,aa⟩:=hcut
     go_upto_if 68 with fail
     have Hb:=zz (zpG Z aa);clear Z aa
     go_cut [12] (fun x wx=>∃(i:Nat) (st:Sp),x=.int .i64 (i:Int)/\i∈bitsOf m/\(∀Z:i<q.length,stepOf K i q[i]=some st)/\(∀j,V=some j->j∈bitsOf m->i=j)/\Bl wr wx)
     case first=>
      cases b with
      |true=>
       obtain⟨i,ad⟩:=L.o.zcP (w9:=w6) (X.o.below az.o) bv.o h0;obtain⟨hi,x,hx,ac⟩:=zb6 ad;obtain⟨st,aa⟩:=zqq.1 ac;have ai:=zz (zfb wr sb mb I.B I.zM O f K L.o.st q aU.o m L.o.lt L.o.bits bV.o i ad);have HE:=zz (show i∈bitsOf m/\(∀Z:i<q.length,stepOf K i q[i]=some st)/\(∀j,V=some j->j∈bitsOf m->i=j)from⟨hi,fun Z=>by
        rw[zpF Z]at hx;injection hx with hx
        rw[hx];exact aa,fun j hj aj=>by
        have h1:=Hb.o.1 rfl j hj;rw[(Y6.1 aj).2]at h1
        cases h1⟩)
       clear h0 ac aa hx ad hi
       go_wp2_with (go_at_call 48;refine ai.o.mono ?_;rintro e aj⟨rfl,ac⟩;have ad:=zz ac;clear ac)
       go_meet
       exact⟨i,st,rfl,HE.o.1,HE.o.2.1,HE.o.2.2,ad.o⟩
      |false=>
       obtain⟨j,rfl,Y,ab,U,ag⟩:=Hb.o.2 rfl;have ai:j<q.length:=by
        have h1:=X.o.len;have h2:=L.o.bits j (Y6.2 ⟨ab,U⟩);omega
       have aj:q[j].k=1:=by
        have h1:=ag I HC.o;have h2:=ap.o;subst h2;exact h1 ai
       obtain⟨st,aa⟩:∃st,stepOf K j q[j]=some st:=⟨_,by unfold stepOf;rw[if_pos aj]⟩;have HE:=zz (zpG Y (zpG (Y6.2 ⟨ab,U⟩) aa));clear Y U aj aa h0;go_wp2
       go_meet
       exact⟨j,st,rfl,HE.o.2.1,fun _=>HE.o.2.2,fun j' af _=>by rw[HE.o.1]at af;injection af,Below.refl _ _⟩
     case rest=>
      obtain⟨i,st,rfl,hi,U,Y,ac⟩:=hcut;have ad:=zz ac;clear h0 ac Hb;have Hi:=zz hi;have bM:=zz Y;have bK:=zz (show(bitsOf (Xd m i)).length<(bitsOf m).length by rw[Vs (Y6.1 hi).1,List.length_erase_of_mem hi];have:=List.length_pos_of_mem hi;omega);have bP:=zz (show ∀u∈st.gives,u.size<=maxLen from fun u hu=>by
       have Z:i<q.length:=by have:=X.o.len;have:=L.o.bits i hi;omega
       rw[(YQ (U Z)).2]at hu;obtain⟨_,t,aa,rfl⟩:=C.qJ.1 (Uq.1 hu).1;exact X.o.fits _ (zpB Z) t aa)
      have aC:=zz U;clear hi Y U;have Z:i<q.length:=by have:=X.o.len;have:=L.o.bits i Hi.o;omega
      have al:=zz Z;have U:=L.o.st.below ad.o;have b6:=zz U;have a6:=zz ((aU.o.below ad.o).step U i Z);have bt:=zz (L.o.yS.below ad.o);have bj:=zz (L.o.own.below ad.o);clear U;go_upto_region 14 with(go_at_call 49;refine a6.o.mono ?_;rintro e aZ⟨kk,kn,ab,U,ar,b7,rfl,a7,aq,ac⟩;obtain⟨aO,ai,af,aG,aK⟩:=aq st (aC.o al.o);have bl:Kz (∀g∈zw ab,w6.heap.size<=g):=fun g hg=>zpK (zpK L.o.zC.size ad.o.size) (aK g hg);have a8:=zz (Sx.zee (s:=st) (A:=ab) (cap:=U) aO (YQ (aC.o al.o)).1 ai af);have bH:=zz aG;have bq:=zz af;have bi:Kz (ar<=4194304):=zbd (X.o) (aC.o al.o) af;have bx:=zz (zl ad.o ac);have aE:=zz (bt.o.below ac);have aL:=zz (bj.o.below ac);clear a7 aq aO ai af aG aK ac)
      obtain⟨bz,ag,Y⟩:=xi aZ 107 #[.int .i8 kk,.int .i64 (i:Int),.int .u32 (kn:Int),.slice ab ar U];rw[ag];have aa:=zz Y.b0;have aS:=zz (bH.o.below Y.below);have bk:=zz (aL.o.below Y.below);have aI:=zz (zl bx.o Y.below);have bF:=zz (aE.o.below Y.below);have p3:bz.cell? ⟨w4.heap.size,3,none⟩=some (.slice A n N):=bF.o.cell 3;have q0:=aa.o.cell 0;have q1:=aa.o.cell 1;have q2:=aa.o.cell 2;have q3:=aa.o.cell 3;clear Y ag;have br:=zz (show n<=4194304 by have:=L.o.le;omega);go_upto_region 15 with(first
       |(at_builtin;refine X9 rfl _ _ rfl zeI (f:=Sx.cells) (xs:=ss) (bk.o.alloc _) L.o.len ⟨st,ab,U⟩ _ 0 1 rfl rfl rfl (by rw[a8.o];exact yt _ _ _ rfl) (Sx.one _) br.o zr ?_;intro aA ao ca aN aJ aF;have bw:=zz aN;have bf:=zz (show aA∈zw A\/bz.heap.size<=aA by rcases aF with h|h;exact .inl h;right;simp at h;omega);have aj:=zz (zcD aJ);have Y:=zz (L.o.za5 aI.o aS.o aj.o);clear aN aJ aF p3 q0 q1 q2 q3)
       |(refine xy 55 _ _ rfl ?_;refine Xq zj 55 _ _ rfl w4.heap.size 3 _ _ Y.o.1 (.slice (some ⟨aA,0,none⟩) (n+1) ao) rfl rfl zp (zo) rfl ?_;intro aY ak;have aT:=zz ak;have ag:=zz (L.o.stored Y.o.2.1 Y.o.1 Y.o.2.2 ak);clear ak))
      have aD:zD aY aZ.heap.size 107 _:=aT.o.qj (aa.o.zC aj.o (fun hm=>by have:=aL.o.lt _ hm;omega)) (by have:=aE.o.lt;omega);have q3:aY.cell? ⟨aZ.heap.size,3,none⟩=some (.slice ab ar U):=aD.cell 3;have au:=zz (T1 aY sb mb I.B I.zM O f K ag.o.1 ab U ar st.gives bq.o ag.o.2.1.xI (fun g hg e=>ag.o.2.2 (e▸hg)) (fun u hu=>bP.o u hu) bi.o);clear aD;go_upto_region 16 with(go_at_call 50;refine au.o.mono ?_;rintro e b8⟨rfl,bO,aR,aD⟩;have HN:=zz (L.o.next Hi.o al.o (aC.o al.o) bM.o aI.o aS.o aj.o bw.o bf.o aT.o rfl aR aD bl.o);clear aR aD q3)
      have bg:=(Y6.1 Hi.o).1;have a4:=G7 i m bg L.o.lt;go_wp2
      go_roundg (bitsOf (Xd m i)).length
      case measure=>exact bK.o
      case rel=>exact⟨Xd m i,K++st.gives,bO,ss++[⟨st,ab,U⟩],some ⟨aA,0,none⟩,ao,n+1,rfl,rfl,HN.o⟩
end
