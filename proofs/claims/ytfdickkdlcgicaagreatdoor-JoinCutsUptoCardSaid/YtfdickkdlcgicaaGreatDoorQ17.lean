/-
  What an expression gives: an operation over its parts. What 
-/
import Derived.Test.YtfdickkdlcgicaaGreatDoorQ16
import Derived.RangeFuncWrites
import Derived.Test.YtfdickkdlcgicaaGreatDoorRows
import Derived.DeepKeys4
import Derived.StillTailTactics
import Derived.Deep.RegionLaw
import Derived.Deep.Light
import Derived.Laws.Cover3
set_option maxRecDepth 100000
set_option maxHeartbeats 8000000
set_option linter.all false
namespace Go.Proofs.YtfdickkdlcgicaaGreatDoor.C
open Go.Proofs.Tryz Go Go.RowKit Go.Maps Go.WideMaps
variable {B I bb i n:Nat}{W q w:World}{ρ:Env}
section
theorem zl6:qB prog 69 43 3 32:=qB.of (z:=.agg #[.int .i8 0,.int .i64 0,.string ⟨#[]⟩]) underlying69 zo rfl zr
theorem znY{q:Int}(h:(n:Int)=arity q):∃m:Nat,q=(m:Int)/\1<=m/\m<=10/\n<=2:=by
 unfold arity at h;split at h
 next hq=>exact⟨q.toNat,zd,zd,zd,zd⟩
 ·split at h
  next hq=>exact⟨q.toNat,zd,zd,zd,zd⟩
  ·omega
def znm(tk:Nat->Int)(ρ:Env)(q:List Ex)(R:World)(N gk:Nat)(V O:Value)(U:World):Prop:=
 ∃(i:Nat) (A:Option Addr) (I:Nat) (L:List Vl),i<=N/\gk=N-i/\O=.int .i64 (i:Int)/\V=.slice A i I/\L.length=i/\Own Vl.cells 43 3 U A I L/\(∀g∈zw A,R.heap.size<=g)/\
  (∀j (h:j<i) (I:j<q.length),(q[j]).ev tk ρ=L[j]?)/\(∀y∈L,y.ok)/\Bl R U
theorem zkm(w:World)(tk:Nat->Int)(hT:Tk w tk)(ρ:Env)(hρ:∀v x,ρ v=some x->x.ok)(d m:Nat)(au:1<=m)(ah:m<=10)(v:ByteArray)(k n:Int)(s:ByteArray)(A:Option Addr)(cap mb N:Nat)(I:List Ex)(hr:zZ Ex.cells w A I)(hN:I.length=N)(aJ:N<=2)(O:(N:Int)=arity m)(al:∀x∈I,x.ok d)(aq:∀x∈I,∀W,Bl w W->Calls prog 202 #[.agg x.cells.toArray,.map (some mb)] W (y6 (x.ev tk ρ) W)):
 Calls prog 202 #[.agg #[.int .i8 m,.string v,.int .i8 k,.int .i64 n,.string s,.slice A N cap],.map (some mb)] w (y6 ((Ex.Vq tk ρ I).bind (qQ tk m)) w):=by
 have Hr:=zz hr;have HN:=zz hN;have ay:=zz O;have az:=zz al;have ax:=zz aq;have HT:=zz hT;have Hm:=zz (zpG au ah);have aK:((m:Int)==0)=false:=beq_eq_false_iff_ne.2 zd;clear hr hN O al aq hT au ah;obtain⟨W0,L,q⟩:=yb w 48 43 #[.int .i8 m,.string v,.int .i8 k,.int .i64 n,.string s,.slice A N cap] #[.int .i8 0,.int .i64 0,.string ⟨#[]⟩];have HX:=zz q;have V:Kz (Bl w W0):=q.below;have aI:=zz q.size;have c0:=q.b0.cell 0;have c5:=q.b0.cell 5;clear q;go_enter func202,ntmps202;go_upto_region 1 with fail
 try rw[L]
 clear L;go_wp2;clear c0 c5
 go_loopg[7,35] N (fun gk R q L=>znm tk ρ I W0 N gk R q L)
 case atStart=>exact⟨0,none,0,[],zpD _,rfl,rfl,rfl,rfl,Own.qz _,by simp[zw],zd,zp,Below.refl _ _⟩
 case round=>
  obtain⟨i,A',am,ys,hi,rfl,rfl,rfl,R,X,Y,L,q,Z⟩:=hrel;have U:=zz R;have Ho:=zz X;have Hg:=zz Y;have ae:=zz L;have af:=zz q;have HB:=zz Z;clear R X Y L q Z
  by_cases aC:i<N
  ·have ad:i<I.length:=by rw[HN.o];exact aC
   obtain⟨b,o,rfl,hb,hr⟩:=(Hr.o.below (zl V.o HB.o)).at (c:=5) Ex.xG i ad;obtain⟨L,q⟩:∃L,I[i]=L:=⟨_,rfl⟩;have ag:=zz q;have Z:=zz (fun W (R:Bl w W)=>ax.o L (q▸zpB ad) W R);have aD:=zz (az.o L (q▸zpB ad));rw[q]at hr;clear q;obtain⟨r,q⟩:∃r,L.ev tk ρ=r:=⟨_,rfl⟩;have aj:=zz q;rw[q]at Z;clear q;obtain⟨q1,⟨v1,k1,n1,s1⟩,A1,an,ai⟩:=L;simp only[Ex.cells]at hr Z
   replace hr:wr.rangeAt b (o+i*6) _:=hr
   obtain⟨d0,d1,d2,d3,d4,d5⟩:=JW hr;generalize ai.length=N1 at d5 Z;clear hr;obtain⟨W2,L,q⟩:=xi wr 48 #[.int .i8 q1,.string v1,.int .i8 k1,.int .i64 n1,.string s1,.slice A1 N1 an];have Y:=zz q;have ac:=zz (zl HB.o q.below);have aw:=zz (Ho.o.below q.below);clear q;go_upto_region 12 with fail
   try rw[L]
   clear L d0 d1 d2 d3 d4 d5;have d0:=Y.o.b0.cell 0;have d1:=Y.o.b0.cell 1;have d2:=Y.o.b0.cell 2;have d3:=Y.o.b0.cell 3;have d4:=Y.o.b0.cell 4;have d5:=Y.o.b0.cell 5
   cases r with
   |none=>
    go_upto_region 14 with(go_at_call 202;refine(Z.o _ (zl V.o ac.o)).mono ?_;rintro e w3⟨⟨⟨zk,zn,zs⟩,rfl⟩,L⟩;simp only[Vl.cells];have X:=zz (zl ac.o L);clear L d0 d1 d2 d3 d4 d5)
    obtain⟨W4,aa,R⟩:=xi w3 43 #[.int .i8 zk,.int .i64 zn,.string zs];try rw[aa]
    have ab:=zz (zl X.o R.below);have ak:=zz (HX.o.b1.below ab.o);clear aa R
    go_wp2_with (refine xy 43 _ _ rfl ?_;refine yH 43 (w.heap.size+1) 0 ak.o [.int .i8 0,.int .i64 0,.string ⟨#[]⟩] ?_;intro W9 q;have z0:=q.zH.cell 0;have z1:=q.zH.cell 1;have z2:=q.zH.cell 2;have HF:=zz q;clear q)
    simp only[zpY,zpI,zpL,zpJ,zpH,zpM]at z0 z1 z2;refine bodyPost_ret (v:=.tuple #[.agg #[.int .i8 0,.int .i64 0,.string ⟨#[]⟩],.bool false]) (by simp[results,results202,go_sem,z0,z1,z2]) rfl ?_;rw[zir i ad (by rw[ag.o];exact aj.o)];exact .Zx (x:=Vl.zero) rfl (HF.o.below (zl V.o ab.o) (zpx _) (zqG _))
   |some x=>
    have ak:=J1 hρ aD.o aj.o;obtain⟨xk,xn,xs⟩:=x;have aG:=zz ak;clear ak;go_upto_region 13 with(go_at_call 202;refine(Z.o _ (zl V.o ac.o)).mono ?_;rintro e w3⟨rfl,L⟩;simp only[Vl.cells];have X:=zz (zl ac.o L);have aB:=zz (aw.o.below L);clear L d0 d1 d2 d3 d4 d5)
    obtain⟨W4,aa,R⟩:=xi w3 43 #[.int .i8 xk,.int .i64 xn,.string xs];try rw[aa]
    have ab:=zz (zl X.o R.below);have aE:=zz (aB.o.below R.below);have e0:=R.b0.cell 0;have e1:=R.b0.cell 1;have e2:=R.b0.cell 2;clear aa R
    go_wp2_with (at_builtin;refine ZP zl6 (f:=Vl.cells) (xs:=ys) (aE.o.alloc _) U.o ⟨xk,xn,xs⟩ ?_)
    intro g aa w5 R ar av;have ap:zh (·∈zw A') W4 w5:=((zh.refl _ W4).alloc _).trans ar (fun x hx _=>hx);have ao:Bl W0 w5:=ap.qt ab.o (zpx _) Hg.o;have ak:W0.heap.size<=g:=by
     rcases av with h|h
     ·exact Hg.o g h
     ·have h4:=ab.o.size;try simp at h
      omega
    have aA:=zz R;have aH:=zz ao;have aF:=zz ak;clear R ar av ap ao ak e0 e1 e2;go_wp2
    go_roundg (N-(i+1))
    case measure=>omega
    case rel=>
     exact⟨i+1,some ⟨g,0,none⟩,aa,ys++[⟨xk,xn,xs⟩],zd,rfl,ze,rfl,by simp[U.o],aA.o,xY aF.o,fun j h h'=>by
      by_cases R:j<i
      ·rw[ae.o j R h',zq1 (by rw[U.o];exact R)]
      ·obtain rfl:j=i:=zd;rw[ag.o,aj.o,zqL (by rw[U.o];exact zpx _),U.o,zrp];rfl,
      fun y hy=>by
       rcases zpE.1 hy with h|h
       ·exact af.o y h
       ·rw[zpy.1 h];exact aG.o,aH.o⟩
  ·obtain rfl:i=N:=zd;have Y:Ex.Vq tk ρ I=some ys:=Gt.2 ⟨by rw[U.o,HN.o],fun j R=>ae.o j (by rw[<-HN.o];exact R) R⟩;have Z:=zz Y;clear Y;have HA:=zz (zgl wr tk (HT.o.below (zl V.o HB.o) (zpx _)) A' am i ys Ho.o.xI af.o m Hm.o.1 Hm.o.2 U.o ay.o);have c0:=(HX.o.b0.below HB.o).cell 0
   cases O:qQ tk m ys with
   |none=>
    rw[O]at HA;have R:=zz O;clear O
    go_wp2_with (first
     |(go_at_call 244;refine HA.o.mono ?_;rintro e w3⟨⟨⟨zk,zn,zs⟩,rfl⟩,L⟩;simp only[Vl.cells];have X:=zz (zl HB.o L);have Y:=zz (HX.o.b1.below (zl HB.o L));clear L c0)
     |(refine xy 43 _ _ rfl ?_;refine yH 43 (w.heap.size+1) 0 Y.o [.int .i8 zk,.int .i64 zn,.string zs] ?_;intro W9 q;have z0:=q.zH.cell 0;have z1:=q.zH.cell 1;have z2:=q.zH.cell 2;have HF:=zz q;clear q))
    simp only[zpY,zpI,zpL,zpJ,zpH,zpM]at z0 z1 z2;refine bodyPost_ret (v:=.tuple #[.agg #[.int .i8 zk,.int .i64 zn,.string zs],.bool false]) (by simp[results,results202,go_sem,z0,z1,z2]) rfl ?_;rw[Z.o,zrv,R.o];exact .Zx (x:=⟨zk,zn,zs⟩) rfl (HF.o.below (zl V.o X.o) (zpx _) (zqG _))
   |some x=>
    rw[O]at HA;have R:=zz O;clear O;obtain⟨zk,zn,zs⟩:=x
    go_wp2_with (first
     |(go_at_call 244;refine HA.o.mono ?_;rintro e w3⟨rfl,L⟩;simp only[Vl.cells];have X:=zz (zl HB.o L);have Y:=zz (HX.o.b1.below (zl HB.o L));clear L c0)
     |(refine xy 43 _ _ rfl ?_;refine yH 43 (w.heap.size+1) 0 Y.o [.int .i8 zk,.int .i64 zn,.string zs] ?_;intro W9 q;have z0:=q.zH.cell 0;have z1:=q.zH.cell 1;have z2:=q.zH.cell 2;have HF:=zz q;clear q))
    simp only[zpY,zpI,zpL,zpJ,zpH,zpM]at z0 z1 z2;refine bodyPost_ret (v:=.tuple #[.agg #[.int .i8 zk,.int .i64 zn,.string zs],.bool true]) (by simp[results,results202,go_sem,z0,z1,z2]) rfl ?_;rw[Z.o,zrv,R.o];exact .Yx rfl (HF.o.below (zl V.o X.o) (zpx _) (zqG _))
theorem Tm.Jg.small{t:Tm}(h:t.Jg):t.v.size<=maxLen:=by
 obtain⟨q,⟨h,-⟩ |⟨-,h |⟨-,-,h⟩⟩⟩:=h
 ·rw[h];exact zpD _
 ·rw[h]at q;exact absurd zp q
 ·have:=h.le;unfold maxLen;omega
theorem zbW(tk:Nat->Int)(ρ:Env)(hρ:∀v x,ρ v=some x->x.ok):∀(d:Nat)(e:Ex)(w:World)(_:Tk w tk)(_:e.zN w)(_:e.ok d)(I:Nat)(f:Value->Option Value)(_:xv prog 9 w I f)(_:zaD ρ f e.zO),
 Calls prog 202 #[.agg e.cells.toArray,.map (some I)] w (y6 (e.ev tk ρ) w)
 |0,_,_,_,_,h,_,_,_,_=>by unfold Ex.ok at h;exact h.elim
 |d+1,.mk q ⟨v,⟨k,n,s⟩⟩ A L O,w,Y,hl,h,I,f,hm,X=>by
  have IH:=zz (fun x W Y hl h hm X=>zbW tk ρ hρ d x W Y hl h I f hm X);unfold Ex.zN at hl;obtain⟨hr,-,hk⟩:=hl;unfold Ex.ok at h;unfold Ex.ev;simp only[Ex.cells,Tm.cells];unfold zaD Ex.zO at X
  rcases h with⟨rfl,rfl,ht⟩ |⟨hq,ht,hn,R⟩
  ·rw[if_pos rfl]
   by_cases U:v.toList=[]
   ·rw[if_pos U];obtain rfl:v=⟨#[]⟩:=U7 (by rw[U];simp);exact ziN w ⟨k,n,s⟩ A L (.map (some I))
   ·rw[if_neg U];have b0:(v.toList==([]:List UInt8))=false:=by simp[U]
    have Z:=X ⟨v,⟨k,n,s⟩⟩ zpP U;simp only at Z;have N:∀W,Bl w W->(Instr.lookup 140 (.map (some I)) (.string v) false).run prog W=.ok (.agg ((ρ v).getD Vl.zero).cells.toArray) W:=fun W V=>by
     have:=(hm.below V).look q8 underlying140 (z:=.agg Vl.zero.cells.toArray) zo (ye ht.small) false;simp only[zqw,if_false]at this;rw[this,Z]
    cases hρv:ρ v with
    |none=>
     rw[hρv]at N;exact zjy w v b0 k n s A L I N
    |some x=>
     rw[hρv]at N;exact ziP w v x (hρ v x hρv) b0 k n s A L I N
  ·obtain⟨m,rfl,Z,N,h2⟩:=znY hn;rw[if_neg hq,Int.toNat_natCast];exact zkm w tk Y ρ hρ d m Z N v k n s A L I O.length O hr rfl h2 hn R fun x hx W V=>
    IH.o x W (Y.below V (zpx _)) ((Ex.qG.mem hk x hx).below V) (R x hx) (hm.below V) (fun t I U=>X t (zpQ _ (zaH hx I)) U)
section
variable {F:Fence}{n:Nat}{P:Program}
theorem zca{α:Type}{g:Operand}{ps:Array Tmp}{assign body:Code}{Q:Exit->Act->World->Prop}{a:Act}(aB:F.round=none)(h1:1<=n){gf:Nat}{lb:Array Value}(hg:a.eval g=.func (.func gf) #[] lb)(ay:F.fn gf)(eg:∀q w,(callFunc gf q).run P w=.ok (.enter gf q) w){Z:α->Array Value}{Kp:World->World->Prop}{S Sp V:List α->Prop}(aN:bb<w.heap.size)(ap:US bb F (n-1) P gf lb Z Kp S Sp V w)(ak:∀{A B C:World},Kp A B->Kp B C->Kp A C)(an:∀(W:World)(l:Nat)(o o':Obj),w.heap.size<=l->W.heap[l]? = some o->o.isCells=false->o.isWalk=false->Kp W (W.putObj l o'))(aF:∀x,(Z x).size=ps.size)(I:List α->World->Prop)(Ix:Code->List α->World->Prop)(hI:OwnFrom w.heap.size I)(af:∀c,OwnFrom w.heap.size (Ix c))(aL:∀s W W',I s W->zh (·=bb) W W'->I s W')(h0:I [] w)(a₁:α->Nat->Act)(ob:α->Obj)(aC:∀(W:World)(o:Obj),w.heap.size<=W.heap.size->Kp W (W.alloc o))(ad:∀(l:Nat)(x:α)(W:World)(K:Act->World->Prop),K (a₁ x W.heap.size) (W.alloc (ob x))->
  assign.wpIn (F.inRound l) (n-1-1) P (Exit.then K (fun _ _ _=>False)) { tmps:=(ps.zip (Z x)).foldl (fun t (p,v)=>t.setIfInBounds p v) a.tmps,defers:=[]} W)(ai:∀(l:Nat)(h:List α)(x:α)(W:World)(g:Nat),w.heap.size<=g->W.heap[g]? = some (ob x)->I h W->V (h++[x])->body.wpIn (F.inRound l) (n-1-1) P (ownPostG w.heap.size Kp I Ix (h++[x]) W) (a₁ x g) W)(aj:∀(D:Nat)(xs:List α)(W:World),w.heap.size<=D->S xs->I xs W->W.heap[D]? = some (.deferred (some []))->Q .normal { a with defers:={ target:=.collected D,args:=#[]}::a.defers } W)(al:∀(D:Nat)(c:Code)(h:List α)(W:World),w.heap.size<=D->Sp h->Ix c h W->W.heap[D]? = some (.deferred (some []))->c.wpIn F n P Q { a with defers:={ target:=.collected D,args:=#[]}::a.defers } W):
 (Code.rangeFunc g ps assign body).wpIn F n P Q a w:=by
 refine wpIn_rangeFunc fun fn aI=>?_
 rw[aB]
 let ae:LoopState->Option Code->Loop:=fun L N=>{ state:=L,pending:=N,fn,tmps:=a.tmps,params:=ps,assign,body,defers:=w.heap.size }
 obtain⟨mk,O⟩:∃mk,mk=ae:=⟨_,rfl⟩;obtain⟨W1,ac⟩:∃W1,(w.alloc (.deferred (some []))).alloc (.loop (mk .ready none))=W1:=⟨_,rfl⟩;have aO:W1.heap.size=w.heap.size+1+1:=by rw[<-ac];simp
 have aD:W1.heap[w.heap.size+1]? = some (.loop (mk .ready none)):=by
  have:=World.alloc_heap_new (w.alloc (.deferred (some []))) (.loop (mk .ready none))
  rwa [World.size_alloc,ac]at this
 have ax:W1.heap[w.heap.size]? = some (.deferred (some [])):=by
  rw[<-ac];exact(Below.heap_alloc _ _ _ zp).trans (World.alloc_heap_new w _)
 have au:I [] W1:=by rw[<-ac];exact hI.alloc _ (hI.alloc _ h0)
 have aM:Bl w W1:=by rw[<-ac];exact((Below.refl _ w).alloc (zpx _) _).alloc zp _
 have X4:∀(W W':World),zh (·=bb) W W'->∀(k:Nat)(o:Obj),w.heap.size<=k->W.heap[k]? = some o->W'.heap[k]? = some o:=fun W W' hc k o hk ho=>(hc.block k (zpN.1 ho).1 zd).trans ho
 refine⟨w.heap.size+1,[{ target:=.collected w.heap.size,args:=#[]}],W1,{ target:=.fn (.func gf) lb,args:=#[.func (.yield (w.heap.size+1)) #[] #[]]},W1,gf,
  #[.func (.yield (w.heap.size+1)) #[] #[]]++lb,W1,?_,?_,?_,?_,fun _=>h1,?_⟩
 ·rw[<-ac,O];exact run_enterLoop_outer _ _ _ _ _
 ·simp only[resolve,hg];simp[go_sem]
 ·intro N L;simp[Target.leads]at L;subst L;exact ay
 ·simp[invoke,go_sem,eg]
 ·refine(ap (w.heap.size+1) (fun h W=>I h W/\W.heap[w.heap.size+1]? = some (.loop (mk .ready none))/\W.heap[w.heap.size]? = some (.deferred (some [])))
   (fun h W=>∃c,Ix c h W/\W.heap[w.heap.size+1]? = some (.loop (mk .done (some c)))/\W.heap[w.heap.size]? = some (.deferred (some []))) W1 aM
   (fun s W W' hs hc=>⟨aL _ _ _ hs.1 hc,X4 W W' hc _ _ zd hs.2.1,X4 W W' hc _ _ (zpx _) hs.2.2⟩) ?_ ⟨au,aD,ax⟩).mono ?_
  ·rintro h x W⟨hi,hl,hk⟩am;have az:w.heap.size+1<W.heap.size:=(zpN.1 hl).1;have hy:=run_yield (P:=P) (args:=Z x) hl (by rw[O];exact aF x);rw[O]at hy;obtain⟨Wa,aa⟩:∃Wa,W.alloc (ob x)=Wa:=⟨_,rfl⟩;have ah:Wa.heap[w.heap.size+1]? = some (.loop (mk .ready none)):=by rw[<-aa];exact(Below.heap_alloc W _ _ az).trans hl
   have av:Wa.heap[w.heap.size]? = some (.deferred (some [])):=by rw[<-aa];exact(Below.heap_alloc W _ _ zd).trans hk
   have aE:Wa.heap[W.heap.size]? = some (ob x):=by rw[<-aa];exact World.alloc_heap_new W _
   have aw:I h Wa:=by rw[<-aa];exact hI.alloc _ hi
   have aK:Kp W Wa:=by rw[<-aa];exact aC W _ zd
   have aH:w.heap.size+1<Wa.heap.size:=(zpN.1 ah).1;refine⟨fn,_,assign,body,hy,roundIn_of_wpIn aI (ad _ x W _ ?_)⟩;rw[aa];refine⟨_,run_beginRound ah (by rw[O]),?_⟩;obtain⟨W2,ab⟩:∃W2,Wa.putObj (w.heap.size+1) (.loop { mk .ready none with state:=.busy })=W2:=⟨_,rfl⟩;have aG:W2.heap[w.heap.size+1]? = some (.loop { mk .ready none with state:=.busy }):=ab▸World.putObj_heap_same aH;have aA:W2.heap[w.heap.size]? = some (.deferred (some [])):=ab▸(World.putObj_heap_other zd).trans av;have aJ:W2.heap[W.heap.size]? = some (ob x):=ab▸(World.putObj_heap_other zd).trans aE;have aq:Kp W W2:=ak aK (ab▸an _ _ _ _ zd ah rfl rfl);have ar:I h W2:=ab▸hI.putObj _ aw zd ah rfl;rw[ab];refine wpIn_mono (ai _ h x _ W.heap.size zd aJ ar am) ?_;have ag:∀(q:Option Code)(W3:World),KeepsFrom w.heap.size W2 W3->∃W4,W3.putObj (w.heap.size+1) (.loop (mk (if q.isNone then .ready else .done) q))=W4/\
    (Instr.endRound (w.heap.size+1) q).run P W3=.ok (.bool q.isNone) W4/\W3.heap[w.heap.size+1]? = some (.loop { mk .ready none with state:=.busy })/\
    W4.heap[w.heap.size+1]? = some (.loop (mk (if q.isNone then .ready else .done) q))/\W4.heap[w.heap.size]? = some (.deferred (some [])):=fun q W3 N=>by
    have L:=N.same _ _ zd aG rfl;have hr:=run_endRound (P:=P) q L;refine⟨_,rfl,?_,L,World.putObj_heap_same (zpN.1 L).1,(World.putObj_heap_other zd).trans (N.same _ _ (zpx _) aA rfl)⟩;rw[O]at hr ⊢;exact hr
   rintro e a3 W3 hp
   cases e with
   |normal=>
    obtain⟨N,ao,Y⟩:=hp;obtain⟨W4,R,hr,L,U,X⟩:=ag none W3 N;exact⟨_,W4,hr,.inl ⟨rfl,⟨R▸hI.putObj _ Y zd L rfl,U,X⟩,ak (ak aq ao) (R▸an _ _ _ _ zd L rfl rfl)⟩⟩
   |ret=>
    obtain⟨N,Y⟩:=hp;obtain⟨W4,R,hr,L,U,X⟩:=ag (some .ret) W3 N;exact⟨_,W4,hr,.inr ⟨rfl,.ret,R▸(af _).putObj _ Y zd L rfl,U,X⟩⟩
   |exit id=>
    obtain⟨N,Y⟩:=hp;obtain⟨W4,R,hr,L,U,X⟩:=ag (some (.exit id)) W3 N;exact⟨_,W4,hr,.inr ⟨rfl,(.exit id),R▸(af _).putObj _ Y zd L rfl,U,X⟩⟩
   |goto t=>
    obtain⟨N,Y⟩:=hp;obtain⟨W4,R,hr,L,U,X⟩:=ag (some (.goto t)) W3 N;exact⟨_,W4,hr,.inr ⟨rfl,(.goto t),R▸(af _).putObj _ Y zd L rfl,U,X⟩⟩
   |panic N=>exact hp.elim
   |outgrown=>exact hp.elim
  ·rintro e W2⟨⟨v,rfl⟩,(⟨xs,N,hi,hl,hk⟩ |⟨h,L,c,hi,hl,hk⟩)⟩
   ·have q:=run_endLoop (P:=P) hl (by rw[O];simp[ae]);rw[show(mk .ready none).pending=none by rw[O]]at q;exact⟨none,_,q,aj _ xs _ (zpx _) N (hI.putObj _ hi zd hl rfl) ((World.putObj_heap_other zd).trans hk)⟩
   ·have q:=run_endLoop (P:=P) hl (by rw[O];simp[ae]);rw[show(mk .done (some c)).pending=some c by rw[O]]at q;exact⟨some c,_,q,al _ c h _ (zpx _) L ((af c).putObj _ hi zd hl rfl) ((World.putObj_heap_other zd).trans hk)⟩
end
end
section
def down(n j:Nat):List Nat:=(List.range (n-j)).map fun t=>n-1-t
theorem zdO(h:i<n):down n (i+1)++[i]=down n i:=by
 unfold down;rw[show n-i=(n-(i+1))+1 from zd,zrf,zp1,zqH,show n-1-(n-(i+1))=i from zd]
theorem zmL(n:Nat):down n n=[]:=by unfold down;rw[zrp];rfl
theorem zm0{j:Nat}(h:i∈down n j):i<n:=by
 unfold down at h;obtain⟨t,q,rfl⟩:=zp8.1 h;have:=zqA.1 q;omega
theorem zjp(h:i<n):i∈down n 0:=by
 unfold down;exact zp8.2 ⟨n-1-i,zqA.2 zd,zd⟩
def Y9(l:List Tm)(i:Nat):Tm:=l.getD i ⟨⟨#[]⟩,Vl.zero⟩
def zaw(l:List Tm)(i:Nat):Array Value:=#[.int .i64 (i:Int),.agg (Y9 l i).cells.toArray]
structure Uj (w:World) (bb:Nat) (W W':World):Prop where
 b:Below w.heap.size W W'
 box:W'.heap[bb]? = W.heap[bb]?
theorem znB{X Y Z:World}(h:Uj w bb X Y)(k:Uj w bb Y Z):Uj w bb X Z:=⟨h.b.trans k.b,k.box.trans h.box⟩
def DN:Value->Nat
 |.int _ n=>(n+1).toNat
 |_=>0
theorem Tt(n:Int):DN (.int .i64 n)=(n+1).toNat:=rfl
theorem zhg(w:World)(A:Option Addr)(n cap:Nat):Calls prog 201 #[.slice A n cap] w fun e h=>e=.returned (.func (.func 243) #[] #[.pointer (some ⟨w.heap.size,0,none⟩)])/\h=w.alloc (.cells #[.slice A n cap] 83):=by
 go_enter func201,ntmps201;go_wp2;go_returns;exact⟨rfl,rfl⟩
attribute [local go_sem] Oper.semAt_some
theorem zlu{k:Nat}{w0:World}(ad:1<=k)(A:Option Addr)(n cap:Nat)(l:List Tm)(hn:l.length=n)(af:n<=4194304)(hl:zZ Tm.cells w A l)(hw:Bl w w0)(hk:zD w0 bb 83 #[.slice A n cap]):
 US bb Fence.wide k prog 243 #[.pointer (some ⟨bb,0,none⟩)] (zaw l) (Uj w bb) (fun R=>R=down n 0) (fun _=>True) (fun I=>∃j,I=down n j) w0:=fun q J U W h L O N=>by
 have aa:=zz O;have H0:=zz N;have HK:=zz (hk.below h);have HL:=zz hl;have HN:=zz hn;have HB:Kz (Bl w W):=hw.trans (h.mono hw.size);clear O L N hk h hl hn hw;refine callsIn_of_wp func243 rfl trivial ?_ rfl;show Code.wpIn _ _ _ _ _ { tmps:=#[.func (.yield q) #[] #[],.pointer (some ⟨bb,0,none⟩)]++_,defers:=[]} _;simp only[ntmps243,zq0,zpV,zqd,Nat.reduceAdd,Nat.reduceSub,zq7,zq8,zrn,zrg,zpI,zpJ];have Z:=HK.o.cell 0
 gi_wp2
 clear Z
 gi_loopw [3] (fun h wr=>∃(j:Nat) (v:Int),h=.int .i64 v/\v=(j:Int)-1/\j<=n/\zD wr bb 83 #[.slice A n cap]/\Bl w wr/\J (down n j) wr)
  (fun h _=>DN h)
 case atStart=>exact⟨n,_,rfl,rfl,zpx _,HK.o,HB.o,by rw[zmL];exact H0.o⟩
 case round=>
  obtain⟨j,v,rfl,hv,hj,h,L,I⟩:=hrel;have Z:=h.cell 0;have O:=zz I;have ab:=zz h;have Hb:=zz L;clear I h L
  cases j with
  |zero=>
   obtain rfl:v=-1:=zd;clear hv hj
   gi_wp2
   go_end0;exact⟨⟨_,rfl⟩,.inl ⟨_,rfl,O.o⟩⟩
  |succ i=>
   obtain rfl:v=(i:Int):=zd;have hd:decide ((i:Int) ≥ 0)=true:=zp;have I:i<n:=zd;have L:i<l.length:=by rw[HN.o];exact I
   obtain⟨b,o,rfl,ae,N⟩:=(HL.o.below Hb.o).at Tm.xG i L;have h:=aa.o (down n (i+1)) i _ O.o ⟨i,zdO I⟩;have U:Y9 l i=l[i]:=by unfold Y9;rw[zpW,zpF L];rfl
   unfold zaw at h;rw[U]at h;generalize l[i]=t at N h;obtain⟨v,k,m,s⟩:=t;simp only[Tm.cells]at N h
   replace N:wr.rangeAt b (o+i*4) _:=N
   obtain⟨d0,d1,d2,d3⟩:=four N;obtain⟨fn,R,V,ac,hy,hR⟩:=h;have X:=zz (zdO I);clear N U hv hj L
   gi_wp2
   refine hR.mono ?_;rintro e W3 (⟨rfl,L,U⟩ |⟨rfl,N⟩)
   ·have Y:=zz L;have h:=zz U;clear L U d0 d1 d2 d3 Z
    gi_wp2
    go_roundw
    case rel=>exact⟨i,_,rfl,rfl,zd,ab.o.same h.o.box,Hb.o.trans h.o.b,by rw[<-X.o];exact Y.o⟩
    case measure=>rw[Tt,Tt];omega
   ·gi_wp2
    refine bodyPost_ret (results_none rfl _ _ _) rfl ?_;exact⟨⟨_,rfl⟩,.inr ⟨_,trivial,N⟩⟩
attribute [local go_sem] Oper.semAt_some
def zkp(ρ:Env)(f:Value->Option Value):Prop:=∀h q,f h=some q->∃v,h=.string v/\q=.agg ((ρ v).getD Vl.zero).cells.toArray
def U8(w:World)(I:Array Value)(h:Nat)(ρ:Env)(l:List Tm)(q:List Nat)(W:World):Prop:=
 zD W w.heap.size 48 I/\zD W (w.heap.size+1) 43 #[.int .i8 0,.int .i64 0,.string ⟨#[]⟩]/\zD W (h+1) 140 #[.map (some h)]/\
  (∃f,xv prog 9 W h f/\zkp ρ f/\∀i∈q,(f (.string (Y9 l i).v)).isSome=true)/\Bl w W
theorem xv.grownBy{P:Program}{k:TypeId}{b:Nat}{f:Value->Option Value}{row:Option Nat}(h:xv P k W b f)(N:b<B)(L:W.grownBy q row)(I:∀r,row=some r->B<=r/\∃o:Obj,W.heap[r]? = some o/\o.isCells=false):xv P k q b f:=
 h.same (L.block b h.lt (fun e=>by have:=(I b e.symm).1;omega))
theorem zl8{Y:Array Value}{l:List Tm}(X:I<B)(Z:w.heap.size<=B):OwnFrom B (U8 w Y I ρ l):=fun _ _ _ _ ⟨O,U,N,⟨f,W,R,V⟩,L⟩ h q=>
 ⟨O.grownBy h q,U.grownBy h q,N.grownBy h q,⟨f,W.grownBy X h q,R,V⟩,L.grown h L.size (fun k e=>zpK Z (q k e).1)⟩
theorem zlc{N:Array Value}{q:Nat}{l:List Tm}(Z:w.heap.size+1+1<=q):∀s W I,U8 w N q ρ l s W->zh (·=q+1+1) W I->U8 w N q ρ l s I:=fun _ _ _ ⟨R,V,O,⟨f,Y,U,X⟩,L⟩ h=>
 ⟨R.zC h zd,V.zC h zd,O.zC h zd,⟨f,Y.zC h zd,U,X⟩,L.trans (h.below L.size (fun x I=>zd))⟩
theorem zkC(hw:w.heap.size<=q.heap.size)(O:bb<q.heap.size)(W:World)(l:Nat)(o o':Obj)(I:q.heap.size<=l)(h:W.heap[l]? = some o)(N:o.isCells=false)(L:o.isWalk=false):Uj w bb W (W.putObj l o'):=
 ⟨belowK_b (w:=q) hw W l o o' I h N L,World.putObj_heap_other zd⟩
theorem zlA(hw:w.heap.size<=q.heap.size)(I:bb<q.heap.size)(W:World)(o:Obj)(h:q.heap.size<=W.heap.size):Uj w bb W (W.alloc o):=
 ⟨(Below.refl _ W).alloc zd o,Below.heap_alloc W o bb zd⟩
theorem zhO{N:World}(L:zh (·=I) W N)(h:I<B):KeepsFrom B W N:=⟨L.size,fun k o O q _=>(L.block k (zpN.1 q).1 zd).trans q⟩
theorem zhS(w:World)(tk:Nat->Int)(hT:Tk w tk)(ρ:Env)(hρ:∀v x,ρ v=some x->x.ok)(e:Ex)(hl:e.zN w)(ak:e.ok 8)(A:Option Addr)(n cap:Nat)(l:List Tm)(hr:zZ Tm.cells w A l)(hn:l.length=n)(aw:n<=4194304)(hb:∀b∈l,b.x=(ρ b.v).getD Vl.zero/\b.v.size<=maxLen)(hc:∀t∈e.zO,t.v.toList≠[]->∃b∈l,b.v=t.v):
 Calls prog 142 #[.agg e.cells.toArray,.slice A n cap] w (y6 (e.ev tk ρ) w):=by
 have am:=zz (fun W (I:Bl w W)=>D8 W e (hl.below I) ak);have ad:=zz (fun W (I:Bl w W)=>zbW tk ρ hρ 8 e W (hT.below I (zpx _)) (hl.below I) ak);have Hr:=zz hr;have Hn:=zz hn;have Hb:=zz hb;have Hc:=zz hc;obtain⟨r,L⟩:∃r,e.ev tk ρ=r:=⟨_,rfl⟩;rw[L]at ad ⊢;obtain⟨T,I⟩:∃T,e.zO=T:=⟨_,rfl⟩;rw[I]at ad Hc;clear L I hT hl ak hr hn hb hc;obtain⟨q,⟨v,k,m,s⟩,A1,U,aq⟩:=e;simp only[Ex.cells,Tm.cells]at am ad ⊢;generalize aq.length=N at am ad ⊢;obtain⟨W0,ax,I⟩:=yb w 48 43 #[.int .i8 q,.string v,.int .i8 k,.int .i64 m,.string s,.slice A1 N U] #[.int .i8 0,.int .i64 0,.string ⟨#[]⟩];have HX:=zz I;have c0:=I.b0.cell 0;have c1:=I.b0.cell 1;have c2:=I.b0.cell 2;have c3:=I.b0.cell 3;have c4:=I.b0.cell 4;have c5:=I.b0.cell 5;clear I;have ay:=@run_makeMap prog;refine(callsIn_wide (n:=3)).1 ?_;refine callsIn_of_wp_marks func142 rfl trivial ?_ rfl;simp only[ntmps142,zq0,zpV,zqd,Nat.reduceAdd,Nat.reduceSub,zq7,zq8,zrn,zrg,zpI,zpJ]
 gi_wp2_with (first
  |(refine⟨trivial,?_⟩;gi_at_call 177;refine(callsIn_wide.2 (am.o _ HX.o.below)).mono ?_;rintro e R⟨rfl,av⟩;have ar:=zz av;clear av c0 c1 c2 c3 c4 c5)
  |(refine⟨trivial,?_⟩;gi_at_call 201;refine(callsIn_wide.2 (zhg _ _ _ _)).mono ?_;rintro e w2⟨rfl,rfl⟩))
 have Y:=ar.o.size;have ab:=HX.o.size;have V:xv prog 9 (R.alloc (.map #[] 0)) R.heap.size (fun _=>none):=xv.new R 0;obtain⟨W2,L⟩:∃W2,R.alloc (.map #[] 0)=W2:=⟨_,rfl⟩;rw[L]at V;have O:W2.heap.size=R.heap.size+1:=by rw[<-L];simp
 have aa:Bl R W2:=by rw[<-L];exact xq R _
 obtain⟨W4,X,I⟩:=yb W2 140 83 #[.map (some R.heap.size)] #[.slice A n cap];rw[L,X];have al:=I.size;rw[O]at al;have k2:=I.b0;have k3:=I.b1;rw[O]at k2 k3;have ai:Bl W0 W4:=zl ar.o (zl aa I.below);have ac:Bl w W4:=zl HX.o.below ai;have ap:xv prog 9 W4 R.heap.size (fun _=>none):=V.below I.below;have au:U8 w #[.int .i8 q,.string v,.int .i8 k,.int .i64 m,.string s,.slice A1 N U] R.heap.size ρ l [] W4:=
  ⟨HX.o.b0.below ai,HX.o.b1.below ai,k2,⟨_,ap,(fun _ _ h=>by cases h),(fun _ h=>by cases h)⟩,ac⟩
 have an:w.heap.size+1+1<=R.heap.size:=zd;have Z:=zz al;have ae:=zz an;clear L X I O aa V k2 Y ab;refine zca rfl zd (gf:=243) (lb:=#[.pointer (some ⟨R.heap.size+1+1,0,none⟩)]) rfl trivial (enters_of func243 zo rfl) (bb:=R.heap.size+1+1) (by rw[Z.o];omega)
  (zlu zd A n cap l Hn.o aw Hr.o ac k3) znB (zkC ac.size (by rw[Z.o];omega)) (fun _=>rfl)
  (U8 w #[.int .i8 q,.string v,.int .i8 k,.int .i64 m,.string s,.slice A1 N U] R.heap.size ρ l) (fun _ _ _=>False)
  (zl8 (by rw[Z.o];omega) ac.size) (fun c _ _ _ _ h _ _=>h) (zlc an) au
  (fun x g=>{ tmps:=#[.agg #[.int .i8 q,.string v,.int .i8 k,.int .i64 m,.string s,.slice A1 N U],.slice A n cap,.pointer (some ⟨w.heap.size,0,none⟩),undef,.pointer (some ⟨w.heap.size+1,0,none⟩),.bool false,.pointer (some ⟨R.heap.size+1,0,none⟩),undef,.pointer (some ⟨g,0,none⟩),.agg #[.int .i8 q,.string v,.int .i8 k,.int .i64 m,.string s,.slice A1 N U],.int .i64 0,.bool false,undef,.map (some R.heap.size),.slice A n cap,.func (.func 243) #[] #[.pointer (some ⟨R.heap.size+1+1,0,none⟩)],.int .i64 (x:Int),.agg (Y9 l x).cells.toArray,undef,undef,undef,undef,undef,undef,undef,undef,undef,undef],defers:=[]})
  (fun x=>.cells (Y9 l x).cells.toArray 91) (zlA ac.size (by rw[Z.o];omega)) ?assign ?body ?done ?stop
 case assign=>
  intro q x W K hK;unfold zaw;generalize Y9 l x=y at hK ⊢;obtain⟨v2,k2,m2,s2⟩:=y;simp only[Tm.cells]at hK ⊢
  gi_wp2
  exact hK
 case stop=>
  rintro D c af W hD I h hK;exact h.elim
 case body=>
  rintro lk af x W g hg L hI⟨j,hj⟩;have V:x<n:=zm0 (n:=n) (j:=j) (by rw[<-hj];simp);have I:x<l.length:=by rw[Hn.o];exact V
  have O:Y9 l x=l[x]:=by unfold Y9;rw[zpW,zpF I];rfl
  obtain⟨X,Y⟩:=Hb.o (Y9 l x) (O▸zpB I);clear O I V hj;obtain⟨I,h1,h2,⟨f,h3,h4,h5⟩,h6⟩:=hI;obtain⟨y,O⟩:∃y,Y9 l x=y:=⟨_,rfl⟩;have Hy:=zz O;rw[O]at X Y L ⊢;clear O;obtain⟨W',ah,ab,aa⟩:=h3.put q8 underlying140 (ye Y) (.agg y.x.cells.toArray);have O:zh (·=R.heap.size) W W':=(zh.refl _ W).yu aa (fun _=>rfl);have HC:=zz O;have HI:=zz (show U8 w #[.int .i8 q,.string v,.int .i8 k,.int .i64 m,.string s,.slice A1 N U] R.heap.size ρ l (af++[x]) W' from
   ⟨I.zC O (by have:=ae.o;omega),h1.zC O (by have:=ae.o;omega),h2.zC O zd,⟨_,ab,fun V ag h=>by
    by_cases e:V=.string y.v
    ·simp only[e,if_true]at h
     cases h
     exact⟨y.v,e,by rw[X]⟩
    ·simp only[e,if_false]at h;exact h4 V ag h,fun i hi=>by
    by_cases e:(Value.string (Y9 l i).v)=.string y.v
    ·simp only[e,if_true];rfl
    ·simp only[e,if_false]
     rcases zpE.1 hi with h|h
     ·exact h5 i h
     ·rw[zpy.1 h,Hy.o]at e;exact absurd rfl e⟩,h6.trans (O.below h6.size (fun z hz=>by have:=ae.o;omega))⟩)
  have aj:w.heap.size+1+1<=W.heap.size:=by have:=h1.lt;omega
  have V:R.heap.size+1+1<W.heap.size:=by have:=(zpN.1 L).1;rw[Z.o]at hg;omega
  have HK:=zz (show Uj w (R.heap.size+1+1) W W' from⟨O.below zd (fun z hz=>by have:=ae.o;omega),O.block _ V zd⟩);have HF:Kz (KeepsFrom W4.heap.size W W'):=zhO O (by rw[Z.o];omega);have kg:zD W g 91 y.cells.toArray:=L;obtain⟨v2,k2,m2,s2⟩:=y;simp only[Tm.cells,Vl.cells]at kg ah ⊢;have d0:=kg.cell 0;have d1:=kg.cell 1;have d2:=kg.cell 2;have d3:=kg.cell 3;have c0:=h2.cell 0;clear I h1 h2 h3 h4 h5 h6 X Y O ab aa aj V kg L hg
  gi_wp2
  exact⟨HF.o,HK.o,HI.o⟩
 case done=>
  rintro D xs W hD rfl⟨I,h1,h2,⟨f,h3,h4,h5⟩,h6⟩hK;have hE:zaD ρ f T:=fun t L O=>by
   obtain⟨b,hb,Y⟩:=Hc.o t L O;obtain⟨i,hi,aa⟩:=List.getElem_of_mem hb;have hs:=h5 i (zjp (by rw[<-Hn.o];exact hi));have X:Y9 l i=b:=by unfold Y9;rw[zpW,zpF hi,aa];rfl
   rw[X,Y]at hs;obtain⟨ag,L⟩:=zqq.1 hs;obtain⟨v',V,O⟩:=h4 _ _ L;injection V with V
   rw[L,zqr,O,<-V]
  have af:=zz (ad.o W h6 R.heap.size f h3 hE);have c0:=I.cell 0;have c1:=I.cell 1;have c2:=I.cell 2;have c3:=I.cell 3;have c4:=I.cell 4;have c5:=I.cell 5;have c6:=h2.cell 0;have H1:=zz h1;have HW:=zz h6;have HK:=zz hK;have Hd:=zz (show w.heap.size+1+1<=D by have:=Z.o;have:=ae.o;omega);clear I h1 h2 h3 h4 h5 h6 hE hK hD ac ai k3 au ap al an
  cases r with
  |none=>
   gi_wp2_with (refine⟨trivial,?_⟩;gi_at_call 202;refine(callsIn_wide.2 af.o).mono ?_;rintro e w3⟨⟨⟨zk,zn,zs⟩,rfl⟩,V⟩;simp only[Vl.cells];have I:=H1.o.below V;have e0:=I.cell 0;have e1:=I.cell 1;have e2:=I.cell 2;have f0:=I.frozen 0;have f1:=I.frozen 1;have f2:=I.frozen 2;have X:=zz V;have HS:=zz (Gx (a0:=0) I [.int .i8 zk,.int .i64 zn,.string zs] zp);clear V I c0 c1 c2 c3 c4 c5 c6)
   clear e0 e1 e2 f0 f1 f2;obtain⟨O,ag⟩:∃O,(((w3.setCell ⟨w.heap.size+1,0,none⟩ (.int .i8 zk)).setCell ⟨w.heap.size+1,1,none⟩ (.int .i64 zn)).setCell ⟨w.heap.size+1,2,none⟩ (.string zs))=O:=⟨_,rfl⟩;have L:XX w3 (w.heap.size+1) 43 #[.int .i8 zk,.int .i64 zn,.string zs] O:=by rw[<-ag];exact HS.o
   rw[ag];have ah:D<W.heap.size:=(zpN.1 HK.o).1;have Y:O.heap[D]? = some (.deferred (some [])):=(L.zC.block D (zpz ah X.o.size) (by have:=Hd.o;omega)).trans ((X.o.block D ah).trans HK.o);have aa:=grownBy_putObj' O D (.deferred none);have ab:∀r,some D=some r->∃o,O.heap[r]? = some o/\o.isCells=false:=fun r e=>by cases e;exact⟨_,Y,rfl⟩
   have y0:=cell_kept (show O.cell? ⟨w.heap.size+1,0,none⟩=some (.int .i8 zk)from L.zH.cell 0) aa ab;have y1:=cell_kept (show O.cell? ⟨w.heap.size+1,1,none⟩=some (.int .i64 zn)from L.zH.cell 1) aa ab;have y2:=cell_kept (show O.cell? ⟨w.heap.size+1,2,none⟩=some (.string zs)from L.zH.cell 2) aa ab;refine⟨zp,.inl ⟨_,_,rfl,run_takeDeferred Y,?_⟩⟩;refine⟨.tuple #[.agg #[.int .i8 zk,.int .i64 zn,.string zs],.bool false],by simp[results,results142,go_sem,y0,y1,y2],?_⟩;have ao:Bl w O:=L.below (zl HW.o X.o) (zpx _) (zqG _);have aj:=ao.trans (belowK_b (w:=w) (zpx _) O D _ (.deferred none) (by have:=Hd.o;omega) Y rfl rfl);exact .Zx (x:=⟨zk,zn,zs⟩) rfl aj
  |some x=>
   obtain⟨zk,zn,zs⟩:=x
   gi_wp2_with (refine⟨trivial,?_⟩;gi_at_call 202;refine(callsIn_wide.2 af.o).mono ?_;rintro e w3⟨rfl,V⟩;simp only[Vl.cells];have I:=H1.o.below V;have e0:=I.cell 0;have e1:=I.cell 1;have e2:=I.cell 2;have f0:=I.frozen 0;have f1:=I.frozen 1;have f2:=I.frozen 2;have X:=zz V;have HS:=zz (Gx (a0:=0) I [.int .i8 zk,.int .i64 zn,.string zs] zp);clear V I c0 c1 c2 c3 c4 c5 c6)
   clear e0 e1 e2 f0 f1 f2;obtain⟨O,ag⟩:∃O,(((w3.setCell ⟨w.heap.size+1,0,none⟩ (.int .i8 zk)).setCell ⟨w.heap.size+1,1,none⟩ (.int .i64 zn)).setCell ⟨w.heap.size+1,2,none⟩ (.string zs))=O:=⟨_,rfl⟩;have L:XX w3 (w.heap.size+1) 43 #[.int .i8 zk,.int .i64 zn,.string zs] O:=by rw[<-ag];exact HS.o
   rw[ag];have ah:D<W.heap.size:=(zpN.1 HK.o).1;have Y:O.heap[D]? = some (.deferred (some [])):=(L.zC.block D (zpz ah X.o.size) (by have:=Hd.o;omega)).trans ((X.o.block D ah).trans HK.o);have aa:=grownBy_putObj' O D (.deferred none);have ab:∀r,some D=some r->∃o,O.heap[r]? = some o/\o.isCells=false:=fun r e=>by cases e;exact⟨_,Y,rfl⟩
   have y0:=cell_kept (show O.cell? ⟨w.heap.size+1,0,none⟩=some (.int .i8 zk)from L.zH.cell 0) aa ab;have y1:=cell_kept (show O.cell? ⟨w.heap.size+1,1,none⟩=some (.int .i64 zn)from L.zH.cell 1) aa ab;have y2:=cell_kept (show O.cell? ⟨w.heap.size+1,2,none⟩=some (.string zs)from L.zH.cell 2) aa ab;refine⟨zp,.inl ⟨_,_,rfl,run_takeDeferred Y,?_⟩⟩;refine⟨.tuple #[.agg #[.int .i8 zk,.int .i64 zn,.string zs],.bool true],by simp[results,results142,go_sem,y0,y1,y2],?_⟩;have ao:Bl w O:=L.below (zl HW.o X.o) (zpx _) (zqG _);have aj:=ao.trans (belowK_b (w:=w) (zpx _) O D _ (.deferred none) (by have:=Hd.o;omega) Y rfl rfl);exact .Yx rfl aj
theorem zgC:qB prog 83 91 4 48:=qB.of (z:=.agg #[.string ⟨#[]⟩,.int .i8 0,.int .i64 0,.string ⟨#[]⟩]) underlying83 zo rfl zr
def DH(ρ:Env)(f:Value->Option Value):Prop:=∀v:ByteArray,v.toList≠[]->(f (.string v)).getD (.agg Vl.zero.cells.toArray)=.agg ((ρ v).getD Vl.zero).cells.toArray
theorem zba:∀{d:Nat}{e:Ex},e.ok d->∀t∈e.zO,t.v.size<=maxLen/\t.v.toList≠[95]
 |0,e,h,_,_=>by unfold Ex.ok at h;exact h.elim
 |d+1,.mk q t A V L,h,u,I=>by
  unfold Ex.ok at h;unfold Ex.zO at I
  rcases h with⟨-,rfl,N⟩ |⟨-,N,-,O⟩
  ·rcases zpU.1 I with rfl|I
   ·exact⟨N.small,N.1⟩
   ·unfold Ex.qq at I;cases I
  ·rcases zpU.1 I with rfl|I
   ·obtain⟨R,-⟩:=N;rw[R];exact⟨zpD _,zp⟩
   ·have R:∀l:List Ex,(∀k∈l,k.ok d)->∀u∈Ex.qq l,u.v.size<=maxLen/\u.v.toList≠[95]:=fun l=>by
     induction l with
     |nil=>intro _ u I;unfold Ex.qq at I;cases I
     |cons a l W=>
      intro U u I;unfold Ex.qq at I
      rcases zpE.1 I with h|h
      ·exact zba (U a zpP) u h
      ·exact W (fun k O=>U k (zpQ _ O)) u h
    exact R L O u I
noncomputable def Gr(ρ:Env)(vs:List ByteArray):List Tm:=vs.map fun v=>⟨v,(ρ v).getD Vl.zero⟩
theorem zaX(w:World)(tk:Nat->Int)(hT:Tk w tk)(ρ:Env)(hρ:∀v x,ρ v=some x->x.ok)(e:Ex)(hl:e.zN w)(X:e.ok 8)(V:e.zO.length<=1048576)(sb kb:Nat)(cs:Array Value)(hs:zD w sb 142 cs)(am:cs[1]? = some (.map (some kb)))(f:Value->Option Value)(hm:xv prog 9 w kb f)(hf:DH ρ f):
 Calls prog 328 #[.pointer (some ⟨sb,0,none⟩),.agg e.cells.toArray] w (y6 (e.ev tk ρ) w):=by
 have R:=fun t V=>(zba X t V).1
 have Hv:=zz (fun W (L:Bl w W)=>TG W e (hl.below L) V R);have al:Kz (e.vars.length<=1048576):=zpK (YY e.zO) V;have ad:=zz (show ∀v∈e.vars,v.toList≠[]/\v.size<=maxLen from fun v U=>by
  obtain⟨Y,t,V,rfl⟩:=qJ.1 U;exact⟨Y.1,R t V⟩)
 have O:=zz (fun W (L:Bl w W) A n I (hr:zZ Tm.cells W A (Gr ρ e.vars)) (Z:(Gr ρ e.vars).length=n) (aA:n<=4194304)=>
  zhS W tk (hT.below L (zpx _)) ρ hρ e (hl.below L) X A n I (Gr ρ e.vars) hr Z aA
   (fun b Z=>by
    obtain⟨v,U,rfl⟩:=zp8.1 Z;exact⟨rfl,(ad.o v U).2⟩)
   (fun t V U=>⟨⟨t.v,(ρ t.v).getD Vl.zero⟩,zp8.2 ⟨t.v,qJ.2 ⟨⟨U,(zba X t V).2⟩,t,V,rfl⟩,rfl⟩,rfl⟩))
 have Hs:=zz (fun W (L:Bl w W)=>(hs.below L).cell 1 |>.trans am);have Hm:=zz (fun W (L:Bl w W) (v:ByteArray) (Y:v.toList≠[]) (U:v.size<=maxLen)=>show(Instr.lookup 140 (.map (some kb)) (.string v) false).run prog W=.ok (.agg ((ρ v).getD Vl.zero).cells.toArray) W from by
  have:=(hm.below L).look q8 underlying140 (z:=.agg Vl.zero.cells.toArray) zo (ye U) false;simp only[zqw,if_false]at this;rw[this,hf v Y])
 obtain⟨r,U⟩:∃r,e.ev tk ρ=r:=⟨_,rfl⟩;obtain⟨Y,L⟩:∃Y,e.vars=Y:=⟨_,rfl⟩;rw[L]at Hv al ad O;rw[U]at O ⊢;clear U L hT hl X V hs am hm hf R;obtain⟨q,⟨v,k,m,s⟩,A1,ap,ai⟩:=e;simp only[Ex.cells,Tm.cells]at Hv O ⊢;generalize ai.length=N at Hv O ⊢;obtain⟨W0,R,L⟩:=yb w 48 43 #[.int .i8 q,.string v,.int .i8 k,.int .i64 m,.string s,.slice A1 N ap] #[.int .i8 0,.int .i64 0,.string ⟨#[]⟩];have HX:=zz L;have c0:=L.b0.cell 0;have c1:=L.b0.cell 1;have c2:=L.b0.cell 2;have c3:=L.b0.cell 3;have c4:=L.b0.cell 4;have c5:=L.b0.cell 5;clear L;go_enter func328,ntmps328;go_upto_region 1 with fail
 try rw[R]
 clear R
 go_wp2_with (go_at_call 117;refine(Hv.o _ HX.o.below).mono ?_;rintro e w1⟨A2,aF,n2,rfl,av,ao,an,aD⟩;have ab:=zz an;have az:=zz ao;have ae:=zz av;clear an ao av aD c0 c1 c2 c3 c4 c5)
 have Z:=zz (show n2<=1048576 by rw[<-ae.o];exact al.o)
 go_loopg[6,12] n2 (fun gk U L R=>∃(i:Nat) (A:Option Addr) (I:Nat) (ys:List Tm),i<=n2/\gk=n2-i/\L=.int .i64 (i:Int)/\U=.slice A i I/\ys.length=i/\ys=Gr ρ (Y.take i)/\Own Tm.cells 91 4 R A I ys/\(∀g∈zw A,w1.heap.size<=g)/\Bl w1 R)
 case atStart=>exact⟨0,none,0,[],zpD _,rfl,rfl,rfl,rfl,rfl,Own.qz _,by simp[zw],Below.refl _ _⟩
 case round=>
  obtain⟨i,A',ak,ys,hi,rfl,rfl,rfl,I,L,ho,hg,R⟩:=hrel;have aa:=zz I;have aj:=zz L;have Ho:=zz ho;have Hg:=zz hg;have HB:=zz R;have U:Kz (Bl w wr):=zl HX.o.below (zl ab.o R);clear I L ho hg R
  by_cases ay:i<n2
  ·have af:i<Y.length:=by rw[ae.o];exact ay
   obtain⟨b,o,rfl,aG,hr⟩:=(az.o.xI.below HB.o).at (c:=0) (fun _=>rfl) i af;obtain⟨R,ac⟩:=ad.o _ (zpB af);have ag:=zz (show Y.take (i+1)=Y.take i++[Y[i]] by rw[List.take_add_one,zpF af];rfl);generalize Y[i]=u at hr R ac ag
   replace hr:wr.rangeAt b (o+i*1) [.string u]:=hr
   have d0:wr.cell? ⟨b,o+i,none⟩=some (.string u):=by simpa using hr 0 _ rfl
   have I:=Hm.o wr U.o u R ac;obtain⟨⟨xk,xn,xs⟩,hx⟩:∃x,(ρ u).getD Vl.zero=x:=⟨_,rfl⟩;have Hx:=zz hx;rw[hx]at I;simp only[Vl.cells]at I;have s1:=Hs.o wr U.o;have aE:i<=1048576:=zpK hi Z.o;clear hr R ac hx
   go_wp2_with (at_builtin;refine ZP zgC (f:=Tm.cells) (xs:=ys) (Ho.o.alloc _) aa.o ⟨u,⟨xk,xn,xs⟩⟩ ?_)
   intro g ac w5 R au aw;have ar:zh (·∈zw A') wr w5:=((zh.refl _ wr).alloc _).trans au (fun x hx _=>hx);have aq:Bl w1 w5:=ar.qt HB.o (zpx _) Hg.o;have ah:w1.heap.size<=g:=by
    rcases aw with h|h
    ·exact Hg.o g h
    ·have h4:=HB.o.size;try simp at h
     omega
   have ax:=zz R;have aC:=zz aq;have aB:=zz ah;clear R au aw ar aq ah d0 s1 I;go_wp2
   go_roundg (n2-(i+1))
   case measure=>omega
   case rel=>
    exact⟨i+1,some ⟨g,0,none⟩,ac,ys++[⟨u,⟨xk,xn,xs⟩⟩],zd,rfl,ze,rfl,by simp[aa.o],by rw[ag.o,aj.o];unfold Gr;rw[zp1,zqH,Hx.o],ax.o,xY aB.o,aC.o⟩
  ·obtain rfl:i=n2:=zd;have L:=aj.o;rw[zpT (zq4 ae.o)]at L;have R:=zz (O.o wr U.o A' i ak (by rw[<-L];exact Ho.o.xI) (by rw[<-L];exact aa.o) (by have:=Z.o;omega));have I:=HX.o.b0.below (zl ab.o HB.o);have c0:=I.cell 0;have c1:=I.cell 1;have c2:=I.cell 2;have c3:=I.cell 3;have c4:=I.cell 4;have c5:=I.cell 5;have HZ:=zz (HX.o.b1.below (zl ab.o HB.o));clear L I
   cases r with
   |none=>
    go_wp2_with (first
     |(go_at_call 142;refine R.o.mono ?_;rintro e w3⟨⟨⟨zk,zn,zs⟩,rfl⟩,L⟩;simp only[Vl.cells];have ac:=zz (zl U.o L);have af:=zz (HZ.o.below L);clear L c0 c1 c2 c3 c4 c5)
     |(refine xy 43 _ _ rfl ?_;refine yH 43 (w.heap.size+1) 0 af.o [.int .i8 zk,.int .i64 zn,.string zs] ?_;intro W9 I;have z0:=I.zH.cell 0;have z1:=I.zH.cell 1;have z2:=I.zH.cell 2;have HF:=zz I;clear I))
    simp only[zpY,zpI,zpL,zpJ,zpH,zpM]at z0 z1 z2;refine bodyPost_ret (v:=.tuple #[.agg #[.int .i8 zk,.int .i64 zn,.string zs],.bool false]) (by simp[results,results328,go_sem,z0,z1,z2]) rfl ?_;exact .Zx (x:=⟨zk,zn,zs⟩) rfl (HF.o.below ac.o (zpx _) (zqG _))
   |some x=>
    obtain⟨zk,zn,zs⟩:=x
    go_wp2_with (first
     |(go_at_call 142;refine R.o.mono ?_;rintro e w3⟨rfl,L⟩;simp only[Vl.cells];have ac:=zz (zl U.o L);have af:=zz (HZ.o.below L);clear L c0 c1 c2 c3 c4 c5)
     |(refine xy 43 _ _ rfl ?_;refine yH 43 (w.heap.size+1) 0 af.o [.int .i8 zk,.int .i64 zn,.string zs] ?_;intro W9 I;have z0:=I.zH.cell 0;have z1:=I.zH.cell 1;have z2:=I.zH.cell 2;have HF:=zz I;clear I))
    simp only[zpY,zpI,zpL,zpJ,zpH,zpM]at z0 z1 z2;refine bodyPost_ret (v:=.tuple #[.agg #[.int .i8 zk,.int .i64 zn,.string zs],.bool true]) (by simp[results,results328,go_sem,z0,z1,z2]) rfl ?_;exact .Yx rfl (HF.o.below ac.o (zpx _) (zqG _))
end
end Go.Proofs.YtfdickkdlcgicaaGreatDoor.C
namespace Go.Proofs.YtfdickkdlcgicaaGreatDoor
open Go.Proofs.Tryz Go Go.RowKit Go.Maps Go.WideMaps
variable {A:Option Addr}{D:DataW Unit}{I O b cap n q zR:Nat}{P:Program}{R:Value->Option (DataW Unit×List MemPlace)}{S S':List Nat}{a:World}{k:TypeId}{p:Addr}
section
theorem laidOut:laidOutB prog=true:=zo
structure z6 where
 k:Int
 n:Int
 s:ByteArray
theorem z6.zc9{a b:z6}(q:a.k=b.k)(h:a.n=b.n)(I:a.s=b.s):a=b:=by cases a;cases b;simp_all
instance:DecidableEq z6:=fun a b=>
 if h:a.k=b.k/\a.n=b.n/\a.s=b.s then isTrue (z6.zc9 h.1 h.2.1 h.2.2)else isFalse (fun e=>h (by subst e;exact⟨rfl,rfl,rfl⟩))
def z6.wf(v:z6):Prop:=(Lit.int .i8 v.k).wf=true/\(Lit.int .i64 v.n).wf=true/\v.s.size<=maxLen
def z6.cells(v:z6):List Value:=[.int .i8 v.k,.int .i64 v.n,.string v.s]
def z6.agg(v:z6):Value:=.agg #[.int .i8 v.k,.int .i64 v.n,.string v.s]
theorem z6.zi6{a b:z6}(h:a.agg=b.agg):a=b:=by
 unfold z6.agg at h;simp at h;exact z6.zc9 h.1 h.2.1 h.2.2
def z6.ok(v:z6):Bool:=(v.k==1&&v.s.size==0)||(v.k==2&&v.n==0&&decide (v.s.size<=200))
theorem znx:prog.keyType 43=true:=zo
theorem zbF:prog.cellsOf 43=3:=zo
theorem zhC:prog.cellsOf 41=1:=zo
theorem zlV:prog.cellsOf 2=1:=zo
theorem zhE:prog.cellsOf 9=1:=zo
theorem zei:prog.types.size+1=(prog.types.size-1)+1+1:=zo
theorem law:Keyed prog 43:=Keyed.of_law (deep_law_laid laidOut (m:=3) zd (of_decide_eq_true zo) zo (zo))
def z6.lit(v:z6):Lit:=.string (keyBytes [.int .i8 v.k,.int .i64 v.n,.string v.s.data.toList])
theorem zlj(d:Nat)(v:z6)(h:v.wf):prog.keyLits (d+1+1) 43 v.cells=some [.int .i8 v.k,.int .i64 v.n,.string v.s.data.toList]:=by
 obtain⟨I,q,L⟩:=h;simp[Program.keyLits,underlying43,underlying41,underlying2,underlying9,z6.cells,zbF,zhC,zlV,zhE,I,q,L]
theorem Gy(v:z6)(h:v.wf):keyOf prog 43 v.agg=some v.lit:=by
 have e:(prog.keyLits (prog.types.size+1) 43 v.agg.cells.toList)=some [.int .i8 v.k,.int .i64 v.n,.string v.s.data.toList]:=by
  rw[zei];exact zlj _ v h
 unfold keyOf;rw[underlying43];simp only;rw[znx,e];simp[z6.agg,Value.formed,underlying43,zbF,z6.lit]
theorem TH{a b:z6}(I:a.wf)(N:b.wf)(h:a.lit=b.lit):a=b:=by
 have L:=Gy a I;have q:=Gy b N;rw[<-h]at q;exact z6.zi6 (law.inj L q)
theorem zaK(v:z6):WideAt.IsKeyLit v.lit:=trivial
theorem zeq(w:World):(zeroValue 153).run prog w=.ok (.int .i32 0) w:=zo
structure Yr (D:DataW Unit) (vs:List z6):Prop where
 tidy:Tidy D
 size:Maps.size D=vs.length
 has:∀v:z6,v.wf->Maps.has D v.lit=decide (v∈vs)
 at_:∀i (h:i<vs.length),D.atKey (vs[i]).lit (.lit (.int .i32 0))=.lit (.int .i32 (i:Int))
theorem Yr.isMap{vs:List z6}(h:Yr D vs):IsMap D:=h.tidy.isMap
theorem Yr.none_:Yr (.map []) []:=⟨tidy_empty,rfl,fun v _=>by simp[Maps.has],fun i h=>by simp at h⟩
theorem Yr.put{vs:List z6}(h:Yr D vs)(hw:∀v∈vs,v.wf)(v:z6)(I:v.wf)(R:v∉vs):Yr (D.put v.lit (.lit (.int .i32 (vs.length:Int)))) (vs++[v]):=by
 refine⟨h.tidy.put (zaK _) _,?_,fun u N=>?_,fun i O=>?_⟩
 ·rw[size_put h.tidy,h.has v I,h.size];simp[R]
 ·by_cases e:u=v
  ·subst e;rw[has_put_same h.isMap (zaK _)];simp
  ·rw[has_put_other (fun q=>e (TH N I q)),h.has u N];simp[e]
 ·rw[zpA]at O
  by_cases e:i<vs.length
  ·rw[zq6 e,atKey_put_other,h.at_ i e];intro q;have L:vs[i]∈vs:=zpB e;exact R (TH (hw _ L) I q▸L)
  ·obtain rfl:i=vs.length:=by simp at O;omega
   rw[List.getElem_append_right (zpx _)];simp[atKey_put_same h.isMap (zaK _)]
theorem Yr.del{D:DataW Unit}{vs us:List z6}(h:Yr D (vs++us))(hw:∀v∈vs++us,v.wf)(V:(vs++us).Nodup):∀(j:Nat),j<=us.length->
 ∃L,L=(us.take j).foldl (fun D v=>D.del v.lit) D/\(Tidy L/\Maps.size L+j=Maps.size D)/\(∀v:z6,v.wf->Maps.has L v.lit=(Maps.has D v.lit&&!decide (v∈us.take j)))/\(∀v:z6,v.wf->v∉us.take j->L.atKey v.lit (.lit (.int .i32 0))=D.atKey v.lit (.lit (.int .i32 0)))
 |0,_=>⟨D,rfl,⟨h.tidy,rfl⟩,fun v _=>zp,fun v _ _=>rfl⟩
 |j+1,hj=>by
  obtain⟨L,rfl,⟨X,Z⟩,W,h3⟩:=Yr.del h hw V j zd;have I:j<us.length:=zd;have q:(us[j]).wf:=hw _ zp;refine⟨_,rfl,?_,?_,?_⟩
  ·rw[zpC I,zqQ];refine⟨X.del _,?_⟩;have Y:=size_del (k:=(us[j]).lit) X;have R:Maps.has (List.foldl (fun D v=>D.del v.lit) D (List.take j us)) (us[j]).lit=true:=by
    rw[W _ q,h.has _ q];have O:us[j]∉us.take j:=by
     intro U;obtain⟨i,hi,N⟩:=zpS.1 U;rw[zp3]at hi;rw[List.getElem_take]at N;have:=(zrc.1 V).2.1;have:=(List.getElem_inj this).1 N;omega
    simp[O]
   rw[R]at Y;simp only[if_true]at Y;show Maps.size (DataW.del _ _)+(j+1)=_;omega
  ·intro v O;simp only[zpC I,zqQ];show Maps.has (DataW.del _ _) v.lit=_
   by_cases e:v=us[j]
   ·subst e;rw[has_del_same,show decide (us[j]∈us.take j++[us[j]])=true from decide_eq_true (zpR _ (zpy.2 rfl))];simp
   ·rw[has_del_other (fun N=>e (TH O q N)),W v O]
    congr 2
    simp only[zpE,zpy,e,or_false]
  ·intro v O R;rw[zpC I]at R ⊢;rw[zqQ];show(DataW.del _ _).atKey v.lit _=_;rw[zpE,zpy]at R;rw[atKey_del_other (fun N=>R (.inr (TH O q N))),h3 v O (fun U=>R (.inl U))]
theorem Yr.cut{vs us:List z6}(h:Yr D (vs++us))(hw:∀v∈vs++us,v.wf)(L:(vs++us).Nodup):Yr (us.foldl (fun D v=>D.del v.lit) D) vs:=by
 obtain⟨Y,e,⟨W,V⟩,N,O⟩:=Yr.del h hw L us.length (zpx _);rw[zp5]at e N O;subst e;have q:=zrc.1 L;refine⟨W,?_,fun v U=>?_,fun i R=>?_⟩
 ·have:=h.size;rw[zpA]at this;omega
 ·rw[N v U,h.has v U]
  by_cases e:v∈vs
  ·have:v∉us:=fun I=>q.2.2 v e v I rfl
   simp[e,this]
  ·by_cases e2:v∈us<;>simp[e,e2]
 ·have X:vs[i]∈vs:=zpB R;have:vs[i]∉us:=fun I=>q.2.2 _ X _ I rfl
  rw[O _ (hw _ zp) this];have:=h.at_ i (by rw[zpA];omega);rw[zq6 R]at this;exact this
structure xF (S:List Nat) (w w':World):Prop where
 os:w'.os=w.os
 tape:w'.tape=w.tape
 output:w'.output=w.output
 size:w.heap.size<=w'.heap.size
 block:∀k,k<w.heap.size->k∉S->w'.heap[k]? = w.heap[k]?
structure YI (N:Nat) (S S':List Nat):Prop where
 sub:∀k∈S',k∈S\/N<=k
 map:S'[1]? = S[1]?
theorem YI.refl(N:Nat)(S:List Nat):YI N S S:=⟨fun _ h=>.inl h,rfl⟩
instance {N:Nat} {S S':List Nat}:CoeFun (YI N S S') (fun _=>∀k,k∈S'->k∈S\/N<=k):=⟨YI.sub⟩
theorem xF.refl(S:List Nat)(w:World):xF S w w:=⟨rfl,rfl,rfl,zpx _,fun _ _ _=>rfl⟩
theorem xF.trans{b c:World}(h:xF S a b)(k:xF S' b c)(O:∀x∈S',x∈S\/a.heap.size<=x):xF S a c:=
 ⟨k.os.trans h.os,k.tape.trans h.tape,k.output.trans h.output,zpK h.size k.size,fun i I L=>
  (k.block i (zpz I h.size) (fun N=>by rcases O i N with q|q;exact L q;omega)).trans (h.block i I L)⟩
theorem xF.mono{w w':World}(h:xF S w w')(L:∀x∈S,x∈S'):xF S' w w':=
 ⟨h.os,h.tape,h.output,h.size,fun k I N=>h.block k I (fun q=>N (L k q))⟩
theorem xF.xj{w w':World}(S:List Nat)(h:Bl w w'):xF S w w':=⟨h.os,h.tape,h.output,h.size,fun k q _=>h.block k q⟩
theorem xF.drew{w:World}(h:xF S a w):xF S a w.drew:=⟨h.os,h.tape,h.output,h.size,h.block⟩
theorem xF.alloc{w:World}(h:xF S a w)(o:Obj):xF S a (w.alloc o):=
 ⟨h.os,h.tape,h.output,by have:=h.size;simp;omega,fun k q I=>(Below.heap_alloc _ _ _ (by have:=h.size;omega)).trans (h.block k q I)⟩
theorem xF.setCell{w:World}(h:xF S a w)(L:p.block∈S\/a.heap.size<=p.block)(u:Value):xF S a (w.setCell p u):=
 ⟨h.os,h.tape,h.output,by have:=h.size;simpa[World.setCell]using this,fun k N I=>
  (Below.heap_setCell _ _ _ _ (by rintro rfl;rcases L with q|q;exact I q;omega)).trans (h.block k N I)⟩
theorem xF.grown{w w':World}{row:Option Nat}(h:xF S a w)(q:w.grownBy w' row)(O:∀k,row=some k->k∈S\/a.heap.size<=k):xF S a w':=
 ⟨q.os.trans h.os,q.tape.trans h.tape,q.output.trans h.output,zpK h.size q.size,fun k N L=>
  (q.block k (by have:=h.size;omega) (fun e=>by rcases O k e.symm with I|I;exact L I;omega)).trans (h.block k N L)⟩
def zD(w:World)(g:Nat)(t:TypeId)(cs:Array Value):Prop:=w.heap[g]? = some (.cells cs t (0,0))
section
variable {w w':World}{g:Nat}{t:TypeId}{cs:Array Value}
theorem zD.lt(h:zD w g t cs):g<w.heap.size:=by
 rcases zrz g w.heap.size with I|q
 ·exact I
 ·unfold zD at h;rw[zqN q]at h;cases h
theorem zD.cell(h:zD w g t cs)(i:Nat):w.cell? ⟨g,i,none⟩=cs[i]?:=cell_of_row w g i cs t (0,0) h
theorem zD.frozen(h:zD w g t cs)(i:Nat):w.frozen? ⟨g,i,none⟩=false:=by
 unfold zD at h;simp[World.frozen?,h]
theorem zD.new(w:World)(t:TypeId)(cs:Array Value):zD (w.alloc (.cells cs t)) w.heap.size t cs:=heap_alloc_new w _
theorem zD.drew(h:zD w g t cs):zD w.drew g t cs:=h
theorem zD.drewN(h:zD w g t cs)(n:Nat):zD (w.drewN n) g t cs:=h
theorem zD.alloc(h:zD w g t cs)(o:Obj):zD (w.alloc o) g t cs:=(Below.heap_alloc w o g h.lt).trans h
theorem zD.qI(h:zD w g t cs)(i:Nat)(u:Value):zD (w.setCell ⟨g,i,none⟩ u) g t (cs.setIfInBounds i u):=by
 unfold zD at h ⊢;simp[World.setCell,Array.getElem?_modify,h]
theorem zD.X4(h:zD w g t cs)(q:g≠p.block)(u:Value):zD (w.setCell p u) g t cs:=(Below.heap_setCell w p u g q).trans h
theorem zD.same(h:zD w g t cs)(q:w'.heap[g]? = w.heap[g]?):zD w' g t cs:=q.trans h
end
theorem Tn{w w':World}(h:w.ownsMap P k R b n D)(O:w'.heap[b]? = w.heap[b]?):w'.ownsMap P k R b n D:=by
 obtain⟨N,q,L,I⟩:=h;exact⟨N,q,O.trans L,I⟩
theorem GF{w w':World}{e:TypeId}{size:Nat}{v:Value}{xs:List Value}(h:w.ownsRow q e size v n xs)(U:∀g,v.ownBlock=some g->w'.heap[g]? = w.heap[g]?):w'.ownsRow q e size v n xs:=by
 obtain⟨R,L⟩:=h;refine⟨R,?_⟩
 rcases L with L |⟨g,N,I,rfl,V,O,r⟩
 ·exact .inl L
 ·exact .inr ⟨g,N,I,rfl,V,(U g rfl).trans O,r⟩
theorem zkE{w:World}{m:Nat}(h:w.ownsMap P k R b n D)(U:Maps.size D<=m):w.ownsMap P k R b m D:=by
 obtain⟨L,q,O,N,V,I⟩:=h;refine⟨L,q,O,N,?_,I⟩;have:L.size=Maps.size D:=by rw[I];show _=List.length _;rw[length_sorted];simp
 omega
def XJ(vs:List z6):List Value:=vs.flatMap z6.cells
theorem zkK(vs:List z6):(XJ vs).length=vs.length*3:=by
 induction vs with
 |nil=>rfl
 |cons v vs h=>show(v.cells++XJ vs).length=_;rw[zpA,h];simp[z6.cells];omega
theorem zkG(a b:List z6):XJ (a++b)=XJ a++XJ b:=by simp[XJ]
theorem zoc(vs:List z6)(n:Nat):XJ (vs.take n)=(XJ vs).take (n*3):=by
 induction vs generalizing n with
 |nil=>simp[XJ]
 |cons v vs h=>
  cases n with
  |zero=>simp[XJ]
  |succ n=>
   show v.cells++XJ (vs.take n)=List.take ((n+1)*3) (v.cells++XJ vs);rw[h,List.take_append,show v.cells.length=3 from rfl,show(n+1)*3-3=n*3 from zd,zpT (show v.cells.length<=(n+1)*3 from by show 3<=_;omega)]
theorem znO(vs:List z6)(i:Nat)(h:i<vs.length):(XJ vs)[i*3]? = some (.int .i8 (vs[i]).k)/\(XJ vs)[i*3+1]? = some (.int .i64 (vs[i]).n)/\(XJ vs)[i*3+2]? = some (.string (vs[i]).s):=by
 induction vs generalizing i with
 |nil=>simp at h
 |cons v vs q=>
  cases i with
  |zero=>exact⟨rfl,rfl,rfl⟩
  |succ i=>
   have:=q i (by simpa using h);have e:XJ (v::vs)=.int .i8 v.k::.int .i64 v.n::.string v.s::XJ vs:=rfl;rw[e,show(i+1)*3=i*3+3 from zd];simpa using this
def yG(w:World)(A:Option Addr)(cap:Nat)(vs:List z6):Prop:=w.ownsRow 0 43 3 (.slice A vs.length cap) vs.length (XJ vs)
def zw(A:Option Addr):List Nat:=(A.map (·.block)).toList
theorem yG.form{w:World}{vs:List z6}(h:yG w A cap vs):(A=none/\cap=0/\vs=[])\/∃g,A=some ⟨g,0,none⟩/\g<w.heap.size/\vs.length<=cap/\cap<=maxLen:=by
 obtain⟨V,q⟩:=h
 rcases q with⟨e,I⟩ |⟨g,c,L,e,_,N,O,R,W,U⟩
 ·injection e with e1 e2 e3
  exact .inl ⟨e1,e3,zqg I⟩
 ·injection e with e1 e2 e3
  subst e3;exact .inr ⟨g,e1,(zpN.1 N).1,O,R⟩
theorem yG.same{w w':World}{vs:List z6}(h:yG w A cap vs)(q:∀g∈zw A,w'.heap[g]? = w.heap[g]?):yG w' A cap vs:=
 GF h (fun g I=>q g (by cases A<;>simp_all[Value.ownBlock,zw]))
theorem yG.lt{w:World}{vs:List z6}(h:yG w A cap vs):∀g∈zw A,g<w.heap.size:=by
 rcases h.form with⟨rfl,_⟩ |⟨g,rfl,q,_⟩
 ·simp[zw]
 ·simpa[zw]using q
theorem yG.qz(w:World):yG w none 0 []:=World.ownsRow_nil w 0 _ _
theorem yG.cell{w:World}{g:Nat}{vs:List z6}(h:yG w (some ⟨g,0,none⟩) cap vs)(j:Nat)(q:j<vs.length*3):w.cell? ⟨g,j,none⟩=(XJ vs)[j]?:=
 World.ownsRow.cellAt h j q
theorem yG.three{w:World}{g:Nat}{vs:List z6}(h:yG w (some ⟨g,0,none⟩) cap vs)(i:Nat)(hi:i<vs.length):
 w.cell? ⟨g,i*3,none⟩=some (.int .i8 (vs[i]).k)/\w.cell? ⟨g,i*3+1,none⟩=some (.int .i64 (vs[i]).n)/\w.cell? ⟨g,i*3+2,none⟩=some (.string (vs[i]).s):=by
 obtain⟨I,q,L⟩:=znO vs i hi;exact⟨(h.cell _ zd).trans I,(h.cell _ zd).trans q,(h.cell _ zd).trans L⟩
theorem yG.take{w:World}{vs:List z6}(h:yG w A cap vs)(n:Nat)(Y:n<=vs.length):yG w A cap (vs.take n):=by
 have O:(vs.take n).length=n:=by rw[zp3];omega
 obtain⟨X,I⟩:=h;refine⟨zkK _,?_⟩;rw[O]
 rcases I with⟨e,W⟩ |⟨g,c,q,e,N,R,Z,V,U,L⟩
 ·injection e with e1 e2 e3
  subst e1;subst e3;obtain rfl:n=0:=zd;exact .inl ⟨rfl,rfl⟩
 ·injection e with e1 e2 e3
  subst e1;subst e3;refine .inr ⟨g,cap,q,rfl,N,R,zd,V,U,?_⟩;rw[zoc,<-L,List.take_take]
  congr 1;omega
structure yr (w:World) (tb zR:Nat) (vs:List z6) (mb:Nat) (A:Option Addr) (cap:Nat) (D:DataW Unit):Prop where
 zH:zD w tb 184 #[.int .i64 zR,.map (some mb),.slice A vs.length cap]
 own:w.ownsMap prog 43 (plainElem prog 153) mb vs.length D
 nums:Yr D vs
 row:yG w A cap vs
 wf:∀v∈vs,v.wf
 ok:∀v∈vs,v.ok=true
 nodup:vs.Nodup
 le:vs.length<=zR
 zR:zR<=2147483647
def Xk(h q:Nat)(A:Option Addr):List Nat:=h::q::zw A
def qv(w:World)(q zR:Nat)(vs:List z6)(S:List Nat):Prop:=∃I A h D,yr w q zR vs I A h D/\S=Xk q I A
theorem yr.same{w w':World}{vs:List z6}(h:yr w q zR vs I A cap D)(L:∀k∈Xk q I A,w'.heap[k]? = w.heap[k]?):yr w' q zR vs I A cap D:=
 ⟨h.zH.same (L _ (by simp[Xk])),Tn h.own (L _ (by simp[Xk])),h.nums,h.row.same (fun g q=>L g (by simp[Xk,q])),h.wf,h.ok,h.nodup,h.le,h.zR⟩
theorem yr.lt{w:World}{vs:List z6}(h:yr w q zR vs I A cap D):∀k∈Xk q I A,k<w.heap.size:=by
 intro k q;simp only[Xk,zpU]at q
 rcases q with rfl|rfl|q
 ·exact h.zH.lt
 ·exact h.own.lt
 ·exact h.row.lt k q
theorem yr.zaF{w:World}{vs:List z6}(h:yr w q zR vs I A cap D):I≠q:=by
 rintro rfl;have N:=h.zH;obtain⟨R,O,L,_⟩:=h.own;unfold zD at N;rw[N]at L;cases L
theorem yr.DO{w:World}{vs:List z6}{R:Nat}(h:yr w O zR vs R A cap D):∀g∈zw A,g≠O:=by
 intro g I e;subst e
 rcases h.row.2 with⟨N,_⟩ |⟨X,Y,U,N,_,V,_⟩
 ·injection N with L;subst L;simp[zw]at I
 ·injection N with L;subst L
  have q:=h.zH;simp[zw]at I;subst I;unfold zD at q;rw[V]at q;injection q with q
  injection q with _ W
  cases W
theorem yr.zjF{w:World}{U:Nat}{vs:List z6}(h:yr w U zR vs O A cap D):∀g∈zw A,g≠O:=by
 intro g q e;subst e
 rcases h.row.2 with⟨L,_⟩ |⟨W,X,R,L,_,V,_⟩
 ·injection L with I;subst I;simp[zw]at q
 ·injection L with I;subst I
  obtain⟨Y,Z,N,_⟩:=h.own;simp[zw]at q;subst q;rw[V]at N;cases N
theorem qv.same{w w':World}{vs:List z6}(h:qv w I zR vs S)(O:∀k∈S,w'.heap[k]? = w.heap[k]?):qv w' I zR vs S:=by
 obtain⟨L,A,q,D,N,rfl⟩:=h;exact⟨L,A,q,D,N.same O,rfl⟩
theorem qv.lt{w:World}{vs:List z6}(h:qv w q zR vs S):∀k∈S,k<w.heap.size:=by
 obtain⟨N,A,I,D,L,rfl⟩:=h;exact L.lt
theorem qv.below{w w':World}{vs:List z6}(h:qv w q zR vs S)(L:Bl w w'):qv w' q zR vs S:=
 h.same fun k I=>L.block k (h.lt k I)
end
section
@[go_sem] theorem zpq(m:Option Nat)(w:World):(binOp .neq 182 (.map m) (.map none)).run prog w=.ok (.bool (!m.isNone)) w:=run_neq_map_nil w _ _ _ m underlying182
theorem zay{k:IntKind}{a b:Int}(h:a=b):Ending.returned (.int k a)=.returned (.int k b):=by rw[h]
theorem zel(s:ByteArray):(s.size==0)=s.toList.isEmpty:=by
 rw[ByteArray.toList_eq]
 cases h:s.data.toList with
 |nil=>
  have:s.data.toList.length=0:=by rw[h];rfl
  have e:s.size=0:=this;rw[e];rfl
 |cons x l=>
  have:s.data.toList.length=l.length+1:=by rw[h];rfl
  have e:s.size=l.length+1:=this;rw[e];rfl
theorem Z9(q:Nat)(m:Int)(I:Nat)(v:Value)(w:World)(h:zD w q 184 #[.int .i64 m,.map (some I),v]):
 Calls prog 128 #[.pointer (some ⟨q,0,none⟩)] w fun e L=>e=.returned (.bool true)/\L=w:=by
 have L:w.cell? ⟨q,1,none⟩=some (.map (some I)):=h.cell 1;go_enter func128,ntmps128;go_wp2
 go_ret
 exact⟨rfl,rfl⟩
def z6.code(v:z6):Int:=if v.ok then 0 else 10
theorem GW(v:z6)(w:World):
 Calls prog 32 #[v.agg] w fun e h=>e=.returned (.int .i64 v.code)/\Bl w h:=by
 obtain⟨k,n,s⟩:=v;show Calls _ _ #[.agg #[.int .i8 k,.int .i64 n,.string s]] _ _;go_enter func32,ntmps32;go_wp2
 all_goals
  go_ret
  refine⟨zay ?_,(Below.refl _ _).alloc (zpx _) _⟩
  go_light
  first |(simp_all[z6.code,z6.ok,zel];done) |(simp_all[z6.code,z6.ok,zel];omega)
end
