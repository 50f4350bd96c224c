/-
  What an expression gives: an operation over its parts. What 
-/
import Derived.Test.YtfdickkdlcgicaaGreatDoorP16
import Derived.RangeFuncWrites
import Derived.Test.YtfdickkdlcgicaaGreatDoorRows
import Derived.DeepKeys4
import Derived.StillTailTactics
import Derived.Deep.RegionLaw
import Derived.Deep.Light
import Derived.Laws.Cover3
set_option maxRecDepth 100000
set_option maxHeartbeats 8000000
set_option linter.all false
namespace Go.Proofs.YtfdickkdlcgicaaGreatDoor.C
open Go.Proofs.Tryz Go Go.RowKit Go.Maps Go.WideMaps
variable {B bb i n r:Nat}{W q w:World}{ρ:Env}
section
theorem zlx:qy prog 69 43 3 32:=qy.of (z:=.agg #[.int .i8 0,.int .i64 0,.string ⟨#[]⟩]) underlying69 zo rfl zr
theorem znq{q:Int}(h:(n:Int)=arity q):∃m:Nat,q=(m:Int)/\1<=m/\m<=10/\n<=2:=by
 unfold arity at h;split at h
 next hq=>exact⟨q.toNat,zd,zd,zd,zd⟩
 ·split at h
  next hq=>exact⟨q.toNat,zd,zd,zd,zd⟩
  ·omega
def zmO(tk:Nat->Int)(ρ:Env)(q:List Ex)(O:World)(N gk:Nat)(U L:Value)(R:World):Prop:=
 ∃(i:Nat) (A:Option Addr) (r:Nat) (I:List Vl),i<=N/\gk=N-i/\L=.int .i64 (i:Int)/\U=.slice A i r/\I.length=i/\Own Vl.cells 43 3 R A r I/\(∀g∈zw A,O.heap.size<=g)/\
  (∀j (h:j<i) (r:j<q.length),(q[j]).ev tk ρ=I[j]?)/\(∀y∈I,y.ok)/\Bl O R
theorem zjQ(w:World)(tk:Nat->Int)(hT:Tk w tk)(ρ:Env)(hρ:∀v x,ρ v=some x->x.ok)(d m:Nat)(au:1<=m)(ah:m<=10)(v:ByteArray)(k n:Int)(s:ByteArray)(A:Option Addr)(cap mb N:Nat)(I:List Ex)(hr:zY Ex.cells w A I)(hN:I.length=N)(aJ:N<=2)(O:(N:Int)=arity m)(al:∀x∈I,x.ok d)(aq:∀x∈I,∀W,Bl w W->Calls prog 202 #[.agg x.cells.toArray,.map (some mb)] W (yV (x.ev tk ρ) W)):
 Calls prog 202 #[.agg #[.int .i8 m,.string v,.int .i8 k,.int .i64 n,.string s,.slice A N cap],.map (some mb)] w (yV ((Ex.Vg tk ρ I).bind (qI tk m)) w):=by
 have Hr:=zz hr;have HN:=zz hN;have ay:=zz O;have az:=zz al;have ax:=zz aq;have HT:=zz hT;have Hm:=zz (zpf au ah);have aK:((m:Int)==0)=false:=beq_eq_false_iff_ne.2 zd;clear hr hN O al aq hT au ah;obtain⟨W0,L,q⟩:=ya w 48 43 #[.int .i8 m,.string v,.int .i8 k,.int .i64 n,.string s,.slice A N cap] #[.int .i8 0,.int .i64 0,.string ⟨#[]⟩];have HX:=zz q;have V:Kz (Bl w W0):=q.below;have aI:=zz q.size;have c0:=q.b0.cell 0;have c5:=q.b0.cell 5;clear q;go_enter func202,ntmps202;go_upto_region 1 with fail
 try rw[L]
 clear L;go_wp2;clear c0 c5
 go_loopg[7,35] N (fun gk R q L=>zmO tk ρ I W0 N gk R q L)
 case atStart=>exact⟨0,none,0,[],zo5 _,rfl,rfl,rfl,rfl,Own.qC _,by simp[zw],zd,zp,Below.refl _ _⟩
 case round=>
  obtain⟨i,A',am,ys,hi,rfl,rfl,rfl,R,X,Y,L,q,Z⟩:=hrel;have U:=zz R;have Ho:=zz X;have Hg:=zz Y;have ae:=zz L;have af:=zz q;have HB:=zz Z;clear R X Y L q Z
  by_cases aC:i<N
  ·have ad:i<I.length:=by rw[HN.o];exact aC
   obtain⟨b,o,rfl,hb,hr⟩:=(Hr.o.below (zu V.o HB.o)).at (c:=5) Ex.xF i ad;obtain⟨L,q⟩:∃L,I[i]=L:=⟨_,rfl⟩;have ag:=zz q;have Z:=zz (fun W (R:Bl w W)=>ax.o L (q▸zo3 ad) W R);have aD:=zz (az.o L (q▸zo3 ad));rw[q]at hr;clear q;obtain⟨r,q⟩:∃r,L.ev tk ρ=r:=⟨_,rfl⟩;have aj:=zz q;rw[q]at Z;clear q;obtain⟨q1,⟨v1,k1,n1,s1⟩,A1,an,ai⟩:=L;simp only[Ex.cells]at hr Z
   replace hr:wr.rangeAt b (o+i*6) _:=hr
   obtain⟨d0,d1,d2,d3,d4,d5⟩:=JI hr;generalize ai.length=N1 at d5 Z;clear hr;obtain⟨W2,L,q⟩:=xj wr 48 #[.int .i8 q1,.string v1,.int .i8 k1,.int .i64 n1,.string s1,.slice A1 N1 an];have Y:=zz q;have ac:=zz (zu HB.o q.below);have aw:=zz (Ho.o.below q.below);clear q;go_upto_region 12 with fail
   try rw[L]
   clear L d0 d1 d2 d3 d4 d5;have d0:=Y.o.b0.cell 0;have d1:=Y.o.b0.cell 1;have d2:=Y.o.b0.cell 2;have d3:=Y.o.b0.cell 3;have d4:=Y.o.b0.cell 4;have d5:=Y.o.b0.cell 5
   cases r with
   |none=>
    go_upto_region 14 with(go_at_call 202;refine(Z.o _ (zu V.o ac.o)).mono ?_;rintro e w3⟨⟨⟨zk,zn,zs⟩,rfl⟩,L⟩;simp only[Vl.cells];have X:=zz (zu ac.o L);clear L d0 d1 d2 d3 d4 d5)
    obtain⟨W4,aa,R⟩:=xj w3 43 #[.int .i8 zk,.int .i64 zn,.string zs];try rw[aa]
    have ab:=zz (zu X.o R.below);have ak:=zz (HX.o.b1.below ab.o);clear aa R
    go_wp2_with (refine xy 43 _ _ rfl ?_;refine yE 43 (w.heap.size+1) 0 ak.o [.int .i8 0,.int .i64 0,.string ⟨#[]⟩] ?_;intro W9 q;have z0:=q.zG.cell 0;have z1:=q.zG.cell 1;have z2:=q.zG.cell 2;have HF:=zz q;clear q)
    simp only[zpr,zpa,zpe,zpc,zo9,zpg]at z0 z1 z2;refine bodyPost_ret (v:=.tuple #[.agg #[.int .i8 0,.int .i64 0,.string ⟨#[]⟩],.bool false]) (by simp[results,results202,go_sem,z0,z1,z2]) rfl ?_;rw[zhS i ad (by rw[ag.o];exact aj.o)];exact .Zo (x:=Vl.zero) rfl (HF.o.below (zu V.o ab.o) (zoZ _) (zqa _))
   |some x=>
    have ak:=JM hρ aD.o aj.o;obtain⟨xk,xn,xs⟩:=x;have aG:=zz ak;clear ak;go_upto_region 13 with(go_at_call 202;refine(Z.o _ (zu V.o ac.o)).mono ?_;rintro e w3⟨rfl,L⟩;simp only[Vl.cells];have X:=zz (zu ac.o L);have aB:=zz (aw.o.below L);clear L d0 d1 d2 d3 d4 d5)
    obtain⟨W4,aa,R⟩:=xj w3 43 #[.int .i8 xk,.int .i64 xn,.string xs];try rw[aa]
    have ab:=zz (zu X.o R.below);have aE:=zz (aB.o.below R.below);have e0:=R.b0.cell 0;have e1:=R.b0.cell 1;have e2:=R.b0.cell 2;clear aa R
    go_wp2_with (at_builtin;refine ZG zlx (f:=Vl.cells) (xs:=ys) (aE.o.alloc _) U.o ⟨xk,xn,xs⟩ ?_)
    intro g aa w5 R ar av;have ap:zh (·∈zw A') W4 w5:=((zh.refl _ W4).alloc _).trans ar (fun x hx _=>hx);have ao:Bl W0 w5:=ap.qq ab.o (zoZ _) Hg.o;have ak:W0.heap.size<=g:=by
     rcases av with h|h
     ·exact Hg.o g h
     ·have h4:=ab.o.size;try simp at h
      omega
    have aA:=zz R;have aH:=zz ao;have aF:=zz ak;clear R ar av ap ao ak e0 e1 e2;go_wp2
    go_roundg (N-(i+1))
    case measure=>omega
    case rel=>
     exact⟨i+1,some ⟨g,0,none⟩,aa,ys++[⟨xk,xn,xs⟩],zd,rfl,ze,rfl,by simp[U.o],aA.o,xW aF.o,fun j h h'=>by
      by_cases R:j<i
      ·rw[ae.o j R h',zpY (by rw[U.o];exact R)]
      ·obtain rfl:j=i:=zd;rw[ag.o,aj.o,zpS (by rw[U.o];exact zoZ _),U.o,zqw];rfl,
      fun y hy=>by
       rcases zo7.1 hy with h|h
       ·exact af.o y h
       ·rw[zo2.1 h];exact aG.o,aH.o⟩
  ·obtain rfl:i=N:=zd;have Y:Ex.Vg tk ρ I=some ys:=Gd.2 ⟨by rw[U.o,HN.o],fun j R=>ae.o j (by rw[<-HN.o];exact R) R⟩;have Z:=zz Y;clear Y;have HA:=zz (zfK wr tk (HT.o.below (zu V.o HB.o) (zoZ _)) A' am i ys Ho.o.xI af.o m Hm.o.1 Hm.o.2 U.o ay.o);have c0:=(HX.o.b0.below HB.o).cell 0
   cases O:qI tk m ys with
   |none=>
    rw[O]at HA;have R:=zz O;clear O
    go_wp2_with (first
     |(go_at_call 244;refine HA.o.mono ?_;rintro e w3⟨⟨⟨zk,zn,zs⟩,rfl⟩,L⟩;simp only[Vl.cells];have X:=zz (zu HB.o L);have Y:=zz (HX.o.b1.below (zu HB.o L));clear L c0)
     |(refine xy 43 _ _ rfl ?_;refine yE 43 (w.heap.size+1) 0 Y.o [.int .i8 zk,.int .i64 zn,.string zs] ?_;intro W9 q;have z0:=q.zG.cell 0;have z1:=q.zG.cell 1;have z2:=q.zG.cell 2;have HF:=zz q;clear q))
    simp only[zpr,zpa,zpe,zpc,zo9,zpg]at z0 z1 z2;refine bodyPost_ret (v:=.tuple #[.agg #[.int .i8 zk,.int .i64 zn,.string zs],.bool false]) (by simp[results,results202,go_sem,z0,z1,z2]) rfl ?_;rw[Z.o,zqY,R.o];exact .Zo (x:=⟨zk,zn,zs⟩) rfl (HF.o.below (zu V.o X.o) (zoZ _) (zqa _))
   |some x=>
    rw[O]at HA;have R:=zz O;clear O;obtain⟨zk,zn,zs⟩:=x
    go_wp2_with (first
     |(go_at_call 244;refine HA.o.mono ?_;rintro e w3⟨rfl,L⟩;simp only[Vl.cells];have X:=zz (zu HB.o L);have Y:=zz (HX.o.b1.below (zu HB.o L));clear L c0)
     |(refine xy 43 _ _ rfl ?_;refine yE 43 (w.heap.size+1) 0 Y.o [.int .i8 zk,.int .i64 zn,.string zs] ?_;intro W9 q;have z0:=q.zG.cell 0;have z1:=q.zG.cell 1;have z2:=q.zG.cell 2;have HF:=zz q;clear q))
    simp only[zpr,zpa,zpe,zpc,zo9,zpg]at z0 z1 z2;refine bodyPost_ret (v:=.tuple #[.agg #[.int .i8 zk,.int .i64 zn,.string zs],.bool true]) (by simp[results,results202,go_sem,z0,z1,z2]) rfl ?_;rw[Z.o,zqY,R.o];exact .Yp rfl (HF.o.below (zu V.o X.o) (zoZ _) (zqa _))
theorem Tm.UY.small{t:Tm}(h:t.UY):t.v.size<=maxLen:=by
 obtain⟨q,⟨h,-⟩ |⟨-,h |⟨-,-,h⟩⟩⟩:=h
 ·rw[h];exact zo5 _
 ·rw[h]at q;exact absurd zp q
 ·have:=h.le;unfold maxLen;omega
theorem zbt(tk:Nat->Int)(ρ:Env)(hρ:∀v x,ρ v=some x->x.ok):∀(d:Nat)(e:Ex)(w:World)(_:Tk w tk)(_:e.zO w)(_:e.ok d)(r:Nat)(f:Value->Option Value)(_:xv prog 9 w r f)(_:zag ρ f e.zN),
 Calls prog 202 #[.agg e.cells.toArray,.map (some r)] w (yV (e.ev tk ρ) w)
 |0,_,_,_,_,h,_,_,_,_=>by unfold Ex.ok at h;exact h.elim
 |d+1,.mk q ⟨v,⟨k,n,s⟩⟩ A I N,w,X,Z,h,r,f,hm,V=>by
  have IH:=zz (fun x W X Z h hm V=>zbt tk ρ hρ d x W X Z h r f hm V);unfold Ex.zO at Z;obtain⟨hr,-,hk⟩:=Z;unfold Ex.ok at h;unfold Ex.ev;simp only[Ex.cells,Tm.cells];unfold zag Ex.zN at V
  rcases h with⟨rfl,rfl,ht⟩ |⟨hq,ht,hn,O⟩
  ·rw[if_pos rfl]
   by_cases R:v.toList=[]
   ·rw[if_pos R];obtain rfl:v=⟨#[]⟩:=UO (by rw[R];simp);exact zig w ⟨k,n,s⟩ A I (.map (some r))
   ·rw[if_neg R];have b0:(v.toList==([]:List UInt8))=false:=by simp[R]
    have Y:=V ⟨v,⟨k,n,s⟩⟩ zpi R;simp only at Y;have L:∀W,Bl w W->(Instr.lookup 140 (.map (some r)) (.string v) false).run prog W=.ok (.agg ((ρ v).getD Vl.zero).cells.toArray) W:=fun W U=>by
     have:=(hm.below U).look qT underlying140 (z:=.agg Vl.zero.cells.toArray) zo (qY ht.small) false;simp only[zp1,if_false]at this;rw[this,Y]
    cases hρv:ρ v with
    |none=>
     rw[hρv]at L;exact zi3 w v b0 k n s A I r L
    |some x=>
     rw[hρv]at L;exact zii w v x (hρ v x hρv) b0 k n s A I r L
  ·obtain⟨m,rfl,Y,L,h2⟩:=znq hn;rw[if_neg hq,Int.toNat_natCast];exact zjQ w tk X ρ hρ d m Y L v k n s A I r N.length N hr rfl h2 hn O fun x hx W U=>
    IH.o x W (X.below U (zoZ _)) ((Ex.qB.mem hk x hx).below U) (O x hx) (hm.below U) (fun t r R=>V t (zpj _ (zak hx r)) R)
section
variable {F:Fence}{n:Nat}{P:Program}
theorem zbF{α:Type}{g:Operand}{ps:Array Tmp}{assign body:Code}{Q:Exit->Act->World->Prop}{a:Act}(aA:F.round=none)(h1:1<=n){gf:Nat}{lb:Array Value}(hg:a.eval g=.func (.func gf) #[] lb)(ax:F.fn gf)(eg:∀q w,(callFunc gf q).run P w=.ok (.enter gf q) w){Y:α->Array Value}{Kp:World->World->Prop}{S Sp V:List α->Prop}(aM:bb<w.heap.size)(ao:UE bb F (n-1) P gf lb Y Kp S Sp V w)(aj:∀{A B C:World},Kp A B->Kp B C->Kp A C)(am:∀(W:World)(l:Nat)(o o':Obj),w.heap.size<=l->W.heap[l]? = some o->o.isCells=false->o.isWalk=false->Kp W (W.putObj l o'))(aE:∀x,(Y x).size=ps.size)(I:List α->World->Prop)(Ix:Code->List α->World->Prop)(hI:OwnFrom w.heap.size I)(ae:∀c,OwnFrom w.heap.size (Ix c))(aK:∀s W W',I s W->zh (·=bb) W W'->I s W')(h0:I [] w)(a₁:α->Nat->Act)(ob:α->Obj)(aB:∀(W:World)(o:Obj),w.heap.size<=W.heap.size->Kp W (W.alloc o))(ac:∀(l:Nat)(x:α)(W:World)(K:Act->World->Prop),K (a₁ x W.heap.size) (W.alloc (ob x))->
  assign.wpIn (F.inRound l) (n-1-1) P (Exit.then K (fun _ _ _=>False)) { tmps:=(ps.zip (Y x)).foldl (fun t (p,v)=>t.setIfInBounds p v) a.tmps,defers:=[]} W)(ah:∀(l:Nat)(h:List α)(x:α)(W:World)(g:Nat),w.heap.size<=g->W.heap[g]? = some (ob x)->I h W->V (h++[x])->body.wpIn (F.inRound l) (n-1-1) P (ownPostG w.heap.size Kp I Ix (h++[x]) W) (a₁ x g) W)(ai:∀(D:Nat)(xs:List α)(W:World),w.heap.size<=D->S xs->I xs W->W.heap[D]? = some (.deferred (some []))->Q .normal { a with defers:={ target:=.collected D,args:=#[]}::a.defers } W)(ak:∀(D:Nat)(c:Code)(h:List α)(W:World),w.heap.size<=D->Sp h->Ix c h W->W.heap[D]? = some (.deferred (some []))->c.wpIn F n P Q { a with defers:={ target:=.collected D,args:=#[]}::a.defers } W):
 (Code.rangeFunc g ps assign body).wpIn F n P Q a w:=by
 refine wpIn_rangeFunc fun fn aH=>?_
 rw[aA]
 let ad:LoopState->Option Code->Loop:=fun r L=>{ state:=r,pending:=L,fn,tmps:=a.tmps,params:=ps,assign,body,defers:=w.heap.size }
 obtain⟨mk,N⟩:∃mk,mk=ad:=⟨_,rfl⟩;obtain⟨W1,ab⟩:∃W1,(w.alloc (.deferred (some []))).alloc (.loop (mk .ready none))=W1:=⟨_,rfl⟩;have aN:W1.heap.size=w.heap.size+1+1:=by rw[<-ab];simp
 have aC:W1.heap[w.heap.size+1]? = some (.loop (mk .ready none)):=by
  have:=World.alloc_heap_new (w.alloc (.deferred (some []))) (.loop (mk .ready none))
  rwa [World.size_alloc,ab]at this
 have aw:W1.heap[w.heap.size]? = some (.deferred (some [])):=by
  rw[<-ab];exact(Below.heap_alloc _ _ _ zp).trans (World.alloc_heap_new w _)
 have ar:I [] W1:=by rw[<-ab];exact hI.alloc _ (hI.alloc _ h0)
 have aL:Bl w W1:=by rw[<-ab];exact((Below.refl _ w).alloc (zoZ _) _).alloc zp _
 have XQ:∀(W W':World),zh (·=bb) W W'->∀(k:Nat)(o:Obj),w.heap.size<=k->W.heap[k]? = some o->W'.heap[k]? = some o:=fun W W' hc k o hk ho=>(hc.block k (zpb.1 ho).1 zd).trans ho
 refine⟨w.heap.size+1,[{ target:=.collected w.heap.size,args:=#[]}],W1,{ target:=.fn (.func gf) lb,args:=#[.func (.yield (w.heap.size+1)) #[] #[]]},W1,gf,
  #[.func (.yield (w.heap.size+1)) #[] #[]]++lb,W1,?_,?_,?_,?_,fun _=>h1,?_⟩
 ·rw[<-ab,N];exact run_enterLoop_outer _ _ _ _ _
 ·simp only[resolve,hg];simp[go_sem]
 ·intro L r;simp[Target.leads]at r;subst r;exact ax
 ·simp[invoke,go_sem,eg]
 ·refine(ao (w.heap.size+1) (fun h W=>I h W/\W.heap[w.heap.size+1]? = some (.loop (mk .ready none))/\W.heap[w.heap.size]? = some (.deferred (some [])))
   (fun h W=>∃c,Ix c h W/\W.heap[w.heap.size+1]? = some (.loop (mk .done (some c)))/\W.heap[w.heap.size]? = some (.deferred (some []))) W1 aL
   (fun s W W' hs hc=>⟨aK _ _ _ hs.1 hc,XQ W W' hc _ _ zd hs.2.1,XQ W W' hc _ _ (zoZ _) hs.2.2⟩) ?_ ⟨ar,aC,aw⟩).mono ?_
  ·rintro h x W⟨hi,hl,hk⟩al;have ay:w.heap.size+1<W.heap.size:=(zpb.1 hl).1;have hy:=run_yield (P:=P) (args:=Y x) hl (by rw[N];exact aE x);rw[N]at hy;obtain⟨Wa,Z⟩:∃Wa,W.alloc (ob x)=Wa:=⟨_,rfl⟩;have ag:Wa.heap[w.heap.size+1]? = some (.loop (mk .ready none)):=by rw[<-Z];exact(Below.heap_alloc W _ _ ay).trans hl
   have au:Wa.heap[w.heap.size]? = some (.deferred (some [])):=by rw[<-Z];exact(Below.heap_alloc W _ _ zd).trans hk
   have aD:Wa.heap[W.heap.size]? = some (ob x):=by rw[<-Z];exact World.alloc_heap_new W _
   have av:I h Wa:=by rw[<-Z];exact hI.alloc _ hi
   have aJ:Kp W Wa:=by rw[<-Z];exact aB W _ zd
   have aG:w.heap.size+1<Wa.heap.size:=(zpb.1 ag).1;refine⟨fn,_,assign,body,hy,roundIn_of_wpIn aH (ac _ x W _ ?_)⟩;rw[Z];refine⟨_,run_beginRound ag (by rw[N]),?_⟩;obtain⟨W2,aa⟩:∃W2,Wa.putObj (w.heap.size+1) (.loop { mk .ready none with state:=.busy })=W2:=⟨_,rfl⟩;have aF:W2.heap[w.heap.size+1]? = some (.loop { mk .ready none with state:=.busy }):=aa▸World.putObj_heap_same aG;have az:W2.heap[w.heap.size]? = some (.deferred (some [])):=aa▸(World.putObj_heap_other zd).trans au;have aI:W2.heap[W.heap.size]? = some (ob x):=aa▸(World.putObj_heap_other zd).trans aD;have ap:Kp W W2:=aj aJ (aa▸am _ _ _ _ zd ag rfl rfl);have aq:I h W2:=aa▸hI.putObj _ av zd ag rfl;rw[aa];refine wpIn_mono (ah _ h x _ W.heap.size zd aI aq al) ?_;have af:∀(q:Option Code)(W3:World),KeepsFrom w.heap.size W2 W3->∃W4,W3.putObj (w.heap.size+1) (.loop (mk (if q.isNone then .ready else .done) q))=W4/\
    (Instr.endRound (w.heap.size+1) q).run P W3=.ok (.bool q.isNone) W4/\W3.heap[w.heap.size+1]? = some (.loop { mk .ready none with state:=.busy })/\
    W4.heap[w.heap.size+1]? = some (.loop (mk (if q.isNone then .ready else .done) q))/\W4.heap[w.heap.size]? = some (.deferred (some [])):=fun q W3 L=>by
    have r:=L.same _ _ zd aF rfl;have hr:=run_endRound (P:=P) q r;refine⟨_,rfl,?_,r,World.putObj_heap_same (zpb.1 r).1,(World.putObj_heap_other zd).trans (L.same _ _ (zoZ _) az rfl)⟩;rw[N]at hr ⊢;exact hr
   rintro e a3 W3 hp
   cases e with
   |normal=>
    obtain⟨L,an,X⟩:=hp;obtain⟨W4,O,hr,r,R,U⟩:=af none W3 L;exact⟨_,W4,hr,.inl ⟨rfl,⟨O▸hI.putObj _ X zd r rfl,R,U⟩,aj (aj ap an) (O▸am _ _ _ _ zd r rfl rfl)⟩⟩
   |ret=>
    obtain⟨L,X⟩:=hp;obtain⟨W4,O,hr,r,R,U⟩:=af (some .ret) W3 L;exact⟨_,W4,hr,.inr ⟨rfl,.ret,O▸(ae _).putObj _ X zd r rfl,R,U⟩⟩
   |exit id=>
    obtain⟨L,X⟩:=hp;obtain⟨W4,O,hr,r,R,U⟩:=af (some (.exit id)) W3 L;exact⟨_,W4,hr,.inr ⟨rfl,(.exit id),O▸(ae _).putObj _ X zd r rfl,R,U⟩⟩
   |goto t=>
    obtain⟨L,X⟩:=hp;obtain⟨W4,O,hr,r,R,U⟩:=af (some (.goto t)) W3 L;exact⟨_,W4,hr,.inr ⟨rfl,(.goto t),O▸(ae _).putObj _ X zd r rfl,R,U⟩⟩
   |panic L=>exact hp.elim
   |outgrown=>exact hp.elim
  ·rintro e W2⟨⟨v,rfl⟩,(⟨xs,L,hi,hl,hk⟩ |⟨h,r,c,hi,hl,hk⟩)⟩
   ·have q:=run_endLoop (P:=P) hl (by rw[N];simp[ad]);rw[show(mk .ready none).pending=none by rw[N]]at q;exact⟨none,_,q,ai _ xs _ (zoZ _) L (hI.putObj _ hi zd hl rfl) ((World.putObj_heap_other zd).trans hk)⟩
   ·have q:=run_endLoop (P:=P) hl (by rw[N];simp[ad]);rw[show(mk .done (some c)).pending=some c by rw[N]]at q;exact⟨some c,_,q,ak _ c h _ (zoZ _) r ((ae c).putObj _ hi zd hl rfl) ((World.putObj_heap_other zd).trans hk)⟩
end
end
section
def down(n j:Nat):List Nat:=(List.range (n-j)).map fun t=>n-1-t
theorem zde(h:i<n):down n (i+1)++[i]=down n i:=by
 unfold down;rw[show n-i=(n-(i+1))+1 from zd,zp2,zpt,zpR,show n-1-(n-(i+1))=i from zd]
theorem zmd(n:Nat):down n n=[]:=by unfold down;rw[zqw];rfl
theorem zmt{j:Nat}(h:i∈down n j):i<n:=by
 unfold down at h;obtain⟨t,q,rfl⟩:=zpA.1 h;have:=zqc.1 q;omega
theorem ziU(h:i<n):i∈down n 0:=by
 unfold down;exact zpA.2 ⟨n-1-i,zqc.2 zd,zd⟩
def YY(l:List Tm)(i:Nat):Tm:=l.getD i ⟨⟨#[]⟩,Vl.zero⟩
def D9(l:List Tm)(i:Nat):Array Value:=#[.int .i64 (i:Int),.agg (YY l i).cells.toArray]
structure V7 (w:World) (bb:Nat) (W W':World):Prop where
 b:Below w.heap.size W W'
 box:W'.heap[bb]? = W.heap[bb]?
theorem zm3{X Y Z:World}(h:V7 w bb X Y)(k:V7 w bb Y Z):V7 w bb X Z:=⟨h.b.trans k.b,k.box.trans h.box⟩
def Dx:Value->Nat
 |.int _ n=>(n+1).toNat
 |_=>0
theorem G5(n:Int):Dx (.int .i64 n)=(n+1).toNat:=rfl
theorem zgH(w:World)(A:Option Addr)(n cap:Nat):Calls prog 201 #[.slice A n cap] w fun e h=>e=.returned (.func (.func 243) #[] #[.pointer (some ⟨w.heap.size,0,none⟩)])/\h=w.alloc (.cells #[.slice A n cap] 83):=by
 go_enter func201,ntmps201;go_wp2;go_returns;exact⟨rfl,rfl⟩
attribute [local go_sem] Oper.semAt_some
theorem zkW{k:Nat}{w0:World}(ac:1<=k)(A:Option Addr)(n cap:Nat)(l:List Tm)(hn:l.length=n)(ae:n<=4194304)(hl:zY Tm.cells w A l)(hw:Bl w w0)(hk:zD w0 bb 83 #[.slice A n cap]):
 UE bb Fence.wide k prog 243 #[.pointer (some ⟨bb,0,none⟩)] (D9 l) (V7 w bb) (fun O=>O=down n 0) (fun _=>True) (fun r=>∃j,r=down n j) w0:=fun q J R W h I N L=>by
 have Z:=zz N;have H0:=zz L;have HK:=zz (hk.below h);have HL:=zz hl;have HN:=zz hn;have HB:Kz (Bl w W):=hw.trans (h.mono hw.size);clear N I L hk h hl hn hw;refine callsIn_of_wp func243 rfl trivial ?_ rfl;show Code.wpIn _ _ _ _ _ { tmps:=#[.func (.yield q) #[] #[],.pointer (some ⟨bb,0,none⟩)]++_,defers:=[]} _;simp only[ntmps243,zqk,zpn,zpF,Nat.reduceAdd,Nat.reduceSub,zqs,zqt,zqI,zqz,zpa,zpc];have Y:=HK.o.cell 0
 gi_wp2
 clear Y
 gi_loopw [3] (fun h wr=>∃(j:Nat) (v:Int),h=.int .i64 v/\v=(j:Int)-1/\j<=n/\zD wr bb 83 #[.slice A n cap]/\Bl w wr/\J (down n j) wr)
  (fun h _=>Dx h)
 case atStart=>exact⟨n,_,rfl,rfl,zoZ _,HK.o,HB.o,by rw[zmd];exact H0.o⟩
 case round=>
  obtain⟨j,v,rfl,hv,hj,h,I,r⟩:=hrel;have Y:=h.cell 0;have N:=zz r;have aa:=zz h;have Hb:=zz I;clear r h I
  cases j with
  |zero=>
   obtain rfl:v=-1:=zd;clear hv hj
   gi_wp2
   go_end0;exact⟨⟨_,rfl⟩,.inl ⟨_,rfl,N.o⟩⟩
  |succ i=>
   obtain rfl:v=(i:Int):=zd;have hd:decide ((i:Int) ≥ 0)=true:=zp;have r:i<n:=zd;have I:i<l.length:=by rw[HN.o];exact r
   obtain⟨b,o,rfl,ad,L⟩:=(HL.o.below Hb.o).at Tm.xF i I;have h:=Z.o (down n (i+1)) i _ N.o ⟨i,zde r⟩;have R:YY l i=l[i]:=by unfold YY;rw[zo8,zo6 I];rfl
   unfold D9 at h;rw[R]at h;generalize l[i]=t at L h;obtain⟨v,k,m,s⟩:=t;simp only[Tm.cells]at L h
   replace L:wr.rangeAt b (o+i*4) _:=L
   obtain⟨d0,d1,d2,d3⟩:=four L;obtain⟨fn,O,U,ab,hy,hR⟩:=h;have V:=zz (zde r);clear L R hv hj I
   gi_wp2
   refine hR.mono ?_;rintro e W3 (⟨rfl,I,R⟩ |⟨rfl,L⟩)
   ·have X:=zz I;have h:=zz R;clear I R d0 d1 d2 d3 Y
    gi_wp2
    go_roundw
    case rel=>exact⟨i,_,rfl,rfl,zd,aa.o.same h.o.box,Hb.o.trans h.o.b,by rw[<-V.o];exact X.o⟩
    case measure=>rw[G5,G5];omega
   ·gi_wp2
    refine bodyPost_ret (results_none rfl _ _ _) rfl ?_;exact⟨⟨_,rfl⟩,.inr ⟨_,trivial,L⟩⟩
attribute [local go_sem] Oper.semAt_some
def zjS(ρ:Env)(f:Value->Option Value):Prop:=∀h q,f h=some q->∃v,h=.string v/\q=.agg ((ρ v).getD Vl.zero).cells.toArray
def UP(w:World)(r:Array Value)(h:Nat)(ρ:Env)(l:List Tm)(q:List Nat)(W:World):Prop:=
 zD W w.heap.size 48 r/\zD W (w.heap.size+1) 43 #[.int .i8 0,.int .i64 0,.string ⟨#[]⟩]/\zD W (h+1) 140 #[.map (some h)]/\
  (∃f,xv prog 9 W h f/\zjS ρ f/\∀i∈q,(f (.string (YY l i).v)).isSome=true)/\Bl w W
theorem xv.grownBy{P:Program}{k:TypeId}{b:Nat}{f:Value->Option Value}{row:Option Nat}(h:xv P k W b f)(N:b<B)(L:W.grownBy q row)(I:∀r,row=some r->B<=r/\∃o:Obj,W.heap[r]? = some o/\o.isCells=false):xv P k q b f:=
 h.same (L.block b h.lt (fun e=>by have:=(I b e.symm).1;omega))
theorem zlz{X:Array Value}{l:List Tm}(W:r<B)(Y:w.heap.size<=B):OwnFrom B (UP w X r ρ l):=fun _ _ _ _ ⟨N,R,L,⟨f,V,O,U⟩,I⟩ h q=>
 ⟨N.grownBy h q,R.grownBy h q,L.grownBy h q,⟨f,V.grownBy W h q,O,U⟩,I.grown h I.size (fun k e=>zpd Y (q k e).1)⟩
theorem zkD{L:Array Value}{q:Nat}{l:List Tm}(Y:w.heap.size+1+1<=q):∀s W r,UP w L q ρ l s W->zh (·=q+1+1) W r->UP w L q ρ l s r:=fun _ _ _ ⟨O,U,N,⟨f,X,R,V⟩,I⟩ h=>
 ⟨O.zC h zd,U.zC h zd,N.zC h zd,⟨f,X.zC h zd,R,V⟩,I.trans (h.below I.size (fun x r=>zd))⟩
theorem zj4(hw:w.heap.size<=q.heap.size)(N:bb<q.heap.size)(W:World)(l:Nat)(o o':Obj)(r:q.heap.size<=l)(h:W.heap[l]? = some o)(L:o.isCells=false)(I:o.isWalk=false):V7 w bb W (W.putObj l o'):=
 ⟨belowK_b (w:=q) hw W l o o' r h L I,World.putObj_heap_other zd⟩
theorem zk2(hw:w.heap.size<=q.heap.size)(r:bb<q.heap.size)(W:World)(o:Obj)(h:q.heap.size<=W.heap.size):V7 w bb W (W.alloc o):=
 ⟨(Below.refl _ W).alloc zd o,Below.heap_alloc W o bb zd⟩
theorem zhd{L:World}(I:zh (·=r) W L)(h:r<B):KeepsFrom B W L:=⟨I.size,fun k o N q _=>(I.block k (zpb.1 q).1 zd).trans q⟩
theorem zhh(w:World)(tk:Nat->Int)(hT:Tk w tk)(ρ:Env)(hρ:∀v x,ρ v=some x->x.ok)(e:Ex)(hl:e.zO w)(ak:e.ok 8)(A:Option Addr)(n cap:Nat)(l:List Tm)(hr:zY Tm.cells w A l)(hn:l.length=n)(aw:n<=4194304)(hb:∀b∈l,b.x=(ρ b.v).getD Vl.zero/\b.v.size<=maxLen)(hc:∀t∈e.zN,t.v.toList≠[]->∃b∈l,b.v=t.v):
 Calls prog 142 #[.agg e.cells.toArray,.slice A n cap] w (yV (e.ev tk ρ) w):=by
 have am:=zz (fun W (I:Bl w W)=>DI W e (hl.below I) ak);have ad:=zz (fun W (I:Bl w W)=>zbt tk ρ hρ 8 e W (hT.below I (zoZ _)) (hl.below I) ak);have Hr:=zz hr;have Hn:=zz hn;have Hb:=zz hb;have Hc:=zz hc;obtain⟨r,L⟩:∃r,e.ev tk ρ=r:=⟨_,rfl⟩;rw[L]at ad ⊢;obtain⟨T,I⟩:∃T,e.zN=T:=⟨_,rfl⟩;rw[I]at ad Hc;clear L I hT hl ak hr hn hb hc;obtain⟨q,⟨v,k,m,s⟩,A1,U,aq⟩:=e;simp only[Ex.cells,Tm.cells]at am ad ⊢;generalize aq.length=N at am ad ⊢;obtain⟨W0,ax,I⟩:=ya w 48 43 #[.int .i8 q,.string v,.int .i8 k,.int .i64 m,.string s,.slice A1 N U] #[.int .i8 0,.int .i64 0,.string ⟨#[]⟩];have HX:=zz I;have c0:=I.b0.cell 0;have c1:=I.b0.cell 1;have c2:=I.b0.cell 2;have c3:=I.b0.cell 3;have c4:=I.b0.cell 4;have c5:=I.b0.cell 5;clear I;have ay:=@run_makeMap prog;refine(callsIn_wide (n:=3)).1 ?_;refine callsIn_of_wp_marks func142 rfl trivial ?_ rfl;simp only[ntmps142,zqk,zpn,zpF,Nat.reduceAdd,Nat.reduceSub,zqs,zqt,zqI,zqz,zpa,zpc]
 gi_wp2_with (first
  |(refine⟨trivial,?_⟩;gi_at_call 177;refine(callsIn_wide.2 (am.o _ HX.o.below)).mono ?_;rintro e R⟨rfl,av⟩;have ar:=zz av;clear av c0 c1 c2 c3 c4 c5)
  |(refine⟨trivial,?_⟩;gi_at_call 201;refine(callsIn_wide.2 (zgH _ _ _ _)).mono ?_;rintro e w2⟨rfl,rfl⟩))
 have Y:=ar.o.size;have ab:=HX.o.size;have V:xv prog 9 (R.alloc (.map #[] 0)) R.heap.size (fun _=>none):=xv.new R 0;obtain⟨W2,L⟩:∃W2,R.alloc (.map #[] 0)=W2:=⟨_,rfl⟩;rw[L]at V;have O:W2.heap.size=R.heap.size+1:=by rw[<-L];simp
 have aa:Bl R W2:=by rw[<-L];exact xo R _
 obtain⟨W4,X,I⟩:=ya W2 140 83 #[.map (some R.heap.size)] #[.slice A n cap];rw[L,X];have al:=I.size;rw[O]at al;have k2:=I.b0;have k3:=I.b1;rw[O]at k2 k3;have ai:Bl W0 W4:=zu ar.o (zu aa I.below);have ac:Bl w W4:=zu HX.o.below ai;have ap:xv prog 9 W4 R.heap.size (fun _=>none):=V.below I.below;have au:UP w #[.int .i8 q,.string v,.int .i8 k,.int .i64 m,.string s,.slice A1 N U] R.heap.size ρ l [] W4:=
  ⟨HX.o.b0.below ai,HX.o.b1.below ai,k2,⟨_,ap,(fun _ _ h=>by cases h),(fun _ h=>by cases h)⟩,ac⟩
 have an:w.heap.size+1+1<=R.heap.size:=zd;have Z:=zz al;have ae:=zz an;clear L X I O aa V k2 Y ab;refine zbF rfl zd (gf:=243) (lb:=#[.pointer (some ⟨R.heap.size+1+1,0,none⟩)]) rfl trivial (enters_of func243 zo rfl) (bb:=R.heap.size+1+1) (by rw[Z.o];omega)
  (zkW zd A n cap l Hn.o aw Hr.o ac k3) zm3 (zj4 ac.size (by rw[Z.o];omega)) (fun _=>rfl)
  (UP w #[.int .i8 q,.string v,.int .i8 k,.int .i64 m,.string s,.slice A1 N U] R.heap.size ρ l) (fun _ _ _=>False)
  (zlz (by rw[Z.o];omega) ac.size) (fun c _ _ _ _ h _ _=>h) (zkD an) au
  (fun x g=>{ tmps:=#[.agg #[.int .i8 q,.string v,.int .i8 k,.int .i64 m,.string s,.slice A1 N U],.slice A n cap,.pointer (some ⟨w.heap.size,0,none⟩),undef,.pointer (some ⟨w.heap.size+1,0,none⟩),.bool false,.pointer (some ⟨R.heap.size+1,0,none⟩),undef,.pointer (some ⟨g,0,none⟩),.agg #[.int .i8 q,.string v,.int .i8 k,.int .i64 m,.string s,.slice A1 N U],.int .i64 0,.bool false,undef,.map (some R.heap.size),.slice A n cap,.func (.func 243) #[] #[.pointer (some ⟨R.heap.size+1+1,0,none⟩)],.int .i64 (x:Int),.agg (YY l x).cells.toArray,undef,undef,undef,undef,undef,undef,undef,undef,undef,undef],defers:=[]})
  (fun x=>.cells (YY l x).cells.toArray 91) (zk2 ac.size (by rw[Z.o];omega)) ?assign ?body ?done ?stop
 case assign=>
  intro q x W K hK;unfold D9;generalize YY l x=y at hK ⊢;obtain⟨v2,k2,m2,s2⟩:=y;simp only[Tm.cells]at hK ⊢
  gi_wp2
  exact hK
 case stop=>
  rintro D c af W hD I h hK;exact h.elim
 case body=>
  rintro lk af x W g hg L hI⟨j,hj⟩;have V:x<n:=zmt (n:=n) (j:=j) (by rw[<-hj];simp);have I:x<l.length:=by rw[Hn.o];exact V
  have O:YY l x=l[x]:=by unfold YY;rw[zo8,zo6 I];rfl
  obtain⟨X,Y⟩:=Hb.o (YY l x) (O▸zo3 I);clear O I V hj;obtain⟨I,h1,h2,⟨f,h3,h4,h5⟩,h6⟩:=hI;obtain⟨y,O⟩:∃y,YY l x=y:=⟨_,rfl⟩;have Hy:=zz O;rw[O]at X Y L ⊢;clear O;obtain⟨W',ah,ab,aa⟩:=h3.put qT underlying140 (qY Y) (.agg y.x.cells.toArray);have O:zh (·=R.heap.size) W W':=(zh.refl _ W).yi aa (fun _=>rfl);have HC:=zz O;have HI:=zz (show UP w #[.int .i8 q,.string v,.int .i8 k,.int .i64 m,.string s,.slice A1 N U] R.heap.size ρ l (af++[x]) W' from
   ⟨I.zC O (by have:=ae.o;omega),h1.zC O (by have:=ae.o;omega),h2.zC O zd,⟨_,ab,fun V ag h=>by
    by_cases e:V=.string y.v
    ·simp only[e,if_true]at h
     cases h
     exact⟨y.v,e,by rw[X]⟩
    ·simp only[e,if_false]at h;exact h4 V ag h,fun i hi=>by
    by_cases e:(Value.string (YY l i).v)=.string y.v
    ·simp only[e,if_true];rfl
    ·simp only[e,if_false]
     rcases zo7.1 hi with h|h
     ·exact h5 i h
     ·rw[zo2.1 h,Hy.o]at e;exact absurd rfl e⟩,h6.trans (O.below h6.size (fun z hz=>by have:=ae.o;omega))⟩)
  have aj:w.heap.size+1+1<=W.heap.size:=by have:=h1.lt;omega
  have V:R.heap.size+1+1<W.heap.size:=by have:=(zpb.1 L).1;rw[Z.o]at hg;omega
  have HK:=zz (show V7 w (R.heap.size+1+1) W W' from⟨O.below zd (fun z hz=>by have:=ae.o;omega),O.block _ V zd⟩);have HF:Kz (KeepsFrom W4.heap.size W W'):=zhd O (by rw[Z.o];omega);have kg:zD W g 91 y.cells.toArray:=L;obtain⟨v2,k2,m2,s2⟩:=y;simp only[Tm.cells,Vl.cells]at kg ah ⊢;have d0:=kg.cell 0;have d1:=kg.cell 1;have d2:=kg.cell 2;have d3:=kg.cell 3;have c0:=h2.cell 0;clear I h1 h2 h3 h4 h5 h6 X Y O ab aa aj V kg L hg
  gi_wp2
  exact⟨HF.o,HK.o,HI.o⟩
 case done=>
  rintro D xs W hD rfl⟨I,h1,h2,⟨f,h3,h4,h5⟩,h6⟩hK;have hE:zag ρ f T:=fun t L O=>by
   obtain⟨b,hb,Y⟩:=Hc.o t L O;obtain⟨i,hi,aa⟩:=List.getElem_of_mem hb;have hs:=h5 i (ziU (by rw[<-Hn.o];exact hi));have X:YY l i=b:=by unfold YY;rw[zo8,zo6 hi,aa];rfl
   rw[X,Y]at hs;obtain⟨ag,L⟩:=zpW.1 hs;obtain⟨v',V,O⟩:=h4 _ _ L;injection V with V
   rw[L,zpT,O,<-V]
  have af:=zz (ad.o W h6 R.heap.size f h3 hE);have c0:=I.cell 0;have c1:=I.cell 1;have c2:=I.cell 2;have c3:=I.cell 3;have c4:=I.cell 4;have c5:=I.cell 5;have c6:=h2.cell 0;have H1:=zz h1;have HW:=zz h6;have HK:=zz hK;have Hd:=zz (show w.heap.size+1+1<=D by have:=Z.o;have:=ae.o;omega);clear I h1 h2 h3 h4 h5 h6 hE hK hD ac ai k3 au ap al an
  cases r with
  |none=>
   gi_wp2_with (refine⟨trivial,?_⟩;gi_at_call 202;refine(callsIn_wide.2 af.o).mono ?_;rintro e w3⟨⟨⟨zk,zn,zs⟩,rfl⟩,V⟩;simp only[Vl.cells];have I:=H1.o.below V;have e0:=I.cell 0;have e1:=I.cell 1;have e2:=I.cell 2;have f0:=I.frozen 0;have f1:=I.frozen 1;have f2:=I.frozen 2;have X:=zz V;have HS:=zz (Gh (a0:=0) I [.int .i8 zk,.int .i64 zn,.string zs] zp);clear V I c0 c1 c2 c3 c4 c5 c6)
   clear e0 e1 e2 f0 f1 f2;obtain⟨O,ag⟩:∃O,(((w3.setCell ⟨w.heap.size+1,0,none⟩ (.int .i8 zk)).setCell ⟨w.heap.size+1,1,none⟩ (.int .i64 zn)).setCell ⟨w.heap.size+1,2,none⟩ (.string zs))=O:=⟨_,rfl⟩;have L:XK w3 (w.heap.size+1) 43 #[.int .i8 zk,.int .i64 zn,.string zs] O:=by rw[<-ag];exact HS.o
   rw[ag];have ah:D<W.heap.size:=(zpb.1 HK.o).1;have Y:O.heap[D]? = some (.deferred (some [])):=(L.zC.block D (zo0 ah X.o.size) (by have:=Hd.o;omega)).trans ((X.o.block D ah).trans HK.o);have aa:=grownBy_putObj' O D (.deferred none);have ab:∀r,some D=some r->∃o,O.heap[r]? = some o/\o.isCells=false:=fun r e=>by cases e;exact⟨_,Y,rfl⟩
   have y0:=cell_kept (show O.cell? ⟨w.heap.size+1,0,none⟩=some (.int .i8 zk)from L.zG.cell 0) aa ab;have y1:=cell_kept (show O.cell? ⟨w.heap.size+1,1,none⟩=some (.int .i64 zn)from L.zG.cell 1) aa ab;have y2:=cell_kept (show O.cell? ⟨w.heap.size+1,2,none⟩=some (.string zs)from L.zG.cell 2) aa ab;refine⟨zp,.inl ⟨_,_,rfl,run_takeDeferred Y,?_⟩⟩;refine⟨.tuple #[.agg #[.int .i8 zk,.int .i64 zn,.string zs],.bool false],by simp[results,results142,go_sem,y0,y1,y2],?_⟩;have ao:Bl w O:=L.below (zu HW.o X.o) (zoZ _) (zqa _);have aj:=ao.trans (belowK_b (w:=w) (zoZ _) O D _ (.deferred none) (by have:=Hd.o;omega) Y rfl rfl);exact .Zo (x:=⟨zk,zn,zs⟩) rfl aj
  |some x=>
   obtain⟨zk,zn,zs⟩:=x
   gi_wp2_with (refine⟨trivial,?_⟩;gi_at_call 202;refine(callsIn_wide.2 af.o).mono ?_;rintro e w3⟨rfl,V⟩;simp only[Vl.cells];have I:=H1.o.below V;have e0:=I.cell 0;have e1:=I.cell 1;have e2:=I.cell 2;have f0:=I.frozen 0;have f1:=I.frozen 1;have f2:=I.frozen 2;have X:=zz V;have HS:=zz (Gh (a0:=0) I [.int .i8 zk,.int .i64 zn,.string zs] zp);clear V I c0 c1 c2 c3 c4 c5 c6)
   clear e0 e1 e2 f0 f1 f2;obtain⟨O,ag⟩:∃O,(((w3.setCell ⟨w.heap.size+1,0,none⟩ (.int .i8 zk)).setCell ⟨w.heap.size+1,1,none⟩ (.int .i64 zn)).setCell ⟨w.heap.size+1,2,none⟩ (.string zs))=O:=⟨_,rfl⟩;have L:XK w3 (w.heap.size+1) 43 #[.int .i8 zk,.int .i64 zn,.string zs] O:=by rw[<-ag];exact HS.o
   rw[ag];have ah:D<W.heap.size:=(zpb.1 HK.o).1;have Y:O.heap[D]? = some (.deferred (some [])):=(L.zC.block D (zo0 ah X.o.size) (by have:=Hd.o;omega)).trans ((X.o.block D ah).trans HK.o);have aa:=grownBy_putObj' O D (.deferred none);have ab:∀r,some D=some r->∃o,O.heap[r]? = some o/\o.isCells=false:=fun r e=>by cases e;exact⟨_,Y,rfl⟩
   have y0:=cell_kept (show O.cell? ⟨w.heap.size+1,0,none⟩=some (.int .i8 zk)from L.zG.cell 0) aa ab;have y1:=cell_kept (show O.cell? ⟨w.heap.size+1,1,none⟩=some (.int .i64 zn)from L.zG.cell 1) aa ab;have y2:=cell_kept (show O.cell? ⟨w.heap.size+1,2,none⟩=some (.string zs)from L.zG.cell 2) aa ab;refine⟨zp,.inl ⟨_,_,rfl,run_takeDeferred Y,?_⟩⟩;refine⟨.tuple #[.agg #[.int .i8 zk,.int .i64 zn,.string zs],.bool true],by simp[results,results142,go_sem,y0,y1,y2],?_⟩;have ao:Bl w O:=L.below (zu HW.o X.o) (zoZ _) (zqa _);have aj:=ao.trans (belowK_b (w:=w) (zoZ _) O D _ (.deferred none) (by have:=Hd.o;omega) Y rfl rfl);exact .Yp rfl aj
theorem zf1:qy prog 83 91 4 48:=qy.of (z:=.agg #[.string ⟨#[]⟩,.int .i8 0,.int .i64 0,.string ⟨#[]⟩]) underlying83 zo rfl zr
def Dr(ρ:Env)(f:Value->Option Value):Prop:=∀v:ByteArray,v.toList≠[]->(f (.string v)).getD (.agg Vl.zero.cells.toArray)=.agg ((ρ v).getD Vl.zero).cells.toArray
theorem zaK:∀{d:Nat}{e:Ex},e.ok d->∀t∈e.zN,t.v.size<=maxLen/\t.v.toList≠[95]
 |0,e,h,_,_=>by unfold Ex.ok at h;exact h.elim
 |d+1,.mk q t A U I,h,u,r=>by
  unfold Ex.ok at h;unfold Ex.zN at r
  rcases h with⟨-,rfl,L⟩ |⟨-,L,-,N⟩
  ·rcases zpp.1 r with rfl|r
   ·exact⟨L.small,L.1⟩
   ·unfold Ex.qp at r;cases r
  ·rcases zpp.1 r with rfl|r
   ·obtain⟨O,-⟩:=L;rw[O];exact⟨zo5 _,zp⟩
   ·have O:∀l:List Ex,(∀k∈l,k.ok d)->∀u∈Ex.qp l,u.v.size<=maxLen/\u.v.toList≠[95]:=fun l=>by
     induction l with
     |nil=>intro _ u r;unfold Ex.qp at r;cases r
     |cons a l V=>
      intro R u r;unfold Ex.qp at r
      rcases zo7.1 r with h|h
      ·exact zaK (R a zpi) u h
      ·exact V (fun k N=>R k (zpj _ N)) u h
    exact O I N u r
noncomputable def Gb(ρ:Env)(vs:List ByteArray):List Tm:=vs.map fun v=>⟨v,(ρ v).getD Vl.zero⟩
theorem zaA(w:World)(tk:Nat->Int)(hT:Tk w tk)(ρ:Env)(hρ:∀v x,ρ v=some x->x.ok)(e:Ex)(hl:e.zO w)(X:e.ok 8)(V:e.zN.length<=1048576)(sb kb:Nat)(cs:Array Value)(hs:zD w sb 142 cs)(am:cs[1]? = some (.map (some kb)))(f:Value->Option Value)(hm:xv prog 9 w kb f)(hf:Dr ρ f):
 Calls prog 328 #[.pointer (some ⟨sb,0,none⟩),.agg e.cells.toArray] w (yV (e.ev tk ρ) w):=by
 have R:=fun t V=>(zaK X t V).1
 have Hv:=zz (fun W (L:Bl w W)=>Tg W e (hl.below L) V R);have al:Kz (e.vars.length<=1048576):=zpd (YL e.zN) V;have ad:=zz (show ∀v∈e.vars,v.toList≠[]/\v.size<=maxLen from fun v U=>by
  obtain⟨Y,t,V,rfl⟩:=qJ.1 U;exact⟨Y.1,R t V⟩)
 have O:=zz (fun W (L:Bl w W) A n I (hr:zY Tm.cells W A (Gb ρ e.vars)) (Z:(Gb ρ e.vars).length=n) (aA:n<=4194304)=>
  zhh W tk (hT.below L (zoZ _)) ρ hρ e (hl.below L) X A n I (Gb ρ e.vars) hr Z aA
   (fun b Z=>by
    obtain⟨v,U,rfl⟩:=zpA.1 Z;exact⟨rfl,(ad.o v U).2⟩)
   (fun t V U=>⟨⟨t.v,(ρ t.v).getD Vl.zero⟩,zpA.2 ⟨t.v,qJ.2 ⟨⟨U,(zaK X t V).2⟩,t,V,rfl⟩,rfl⟩,rfl⟩))
 have Hs:=zz (fun W (L:Bl w W)=>(hs.below L).cell 1 |>.trans am);have Hm:=zz (fun W (L:Bl w W) (v:ByteArray) (Y:v.toList≠[]) (U:v.size<=maxLen)=>show(Instr.lookup 140 (.map (some kb)) (.string v) false).run prog W=.ok (.agg ((ρ v).getD Vl.zero).cells.toArray) W from by
  have:=(hm.below L).look qT underlying140 (z:=.agg Vl.zero.cells.toArray) zo (qY U) false;simp only[zp1,if_false]at this;rw[this,hf v Y])
 obtain⟨r,U⟩:∃r,e.ev tk ρ=r:=⟨_,rfl⟩;obtain⟨Y,L⟩:∃Y,e.vars=Y:=⟨_,rfl⟩;rw[L]at Hv al ad O;rw[U]at O ⊢;clear U L hT hl X V hs am hm hf R;obtain⟨q,⟨v,k,m,s⟩,A1,ap,ai⟩:=e;simp only[Ex.cells,Tm.cells]at Hv O ⊢;generalize ai.length=N at Hv O ⊢;obtain⟨W0,R,L⟩:=ya w 48 43 #[.int .i8 q,.string v,.int .i8 k,.int .i64 m,.string s,.slice A1 N ap] #[.int .i8 0,.int .i64 0,.string ⟨#[]⟩];have HX:=zz L;have c0:=L.b0.cell 0;have c1:=L.b0.cell 1;have c2:=L.b0.cell 2;have c3:=L.b0.cell 3;have c4:=L.b0.cell 4;have c5:=L.b0.cell 5;clear L;go_enter func328,ntmps328;go_upto_region 1 with fail
 try rw[R]
 clear R
 go_wp2_with (go_at_call 117;refine(Hv.o _ HX.o.below).mono ?_;rintro e w1⟨A2,aF,n2,rfl,av,ao,an,aD⟩;have ab:=zz an;have az:=zz ao;have ae:=zz av;clear an ao av aD c0 c1 c2 c3 c4 c5)
 have Z:=zz (show n2<=1048576 by rw[<-ae.o];exact al.o)
 go_loopg[6,12] n2 (fun gk U L R=>∃(i:Nat) (A:Option Addr) (I:Nat) (ys:List Tm),i<=n2/\gk=n2-i/\L=.int .i64 (i:Int)/\U=.slice A i I/\ys.length=i/\ys=Gb ρ (Y.take i)/\Own Tm.cells 91 4 R A I ys/\(∀g∈zw A,w1.heap.size<=g)/\Bl w1 R)
 case atStart=>exact⟨0,none,0,[],zo5 _,rfl,rfl,rfl,rfl,rfl,Own.qC _,by simp[zw],Below.refl _ _⟩
 case round=>
  obtain⟨i,A',ak,ys,hi,rfl,rfl,rfl,I,L,ho,hg,R⟩:=hrel;have aa:=zz I;have aj:=zz L;have Ho:=zz ho;have Hg:=zz hg;have HB:=zz R;have U:Kz (Bl w wr):=zu HX.o.below (zu ab.o R);clear I L ho hg R
  by_cases ay:i<n2
  ·have af:i<Y.length:=by rw[ae.o];exact ay
   obtain⟨b,o,rfl,aG,hr⟩:=(az.o.xI.below HB.o).at (c:=0) (fun _=>rfl) i af;obtain⟨R,ac⟩:=ad.o _ (zo3 af);have ag:=zz (show Y.take (i+1)=Y.take i++[Y[i]] by rw[List.take_add_one,zo6 af];rfl);generalize Y[i]=u at hr R ac ag
   replace hr:wr.rangeAt b (o+i*1) [.string u]:=hr
   have d0:wr.cell? ⟨b,o+i,none⟩=some (.string u):=by simpa using hr 0 _ rfl
   have I:=Hm.o wr U.o u R ac;obtain⟨⟨xk,xn,xs⟩,hx⟩:∃x,(ρ u).getD Vl.zero=x:=⟨_,rfl⟩;have Hx:=zz hx;rw[hx]at I;simp only[Vl.cells]at I;have s1:=Hs.o wr U.o;have aE:i<=1048576:=zpd hi Z.o;clear hr R ac hx
   go_wp2_with (at_builtin;refine ZG zf1 (f:=Tm.cells) (xs:=ys) (Ho.o.alloc _) aa.o ⟨u,⟨xk,xn,xs⟩⟩ ?_)
   intro g ac w5 R au aw;have ar:zh (·∈zw A') wr w5:=((zh.refl _ wr).alloc _).trans au (fun x hx _=>hx);have aq:Bl w1 w5:=ar.qq HB.o (zoZ _) Hg.o;have ah:w1.heap.size<=g:=by
    rcases aw with h|h
    ·exact Hg.o g h
    ·have h4:=HB.o.size;try simp at h
     omega
   have ax:=zz R;have aC:=zz aq;have aB:=zz ah;clear R au aw ar aq ah d0 s1 I;go_wp2
   go_roundg (n2-(i+1))
   case measure=>omega
   case rel=>
    exact⟨i+1,some ⟨g,0,none⟩,ac,ys++[⟨u,⟨xk,xn,xs⟩⟩],zd,rfl,ze,rfl,by simp[aa.o],by rw[ag.o,aj.o];unfold Gb;rw[zpt,zpR,Hx.o],ax.o,xW aB.o,aC.o⟩
  ·obtain rfl:i=n2:=zd;have L:=aj.o;rw[zpm (zqC ae.o)]at L;have R:=zz (O.o wr U.o A' i ak (by rw[<-L];exact Ho.o.xI) (by rw[<-L];exact aa.o) (by have:=Z.o;omega));have I:=HX.o.b0.below (zu ab.o HB.o);have c0:=I.cell 0;have c1:=I.cell 1;have c2:=I.cell 2;have c3:=I.cell 3;have c4:=I.cell 4;have c5:=I.cell 5;have HZ:=zz (HX.o.b1.below (zu ab.o HB.o));clear L I
   cases r with
   |none=>
    go_wp2_with (first
     |(go_at_call 142;refine R.o.mono ?_;rintro e w3⟨⟨⟨zk,zn,zs⟩,rfl⟩,L⟩;simp only[Vl.cells];have ac:=zz (zu U.o L);have af:=zz (HZ.o.below L);clear L c0 c1 c2 c3 c4 c5)
     |(refine xy 43 _ _ rfl ?_;refine yE 43 (w.heap.size+1) 0 af.o [.int .i8 zk,.int .i64 zn,.string zs] ?_;intro W9 I;have z0:=I.zG.cell 0;have z1:=I.zG.cell 1;have z2:=I.zG.cell 2;have HF:=zz I;clear I))
    simp only[zpr,zpa,zpe,zpc,zo9,zpg]at z0 z1 z2;refine bodyPost_ret (v:=.tuple #[.agg #[.int .i8 zk,.int .i64 zn,.string zs],.bool false]) (by simp[results,results328,go_sem,z0,z1,z2]) rfl ?_;exact .Zo (x:=⟨zk,zn,zs⟩) rfl (HF.o.below ac.o (zoZ _) (zqa _))
   |some x=>
    obtain⟨zk,zn,zs⟩:=x
    go_wp2_with (first
     |(go_at_call 142;refine R.o.mono ?_;rintro e w3⟨rfl,L⟩;simp only[Vl.cells];have ac:=zz (zu U.o L);have af:=zz (HZ.o.below L);clear L c0 c1 c2 c3 c4 c5)
     |(refine xy 43 _ _ rfl ?_;refine yE 43 (w.heap.size+1) 0 af.o [.int .i8 zk,.int .i64 zn,.string zs] ?_;intro W9 I;have z0:=I.zG.cell 0;have z1:=I.zG.cell 1;have z2:=I.zG.cell 2;have HF:=zz I;clear I))
    simp only[zpr,zpa,zpe,zpc,zo9,zpg]at z0 z1 z2;refine bodyPost_ret (v:=.tuple #[.agg #[.int .i8 zk,.int .i64 zn,.string zs],.bool true]) (by simp[results,results328,go_sem,z0,z1,z2]) rfl ?_;exact .Yp rfl (HF.o.below ac.o (zoZ _) (zqa _))
end
end Go.Proofs.YtfdickkdlcgicaaGreatDoor.C
namespace Go.Proofs.YtfdickkdlcgicaaGreatDoor
open Go.Proofs.Tryz Go Go.RowKit Go.Maps Go.WideMaps
variable {A:Option Addr}{D:DataW Unit}{N b cap n q r zR:Nat}{P:Program}{R:Value->Option (DataW Unit×List MemPlace)}{S S':List Nat}{a:World}{k:TypeId}{p:Addr}
section
theorem laidOut:laidOutB prog=true:=zo
structure z6 where
 k:Int
 n:Int
 s:ByteArray
theorem z6.zcy{a b:z6}(q:a.k=b.k)(h:a.n=b.n)(r:a.s=b.s):a=b:=by cases a;cases b;simp_all
instance:DecidableEq z6:=fun a b=>
 if h:a.k=b.k/\a.n=b.n/\a.s=b.s then isTrue (z6.zcy h.1 h.2.1 h.2.2)else isFalse (fun e=>h (by subst e;exact⟨rfl,rfl,rfl⟩))
def z6.wf(v:z6):Prop:=(Lit.int .i8 v.k).wf=true/\(Lit.int .i64 v.n).wf=true/\v.s.size<=maxLen
def z6.cells(v:z6):List Value:=[.int .i8 v.k,.int .i64 v.n,.string v.s]
def z6.agg(v:z6):Value:=.agg #[.int .i8 v.k,.int .i64 v.n,.string v.s]
theorem z6.ziA{a b:z6}(h:a.agg=b.agg):a=b:=by
 unfold z6.agg at h;simp at h;exact z6.zcy h.1 h.2.1 h.2.2
def z6.ok(v:z6):Bool:=(v.k==1&&v.s.size==0)||(v.k==2&&v.n==0&&decide (v.s.size<=200))
theorem zmZ:prog.keyType 43=true:=zo
theorem zbd:prog.cellsOf 43=3:=zo
theorem zg2:prog.cellsOf 41=1:=zo
theorem zln:prog.cellsOf 2=1:=zo
theorem zg4:prog.cellsOf 9=1:=zo
theorem zdK:prog.types.size+1=(prog.types.size-1)+1+1:=zo
theorem law:Keyed prog 43:=Keyed.of_law (deep_law_laid laidOut (m:=3) zd (of_decide_eq_true zo) zo (zo))
def z6.lit(v:z6):Lit:=.string (keyBytes [.int .i8 v.k,.int .i64 v.n,.string v.s.data.toList])
theorem zkK(d:Nat)(v:z6)(h:v.wf):prog.keyLits (d+1+1) 43 v.cells=some [.int .i8 v.k,.int .i64 v.n,.string v.s.data.toList]:=by
 obtain⟨r,q,I⟩:=h;simp[Program.keyLits,underlying43,underlying41,underlying2,underlying9,z6.cells,zbd,zg2,zln,zg4,r,q,I]
theorem Gi(v:z6)(h:v.wf):keyOf prog 43 v.agg=some v.lit:=by
 have e:(prog.keyLits (prog.types.size+1) 43 v.agg.cells.toList)=some [.int .i8 v.k,.int .i64 v.n,.string v.s.data.toList]:=by
  rw[zdK];exact zkK _ v h
 unfold keyOf;rw[underlying43];simp only;rw[zmZ,e];simp[z6.agg,Value.formed,underlying43,zbd,z6.lit]
theorem Ti{a b:z6}(r:a.wf)(L:b.wf)(h:a.lit=b.lit):a=b:=by
 have I:=Gi a r;have q:=Gi b L;rw[<-h]at q;exact z6.ziA (law.inj I q)
theorem zan(v:z6):WideAt.IsKeyLit v.lit:=trivial
theorem zdQ(w:World):(zeroValue 153).run prog w=.ok (.int .i32 0) w:=zo
structure Yg (D:DataW Unit) (vs:List z6):Prop where
 tidy:Tidy D
 size:Maps.size D=vs.length
 has:∀v:z6,v.wf->Maps.has D v.lit=decide (v∈vs)
 at_:∀i (h:i<vs.length),D.atKey (vs[i]).lit (.lit (.int .i32 0))=.lit (.int .i32 (i:Int))
theorem Yg.isMap{vs:List z6}(h:Yg D vs):IsMap D:=h.tidy.isMap
theorem Yg.none_:Yg (.map []) []:=⟨tidy_empty,rfl,fun v _=>by simp[Maps.has],fun i h=>by simp at h⟩
theorem Yg.put{vs:List z6}(h:Yg D vs)(hw:∀v∈vs,v.wf)(v:z6)(r:v.wf)(O:v∉vs):Yg (D.put v.lit (.lit (.int .i32 (vs.length:Int)))) (vs++[v]):=by
 refine⟨h.tidy.put (zan _) _,?_,fun u L=>?_,fun i N=>?_⟩
 ·rw[size_put h.tidy,h.has v r,h.size];simp[O]
 ·by_cases e:u=v
  ·subst e;rw[has_put_same h.isMap (zan _)];simp
  ·rw[has_put_other (fun q=>e (Ti L r q)),h.has u L];simp[e]
 ·rw[zo1]at N
  by_cases e:i<vs.length
  ·rw[zqD e,atKey_put_other,h.at_ i e];intro q;have I:vs[i]∈vs:=zo3 e;exact O (Ti (hw _ I) r q▸I)
  ·obtain rfl:i=vs.length:=by simp at N;omega
   rw[List.getElem_append_right (zoZ _)];simp[atKey_put_same h.isMap (zan _)]
theorem Yg.del{D:DataW Unit}{vs us:List z6}(h:Yg D (vs++us))(hw:∀v∈vs++us,v.wf)(U:(vs++us).Nodup):∀(j:Nat),j<=us.length->
 ∃I,I=(us.take j).foldl (fun D v=>D.del v.lit) D/\(Tidy I/\Maps.size I+j=Maps.size D)/\(∀v:z6,v.wf->Maps.has I v.lit=(Maps.has D v.lit&&!decide (v∈us.take j)))/\(∀v:z6,v.wf->v∉us.take j->I.atKey v.lit (.lit (.int .i32 0))=D.atKey v.lit (.lit (.int .i32 0)))
 |0,_=>⟨D,rfl,⟨h.tidy,rfl⟩,fun v _=>zp,fun v _ _=>rfl⟩
 |j+1,hj=>by
  obtain⟨I,rfl,⟨W,Y⟩,V,Z⟩:=Yg.del h hw U j zd;have r:j<us.length:=zd;have q:(us[j]).wf:=hw _ zp;refine⟨_,rfl,?_,?_,?_⟩
  ·rw[zo4 r,zqi];refine⟨W.del _,?_⟩;have X:=size_del (k:=(us[j]).lit) W;have O:Maps.has (List.foldl (fun D v=>D.del v.lit) D (List.take j us)) (us[j]).lit=true:=by
    rw[V _ q,h.has _ q];have N:us[j]∉us.take j:=by
     intro R;obtain⟨i,hi,L⟩:=zpl.1 R;rw[zpv]at hi;rw[List.getElem_take]at L;have:=(zqH.1 U).2.1;have:=(List.getElem_inj this).1 L;omega
    simp[N]
   rw[O]at X;simp only[if_true]at X;show Maps.size (DataW.del _ _)+(j+1)=_;omega
  ·intro v N;simp only[zo4 r,zqi];show Maps.has (DataW.del _ _) v.lit=_
   by_cases e:v=us[j]
   ·subst e;rw[has_del_same,show decide (us[j]∈us.take j++[us[j]])=true from decide_eq_true (zpk _ (zo2.2 rfl))];simp
   ·rw[has_del_other (fun L=>e (Ti N q L)),V v N]
    congr 2
    simp only[zo7,zo2,e,or_false]
  ·intro v N O;rw[zo4 r]at O ⊢;rw[zqi];show(DataW.del _ _).atKey v.lit _=_;rw[zo7,zo2]at O;rw[atKey_del_other (fun L=>O (.inr (Ti N q L))),Z v N (fun R=>O (.inl R))]
theorem Yg.cut{vs us:List z6}(h:Yg D (vs++us))(hw:∀v∈vs++us,v.wf)(I:(vs++us).Nodup):Yg (us.foldl (fun D v=>D.del v.lit) D) vs:=by
 obtain⟨X,e,⟨V,U⟩,L,N⟩:=Yg.del h hw I us.length (zoZ _);rw[zpz]at e L N;subst e;have q:=zqH.1 I;refine⟨V,?_,fun v R=>?_,fun i O=>?_⟩
 ·have:=h.size;rw[zo1]at this;omega
 ·rw[L v R,h.has v R]
  by_cases e:v∈vs
  ·have:v∉us:=fun r=>q.2.2 v e v r rfl
   simp[e,this]
  ·by_cases e2:v∈us<;>simp[e,e2]
 ·have W:vs[i]∈vs:=zo3 O;have:vs[i]∉us:=fun r=>q.2.2 _ W _ r rfl
  rw[N _ (hw _ zp) this];have:=h.at_ i (by rw[zo1];omega);rw[zqD O]at this;exact this
structure xD (S:List Nat) (w w':World):Prop where
 os:w'.os=w.os
 tape:w'.tape=w.tape
 output:w'.output=w.output
 size:w.heap.size<=w'.heap.size
 block:∀k,k<w.heap.size->k∉S->w'.heap[k]? = w.heap[k]?
structure Yx (N:Nat) (S S':List Nat):Prop where
 sub:∀k∈S',k∈S\/N<=k
 map:S'[1]? = S[1]?
theorem Yx.refl(N:Nat)(S:List Nat):Yx N S S:=⟨fun _ h=>.inl h,rfl⟩
instance {N:Nat} {S S':List Nat}:CoeFun (Yx N S S') (fun _=>∀k,k∈S'->k∈S\/N<=k):=⟨Yx.sub⟩
theorem xD.refl(S:List Nat)(w:World):xD S w w:=⟨rfl,rfl,rfl,zoZ _,fun _ _ _=>rfl⟩
theorem xD.trans{b c:World}(h:xD S a b)(k:xD S' b c)(N:∀x∈S',x∈S\/a.heap.size<=x):xD S a c:=
 ⟨k.os.trans h.os,k.tape.trans h.tape,k.output.trans h.output,zpd h.size k.size,fun i r I=>
  (k.block i (zo0 r h.size) (fun L=>by rcases N i L with q|q;exact I q;omega)).trans (h.block i r I)⟩
theorem xD.mono{w w':World}(h:xD S w w')(I:∀x∈S,x∈S'):xD S' w w':=
 ⟨h.os,h.tape,h.output,h.size,fun k r L=>h.block k r (fun q=>L (I k q))⟩
theorem xD.xi{w w':World}(S:List Nat)(h:Bl w w'):xD S w w':=⟨h.os,h.tape,h.output,h.size,fun k q _=>h.block k q⟩
theorem xD.drew{w:World}(h:xD S a w):xD S a w.drew:=⟨h.os,h.tape,h.output,h.size,h.block⟩
theorem xD.alloc{w:World}(h:xD S a w)(o:Obj):xD S a (w.alloc o):=
 ⟨h.os,h.tape,h.output,by have:=h.size;simp;omega,fun k q r=>(Below.heap_alloc _ _ _ (by have:=h.size;omega)).trans (h.block k q r)⟩
theorem xD.setCell{w:World}(h:xD S a w)(I:p.block∈S\/a.heap.size<=p.block)(u:Value):xD S a (w.setCell p u):=
 ⟨h.os,h.tape,h.output,by have:=h.size;simpa[World.setCell]using this,fun k L r=>
  (Below.heap_setCell _ _ _ _ (by rintro rfl;rcases I with q|q;exact r q;omega)).trans (h.block k L r)⟩
theorem xD.grown{w w':World}{row:Option Nat}(h:xD S a w)(q:w.grownBy w' row)(N:∀k,row=some k->k∈S\/a.heap.size<=k):xD S a w':=
 ⟨q.os.trans h.os,q.tape.trans h.tape,q.output.trans h.output,zpd h.size q.size,fun k L I=>
  (q.block k (by have:=h.size;omega) (fun e=>by rcases N k e.symm with r|r;exact I r;omega)).trans (h.block k L I)⟩
def zD(w:World)(g:Nat)(t:TypeId)(cs:Array Value):Prop:=w.heap[g]? = some (.cells cs t (0,0))
section
variable {w w':World}{g:Nat}{t:TypeId}{cs:Array Value}
theorem zD.lt(h:zD w g t cs):g<w.heap.size:=by
 rcases zq2 g w.heap.size with r|q
 ·exact r
 ·unfold zD at h;rw[zqL q]at h;cases h
theorem zD.cell(h:zD w g t cs)(i:Nat):w.cell? ⟨g,i,none⟩=cs[i]?:=cell_of_row w g i cs t (0,0) h
theorem zD.frozen(h:zD w g t cs)(i:Nat):w.frozen? ⟨g,i,none⟩=false:=by
 unfold zD at h;simp[World.frozen?,h]
theorem zD.new(w:World)(t:TypeId)(cs:Array Value):zD (w.alloc (.cells cs t)) w.heap.size t cs:=heap_alloc_new w _
theorem zD.drew(h:zD w g t cs):zD w.drew g t cs:=h
theorem zD.drewN(h:zD w g t cs)(n:Nat):zD (w.drewN n) g t cs:=h
theorem zD.alloc(h:zD w g t cs)(o:Obj):zD (w.alloc o) g t cs:=(Below.heap_alloc w o g h.lt).trans h
theorem zD.qE(h:zD w g t cs)(i:Nat)(u:Value):zD (w.setCell ⟨g,i,none⟩ u) g t (cs.setIfInBounds i u):=by
 unfold zD at h ⊢;simp[World.setCell,Array.getElem?_modify,h]
theorem zD.XQ(h:zD w g t cs)(q:g≠p.block)(u:Value):zD (w.setCell p u) g t cs:=(Below.heap_setCell w p u g q).trans h
theorem zD.same(h:zD w g t cs)(q:w'.heap[g]? = w.heap[g]?):zD w' g t cs:=q.trans h
end
theorem G0{w w':World}(h:w.ownsMap P k R b n D)(N:w'.heap[b]? = w.heap[b]?):w'.ownsMap P k R b n D:=by
 obtain⟨L,q,I,r⟩:=h;exact⟨L,q,N.trans I,r⟩
theorem Gm{w w':World}{e:TypeId}{size:Nat}{v:Value}{xs:List Value}(h:w.ownsRow q e size v n xs)(U:∀g,v.ownBlock=some g->w'.heap[g]? = w.heap[g]?):w'.ownsRow q e size v n xs:=by
 obtain⟨R,L⟩:=h;refine⟨R,?_⟩
 rcases L with L |⟨g,N,I,rfl,V,O,r⟩
 ·exact .inl L
 ·exact .inr ⟨g,N,I,rfl,V,(U g rfl).trans O,r⟩
theorem zj6{w:World}{m:Nat}(h:w.ownsMap P k R b n D)(O:Maps.size D<=m):w.ownsMap P k R b m D:=by
 obtain⟨I,q,N,L,U,r⟩:=h;refine⟨I,q,N,L,?_,r⟩;have:I.size=Maps.size D:=by rw[r];show _=List.length _;rw[length_sorted];simp
 omega
def Xx(vs:List z6):List Value:=vs.flatMap z6.cells
theorem zkc(vs:List z6):(Xx vs).length=vs.length*3:=by
 induction vs with
 |nil=>rfl
 |cons v vs h=>show(v.cells++Xx vs).length=_;rw[zo1,h];simp[z6.cells];omega
theorem zj8(a b:List z6):Xx (a++b)=Xx a++Xx b:=by simp[Xx]
theorem znE(vs:List z6)(n:Nat):Xx (vs.take n)=(Xx vs).take (n*3):=by
 induction vs generalizing n with
 |nil=>simp[Xx]
 |cons v vs h=>
  cases n with
  |zero=>simp[Xx]
  |succ n=>
   show v.cells++Xx (vs.take n)=List.take ((n+1)*3) (v.cells++Xx vs);rw[h,List.take_append,show v.cells.length=3 from rfl,show(n+1)*3-3=n*3 from zd,zpm (show v.cells.length<=(n+1)*3 from by show 3<=_;omega)]
theorem zng(vs:List z6)(i:Nat)(h:i<vs.length):(Xx vs)[i*3]? = some (.int .i8 (vs[i]).k)/\(Xx vs)[i*3+1]? = some (.int .i64 (vs[i]).n)/\(Xx vs)[i*3+2]? = some (.string (vs[i]).s):=by
 induction vs generalizing i with
 |nil=>simp at h
 |cons v vs q=>
  cases i with
  |zero=>exact⟨rfl,rfl,rfl⟩
  |succ i=>
   have:=q i (by simpa using h);have e:Xx (v::vs)=.int .i8 v.k::.int .i64 v.n::.string v.s::Xx vs:=rfl;rw[e,show(i+1)*3=i*3+3 from zd];simpa using this
def yy(w:World)(A:Option Addr)(cap:Nat)(vs:List z6):Prop:=w.ownsRow 0 43 3 (.slice A vs.length cap) vs.length (Xx vs)
def zw(A:Option Addr):List Nat:=(A.map (·.block)).toList
theorem yy.form{w:World}{vs:List z6}(h:yy w A cap vs):(A=none/\cap=0/\vs=[])\/∃g,A=some ⟨g,0,none⟩/\g<w.heap.size/\vs.length<=cap/\cap<=maxLen:=by
 obtain⟨U,q⟩:=h
 rcases q with⟨e,r⟩ |⟨g,c,I,e,_,L,N,O,V,R⟩
 ·injection e with e1 e2 e3
  exact .inl ⟨e1,e3,zpI r⟩
 ·injection e with e1 e2 e3
  subst e3;exact .inr ⟨g,e1,(zpb.1 L).1,N,O⟩
theorem yy.same{w w':World}{vs:List z6}(h:yy w A cap vs)(q:∀g∈zw A,w'.heap[g]? = w.heap[g]?):yy w' A cap vs:=
 Gm h (fun g r=>q g (by cases A<;>simp_all[Value.ownBlock,zw]))
theorem yy.lt{w:World}{vs:List z6}(h:yy w A cap vs):∀g∈zw A,g<w.heap.size:=by
 rcases h.form with⟨rfl,_⟩ |⟨g,rfl,q,_⟩
 ·simp[zw]
 ·simpa[zw]using q
theorem yy.qC(w:World):yy w none 0 []:=World.ownsRow_nil w 0 _ _
theorem yy.cell{w:World}{g:Nat}{vs:List z6}(h:yy w (some ⟨g,0,none⟩) cap vs)(j:Nat)(q:j<vs.length*3):w.cell? ⟨g,j,none⟩=(Xx vs)[j]?:=
 World.ownsRow.cellAt h j q
theorem yy.three{w:World}{g:Nat}{vs:List z6}(h:yy w (some ⟨g,0,none⟩) cap vs)(i:Nat)(hi:i<vs.length):
 w.cell? ⟨g,i*3,none⟩=some (.int .i8 (vs[i]).k)/\w.cell? ⟨g,i*3+1,none⟩=some (.int .i64 (vs[i]).n)/\w.cell? ⟨g,i*3+2,none⟩=some (.string (vs[i]).s):=by
 obtain⟨r,q,I⟩:=zng vs i hi;exact⟨(h.cell _ zd).trans r,(h.cell _ zd).trans q,(h.cell _ zd).trans I⟩
theorem yy.take{w:World}{vs:List z6}(h:yy w A cap vs)(n:Nat)(X:n<=vs.length):yy w A cap (vs.take n):=by
 have N:(vs.take n).length=n:=by rw[zpv];omega
 obtain⟨W,r⟩:=h;refine⟨zkc _,?_⟩;rw[N]
 rcases r with⟨e,V⟩ |⟨g,c,q,e,L,O,Y,U,R,I⟩
 ·injection e with e1 e2 e3
  subst e1;subst e3;obtain rfl:n=0:=zd;exact .inl ⟨rfl,rfl⟩
 ·injection e with e1 e2 e3
  subst e1;subst e3;refine .inr ⟨g,cap,q,rfl,L,O,zd,U,R,?_⟩;rw[znE,<-I,List.take_take]
  congr 1;omega
structure yh (w:World) (tb zR:Nat) (vs:List z6) (mb:Nat) (A:Option Addr) (cap:Nat) (D:DataW Unit):Prop where
 zG:zD w tb 184 #[.int .i64 zR,.map (some mb),.slice A vs.length cap]
 own:w.ownsMap prog 43 (plainElem prog 153) mb vs.length D
 nums:Yg D vs
 row:yy w A cap vs
 wf:∀v∈vs,v.wf
 ok:∀v∈vs,v.ok=true
 nodup:vs.Nodup
 le:vs.length<=zR
 zR:zR<=2147483647
def Xa(h q:Nat)(A:Option Addr):List Nat:=h::q::zw A
def qu(w:World)(q zR:Nat)(vs:List z6)(S:List Nat):Prop:=∃r A h D,yh w q zR vs r A h D/\S=Xa q r A
theorem yh.same{w w':World}{vs:List z6}(h:yh w q zR vs r A cap D)(I:∀k∈Xa q r A,w'.heap[k]? = w.heap[k]?):yh w' q zR vs r A cap D:=
 ⟨h.zG.same (I _ (by simp[Xa])),G0 h.own (I _ (by simp[Xa])),h.nums,h.row.same (fun g q=>I g (by simp[Xa,q])),h.wf,h.ok,h.nodup,h.le,h.zR⟩
theorem yh.lt{w:World}{vs:List z6}(h:yh w q zR vs r A cap D):∀k∈Xa q r A,k<w.heap.size:=by
 intro k q;simp only[Xa,zpp]at q
 rcases q with rfl|rfl|q
 ·exact h.zG.lt
 ·exact h.own.lt
 ·exact h.row.lt k q
theorem yh.zai{w:World}{vs:List z6}(h:yh w q zR vs r A cap D):r≠q:=by
 rintro rfl;have L:=h.zG;obtain⟨O,N,I,_⟩:=h.own;unfold zD at L;rw[L]at I;cases I
theorem yh.Dy{w:World}{vs:List z6}{O:Nat}(h:yh w N zR vs O A cap D):∀g∈zw A,g≠N:=by
 intro g r e;subst e
 rcases h.row.2 with⟨L,_⟩ |⟨W,X,R,L,_,U,_⟩
 ·injection L with I;subst I;simp[zw]at r
 ·injection L with I;subst I
  have q:=h.zG;simp[zw]at r;subst r;unfold zD at q;rw[U]at q;injection q with q
  injection q with _ V
  cases V
theorem yh.zja{w:World}{R:Nat}{vs:List z6}(h:yh w R zR vs N A cap D):∀g∈zw A,g≠N:=by
 intro g q e;subst e
 rcases h.row.2 with⟨I,_⟩ |⟨V,W,O,I,_,U,_⟩
 ·injection I with r;subst r;simp[zw]at q
 ·injection I with r;subst r
  obtain⟨X,Y,L,_⟩:=h.own;simp[zw]at q;subst q;rw[U]at L;cases L
theorem qu.same{w w':World}{vs:List z6}(h:qu w r zR vs S)(N:∀k∈S,w'.heap[k]? = w.heap[k]?):qu w' r zR vs S:=by
 obtain⟨I,A,q,D,L,rfl⟩:=h;exact⟨I,A,q,D,L.same N,rfl⟩
theorem qu.lt{w:World}{vs:List z6}(h:qu w q zR vs S):∀k∈S,k<w.heap.size:=by
 obtain⟨L,A,r,D,I,rfl⟩:=h;exact I.lt
theorem qu.below{w w':World}{vs:List z6}(h:qu w q zR vs S)(I:Bl w w'):qu w' q zR vs S:=
 h.same fun k r=>I.block k (h.lt k r)
end
section
@[go_sem] theorem zoS(m:Option Nat)(w:World):(binOp .neq 182 (.map m) (.map none)).run prog w=.ok (.bool (!m.isNone)) w:=run_neq_map_nil w _ _ _ m underlying182
theorem zab{k:IntKind}{a b:Int}(h:a=b):Ending.returned (.int k a)=.returned (.int k b):=by rw[h]
theorem zdM(s:ByteArray):(s.size==0)=s.toList.isEmpty:=by
 rw[ByteArray.toList_eq]
 cases h:s.data.toList with
 |nil=>
  have:s.data.toList.length=0:=by rw[h];rfl
  have e:s.size=0:=this;rw[e];rfl
 |cons x l=>
  have:s.data.toList.length=l.length+1:=by rw[h];rfl
  have e:s.size=l.length+1:=this;rw[e];rfl
theorem ZX(q:Nat)(m:Int)(r:Nat)(v:Value)(w:World)(h:zD w q 184 #[.int .i64 m,.map (some r),v]):
 Calls prog 128 #[.pointer (some ⟨q,0,none⟩)] w fun e I=>e=.returned (.bool true)/\I=w:=by
 have I:w.cell? ⟨q,1,none⟩=some (.map (some r)):=h.cell 1;go_enter func128,ntmps128;go_wp2
 go_ret
 exact⟨rfl,rfl⟩
def z6.code(v:z6):Int:=if v.ok then 0 else 10
theorem GD(v:z6)(w:World):
 Calls prog 32 #[v.agg] w fun e h=>e=.returned (.int .i64 v.code)/\Bl w h:=by
 obtain⟨k,n,s⟩:=v;show Calls _ _ #[.agg #[.int .i8 k,.int .i64 n,.string s]] _ _;go_enter func32,ntmps32;go_wp2
 all_goals
  go_ret
  refine⟨zab ?_,(Below.refl _ _).alloc (zoZ _) _⟩
  go_light
  first |(simp_all[z6.code,z6.ok,zdM];done) |(simp_all[z6.code,z6.ok,zdM];omega)
end
