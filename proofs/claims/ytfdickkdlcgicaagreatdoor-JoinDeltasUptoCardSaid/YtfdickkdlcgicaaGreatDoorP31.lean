/-
  What is worked out: what a rule without a head gives. What i
-/
import Derived.Test.YtfdickkdlcgicaaGreatDoorP30
set_option maxRecDepth 100000
set_option maxHeartbeats 8000000
set_option linter.all false
namespace Go.Proofs.YtfdickkdlcgicaaGreatDoor.C
open Go.Proofs.Tryz Go Go.RowKit Go.Maps Go.WideMaps
variable {L O Y zR:Int}{N T V X Z fb tb wb:Nat}{R:Nat->Prop}{w w':World}
section
def zlf(N U R:Nat)(zR r L:Int)(w:World)(e:Ending)(w':World):Prop:=
 ∃(q:Int) (O:Option Addr) (h I:Nat),e=.returned (.slice O I h)/\Own US 275 1 w' O h (List.replicate I ())/\(∀g∈zw O,w.heap.size<=g)/\zD w' N 274 #[.int .i64 q,.int .i64 zR,.int .i64 r,.map (some U),.map (some R)]/\
  q<=L/\-1122300<=q/\(I:Int)+q<=L/\zh (·=N) w w'
theorem zha(w:World)(X t1 I L N t5 R:TypeId)(U c1 c2 c3 c4 c5 Z:Array Value):∃W,(((((((w.alloc (.cells U X)).alloc (.cells c1 t1)).alloc (.cells c2 I)).alloc (.cells c3 L)).alloc (.cells c4 N)).alloc (.cells c5 t5)).alloc (.cells Z R))=W/\Bl w W/\W.heap.size=w.heap.size+7/\
 zD W w.heap.size X U/\zD W (w.heap.size+2) I c2/\zD W (w.heap.size+3) L c3/\zD W (w.heap.size+4) N c4/\zD W (w.heap.size+5) t5 c5/\zD W (w.heap.size+6) R Z:=by
 obtain⟨V,e1,r⟩:=Va w X t1 I U c1 c2;obtain⟨Y,e2,q⟩:=Va V L N t5 c3 c4 c5;obtain⟨W3,e3,h⟩:=xj Y R Z;have s1:V.heap.size=w.heap.size+3:=r.size;have s2:Y.heap.size=V.heap.size+3:=q.size;have s3:W3.heap.size=Y.heap.size+1:=h.size;have O:=zu q.below h.below;have b3:=q.b0.below h.below;have b4:=q.b1.below h.below;have b5:=q.b2.below h.below;have b6:=h.b0;rw[s1]at b3 b4 b5;rw[s2,s1]at b6;exact⟨W3,by rw[e1,e2,e3],zu r.below O,zd,r.b0.below O,r.b2.below O,b3,b4,b5,b6⟩
theorem zmU{I:Nat}{aa:Int}(Y:zD w I 274 #[.int .i64 L,.int .i64 zR,.int .i64 aa,.map (some fb),.map (some tb)])(hf:ZO (fun g=>g≠I/\g<w.heap.size) w fb)(hP:Pw w)(ae:3≠I)(B:Option Addr)(zM R:Nat)(body:List Li)(hb:Z0 (·=I) w B body)(hn:body.length=R)(aj:R<=16)(p:ByteArray)(i:Int)(ak:0<=L)(am:L<=1000000)(N:YV body<=2097152):
 Calls prog 148 #[.pointer (some ⟨I,0,none⟩),.int .i64 i,.agg #[.string p,.slice none 0 0,.slice B R zM]] w (zlf I fb tb zR aa L w):=by
 have an:=zz Y;have Hf:=zz hf;have HP:=zz (zpf hP ae);have Hb:=zz hb;have Hn:=zz hn;have ab:=zz N;have aq:=Y.lt;clear Y hf hP ae hb hn N;go_enter func148,ntmps148;go_upto_region 4 with fail
 obtain⟨W0,ao,q,ad,k0,k2,k3,k4,k5,k6⟩:=zha w 270 3 25 279 352 350 4 #[.pointer (some ⟨I,0,none⟩)] #[.int .i64 i] #[.string p,.slice none 0 0,.slice B R zM] #[.slice none 0 0] #[.pointer (some ⟨I,0,none⟩),.slice none 0 0,.slice none 0 0] #[.pointer (some ⟨w.heap.size+4,0,none⟩)] #[.bool false];rw[ao];obtain⟨c,W⟩:∃c:Wc,c=⟨I,w.heap.size+4,w.heap.size+3,zR,aa,fb,tb⟩:=⟨_,rfl⟩;have HW:=zz (show q9 c (fun g=>g=I\/g=w.heap.size+4\/g=w.heap.size+3) L 0 0 W0 from by
  rw[W];refine⟨an.o.below q,⟨none,none,0,0,[],[],k4,rfl,Own.qC _,rfl,Own.qC _,(fun x V=>nomatch V),(fun g r=>nomatch r),(fun g r=>nomatch r)⟩,⟨none,0,k3,Own.qC _,(fun g r=>nomatch r)⟩,?_,HP.o.1.below q,.inl rfl,.inr (.inl rfl),.inr (.inr rfl),fun U=>?_,fun g r=>?_,zd,zd⟩
  ·exact(Hf.o.kept (zh.xi (fun _=>False) q) (fun _ _ _=>id) fun g r=>r.2).mono fun g r=>⟨fun U=>by
    rcases U with e|e|e
    ·exact r.1 e
    ·omega
    ·omega,zo0 r.2 q.size⟩
  ·have:=HP.o.1.lt
   rcases U with e|e|e
   ·exact HP.o.2 e
   ·omega
   ·omega
  ·rcases r with rfl|rfl|rfl
   ·have:=q.size;omega
   ·omega
   ·omega)
 have HB:=zz (show Z0 (fun g=>g=I\/g=w.heap.size+4\/g=w.heap.size+3) W0 B body from by
  have X:∀g,(¬g=I/\g<w.heap.size)->¬(g=I\/g=w.heap.size+4\/g=w.heap.size+3)/\g<W0.heap.size:=fun g r=>⟨fun U=>by
   rcases U with e|e|e
   ·exact r.1 e
   ·omega
   ·omega,zo0 r.2 q.size⟩
  exact⟨Hb.o.rd.below q,fun g r=>X g (Hb.o.off g r),fun x V=>(Hb.o.zO x V).below q,fun x V=>(Hb.o.XD x V).mono X,Hb.o.may⟩)
 have HC:=zz (show U7 c (fun g=>g=I\/g=w.heap.size+4\/g=w.heap.size+3) W0 w.heap.size (w.heap.size+2) (w.heap.size+6) p B R zM from by
  rw[W];exact⟨k0,k2,k6,zd,zd,zd⟩)
 have Hs:=zz (zin (c:=c) w.heap.size (w.heap.size+2) (w.heap.size+5) (w.heap.size+6) (w.heap.size+1) p B R zM body Hn.o aj R 0 zd (zo5 _) HW.o HB.o HC.o ak am (by have:=ab.o;simpa using this) zd);have X:c.wb=I:=by rw[W]
 have Z:c.eb=w.heap.size+4:=by rw[W]
 have U:c.ob=w.heap.size+3:=by rw[W]
 have hs:=Hs.o;rw[X,Z,U]at hs;have al:=zz hs;have ac:=zz q;have af:=zz (zpf X (zpf Z U));have Hc:=zz W;have q0:=k0.cell 0;have q1:=k2.cell 1;have q2:=k2.cell 2;have q5:=k5.cell 0;clear hs X Z U q k0 k2 k3 k4 k5 k6 ad W;go_wp2
 go_loopg[10] 0 (fun gk q U=>q=.int .i64 0/\U=W0)
 case atStart=>exact⟨rfl,rfl⟩
 case round=>
  obtain⟨rfl,rfl⟩:=hrel;go_upto_region 9 with(go_at_call 207;refine al.o.mono ?_;rintro e w5⟨L',ai,D',rfl,Z,ah,h1,h2,h3,h4⟩;have ag:=zz Z;have W:=zz ah;clear Z ah)
  obtain⟨O,X,o1,o2,o3⟩:=ag.o.out;rw[af.o.2.2]at o1;have oq:=o1.cell 0;have q:=ag.o.work;have U:=XN o2 q zr;rw[af.o.1]at q U;rw[Hc.o]at q;have ap:=zz q;have Ho:=zz (zpf o2 (zpf o3 U));clear o1 o2 o3 q U q0 q1 q2 q5;go_wp2;go_returns;have ad:=ac.o.size;refine⟨L',O,X,ai,rfl,Ho.o.1,fun g r=>?_,ap.o,h1,?_,zd,(zh.xi (·=I) ac.o).trans W.o.1 fun x V q=>?_⟩
  ·rcases W.o.2 g (Ho.o.2.1 g r)with(h|h|h)|h
   ·exact absurd h (Ho.o.2.2 g r)
   ·omega
   ·omega
   ·omega
  ·omega
  ·rcases V with h|h|h
   ·exact h
   ·omega
   ·omega
def zbm(w:World)(q h I:Nat)(f:Value->Option Value)(m:Nat)(r:Rt):Prop:=r.l.length=m/\zY Th.cells w r.A r.l/\(∀x∈r.l,x.qL)/\∀g∈zw r.A,g<w.heap.size/\g≠q/\g≠h/\¬xZ I f g
structure yJ (wb fb tb:Nat) (zR L new:Int) (T:Nat) (R:Nat->Prop) (w:World):Prop where
 work:zD w wb 274 #[.int .i64 L,.int .i64 zR,.int .i64 new,.map (some fb),.map (some tb)]
 there:∃ft,xv prog 9 w tb ft/\∀v x,ft v=some x->∃b,x=.bool b
 facts:∃f G,Xc prog 9 275 1 w fb f G/\(∀x,(G x).length<=T)/\(∀p m,∀row∈G (.string (ye p m)),∃r:Rt,row=r.cells/\zbm w wb tb fb f m r)/\(∀g,xZ fb f g->¬R g)/\¬xZ fb f tb/\¬xZ fb f wb/\¬xZ fb f 3
 pw:Pw w
 Vv:¬R wb
 Vy:¬R tb
 Vs:∀g,R g->g<w.heap.size
 VN:wb≠tb
 VU:3≠wb
 V2:3≠tb
theorem za7{Q:Rt->Prop}:∀{rows:List (List Value)},(∀q∈rows,∃r:Rt,q=r.cells/\Q r)->∃I:List Rt,rows=I.map Rt.cells/\∀r∈I,Q r
 |[],_=>⟨[],rfl,fun r N=>nomatch N⟩
 |q::rows,h=>by
  obtain⟨r,e,N⟩:=h q zpi;obtain⟨I,O,L⟩:=za7 fun x q=>h x (zpj _ q)
  exact⟨r::I,by rw[e,O];rfl,fun x q=>by
   rcases zpp.1 q with rfl|q
   ·exact N
   ·exact L x q⟩
theorem yJ.zl8(h:yJ Z fb tb zR L Y T R w)(hT:T<=4194304):ZO (fun g=>g≠Z/\g<w.heap.size) w fb:=by
 obtain⟨f,G,X,W,O,hR,ht,hw,hp⟩:=h.facts;refine⟨f,X.map,⟨fun e=>hw (e▸.inl rfl),X.map.lt⟩,fun p m v hv=>?_⟩;obtain⟨xT,A,N,rfl⟩:=X.some_ _ _ hv;obtain⟨U,I,hq⟩:=za7 (O p m);have hl:(G (.string (ye p m))).length=U.length:=by rw[I,zph]
 have V:(G (.string (ye p m))).flatten=U.flatMap Rt.cells:=by rw[I,zqV]
 have ho:Own Rt.cells 275 1 w A N U:=by
  unfold Own;rw[<-hl,<-V];exact xT
 refine⟨A,N,U,by rw[hl],by have:=W (.string (ye p m));omega,ho.xI,fun g q=>⟨fun e=>?_,ho.lt g q⟩,fun r hr=>?_⟩
 ·rw[e]at q;refine hw (.inr ⟨_,_,hv,?_⟩)
  cases A with
  |none=>simp[zw]at q
  |some a=>
   simp only[zw,zpK,zqo,zo2]at q;rw[q];rfl
 ·obtain⟨h1,h2,h3,h4⟩:=hq r hr;exact⟨h1,h2,fun g q=>⟨(h4 g q).2.1,(h4 g q).1⟩,h3⟩
theorem yJ.ZU{O:Nat}{L' new':Int}(h:yJ O X V zR L Y T R w)(I:zh (·=O) w w')(hk:zD w' O 274 #[.int .i64 L',.int .i64 zR,.int .i64 new',.map (some X),.map (some V)]):yJ O X V zR L' new' T R w':=by
 obtain⟨f,G,hG,W,N,hR,ht,hw,hp⟩:=h.facts;obtain⟨ft,hm,hb⟩:=h.there;exact⟨hk,⟨ft,hm.zC I (fun e=>h.VN e.symm),hb⟩,⟨f,G,hG.same fun g q=>I.block g (hG.lt g q) (fun e=>hw (e▸q)),W,fun p m Z hr=>by
  obtain⟨r,e,h1,h2,h3,U⟩:=N p m Z hr;exact⟨r,e,h1,h2.kept I fun g q=>(U g q).2.1,h3,fun g q=>⟨zo0 (U g q).1 I.size,(U g q).2⟩⟩,hR,ht,hw,hp⟩,h.pw.zC I h.VU,h.Vv,h.Vy,fun g q=>zo0 (h.Vs g q) I.size,h.VN,h.VU,h.V2⟩
theorem yJ.below{N:Int}(h:yJ X fb Z zR L N T R w)(q:Bl w w'):yJ X fb Z zR L N T R w':=by
 have hc:=zh.xi (fun _=>False) q;obtain⟨f,G,hG,V,O,hR,ht,hw,hp⟩:=h.facts;obtain⟨ft,hm,U⟩:=h.there;exact⟨h.work.below q,⟨ft,hm.below q,U⟩,⟨f,G,hG.same fun g I=>q.block g (hG.lt g I),V,fun p m W hr=>by
  obtain⟨r,e,h1,h2,h3,Y⟩:=O p m W hr;exact⟨r,e,h1,h2.below q,h3,fun g I=>⟨zo0 (Y g I).1 q.size,(Y g I).2⟩⟩,hR,ht,hw,hp⟩,h.pw.below q,h.Vv,h.Vy,fun g I=>zo0 (h.Vs g I) q.size,h.VN,h.VU,h.V2⟩
theorem yJ.keyed(h:yJ wb fb V zR L O T R w){I:Value->Option Value}(hm:xv prog 9 w' V I)(Z:∀v x,I v=some x->∃b,x=.bool b)(N:zh (·=V) w w'):yJ wb fb V zR L O T R w':=by
 obtain⟨f,G,hG,X,U,hR,ht,hw,hp⟩:=h.facts;exact⟨h.work.zC N h.VN,⟨I,hm,Z⟩,⟨f,G,hG.same fun g q=>N.block g (hG.lt g q) (fun e=>ht (e▸q)),X,fun p m Y hr=>by
  obtain⟨r,e,h1,h2,h3,W⟩:=U p m Y hr;exact⟨r,e,h1,h2.kept N fun g q=>(W g q).2.2.1,h3,fun g q=>⟨zo0 (W g q).1 N.size,(W g q).2⟩⟩,hR,ht,hw,hp⟩,h.pw.zC N h.V2,h.Vv,h.Vy,fun g q=>zo0 (h.Vs g q) N.size,h.VN,h.VU,h.V2⟩
theorem zeE{P:Program}{o:Oper}{a:Act}{K:Act->World->Prop}{Q:Exit->Act->World->Prop}{t:TypeId}(s y:Operand)(q:o.op=.call { callee:=.builtin .append,args:=#[s,y],argTypes:=#[t,t]}){vs h v:Value}(r:a.eval s=vs)(hy:a.eval y=h)(I:(Builtin.append_ #[t,t] o.type #[vs,h]).run P w=.ok v w')(L:K (a.put o.dst v) w'):Oper.wp P o a w K Q:=by
 unfold Oper.wp execOp;simp only[q,resolve,invoke,builtin,Sem.run_bind,Sem.run_pure,Result.andThen_ok,zqh,zpM,zqG,r,hy,I];exact L
theorem yJ.qj(h:yJ wb fb tb zR L O T R w)(N:Bl w w'):yJ wb fb tb zR L O T (fun g=>R g\/(w.heap.size<=g/\g<w'.heap.size)) w':=by
 obtain⟨f,G,X,W,U,hR,ht,hw,hp⟩:=h.facts;have V:=h.below N;obtain⟨ft,hm,aa⟩:=h.there;have h1:=h.work.lt;have Z:=hm.lt;refine⟨V.work,V.there,⟨f,G,X.same fun g I=>N.block g (X.lt g I),W,fun p m Y q=>?_,fun g I q=>?_,ht,hw,hp⟩,V.pw,fun q=>?_,fun q=>?_,fun g I=>?_,h.VN,h.VU,h.V2⟩
 ·obtain⟨r,e,h1,Z,h3,h4⟩:=U p m Y q;exact⟨r,e,h1,Z.below N,h3,fun g I=>⟨zo0 (h4 g I).1 N.size,(h4 g I).2⟩⟩
 ·rcases q with q|q
  ·exact hR g I q
  ·have:=X.lt g I;omega
 ·rcases q with q|q
  ·exact h.Vv q
  ·omega
 ·rcases q with q|q
  ·exact h.Vy q
  ·omega
 ·rcases I with I|I
  ·exact zo0 (h.Vs g I) N.size
  ·exact I.2
open Classical in
theorem yJ.push{ak:Int}(h:yJ wb N tb zR L ak T R w)(q:ByteArray)(n:Nat)(r:Rt)(ap:r.l.length=n)(av:zY Th.cells w r.A r.l)(ac:∀x∈r.l,x.qL)(hA:∀g∈zw r.A,R g)(hT:T<4194304)(hs:(ye q n).size<=maxLen):
 ∃v:Value,(∀W:World,W.heap[N]? = w.heap[N]?->(Instr.lookup 271 (.map (some N)) (.string (ye q n)) false).run prog W=.ok v W)/\∀(W:World)(U:Nat)(X:TypeId),Bl w W->W.rangeAt U 0 r.cells->
  ∃v' w1,(Builtin.append_ #[279,279] X #[v,.slice (some ⟨U,0,none⟩) 1 1]).run prog W=.ok v' w1/\w1.heap[N]? = w.heap[N]?/\w1.heap[wb]? = w.heap[wb]?/\∃f,xv prog 9 w1 N f/\
   ∀w2,xv prog 9 w2 N (yg f (.string (ye q n)) v')->w1.mapTurned w2 N->yJ wb N tb zR L ak (T+1) R w2/\zh (fun g=>¬R g) w w2:=by
 obtain⟨f,G,hG,ag,ai,hR,ht,hw,hp⟩:=h.facts;have aa:=fun(W:World) (I:W.heap[N]? = w.heap[N]?)=>(hG.map.same I).look qT underlying271 (z:=.slice none 0 0) zo (qY hs) false
 simp only[zp1,if_false]at aa;obtain⟨i0,hi,al,aw,ar⟩:=info_parts (show(prog.info? 275).map (fun i=>(i.zero,i.size,i.bytes))=some (some (.slice none 0 0),1,24) from zo);refine⟨(f (.string (ye q n))).getD (.slice none 0 0),fun W I=>aa W I,fun W U X hB aj=>?_⟩;have af:Xc prog 9 275 1 W N f G:=hG.same fun g I=>hB.block g (hG.lt g I)
 have az:=ag (.string (ye q n));obtain⟨v',w1,O,ae,ax,ah⟩:=af.push (st:=279) (.string (ye q n)) i0 (.slice none 0 0) 24 underlying279 hi al aw ar rfl zr X ⟨U,0,none⟩ 1 r.cells rfl (fun j u V=>by
  have:=aj j u V
  match j,V with
  |0,V=>simpa[Addr.add]using this) zt (by unfold maxLen;omega) zd
 have ad:=hG.map.lt;have Z:=h.work.lt;refine⟨v',w1,O,ae.trans (hB.block _ ad),(ax.block _ (zo0 Z hB.size) hw).trans (hB.block _ Z),f,af.map.same ae,fun w2 an au=>?_⟩;obtain⟨aq,ao,V⟩:=ah w2 an au;have hc:zh (xZ N f) w w2:=(zh.xi (xZ N f) hB).trans ao (fun x U _=>U);obtain⟨ft,hm,am⟩:=h.there;have ay:=hB.size;have X:∀g,g<w.heap.size->¬xZ N f g->¬xZ N (yg f (.string (ye q n)) v') g:=fun g I Y U=>by
  rcases V g U with h1|h1
  ·exact Y h1
  ·omega
 refine⟨⟨h.work.zC hc hw,⟨ft,hm.zC hc ht,am⟩,⟨_,_,aq,fun x=>?_,fun p m U O=>?_,fun g I O=>?_,X tb hm.lt ht,X wb Z hw,X _ h.pw.lt hp⟩,h.pw.zC hc hp,h.Vv,h.Vy,fun g I=>zo0 (h.Vs g I) hc.size,h.VN,h.VU,h.V2⟩,hc.mono fun g I _ O=>hR g I O⟩
 ·show(if x=Value.string (ye q n)then G (.string (ye q n))++[r.cells]else G x).length<=T+1;split
  ·rw[zo1];simp only[zpn,zpF];omega
  ·have:=ag x;omega
 ·have XA:∀U,U∈G (.string (ye p m))->∃r:Rt,U=r.cells/\zbm w2 wb tb N (yg f (.string (ye q n)) v') m r:=fun U O=>by
   obtain⟨r,e,h1,h2,h3,Y⟩:=ai p m U O;exact⟨r,e,h1,h2.kept hc fun g I=>(Y g I).2.2.2,h3,fun g I=>⟨zo0 (Y g I).1 hc.size,(Y g I).2.1,(Y g I).2.2.1,X g (Y g I).1 (Y g I).2.2.2⟩⟩
  replace O:U∈(if Value.string (ye p m)=Value.string (ye q n)then G (.string (ye q n))++[r.cells]else G (.string (ye p m))):=O
  split at O
  ·rename_i e
   rcases zo7.1 O with O|O
   ·exact XA U (by rw[e];exact O)
   ·rw[zo2.1 O];injection e with e
    refine⟨r,rfl,by rw[ap,ziH e],av.kept hc fun g I hq=>hR g hq (hA g I),ac,fun g I=>?_⟩;have Y:=hA g I;exact⟨zo0 (h.Vs g Y) hc.size,fun e=>h.Vv (e▸Y),fun e=>h.Vy (e▸Y),X g (h.Vs g Y) fun hq=>hR g hq Y⟩
  ·exact XA U O
 ·rcases V g I with h1|h1
  ·exact hR g h1 O
  ·have:=h.Vs g O;omega
def zjH(U V O:Nat)(zR L r:Int)(T:Nat)(R:Nat->Prop)(q:Bool)(w:World)(e:Ending)(w':World):Prop:=
 ∃(I h:Int) (N:Nat),e=.returned (.tuple #[])/\yJ U V O zR I h N R w'/\zh (fun g=>¬R g) w w'/\N<=T+1/\I<=L/\L-1-r / 50<=I/\(L<0->I=L)/\(q=true->I=L/\h=r)/\r<=h/\h+(T:Int)<=r+N/\((N:Int)+I<=T+L\/q=true)
theorem zbC{I:Int}(h:yJ N fb tb zR L I T R w)(q:ByteArray)(hq:q.size<=1048576)(A:Option Addr)(cap n:Nat)(l:List Th)(hl:zY Th.cells w A l)(hn:l.length=n)(az:n<=1048576)(hf:∀x∈l,x.qL)(hA:∀g∈zw A,R g)(hT:T<=4194302)(ag:Bool)(aX:-549755000000<=L)(aY:L<=549755000000)(aG:0<=I)(aT:I<=1000000000):
 Calls prog 147 #[.pointer (some ⟨N,0,none⟩),.string q,.slice A n cap,.bool ag] w (zjH N fb tb zR L I T R ag w):=by
 have HW:=zz h;have HL:=zz hl;have Hn:=zz hn;have Hf:=zz hf;have HA:=zz hA;have ax:=zz (zfp q n az hq);have aN:(ye q n).size<=1100000:=by
  have hl:=Lib.itoa_length_le (n:Int) zd (zd);unfold ye;simp only[zp5];have e1:(⟨(Lib.itoa (n:Int)).toArray⟩:ByteArray).size=(Lib.itoa (n:Int)).length:=by simp[ByteArray.size]
  have f1:(⟨#[47]⟩:ByteArray).size=1:=rfl;omega
 have aJ:=zz (zeY w h.pw q n az hq);have aZ:=h.work.lt;clear h hl hn hf hA;obtain⟨wh,r⟩:∃wh,ye q n=wh:=⟨_,rfl⟩;rw[r]at aJ aN;have Y:=zz r;clear r;go_enter func147,ntmps147
 go_wp2_with (go_at_call 205;refine aJ.o.mono ?_;rintro e w1⟨rfl,aM⟩;have aR:=zz aM;clear aM)
 go_loopg[9,10] n (fun gk U r O=>∃(i:Nat) (ad:ByteArray),i<=n/\gk=n-i/\r=.int .i64 (i:Int)/\U=.string ad/\ad.size<=1100000+i*1048802/\Bl w O)
 case atStart=>exact⟨0,wh,zo5 _,rfl,rfl,rfl,zd,aR.o⟩
 case round=>
  obtain⟨i,ad,hi,rfl,rfl,rfl,aV,O⟩:=hrel;have HB:=zz O;have r:=zz (HW.o.below O);have aj:=zz (zh.xi (fun g=>¬R g) O);clear O
  by_cases aC:i<n
  ·have X:i<l.length:=by rw[Hn.o];exact aC
   obtain⟨b,o,rfl,hb,O⟩:=(HL.o.below HB.o).at (c:=4) (fun _=>rfl) i X;have V:=Hf.o _ (zo3 X);generalize l[i]=x at O V;have Ht:=zz (fun W (hW:Bl wr W)=>zc0 W (r.o.pw.below hW) x V);obtain⟨k,m,xs,md,dp⟩:=x;simp only[Th.cells]at O Ht
   replace O:wr.rangeAt b (o+i*5) _:=O
   have U:=zz (ZP O);have Z:(i:Int)<(n:Int):=zd;have H5:Kz (∀W,Bl wr W->W.cell? ⟨b,o+i*5+4,none⟩=some (.int .i64 dp)/\W.cell? ⟨N,1,none⟩=some (.int .i64 zR)/\(i:Int)<(n:Int)/\i<n):=fun W hW=>⟨(hW.cell (p:=⟨b,o+i*5+4,none⟩) hb).trans (ZP O).2.2.2.2,(r.o.work.below hW).cell 1,Z,aC⟩
   clear O V X;go_upto_region 5 with fail
   refine xX [0,0,0,0,0,0,0,0,0,0] (fun W=>Bl wr W) ?_
   repeat refine zT H5.o ?_
   refine xu ?_;have O:Bl wr wr.drew:=(Below.refl _ _).drew;have d0:wr.drew.cell? ⟨b,o+i*5,none⟩=_:=U.o.1;have d1:wr.drew.cell? ⟨b,o+i*5+1,none⟩=_:=U.o.2.1;have X:wr.drew.cell? ⟨b,o+i*5+2,none⟩=_:=U.o.2.2.1;have d3:wr.drew.cell? ⟨b,o+i*5+3,none⟩=_:=U.o.2.2.2.1;have d4:wr.drew.cell? ⟨b,o+i*5+4,none⟩=_:=U.o.2.2.2.2
   by_cases aa:zR<dp
   ·have r:=zz (r.o.below O);have aj:=zz (aj.o.drew);go_wp2;go_end0;exact⟨L,I,T,rfl,r.o,aj.o,zqa _,zqf _,zd,fun _=>rfl,fun _=>⟨rfl,rfl⟩,zqf _,zd,.inl (zqf _)⟩
   ·go_wp2_with (go_at_call 206;refine(Ht.o _ O).mono ?_;rintro e w3⟨u,rfl,hu,ah⟩;have V:=zz (zu O ah);clear ah d0 d1 X d3 d4)
    have Hu:=zz (show(ad++⟨#[32]⟩++u).size<=1100000+(i+1)*1048802 by
     rw[zp5,zp5];have f1:(⟨#[32]⟩:ByteArray).size=1:=rfl;omega)
    clear hu
    go_roundg (n-(i+1))
    case measure=>omega
    case rel=>exact⟨i+1,_,aC,rfl,ze,rfl,Hu.o,zu HB.o V.o⟩
  ·obtain rfl:i=n:=zd;have w0:=r.o.work.cell 0
   by_cases aU:L<0
   ·go_wp2
    all_goals(go_end0;exact⟨L,I,T,rfl,r.o,aj.o,zqa _,zqf _,zd,fun _=>rfl,fun _=>⟨rfl,rfl⟩,zqf _,zd,.inl (zqf _)⟩)
   ·obtain⟨ft,V,U⟩:=r.o.there;have aD:ad.size<=maxLen:=by unfold maxLen;omega
    have O:=fun W (hW:Bl wr W)=>(V.below hW).look qT underlying272 (z:=.bool false) zo (qY aD) false
    simp only[zp1,if_false]at O;obtain⟨bb,X⟩:∃bb,(ft (.string ad)).getD (.bool false)=.bool bb:=by
     rcases hq:ft (.string ad)with _|v
     ·exact⟨false,rfl⟩
     ·obtain⟨b,rfl⟩:=U _ _ hq;exact⟨b,rfl⟩
    rw[X]at O;have Z:=O wr (Below.refl _ _);have w4:=r.o.work.cell 4;have a1:=zz (zpf V U);clear V U O X
    cases bb with
    |true=>
     go_wp2;go_end0;exact⟨L,I,T,rfl,r.o,aj.o,zqa _,zqf _,zd,fun _=>rfl,fun _=>⟨rfl,rfl⟩,zqf _,zd,.inl (zqf _)⟩
    |false=>
     go_upto_region 8 with fail
     clear w0 w4 Z
     cases ag with
     |true=>
      go_upto_region 11 with fail
      obtain⟨aS,an,aw⟩:=r.o.there;have aq:=zz (zpf an aw);have w4:=r.o.work.cell 4;clear an aw;go_upto_region 12 with(at_mapUpdate;refine Ue rfl _ _ _ rfl aq.o.1 qT underlying272 rfl (.string ad) (.bool true) _ rfl rfl (qY aD) ?_;intro V ar al;have aI:=zz ar;have aB:=zz al;clear ar al)
      clear w4;have U:zh (·=tb) wr V:=(zh.refl _ wr).yi aB.o fun _=>rfl
      have ac:=zz (r.o.keyed aI.o (fun v x hv=>by
       unfold yg at hv;split at hv
       ·injection hv with hv;exact⟨true,hv.symm⟩
       ·exact aq.o.2 v x hv) U)
      have ap:=zz (show zh (fun g=>¬R g) w V from aj.o.trans U (fun x hx _ hr=>HW.o.Vy (hx▸hr)));clear U;obtain⟨v,Z,O⟩:=ac.o.push q i ⟨A,cap,l⟩ Hn.o (HL.o.kept ap.o fun g hg hr=>hr (HA.o g hg)) Hf.o HA.o zd ax.o;rw[Y.o]at Z;have ai:=zz O;have ab:Kz (∀W:World,(W.heap[fb]? = V.heap[fb]?/\W.heap[N]? = V.heap[N]?)->W.cell? ⟨N,3,none⟩=some (.map (some fb))/\(Instr.lookup 271 (.map (some fb)) (.string wh) false).run prog W=.ok v W):=fun W hW=>⟨(ac.o.work.same hW.2).cell 3,Z W hW.1⟩
      have aa:Kz (∀W:World,True->True):=fun _ _=>trivial
      have ae:fb<V.heap.size/\N<V.heap.size:=by
       obtain⟨f,G,hG,_⟩:=ac.o.facts;exact⟨hG.map.lt,ac.o.work.lt⟩
      clear Z O;refine XH [0,0,0,1,0,0,0,0,1,0,1,0,2,2,3] 14 (fun _=>True) (fun W=>W.heap[fb]? = V.heap[fb]?/\W.heap[N]? = V.heap[N]?) ?s0 ?s1 ?_
      case s0=>trivial
      case s1=>exact⟨rfl,rfl⟩
      try refine zQ ?_
      repeat refine xK aa.o ab.o ?_
      refine xc fun K X=>?_
      go_simp;refine X.out _ _ trivial (fun _=>⟨Below.heap_alloc _ _ _ ae.1,Below.heap_alloc _ _ _ ae.2⟩) ?_;clear X K;try refine zQ ?_
      repeat refine xK aa.o ab.o ?_
      refine xc fun K X=>?_
      obtain⟨v',w7,hr,h1,h2,f7,am,af⟩:=ai.o (V.drew.alloc (.cells #[.slice A i cap] 275)) V.heap.size 279 (zu (Below.refl _ _).drew (xo _ _)) (by simp only[Rt.cells,Hn.o];exact yp _ _ _ rfl);refine zeE _ _ rfl rfl rfl hr ?_;refine X.out _ _ trivial (fun _=>⟨h1,h2⟩) ?_;clear X K;try refine zQ ?_
      repeat refine xK aa.o ab.o ?_
      refine y7 zj (fun K X=>?_);refine Zp _ _ _ rfl am qT underlying271 rfl (.string wh) v' _ rfl rfl (qY (by rw[<-Y.o];exact ax.o)) ?_;intro w8 ak au;rw[<-Y.o]at ak;obtain⟨av,ao⟩:=af w8 ak au;refine X.out _ _ trivial ?_;clear X K;try refine zQ ?_
      repeat refine xK aa.o ab.o ?_
      refine xu ?_;have aE:=zz av;have aH:Kz (zh (fun g=>¬R g) w w8):=ap.o.trans ao (fun x hx _=>hx);clear av ao ak au hr h1 h2 am af;go_wp2;go_end0;exact⟨L,I,T+1,rfl,aE.o,aH.o,zoZ _,zqf _,zd,fun _=>rfl,fun _=>⟨rfl,rfl⟩,zqf _,zd,.inr rfl⟩
     |false=>
      have aK:Kz (∀W:World,W.heap[N]? = wr.heap[N]?->W.cell? ⟨N,0,none⟩=some (.int .i64 L)/\W.cell? ⟨N,2,none⟩=some (.int .i64 I)):=fun W hW=>⟨(r.o.work.same hW).cell 0,(r.o.work.same hW).cell 2⟩
      have aL:Kz (∀W:World,zh (·=N) wr W->True):=fun _ _=>trivial
      go_upto_region 9 with fail
      refine XH [0,0,0,0,1,0,0,0,0,1,0,0,0,0,3] 14 (fun W=>zh (·=N) wr W) (fun W=>W.heap[N]? = wr.heap[N]?) ?s0 ?s1 ?_
      case s0=>exact yj
      case s1=>rfl
      try refine zQ ?_
      repeat refine xK aL.o aK.o ?_
      refine y7 zj (fun K X=>?_);refine Xq 3 _ _ rfl N 0 _ _ (r.o.work.drew) (.int .i64 _) rfl rfl zp (zo) rfl ?_;intro W3 aA;have ah:=aA.zG;simp only[zpy,zpQ]at ah;have ay:zh (·=N) wr W3:=(zh.refl _ wr).drew.trans aA.zC (fun x hx _=>hx);refine X.out _ _ ay ?_;clear X K;try refine zQ ?_
      repeat refine xK aL.o aK.o ?_
      refine xu ?_;obtain⟨L2,aQ⟩:∃L2,L-1-I / 50=L2:=⟨_,rfl⟩;rw[show Int.tdiv I 50=I / 50 from Int.tdiv_eq_ediv_of_nonneg aG,wrap_i64 (k:=I / 50) zd (zd),wrap_i64 (k:=L-1) zd (zd),wrap_i64 (k:=L-1-I / 50) zd (zd),aQ]at ah;have aW:L2<=L-1:=zd;have aF:=zz (r.o.ZU ay ah);have aP:=zz (show zh (fun g=>¬R g) w W3 from aj.o.trans ay (fun x hx _ hr=>HW.o.Vv (hx▸hr)));clear ah aA ay;have w2:=aF.o.work.cell 2;go_upto_region 11 with(refine xy 3 _ _ rfl ?_;refine Xf zj 3 _ _ rfl N 2 _ _ aF.o.work (.int .i64 (I+1)) rfl rfl zp (zo) rfl ?_;intro W4 aA;have ay:=zz aA;clear aA)
      clear w2;have ah:=zz (aF.o.ZU (new':=I+1) ay.o.zC (by have:=ay.o.zG;simpa using this));have aO:=zz (show zh (fun g=>¬R g) w W4 from aP.o.trans ay.o.zC (fun x hx _ hr=>HW.o.Vv (hx▸hr)));obtain⟨aS,an,aw⟩:=ah.o.there;have aq:=zz (zpf an aw);have w4:=ah.o.work.cell 4;clear an aw;go_upto_region 12 with(at_mapUpdate;refine Ue rfl _ _ _ rfl aq.o.1 qT underlying272 rfl (.string ad) (.bool true) _ rfl rfl (qY aD) ?_;intro V ar al;have aI:=zz ar;have aB:=zz al;clear ar al)
      clear w4;have U:zh (·=tb) W4 V:=(zh.refl _ W4).yi aB.o fun _=>rfl
      have ac:=zz (ah.o.keyed aI.o (fun v x hv=>by
       unfold yg at hv;split at hv
       ·injection hv with hv;exact⟨true,hv.symm⟩
       ·exact aq.o.2 v x hv) U)
      have ap:=zz (show zh (fun g=>¬R g) w V from aO.o.trans U (fun x hx _ hr=>HW.o.Vy (hx▸hr)));clear U;obtain⟨v,Z,O⟩:=ac.o.push q i ⟨A,cap,l⟩ Hn.o (HL.o.kept ap.o fun g hg hr=>hr (HA.o g hg)) Hf.o HA.o zd ax.o;rw[Y.o]at Z;have ai:=zz O;have ab:Kz (∀W:World,(W.heap[fb]? = V.heap[fb]?/\W.heap[N]? = V.heap[N]?)->W.cell? ⟨N,3,none⟩=some (.map (some fb))/\(Instr.lookup 271 (.map (some fb)) (.string wh) false).run prog W=.ok v W):=fun W hW=>⟨(ac.o.work.same hW.2).cell 3,Z W hW.1⟩
      have aa:Kz (∀W:World,True->True):=fun _ _=>trivial
      have ae:fb<V.heap.size/\N<V.heap.size:=by
       obtain⟨f,G,hG,_⟩:=ac.o.facts;exact⟨hG.map.lt,ac.o.work.lt⟩
      clear Z O;refine XH [0,0,0,1,0,0,0,0,1,0,1,0,2,2,3] 14 (fun _=>True) (fun W=>W.heap[fb]? = V.heap[fb]?/\W.heap[N]? = V.heap[N]?) ?s0 ?s1 ?_
      case s0=>trivial
      case s1=>exact⟨rfl,rfl⟩
      try refine zQ ?_
      repeat refine xK aa.o ab.o ?_
      refine xc fun K X=>?_
      go_simp;refine X.out _ _ trivial (fun _=>⟨Below.heap_alloc _ _ _ ae.1,Below.heap_alloc _ _ _ ae.2⟩) ?_;clear X K;try refine zQ ?_
      repeat refine xK aa.o ab.o ?_
      refine xc fun K X=>?_
      obtain⟨v',w7,hr,h1,h2,f7,am,af⟩:=ai.o (V.drew.alloc (.cells #[.slice A i cap] 275)) V.heap.size 279 (zu (Below.refl _ _).drew (xo _ _)) (by simp only[Rt.cells,Hn.o];exact yp _ _ _ rfl);refine zeE _ _ rfl rfl rfl hr ?_;refine X.out _ _ trivial (fun _=>⟨h1,h2⟩) ?_;clear X K;try refine zQ ?_
      repeat refine xK aa.o ab.o ?_
      refine y7 zj (fun K X=>?_);refine Zp _ _ _ rfl am qT underlying271 rfl (.string wh) v' _ rfl rfl (qY (by rw[<-Y.o];exact ax.o)) ?_;intro w8 ak au;rw[<-Y.o]at ak;obtain⟨av,ao⟩:=af w8 ak au;refine X.out _ _ trivial ?_;clear X K;try refine zQ ?_
      repeat refine xK aa.o ab.o ?_
      refine xu ?_;have aE:=zz av;have aH:Kz (zh (fun g=>¬R g) w w8):=ap.o.trans ao (fun x hx _=>hx);clear av ao ak au hr h1 h2 am af;go_wp2;go_end0;exact⟨L2,I+1,T+1,rfl,aE.o,aH.o,zoZ _,zd,zd,(fun h=>zd),(fun h=>nomatch h),zd,zd,.inl zd⟩
end
