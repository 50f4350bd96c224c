/-
  What is worked out: what a rule without a head gives. What i
-/
import Derived.Test.YtfdickkdlcgicaaGreatDoorQ30
set_option maxRecDepth 100000
set_option maxHeartbeats 8000000
set_option linter.all false
namespace Go.Proofs.YtfdickkdlcgicaaGreatDoor.C
open Go.Proofs.Tryz Go Go.RowKit Go.Maps Go.WideMaps
variable {L Y zR:Int}{N O T V X Z fb tb wb:Nat}{R:Nat->Prop}{w w':World}
section
def zlM(R V U:Nat)(zR I L:Int)(w:World)(e:Ending)(w':World):Prop:=
 ∃(q:Int) (O:Option Addr) (h N:Nat),e=.returned (.slice O N h)/\Own Jc 275 1 w' O h (List.replicate N ())/\(∀g∈zw O,w.heap.size<=g)/\zD w' R 274 #[.int .i64 q,.int .i64 zR,.int .i64 I,.map (some V),.map (some U)]/\
  q<=L/\-1122300<=q/\(N:Int)+q<=L/\zh (·=R) w w'
theorem zhK(w:World)(Y t1 L N O t5 U:TypeId)(V c1 c2 c3 c4 c5 c6:Array Value):∃W,(((((((w.alloc (.cells V Y)).alloc (.cells c1 t1)).alloc (.cells c2 L)).alloc (.cells c3 N)).alloc (.cells c4 O)).alloc (.cells c5 t5)).alloc (.cells c6 U))=W/\Bl w W/\W.heap.size=w.heap.size+7/\
 zD W w.heap.size Y V/\zD W (w.heap.size+2) L c2/\zD W (w.heap.size+3) N c3/\zD W (w.heap.size+4) O c4/\zD W (w.heap.size+5) t5 c5/\zD W (w.heap.size+6) U c6:=by
 obtain⟨X,e1,I⟩:=Vj w Y t1 L V c1 c2;obtain⟨Z,e2,q⟩:=Vj X N O t5 c3 c4 c5;obtain⟨W3,e3,h⟩:=xi Z U c6;have s1:X.heap.size=w.heap.size+3:=I.size;have s2:Z.heap.size=X.heap.size+3:=q.size;have s3:W3.heap.size=Z.heap.size+1:=h.size;have R:=zl q.below h.below;have b3:=q.b0.below h.below;have b4:=q.b1.below h.below;have b5:=q.b2.below h.below;have b6:=h.b0;rw[s1]at b3 b4 b5;rw[s2,s1]at b6;exact⟨W3,by rw[e1,e2,e3],zl I.below R,zd,I.b0.below R,I.b2.below R,b3,b4,b5,b6⟩
theorem zns{ab:Int}(Z:zD w N 274 #[.int .i64 L,.int .i64 zR,.int .i64 ab,.map (some fb),.map (some tb)])(hf:ZX (fun g=>g≠N/\g<w.heap.size) w fb)(hP:Pw w)(af:3≠N)(B:Option Addr)(zM U:Nat)(body:List Li)(hb:Vb (·=N) w B body)(hn:body.length=U)(ak:U<=16)(p:ByteArray)(i:Int)(al:0<=L)(an:L<=1000000)(R:Y8 body<=2097152):
 Calls prog 148 #[.pointer (some ⟨N,0,none⟩),.int .i64 i,.agg #[.string p,.slice none 0 0,.slice B U zM]] w (zlM N fb tb zR ab L w):=by
 have ao:=zz Z;have Hf:=zz hf;have HP:=zz (zpG hP af);have Hb:=zz hb;have Hn:=zz hn;have ac:=zz R;have ar:=Z.lt;clear Z hf hP af hb hn R;go_enter func148,ntmps148;go_upto_region 4 with fail
 obtain⟨W0,ap,q,ae,k0,k2,k3,k4,k5,k6⟩:=zhK w 270 3 25 279 352 350 4 #[.pointer (some ⟨N,0,none⟩)] #[.int .i64 i] #[.string p,.slice none 0 0,.slice B U zM] #[.slice none 0 0] #[.pointer (some ⟨N,0,none⟩),.slice none 0 0,.slice none 0 0] #[.pointer (some ⟨w.heap.size+4,0,none⟩)] #[.bool false];rw[ap];obtain⟨c,X⟩:∃c:Wc,c=⟨N,w.heap.size+4,w.heap.size+3,zR,ab,fb,tb⟩:=⟨_,rfl⟩;have HW:=zz (show yg c (fun g=>g=N\/g=w.heap.size+4\/g=w.heap.size+3) L 0 0 W0 from by
  rw[X];refine⟨ao.o.below q,⟨none,none,0,0,[],[],k4,rfl,Own.qz _,rfl,Own.qz _,(fun x W=>nomatch W),(fun g I=>nomatch I),(fun g I=>nomatch I)⟩,⟨none,0,k3,Own.qz _,(fun g I=>nomatch I)⟩,?_,HP.o.1.below q,.inl rfl,.inr (.inl rfl),.inr (.inr rfl),fun V=>?_,fun g I=>?_,zd,zd⟩
  ·exact(Hf.o.kept (zh.xj (fun _=>False) q) (fun _ _ _=>id) fun g I=>I.2).mono fun g I=>⟨fun V=>by
    rcases V with e|e|e
    ·exact I.1 e
    ·omega
    ·omega,zpz I.2 q.size⟩
  ·have:=HP.o.1.lt
   rcases V with e|e|e
   ·exact HP.o.2 e
   ·omega
   ·omega
  ·rcases I with rfl|rfl|rfl
   ·have:=q.size;omega
   ·omega
   ·omega)
 have HB:=zz (show Vb (fun g=>g=N\/g=w.heap.size+4\/g=w.heap.size+3) W0 B body from by
  have Y:∀g,(¬g=N/\g<w.heap.size)->¬(g=N\/g=w.heap.size+4\/g=w.heap.size+3)/\g<W0.heap.size:=fun g I=>⟨fun V=>by
   rcases V with e|e|e
   ·exact I.1 e
   ·omega
   ·omega,zpz I.2 q.size⟩
  exact⟨Hb.o.rd.below q,fun g I=>Y g (Hb.o.off g I),fun x W=>(Hb.o.zN x W).below q,fun x W=>(Hb.o.XO x W).mono Y,Hb.o.may⟩)
 have HC:=zz (show Jn c (fun g=>g=N\/g=w.heap.size+4\/g=w.heap.size+3) W0 w.heap.size (w.heap.size+2) (w.heap.size+6) p B U zM from by
  rw[X];exact⟨k0,k2,k6,zd,zd,zd⟩)
 have Hs:=zz (ziU (c:=c) w.heap.size (w.heap.size+2) (w.heap.size+5) (w.heap.size+6) (w.heap.size+1) p B U zM body Hn.o ak U 0 zd (zpD _) HW.o HB.o HC.o al an (by have:=ac.o;simpa using this) zd);have Y:c.wb=N:=by rw[X]
 have aa:c.eb=w.heap.size+4:=by rw[X]
 have V:c.ob=w.heap.size+3:=by rw[X]
 have hs:=Hs.o;rw[Y,aa,V]at hs;have am:=zz hs;have ad:=zz q;have ag:=zz (zpG Y (zpG aa V));have Hc:=zz X;have q0:=k0.cell 0;have q1:=k2.cell 1;have q2:=k2.cell 2;have q5:=k5.cell 0;clear hs Y aa V q k0 k2 k3 k4 k5 k6 ae X;go_wp2
 go_loopg[10] 0 (fun gk q V=>q=.int .i64 0/\V=W0)
 case atStart=>exact⟨rfl,rfl⟩
 case round=>
  obtain⟨rfl,rfl⟩:=hrel;go_upto_region 9 with(go_at_call 207;refine am.o.mono ?_;rintro e w5⟨L',aj,D',rfl,aa,ai,h1,h2,h3,h4⟩;have ah:=zz aa;have X:=zz ai;clear aa ai)
  obtain⟨O,Y,o1,o2,o3⟩:=ah.o.out;rw[ag.o.2.2]at o1;have oq:=o1.cell 0;have q:=ah.o.work;have V:=X0 o2 q zr;rw[ag.o.1]at q V;rw[Hc.o]at q;have aq:=zz q;have Ho:=zz (zpG o2 (zpG o3 V));clear o1 o2 o3 q V q0 q1 q2 q5;go_wp2;go_returns;have ae:=ad.o.size;refine⟨L',O,Y,aj,rfl,Ho.o.1,fun g I=>?_,aq.o,h1,?_,zd,(zh.xj (·=N) ad.o).trans X.o.1 fun x W q=>?_⟩
  ·rcases X.o.2 g (Ho.o.2.1 g I)with(h|h|h)|h
   ·exact absurd h (Ho.o.2.2 g I)
   ·omega
   ·omega
   ·omega
  ·omega
  ·rcases W with h|h|h
   ·exact h
   ·omega
   ·omega
def zbP(w:World)(q h I:Nat)(f:Value->Option Value)(m:Nat)(r:Rt):Prop:=r.l.length=m/\zZ Th.cells w r.A r.l/\(∀x∈r.l,x.qT)/\∀g∈zw r.A,g<w.heap.size/\g≠q/\g≠h/\¬qh I f g
structure yP (wb fb tb:Nat) (zR L new:Int) (T:Nat) (R:Nat->Prop) (w:World):Prop where
 work:zD w wb 274 #[.int .i64 L,.int .i64 zR,.int .i64 new,.map (some fb),.map (some tb)]
 there:∃ft,xv prog 9 w tb ft/\∀v x,ft v=some x->∃b,x=.bool b
 facts:∃f G,Xo prog 9 275 1 w fb f G/\(∀x,(G x).length<=T)/\(∀p m,∀row∈G (.string (yl p m)),∃r:Rt,row=r.cells/\zbP w wb tb fb f m r)/\(∀g,qh fb f g->¬R g)/\¬qh fb f tb/\¬qh fb f wb/\¬qh fb f 3
 pw:Pw w
 VF:¬R wb
 VI:¬R tb
 VC:∀g,R g->g<w.heap.size
 VZ:wb≠tb
 V6:3≠wb
 Ue:3≠tb
theorem zbz{Q:Rt->Prop}:∀{rows:List (List Value)},(∀q∈rows,∃r:Rt,q=r.cells/\Q r)->∃I:List Rt,rows=I.map Rt.cells/\∀r∈I,Q r
 |[],_=>⟨[],rfl,fun r N=>nomatch N⟩
 |q::rows,h=>by
  obtain⟨r,e,N⟩:=h q zpP;obtain⟨I,O,L⟩:=zbz fun x q=>h x (zpQ _ q)
  exact⟨r::I,by rw[e,O];rfl,fun x q=>by
   rcases zpU.1 q with rfl|q
   ·exact N
   ·exact L x q⟩
theorem yP.zmG(h:yP Z fb tb zR L Y T R w)(hT:T<=4194304):ZX (fun g=>g≠Z/\g<w.heap.size) w fb:=by
 obtain⟨f,G,X,W,O,hR,ht,hw,hp⟩:=h.facts;refine⟨f,X.map,⟨fun e=>hw (e▸.inl rfl),X.map.lt⟩,fun p m v hv=>?_⟩;obtain⟨xV,A,N,rfl⟩:=X.some_ _ _ hv;obtain⟨U,I,hq⟩:=zbz (O p m);have hl:(G (.string (yl p m))).length=U.length:=by rw[I,zpO]
 have V:(G (.string (yl p m))).flatten=U.flatMap Rt.cells:=by rw[I,zrs]
 have ho:Own Rt.cells 275 1 w A N U:=by
  unfold Own;rw[<-hl,<-V];exact xV
 refine⟨A,N,U,by rw[hl],by have:=W (.string (yl p m));omega,ho.xI,fun g q=>⟨fun e=>?_,ho.lt g q⟩,fun r hr=>?_⟩
 ·rw[e]at q;refine hw (.inr ⟨_,_,hv,?_⟩)
  cases A with
  |none=>simp[zw]at q
  |some a=>
   simp only[zw,zqh,zqU,zpy]at q;rw[q];rfl
 ·obtain⟨h1,h2,h3,h4⟩:=hq r hr;exact⟨h1,h2,fun g q=>⟨(h4 g q).2.1,(h4 g q).1⟩,h3⟩
theorem yP.Z7{L' new':Int}(h:yP O X V zR L Y T R w)(I:zh (·=O) w w')(hk:zD w' O 274 #[.int .i64 L',.int .i64 zR,.int .i64 new',.map (some X),.map (some V)]):yP O X V zR L' new' T R w':=by
 obtain⟨f,G,hG,W,N,hR,ht,hw,hp⟩:=h.facts;obtain⟨ft,hm,hb⟩:=h.there;exact⟨hk,⟨ft,hm.zC I (fun e=>h.VZ e.symm),hb⟩,⟨f,G,hG.same fun g q=>I.block g (hG.lt g q) (fun e=>hw (e▸q)),W,fun p m Z hr=>by
  obtain⟨r,e,h1,h2,h3,U⟩:=N p m Z hr;exact⟨r,e,h1,h2.kept I fun g q=>(U g q).2.1,h3,fun g q=>⟨zpz (U g q).1 I.size,(U g q).2⟩⟩,hR,ht,hw,hp⟩,h.pw.zC I h.V6,h.VF,h.VI,fun g q=>zpz (h.VC g q) I.size,h.VZ,h.V6,h.Ue⟩
theorem yP.below{N:Int}(h:yP X fb Z zR L N T R w)(q:Bl w w'):yP X fb Z zR L N T R w':=by
 have hc:=zh.xj (fun _=>False) q;obtain⟨f,G,hG,V,O,hR,ht,hw,hp⟩:=h.facts;obtain⟨ft,hm,U⟩:=h.there;exact⟨h.work.below q,⟨ft,hm.below q,U⟩,⟨f,G,hG.same fun g I=>q.block g (hG.lt g I),V,fun p m W hr=>by
  obtain⟨r,e,h1,h2,h3,Y⟩:=O p m W hr;exact⟨r,e,h1,h2.below q,h3,fun g I=>⟨zpz (Y g I).1 q.size,(Y g I).2⟩⟩,hR,ht,hw,hp⟩,h.pw.below q,h.VF,h.VI,fun g I=>zpz (h.VC g I) q.size,h.VZ,h.V6,h.Ue⟩
theorem yP.keyed{O:Int}(h:yP wb fb V zR L O T R w){I:Value->Option Value}(hm:xv prog 9 w' V I)(Z:∀v x,I v=some x->∃b,x=.bool b)(N:zh (·=V) w w'):yP wb fb V zR L O T R w':=by
 obtain⟨f,G,hG,X,U,hR,ht,hw,hp⟩:=h.facts;exact⟨h.work.zC N h.VZ,⟨I,hm,Z⟩,⟨f,G,hG.same fun g q=>N.block g (hG.lt g q) (fun e=>ht (e▸q)),X,fun p m Y hr=>by
  obtain⟨r,e,h1,h2,h3,W⟩:=U p m Y hr;exact⟨r,e,h1,h2.kept N fun g q=>(W g q).2.2.1,h3,fun g q=>⟨zpz (W g q).1 N.size,(W g q).2⟩⟩,hR,ht,hw,hp⟩,h.pw.zC N h.Ue,h.VF,h.VI,fun g q=>zpz (h.VC g q) N.size,h.VZ,h.V6,h.Ue⟩
theorem zfh{P:Program}{o:Oper}{a:Act}{K:Act->World->Prop}{Q:Exit->Act->World->Prop}{t:TypeId}(s y:Operand)(q:o.op=.call { callee:=.builtin .append,args:=#[s,y],argTypes:=#[t,t]}){vs h v:Value}(I:a.eval s=vs)(hy:a.eval y=h)(L:(Builtin.append_ #[t,t] o.type #[vs,h]).run P w=.ok v w')(N:K (a.put o.dst v) w'):Oper.wp P o a w K Q:=by
 unfold Oper.wp execOp;simp only[q,resolve,invoke,builtin,Sem.run_bind,Sem.run_pure,Result.andThen_ok,zqJ,zqb,zq3,I,hy,L];exact N
theorem yP.qj{O:Int}(h:yP wb fb tb zR L O T R w)(N:Bl w w'):yP wb fb tb zR L O T (fun g=>R g\/(w.heap.size<=g/\g<w'.heap.size)) w':=by
 obtain⟨f,G,X,W,U,hR,ht,hw,hp⟩:=h.facts;have V:=h.below N;obtain⟨ft,hm,aa⟩:=h.there;have h1:=h.work.lt;have Z:=hm.lt;refine⟨V.work,V.there,⟨f,G,X.same fun g I=>N.block g (X.lt g I),W,fun p m Y q=>?_,fun g I q=>?_,ht,hw,hp⟩,V.pw,fun q=>?_,fun q=>?_,fun g I=>?_,h.VZ,h.V6,h.Ue⟩
 ·obtain⟨r,e,h1,Z,h3,h4⟩:=U p m Y q;exact⟨r,e,h1,Z.below N,h3,fun g I=>⟨zpz (h4 g I).1 N.size,(h4 g I).2⟩⟩
 ·rcases q with q|q
  ·exact hR g I q
  ·have:=X.lt g I;omega
 ·rcases q with q|q
  ·exact h.VF q
  ·omega
 ·rcases q with q|q
  ·exact h.VI q
  ·omega
 ·rcases I with I|I
  ·exact zpz (h.VC g I) N.size
  ·exact I.2
open Classical in
theorem yP.push{ak:Int}(h:yP wb N tb zR L ak T R w)(q:ByteArray)(n:Nat)(r:Rt)(ap:r.l.length=n)(av:zZ Th.cells w r.A r.l)(ac:∀x∈r.l,x.qT)(hA:∀g∈zw r.A,R g)(hT:T<4194304)(hs:(yl q n).size<=maxLen):
 ∃v:Value,(∀W:World,W.heap[N]? = w.heap[N]?->(Instr.lookup 271 (.map (some N)) (.string (yl q n)) false).run prog W=.ok v W)/\∀(W:World)(ab:Nat)(ty:TypeId),Bl w W->W.rangeAt ab 0 r.cells->
  ∃v' w1,(Builtin.append_ #[279,279] ty #[v,.slice (some ⟨ab,0,none⟩) 1 1]).run prog W=.ok v' w1/\w1.heap[N]? = w.heap[N]?/\w1.heap[wb]? = w.heap[wb]?/\∃f,xv prog 9 w1 N f/\
   ∀w2,xv prog 9 w2 N (yp f (.string (yl q n)) v')->w1.mapTurned w2 N->yP wb N tb zR L ak (T+1) R w2/\zh (fun g=>¬R g) w w2:=by
 obtain⟨f,G,hG,ag,ai,hR,ht,hw,hp⟩:=h.facts;have aa:=fun(W:World) (hW:W.heap[N]? = w.heap[N]?)=>(hG.map.same hW).look q8 underlying271 (z:=.slice none 0 0) zo (ye hs) false
 simp only[zqw,if_false]at aa;obtain⟨i0,hi,al,aw,ar⟩:=info_parts (show(prog.info? 275).map (fun i=>(i.zero,i.size,i.bytes))=some (some (.slice none 0 0),1,24) from zo);refine⟨(f (.string (yl q n))).getD (.slice none 0 0),fun W hW=>aa W hW,fun W ab ty hB aj=>?_⟩;have af:Xo prog 9 275 1 W N f G:=hG.same fun g I=>hB.block g (hG.lt g I)
 have az:=ag (.string (yl q n));obtain⟨v',w1,O,ae,ax,ah⟩:=af.push (st:=279) (.string (yl q n)) i0 (.slice none 0 0) 24 underlying279 hi al aw ar rfl zr ty ⟨ab,0,none⟩ 1 r.cells rfl (fun j u U=>by
  have:=aj j u U
  match j,U with
  |0,U=>simpa[Addr.add]using this) zt (by unfold maxLen;omega) zd
 have ad:=hG.map.lt;have Z:=h.work.lt;refine⟨v',w1,O,ae.trans (hB.block _ ad),(ax.block _ (zpz Z hB.size) hw).trans (hB.block _ Z),f,af.map.same ae,fun w2 an au=>?_⟩;obtain⟨aq,ao,V⟩:=ah w2 an au;have hc:zh (qh N f) w w2:=(zh.xj (qh N f) hB).trans ao (fun x U _=>U);obtain⟨ft,hm,am⟩:=h.there;have ay:=hB.size;have X:∀g,g<w.heap.size->¬qh N f g->¬qh N (yp f (.string (yl q n)) v') g:=fun g I Y U=>by
  rcases V g U with h1|h1
  ·exact Y h1
  ·omega
 refine⟨⟨h.work.zC hc hw,⟨ft,hm.zC hc ht,am⟩,⟨_,_,aq,fun x=>?_,fun p m U O=>?_,fun g I O=>?_,X tb hm.lt ht,X wb Z hw,X _ h.pw.lt hp⟩,h.pw.zC hc hp,h.VF,h.VI,fun g I=>zpz (h.VC g I) hc.size,h.VZ,h.V6,h.Ue⟩,hc.mono fun g I _ O=>hR g I O⟩
 ·show(if x=Value.string (yl q n)then G (.string (yl q n))++[r.cells]else G x).length<=T+1;split
  ·rw[zpA];simp only[zpV,zqd];omega
  ·have:=ag x;omega
 ·have XL:∀U,U∈G (.string (yl p m))->∃r:Rt,U=r.cells/\zbP w2 wb tb N (yp f (.string (yl q n)) v') m r:=fun U O=>by
   obtain⟨r,e,h1,h2,h3,Y⟩:=ai p m U O;exact⟨r,e,h1,h2.kept hc fun g I=>(Y g I).2.2.2,h3,fun g I=>⟨zpz (Y g I).1 hc.size,(Y g I).2.1,(Y g I).2.2.1,X g (Y g I).1 (Y g I).2.2.2⟩⟩
  replace O:U∈(if Value.string (yl p m)=Value.string (yl q n)then G (.string (yl q n))++[r.cells]else G (.string (yl p m))):=O
  split at O
  ·rename_i e
   rcases zpE.1 O with O|O
   ·exact XL U (by rw[e];exact O)
   ·rw[zpy.1 O];injection e with e
    refine⟨r,rfl,by rw[ap,zjc e],av.kept hc fun g I hq=>hR g hq (hA g I),ac,fun g I=>?_⟩;have Y:=hA g I;exact⟨zpz (h.VC g Y) hc.size,fun e=>h.VF (e▸Y),fun e=>h.VI (e▸Y),X g (h.VC g Y) fun hq=>hR g hq Y⟩
  ·exact XL U O
 ·rcases V g I with h1|h1
  ·exact hR g h1 O
  ·have:=h.VC g O;omega
def zke(V W U:Nat)(zR L I:Int)(T:Nat)(R:Nat->Prop)(q:Bool)(w:World)(e:Ending)(w':World):Prop:=
 ∃(N h:Int) (O:Nat),e=.returned (.tuple #[])/\yP V W U zR N h O R w'/\zh (fun g=>¬R g) w w'/\O<=T+1/\N<=L/\L-1-I / 50<=N/\(L<0->N=L)/\(q=true->N=L/\h=I)/\I<=h/\h+(T:Int)<=I+O/\((O:Int)+N<=T+L\/q=true)
theorem zb7{N:Int}(h:yP O fb tb zR L N T R w)(q:ByteArray)(hq:q.size<=1048576)(A:Option Addr)(cap n:Nat)(l:List Th)(hl:zZ Th.cells w A l)(hn:l.length=n)(aA:n<=1048576)(hf:∀x∈l,x.qT)(hA:∀g∈zw A,R g)(hT:T<=4194302)(ah:Bool)(aY:-549755000000<=L)(aZ:L<=549755000000)(aH:0<=N)(aU:N<=1000000000):
 Calls prog 147 #[.pointer (some ⟨O,0,none⟩),.string q,.slice A n cap,.bool ah] w (zke O fb tb zR L N T R ah w):=by
 have HW:=zz h;have HL:=zz hl;have Hn:=zz hn;have Hf:=zz hf;have HA:=zz hA;have ay:=zz (zf0 q n aA hq);have aO:(yl q n).size<=1100000:=by
  have hl:=Lib.itoa_length_le (n:Int) zd (zd);unfold yl;simp only[zqy];have e1:(⟨(Lib.itoa (n:Int)).toArray⟩:ByteArray).size=(Lib.itoa (n:Int)).length:=by simp[ByteArray.size]
  have f1:(⟨#[47]⟩:ByteArray).size=1:=rfl;omega
 have aK:=zz (zfB w h.pw q n aA hq);have a1:=h.work.lt;clear h hl hn hf hA;obtain⟨wh,I⟩:∃wh,yl q n=wh:=⟨_,rfl⟩;rw[I]at aK aO;have Z:=zz I;clear I;go_enter func147,ntmps147
 go_wp2_with (go_at_call 205;refine aK.o.mono ?_;rintro e w1⟨rfl,aN⟩;have aS:=zz aN;clear aN)
 go_loopg[9,10] n (fun gk V I U=>∃(i:Nat) (ae:ByteArray),i<=n/\gk=n-i/\I=.int .i64 (i:Int)/\V=.string ae/\ae.size<=1100000+i*1048802/\Bl w U)
 case atStart=>exact⟨0,wh,zpD _,rfl,rfl,rfl,zd,aS.o⟩
 case round=>
  obtain⟨i,ae,hi,rfl,rfl,rfl,aW,U⟩:=hrel;have HB:=zz U;have I:=zz (HW.o.below U);have ak:=zz (zh.xj (fun g=>¬R g) U);clear U
  by_cases aD:i<n
  ·have Y:i<l.length:=by rw[Hn.o];exact aD
   obtain⟨b,o,rfl,hb,U⟩:=(HL.o.below HB.o).at (c:=4) (fun _=>rfl) i Y;have X:=Hf.o _ (zpB Y);generalize l[i]=x at U X;have Ht:=zz (fun W (hW:Bl wr W)=>zdz W (I.o.pw.below hW) x X);obtain⟨k,m,xs,md,dp⟩:=x;simp only[Th.cells]at U Ht
   replace U:wr.rangeAt b (o+i*5) _:=U
   have V:=zz (ZY U);have aa:(i:Int)<(n:Int):=zd;have H5:Kz (∀W,Bl wr W->W.cell? ⟨b,o+i*5+4,none⟩=some (.int .i64 dp)/\W.cell? ⟨O,1,none⟩=some (.int .i64 zR)/\(i:Int)<(n:Int)/\i<n):=fun W hW=>⟨(hW.cell (p:=⟨b,o+i*5+4,none⟩) hb).trans (ZY U).2.2.2.2,(I.o.work.below hW).cell 1,aa,aD⟩
   clear U X Y;go_upto_region 5 with fail
   refine xX [0,0,0,0,0,0,0,0,0,0] (fun W=>Bl wr W) ?_
   repeat refine zS H5.o ?_
   refine xt ?_;have U:Bl wr wr.drew:=(Below.refl _ _).drew;have d0:wr.drew.cell? ⟨b,o+i*5,none⟩=_:=V.o.1;have d1:wr.drew.cell? ⟨b,o+i*5+1,none⟩=_:=V.o.2.1;have Y:wr.drew.cell? ⟨b,o+i*5+2,none⟩=_:=V.o.2.2.1;have d3:wr.drew.cell? ⟨b,o+i*5+3,none⟩=_:=V.o.2.2.2.1;have d4:wr.drew.cell? ⟨b,o+i*5+4,none⟩=_:=V.o.2.2.2.2
   by_cases ab:zR<dp
   ·have I:=zz (I.o.below U);have ak:=zz (ak.o.drew);go_wp2;go_end0;exact⟨L,N,T,rfl,I.o,ak.o,zqG _,zqM _,zd,fun _=>rfl,fun _=>⟨rfl,rfl⟩,zqM _,zd,.inl (zqM _)⟩
   ·go_wp2_with (go_at_call 206;refine(Ht.o _ U).mono ?_;rintro e w3⟨u,rfl,hu,ai⟩;have X:=zz (zl U ai);clear ai d0 d1 Y d3 d4)
    have Hu:=zz (show(ae++⟨#[32]⟩++u).size<=1100000+(i+1)*1048802 by
     rw[zqy,zqy];have f1:(⟨#[32]⟩:ByteArray).size=1:=rfl;omega)
    clear hu
    go_roundg (n-(i+1))
    case measure=>omega
    case rel=>exact⟨i+1,_,aD,rfl,ze,rfl,Hu.o,zl HB.o X.o⟩
  ·obtain rfl:i=n:=zd;have w0:=I.o.work.cell 0
   by_cases aV:L<0
   ·go_wp2
    all_goals(go_end0;exact⟨L,N,T,rfl,I.o,ak.o,zqG _,zqM _,zd,fun _=>rfl,fun _=>⟨rfl,rfl⟩,zqM _,zd,.inl (zqM _)⟩)
   ·obtain⟨ft,X,V⟩:=I.o.there;have aE:ae.size<=maxLen:=by unfold maxLen;omega
    have U:=fun W (hW:Bl wr W)=>(X.below hW).look q8 underlying272 (z:=.bool false) zo (ye aE) false
    simp only[zqw,if_false]at U;obtain⟨bb,Y⟩:∃bb,(ft (.string ae)).getD (.bool false)=.bool bb:=by
     rcases hq:ft (.string ae)with _|v
     ·exact⟨false,rfl⟩
     ·obtain⟨b,rfl⟩:=V _ _ hq;exact⟨b,rfl⟩
    rw[Y]at U;have aa:=U wr (Below.refl _ _);have w4:=I.o.work.cell 4;have a2:=zz (zpG X V);clear X V U Y
    cases bb with
    |true=>
     go_wp2;go_end0;exact⟨L,N,T,rfl,I.o,ak.o,zqG _,zqM _,zd,fun _=>rfl,fun _=>⟨rfl,rfl⟩,zqM _,zd,.inl (zqM _)⟩
    |false=>
     go_upto_region 8 with fail
     clear w0 w4 aa
     cases ah with
     |true=>
      go_upto_region 11 with fail
      obtain⟨aT,ao,ax⟩:=I.o.there;have ar:=zz (zpG ao ax);have w4:=I.o.work.cell 4;clear ao ax;go_upto_region 12 with(at_mapUpdate;refine Us rfl _ _ _ rfl ar.o.1 q8 underlying272 rfl (.string ae) (.bool true) _ rfl rfl (ye aE) ?_;intro X au am;have aJ:=zz au;have aC:=zz am;clear au am)
      clear w4;have V:zh (·=tb) wr X:=(zh.refl _ wr).yu aC.o fun _=>rfl
      have ad:=zz (I.o.keyed aJ.o (fun v x hv=>by
       unfold yp at hv;split at hv
       ·injection hv with hv;exact⟨true,hv.symm⟩
       ·exact ar.o.2 v x hv) V)
      have aq:=zz (show zh (fun g=>¬R g) w X from ak.o.trans V (fun x hx _ hr=>HW.o.VI (hx▸hr)));clear V;obtain⟨v,aa,U⟩:=ad.o.push q i ⟨A,cap,l⟩ Hn.o (HL.o.kept aq.o fun g hg hr=>hr (HA.o g hg)) Hf.o HA.o zd ay.o;rw[Z.o]at aa;have aj:=zz U;have ac:Kz (∀W:World,(W.heap[fb]? = X.heap[fb]?/\W.heap[O]? = X.heap[O]?)->W.cell? ⟨O,3,none⟩=some (.map (some fb))/\(Instr.lookup 271 (.map (some fb)) (.string wh) false).run prog W=.ok v W):=fun W hW=>⟨(ad.o.work.same hW.2).cell 3,aa W hW.1⟩
      have ab:Kz (∀W:World,True->True):=fun _ _=>trivial
      have af:fb<X.heap.size/\O<X.heap.size:=by
       obtain⟨f,G,hG,_⟩:=ad.o.facts;exact⟨hG.map.lt,ad.o.work.lt⟩
      clear aa U;refine XT [0,0,0,1,0,0,0,0,1,0,1,0,2,2,3] 14 (fun _=>True) (fun W=>W.heap[fb]? = X.heap[fb]?/\W.heap[O]? = X.heap[O]?) ?s0 ?s1 ?_
      case s0=>trivial
      case s1=>exact⟨rfl,rfl⟩
      try refine zQ ?_
      repeat refine xM ab.o ac.o ?_
      refine xf fun K Y=>?_
      go_simp;refine Y.out _ _ trivial (fun _=>⟨Below.heap_alloc _ _ _ af.1,Below.heap_alloc _ _ _ af.2⟩) ?_;clear Y K;try refine zQ ?_
      repeat refine xM ab.o ac.o ?_
      refine xf fun K Y=>?_
      obtain⟨v',w7,hr,h1,h2,f7,an,ag⟩:=aj.o (X.drew.alloc (.cells #[.slice A i cap] 275)) X.heap.size 279 (zl (Below.refl _ _).drew (xq _ _)) (by simp only[Rt.cells,Hn.o];exact yt _ _ _ rfl);refine zfh _ _ rfl rfl rfl hr ?_;refine Y.out _ _ trivial (fun _=>⟨h1,h2⟩) ?_;clear Y K;try refine zQ ?_
      repeat refine xM ab.o ac.o ?_
      refine Xf zj (fun K Y=>?_);refine Zy _ _ _ rfl an q8 underlying271 rfl (.string wh) v' _ rfl rfl (ye (by rw[<-Z.o];exact ay.o)) ?_;intro w8 al av;rw[<-Z.o]at al;obtain⟨aw,ap⟩:=ag w8 al av;refine Y.out _ _ trivial ?_;clear Y K;try refine zQ ?_
      repeat refine xM ab.o ac.o ?_
      refine xt ?_;have aF:=zz aw;have aI:Kz (zh (fun g=>¬R g) w w8):=aq.o.trans ap (fun x hx _=>hx);clear aw ap al av hr h1 h2 an ag;go_wp2;go_end0;exact⟨L,N,T+1,rfl,aF.o,aI.o,zpx _,zqM _,zd,fun _=>rfl,fun _=>⟨rfl,rfl⟩,zqM _,zd,.inr rfl⟩
     |false=>
      have aL:Kz (∀W:World,W.heap[O]? = wr.heap[O]?->W.cell? ⟨O,0,none⟩=some (.int .i64 L)/\W.cell? ⟨O,2,none⟩=some (.int .i64 N)):=fun W hW=>⟨(I.o.work.same hW).cell 0,(I.o.work.same hW).cell 2⟩
      have aM:Kz (∀W:World,zh (·=O) wr W->True):=fun _ _=>trivial
      go_upto_region 9 with fail
      refine XT [0,0,0,0,1,0,0,0,0,1,0,0,0,0,3] 14 (fun W=>zh (·=O) wr W) (fun W=>W.heap[O]? = wr.heap[O]?) ?s0 ?s1 ?_
      case s0=>exact yw
      case s1=>rfl
      try refine zQ ?_
      repeat refine xM aM.o aL.o ?_
      refine Xf zj (fun K Y=>?_);refine XC 3 _ _ rfl O 0 _ _ (I.o.work.drew) (.int .i64 _) rfl rfl zp (zo) rfl ?_;intro W3 aB;have ai:=aB.zH;simp only[zp4,zqm]at ai;have az:zh (·=O) wr W3:=(zh.refl _ wr).drew.trans aB.zC (fun x hx _=>hx);refine Y.out _ _ az ?_;clear Y K;try refine zQ ?_
      repeat refine xM aM.o aL.o ?_
      refine xt ?_;obtain⟨L2,aR⟩:∃L2,L-1-N / 50=L2:=⟨_,rfl⟩;rw[show Int.tdiv N 50=N / 50 from Int.tdiv_eq_ediv_of_nonneg aH,wrap_i64 (k:=N / 50) zd (zd),wrap_i64 (k:=L-1) zd (zd),wrap_i64 (k:=L-1-N / 50) zd (zd),aR]at ai;have aX:L2<=L-1:=zd;have aG:=zz (I.o.Z7 az ai);have aQ:=zz (show zh (fun g=>¬R g) w W3 from ak.o.trans az (fun x hx _ hr=>HW.o.VF (hx▸hr)));clear ai aB az;have w2:=aG.o.work.cell 2;go_upto_region 11 with(refine xy 3 _ _ rfl ?_;refine Xq zj 3 _ _ rfl O 2 _ _ aG.o.work (.int .i64 (N+1)) rfl rfl zp (zo) rfl ?_;intro W4 aB;have az:=zz aB;clear aB)
      clear w2;have ai:=zz (aG.o.Z7 (new':=N+1) az.o.zC (by have:=az.o.zH;simpa using this));have aP:=zz (show zh (fun g=>¬R g) w W4 from aQ.o.trans az.o.zC (fun x hx _ hr=>HW.o.VF (hx▸hr)));obtain⟨aT,ao,ax⟩:=ai.o.there;have ar:=zz (zpG ao ax);have w4:=ai.o.work.cell 4;clear ao ax;go_upto_region 12 with(at_mapUpdate;refine Us rfl _ _ _ rfl ar.o.1 q8 underlying272 rfl (.string ae) (.bool true) _ rfl rfl (ye aE) ?_;intro X au am;have aJ:=zz au;have aC:=zz am;clear au am)
      clear w4;have V:zh (·=tb) W4 X:=(zh.refl _ W4).yu aC.o fun _=>rfl
      have ad:=zz (ai.o.keyed aJ.o (fun v x hv=>by
       unfold yp at hv;split at hv
       ·injection hv with hv;exact⟨true,hv.symm⟩
       ·exact ar.o.2 v x hv) V)
      have aq:=zz (show zh (fun g=>¬R g) w X from aP.o.trans V (fun x hx _ hr=>HW.o.VI (hx▸hr)));clear V;obtain⟨v,aa,U⟩:=ad.o.push q i ⟨A,cap,l⟩ Hn.o (HL.o.kept aq.o fun g hg hr=>hr (HA.o g hg)) Hf.o HA.o zd ay.o;rw[Z.o]at aa;have aj:=zz U;have ac:Kz (∀W:World,(W.heap[fb]? = X.heap[fb]?/\W.heap[O]? = X.heap[O]?)->W.cell? ⟨O,3,none⟩=some (.map (some fb))/\(Instr.lookup 271 (.map (some fb)) (.string wh) false).run prog W=.ok v W):=fun W hW=>⟨(ad.o.work.same hW.2).cell 3,aa W hW.1⟩
      have ab:Kz (∀W:World,True->True):=fun _ _=>trivial
      have af:fb<X.heap.size/\O<X.heap.size:=by
       obtain⟨f,G,hG,_⟩:=ad.o.facts;exact⟨hG.map.lt,ad.o.work.lt⟩
      clear aa U;refine XT [0,0,0,1,0,0,0,0,1,0,1,0,2,2,3] 14 (fun _=>True) (fun W=>W.heap[fb]? = X.heap[fb]?/\W.heap[O]? = X.heap[O]?) ?s0 ?s1 ?_
      case s0=>trivial
      case s1=>exact⟨rfl,rfl⟩
      try refine zQ ?_
      repeat refine xM ab.o ac.o ?_
      refine xf fun K Y=>?_
      go_simp;refine Y.out _ _ trivial (fun _=>⟨Below.heap_alloc _ _ _ af.1,Below.heap_alloc _ _ _ af.2⟩) ?_;clear Y K;try refine zQ ?_
      repeat refine xM ab.o ac.o ?_
      refine xf fun K Y=>?_
      obtain⟨v',w7,hr,h1,h2,f7,an,ag⟩:=aj.o (X.drew.alloc (.cells #[.slice A i cap] 275)) X.heap.size 279 (zl (Below.refl _ _).drew (xq _ _)) (by simp only[Rt.cells,Hn.o];exact yt _ _ _ rfl);refine zfh _ _ rfl rfl rfl hr ?_;refine Y.out _ _ trivial (fun _=>⟨h1,h2⟩) ?_;clear Y K;try refine zQ ?_
      repeat refine xM ab.o ac.o ?_
      refine Xf zj (fun K Y=>?_);refine Zy _ _ _ rfl an q8 underlying271 rfl (.string wh) v' _ rfl rfl (ye (by rw[<-Z.o];exact ay.o)) ?_;intro w8 al av;rw[<-Z.o]at al;obtain⟨aw,ap⟩:=ag w8 al av;refine Y.out _ _ trivial ?_;clear Y K;try refine zQ ?_
      repeat refine xM ab.o ac.o ?_
      refine xt ?_;have aF:=zz aw;have aI:Kz (zh (fun g=>¬R g) w w8):=aq.o.trans ap (fun x hx _=>hx);clear aw ap al av hr h1 h2 an ag;go_wp2;go_end0;exact⟨L2,N+1,T+1,rfl,aF.o,aI.o,zpx _,zd,zd,(fun h=>zd),(fun h=>nomatch h),zd,zd,.inl zd⟩
end
