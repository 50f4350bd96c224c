/-
  A region that draws its order, where at one place two operat
-/
import Derived.Test.YtfdickkdlcgicaaGreatDoorP22
set_option maxRecDepth 100000
set_option maxHeartbeats 8000000
set_option linter.all false
namespace Go.Proofs.YtfdickkdlcgicaaGreatDoor
open Go.Proofs.Tryz Go Go.RowKit Go.Maps Go.WideMaps
variable {a:Act}{i j k:Nat}{w:World}
section
def QE(Q:Exit->Act->World->Prop)(E:Act->World->Prop):Exit->Act->World->Prop
 |.normal,a,w=>E a w
 |e,a,w=>Q e a w
section
variable {P:Program}{ops:Array Oper}{md:Region.Mode}{Q:Exit->Act->World->Prop}{S0 S1:World->Prop}
theorem zdY{E:Act->World->Prop}{K:Act->World->Prop}{o:Oper}(h:o.wp P a w K (QE Q E)):o.wp P a w K Q:=by
 unfold Oper.wp at *;generalize(execOp a.eval o).run P w=r at *
 cases r with
 |ok n I=>
  cases n<;>simp only[Oper.upon]at h ⊢<;>
   first
    |exact h
    |exact Calls.mono h (fun e L q=>by cases e<;>exact q)
 |halt x I=>cases x<;>simp only[Oper.upon]at h ⊢<;>exact h
def ZT(md:Region.Mode)(ops:Array Oper)(k:Nat):List (Nat×Nat)->Array Bool->Bool
 |[],_=>true
 |(i,0)::q,h=>(Region.ready md ops h).contains i&&Region.free md ops h i&&i != k&&ZT md ops k q (h.setIfInBounds i true)
 |(i,1)::q,h=>(Region.ready md ops h).contains i&&Region.free md ops h i&&i != k&&U0 md ops 40 k i&&ZT md ops k q (h.setIfInBounds i true)
 |(i,2)::q,h=>Region.ready md ops h==[i]&&i != k&&ZT md ops k q (h.setIfInBounds i true)
 |(i,_+3)::q,h=>Region.ready md ops h==[i]&&i==k&&ZT md ops k q (h.setIfInBounds i true)
def UA:List (Nat×Nat)->Array Bool->Array Bool
 |[],l=>l
 |(i,_)::h,l=>UA h (l.setIfInBounds i true)
def ZR(k:Nat):List (Nat×Nat)->Bool->Bool
 |[],d=>d
 |(_,0)::h,d=>ZR k h d
 |(_,1)::h,d=>ZR k h d
 |(_,2)::h,d=>ZR k h d
 |(_,_+3)::h,_=>ZR k h true
theorem UB{E:Act->World->Prop}{k fuel:Nat}(Z:Region.noSelect ops=true)(hP:∀c a d v w,Q (.panic c) (a.put d v) w->Q (.panic c) a w):∀(r:List (Nat×Nat))(q:Array Bool)(d:Bool)(a:Act)(w:World),
 (∀a w,YK md ops (UA r q)->(UA r q).getD k false=ZR k r d->S0 w->(ZR k r d=false->S1 w)->E a w->Z8 P md ops Q (fun l w=>S0 w/\(l.getD k false=false->S1 w)) fuel (UA r q) a w)->
 ZT md ops k r q=true->YK md ops q->q.getD k false=d->S0 w->(d=false->S1 w)->xQ P ops (QE Q E) S0 S1 d (xM ops r) a w->Z8 P md ops Q (fun l w=>S0 w/\(l.getD k false=false->S1 w)) (r.length+fuel) q a w
 |[],q,d,a,w,Y,W,O,U,R,X,h=>by
  rw[zpF,zpx];exact Y a w O U R X h
 |(i,0)::r,q,d,a,w,Y,W,O,U,R,X,h=>by
  simp only[ZT,zpZ,bne_iff_ne,ne_eq]at W;obtain⟨⟨⟨c1,c2⟩,c3⟩,c4⟩:=W;have L:i∈Region.ready md ops q:=by simpa using c1
  obtain⟨_,o,V,_⟩:=mem_ready.1 L;have hp:xM ops ((i,0)::r)=(0,o)::xM ops r:=by simp[xM,V]
  rw[hp]at h;obtain⟨v,hy,N⟩:=h;have I:∀l:Array Bool,(l.setIfInBounds i true).getD k false=l.getD k false:=fun l=>getD_set_ne false c3
  rw[zpn,zqO];exact TF V (Region.noSelect_spec Z) (fun c a w h=>hP _ _ _ _ _ h) (fun l w=>by rw[I]) _ _ _ _ O (Region.free_spec V c2) L
   (hy.imp (fun⟨x,y⟩=>⟨x,fun w ⟨l',_,_,hS⟩=>y w hS.1⟩) id) ⟨R,fun e=>X (U▸e)⟩ (UB Z hP r _ d _ _ Y c4 (O.step L) ((I _).trans U) R X N)
 |(i,1)::r,q,d,a,w,Y,W,O,U,R,X,h=>by
  simp only[ZT,zpZ,bne_iff_ne,ne_eq]at W;obtain⟨⟨⟨⟨c1,c2⟩,c3⟩,c5⟩,c4⟩:=W;have L:i∈Region.ready md ops q:=by simpa using c1
  obtain⟨_,o,V,_⟩:=mem_ready.1 L;have hp:xM ops ((i,1)::r)=(1,o)::xM ops r:=by simp[xM,V]
  rw[hp]at h;obtain⟨v,hy,N⟩:=h;have I:∀l:Array Bool,(l.setIfInBounds i true).getD k false=l.getD k false:=fun l=>getD_set_ne false c3
  rw[zpn,zqO];exact TF V (Region.noSelect_spec Z) (fun c a w h=>hP _ _ _ _ _ h) (fun l w=>by rw[I]) _ _ _ _ O (Region.free_spec V c2) L
   (hy.imp (fun⟨x,y⟩=>⟨x,fun w ⟨l',ab,aa,hS⟩=>y w ⟨hS.1,hS.2 (by
    rcases hkl:l'.getD k false with _|_
    ·rfl
    ·rw[zaa ab 40 k i c5 hkl]at aa;cases aa)⟩⟩) id) ⟨R,fun e=>X (U▸e)⟩ (UB Z hP r _ d _ _ Y c4 (O.step L) ((I _).trans U) R X N)
 |(i,2)::r,q,d,a,w,Y,W,O,U,R,X,h=>by
  simp only[ZT,zpZ,bne_iff_ne,ne_eq]at W;obtain⟨⟨c1,c3⟩,c4⟩:=W;have c1:Region.ready md ops q=[i]:=by simpa using c1
  have L:i∈Region.ready md ops q:=by rw[c1];simp
  obtain⟨_,o,V,_⟩:=mem_ready.1 L;have hp:xM ops ((i,2)::r)=(2,o)::xM ops r:=by simp[xM,V]
  rw[hp]at h;have I:∀l:Array Bool,(l.setIfInBounds i true).getD k false=l.getD k false:=fun l=>getD_set_ne false c3
  rw[zpn,zqO];refine⟨fun e=>(by rw[c1]at e;cases e),fun j hj=>?_⟩;rw[c1]at hj;obtain rfl:=zo2.1 hj;unfold wpOp;simp only[V];unfold xQ at h;split
  ·rename_i hw;rw[if_pos hw]at h;exact .inl (Oper.wp_mono (fun a' w' N=>⟨⟨N.1.1,fun e=>N.1.2 (by rw[I,U]at e;exact e)⟩,UB Z hP r _ d _ _ Y c4 (O.step L) ((I _).trans U) N.1.1 N.1.2 N.2⟩) (zdY h))
  ·rename_i hw;rw[if_neg hw]at h;exact⟨⟨R,fun e=>X (by rw[I,U]at e;exact e)⟩,UB Z hP r _ d _ _ Y c4 (O.step L) ((I _).trans U) R X h⟩
 |(i,t+3)::r,q,d,a,w,Y,W,O,U,R,X,h=>by
  simp only[ZT,zpZ,beq_iff_eq]at W;obtain⟨⟨c1,c3⟩,c4⟩:=W;subst c3;have c1:Region.ready md ops q=[i]:=by simpa using c1
  have L:i∈Region.ready md ops q:=by rw[c1];simp
  have aa:=zbr (mem_ready.1 L).1;obtain⟨_,o,V,_⟩:=mem_ready.1 L;have hp:xM ops ((i,t+3)::r)=(t+3,o)::xM ops r:=by simp[xM,V]
  rw[hp]at h;have I:(q.setIfInBounds i true).getD i false=true:=zdW aa false;rw[zpn,zqO];refine⟨fun e=>(by rw[c1]at e;cases e),fun j hj=>?_⟩;rw[c1]at hj;obtain rfl:=zo2.1 hj;unfold wpOp;simp only[V];unfold xQ at h;split
  ·rename_i hw;rw[if_pos hw]at h;exact .inl (Oper.wp_mono (fun a' w' N=>⟨⟨N.1,fun e=>by rw[I]at e;cases e⟩,UB Z hP r _ true _ _ Y c4 (O.step L) I N.1 (fun e=>by cases e) N.2⟩) (zdY h))
  ·rename_i hw;rw[if_neg hw]at h;exact⟨⟨R,fun e=>by rw[I]at e;cases e⟩,UB Z hP r _ true _ _ Y c4 (O.step L) I R (fun e=>by cases e) h⟩
def Jf(P:Program)(ops:Array Oper)(Q:Exit->Act->World->Prop)(S0 S1:World->Prop)(d:Bool)(q h:List (Nat×Oper)):Act->World->Prop:=fun a w=>xQ P ops Q S0 S1 d q a w/\xQ P ops Q S0 S1 d h a w
theorem zmY(hs:Region.noSelect ops=true)(hP:∀c a d v w,Q (.panic c) (a.put d v) w->Q (.panic c) a w)(L O:List (Nat×Nat))(listed:Array Bool)(d:Bool)(a:Act)(w:World)(V:Region.ready md ops listed=[i,j])(r:i≠k)(W:j≠k)(hl:L.length=O.length)(c1:Xv md ops k L (listed.setIfInBounds i true)=true)(c2:Xv md ops k O (listed.setIfInBounds j true)=true)(Z:YK md ops listed)(U:listed.getD k false=d)(h0:S0 w)(h1:d=false->S1 w)(h:Jf P ops Q S0 S1 d (xM ops ((i,2)::L)) (xM ops ((j,2)::O)) a w):Z8 P md ops Q (fun l w=>S0 w/\(l.getD k false=false->S1 w)) (L.length+1) listed a w:=by
 have one:∀(i:Nat)(R:List (Nat×Nat)),i∈Region.ready md ops listed->i≠k->Xv md ops k R (listed.setIfInBounds i true)=true->xQ P ops Q S0 S1 d (xM ops ((i,2)::R)) a w->
  wpOp P ops Q i (fun a' N=>(S0 N/\((listed.setIfInBounds i true).getD k false=false->S1 N))/\Z8 P md ops Q (fun l w=>S0 w/\(l.getD k false=false->S1 w)) R.length (listed.setIfInBounds i true) a' N) a w:=fun i R Y r c h=>by
  obtain⟨_,o,ho,_⟩:=mem_ready.1 Y;have hp:xM ops ((i,2)::R)=(2,o)::xM ops R:=by simp[xM,ho]
  rw[hp]at h;have q:∀l:Array Bool,(l.setIfInBounds i true).getD k false=l.getD k false:=fun l=>getD_set_ne false r
  unfold wpOp;simp only[ho];unfold xQ at h;split
  ·rename_i X;rw[if_pos X]at h;exact .inl (Oper.wp_mono (fun a' N I=>⟨⟨I.1.1,fun e=>I.1.2 (by rw[q,U]at e;exact e)⟩,Z2 hs hP R _ d _ _ c (Z.step Y) ((q _).trans U) I.1.1 I.1.2 I.2⟩) h)
  ·rename_i X;rw[if_neg X]at h;exact⟨⟨h0,fun e=>h1 (by rw[q,U]at e;exact e)⟩,Z2 hs hP R _ d _ _ c (Z.step Y) ((q _).trans U) h0 h1 h⟩
 refine⟨fun e=>(by rw[V]at e;cases e),fun x I=>?_⟩;rw[V]at I
 rcases zpp.1 I with rfl|I
 ·exact one x L (by rw[V];simp) r c1 h.1
 ·obtain rfl:=zo2.1 I;have:=one x O (by rw[V];simp) W c2 h.2;rw[<-hl]at this;exact this
def GK(md:Region.Mode)(ops:Array Oper)(k i j:Nat)(h q r:List (Nat×Nat)):Bool:=
 ZT md ops k h (Array.replicate ops.size false)&&(Region.ready md ops (UA h (Array.replicate ops.size false))==[i,j])&&i != k&&j != k&&(q.length==r.length) &&
  Xv md ops k q ((UA h (Array.replicate ops.size false)).setIfInBounds i true)&&Xv md ops k r ((UA h (Array.replicate ops.size false)).setIfInBounds j true)&&(h.length+(q.length+1)==ops.size)
theorem zeJ{S:World->Prop}(O:Region.noSelect ops=true)(R:∀c a d v w,Q (.panic c) (a.put d v) w->Q (.panic c) a w)(q I L:List (Nat×Nat))(a:Act)(w:World)(U:GK md ops k i j q I L=true)(h0:S0 w)(N:S1 w)(h:xQ P ops (QE Q (Jf P ops Q S0 S1 (ZR k q false) (xM ops ((i,2)::I)) (xM ops ((j,2)::L)))) S0 S1 false (xM ops q) a w):Z8 P md ops Q (fun l w=>S0 w/\(l.getD k false=false->S1 w)) ops.size (Array.replicate ops.size false) a w:=by
 simp only[GK,zpZ,bne_iff_ne,ne_eq,beq_iff_eq]at U;obtain⟨⟨⟨⟨⟨⟨⟨c1,c2⟩,c3⟩,c4⟩,c5⟩,Y⟩,X⟩,W⟩:=U;have r:(Array.replicate ops.size false).getD k false=false:=by
  by_cases r:k<ops.size
  ·simp[r]
  ·simp[r]
 have:=UB (md:=md) (S0:=S0) (S1:=S1) (E:=Jf P ops Q S0 S1 (ZR k q false) (xM ops ((i,2)::I)) (xM ops ((j,2)::L))) (k:=k) (fuel:=I.length+1) O R q (Array.replicate ops.size false) false a w
  (fun a w V r h0 N h=>zmY O R I L _ _ a w c2 c3 c4 c5 Y X V r h0 N h) c1 (YK.start _) r h0 (fun _=>N) h
 rw[W]at this;exact this
theorem JZ{id:Nat}(q I r:List (Nat×Nat))(k i j:Nat)(S0 S1:World->Prop)(L:P.follows .mixedOrders=true)(N:Region.noSelect ops=true)(R:GK .any ops k i j q I r=true)(h0:S0 w.drew)(O:S1 w.drew)(h:xQ P ops (QE (NoPanic Q) (Jf P ops (NoPanic Q) S0 S1 (ZR k q false) (xM ops ((i,2)::I)) (xM ops ((j,2)::r)))) S0 S1 false (xM ops q) a w.drew):(Code.region id ops true).wp P Q a w:=
 wp_region_noPanic (wp_region_any L (J6 _ _ _ _ (zeJ (S:=S0) N (fun _ _ _ _ _ h=>(h:False).elim) q I r a _ R h0 O h)))
theorem JV{d h:Bool}{r q:List (Nat×Oper)}(L:xQ P ops Q S0 S1 h r a w)(I:xQ P ops Q S0 S1 h q a w):xQ P ops (QE Q (Jf P ops Q S0 S1 h r q)) S0 S1 d [] a w:=⟨L,I⟩
end
end
end Go.Proofs.YtfdickkdlcgicaaGreatDoor
namespace Go.Proofs.YtfdickkdlcgicaaGreatDoor.C
open Go.Proofs.Tryz Go Go.RowKit Go.Maps Go.WideMaps
variable {D:ByteArray->Option Pd}{G:yR}{N pb q tb wb:Nat}{S:Nat->Prop}{T:List Nat}{f:Value->Option Value}{own:ByteArray->Bool->Nat->Prop}{vs:List z6}{w:World}
section
theorem zbL{A:Option Addr}{xs:List Vl}(h:zY Vl.cells w A xs):YU w A (xs.map Vl.val):=by
 intro q;have W:0<xs.length:=by
  rcases xs with _ |⟨x,l⟩
  ·exact(q rfl).elim
  ·simp
 obtain⟨b,o,rfl,O,-⟩:=h.at (c:=2) (fun _=>rfl) 0 W;refine⟨b,o,rfl,O,fun i V=>?_⟩;have r:i<xs.length:=by simpa using V
 obtain⟨X,Y,I,_,L⟩:=h.at (c:=2) (fun _=>rfl) i r;injection I with I
 injection I with e1 e2
 subst e1 e2
 replace L:w.rangeAt b (o+i*3) (Vl.cells xs[i]):=L
 obtain⟨U,R,N⟩:=three L;rw[zp4];exact⟨U,R,N⟩
def zm8(I:Nat)(us vs:List z6)(T:List Nat)(w:World)(e:Ending)(w':World):Prop:=
 ∃h r q,e=.returned (.tuple #[.agg (zX (pad r)).toArray,.int .i64 0])/\Vo us vs h r/\qu w' I 2147483647 h q/\zh (·∈T) w w'/\(∀k∈q,k∈T\/w.heap.size<=k)
theorem zbi{W:Nat}(h:qu w W 2147483647 vs T)(xs:List Vl)(A:Option Addr)(cap n:Nat)(hn:xs.length=n)(hl:zY Vl.cells w A xs)(U:xs≠[]->∀a,A=some a->a.block∉T)(O:∀x∈xs,x.ok/\x.val.wf)(aa:n<=24)(Z:vs.length+n<=2147483647):
 Calls prog 92 #[.pointer (some ⟨W,0,none⟩),.slice A n cap] w (zm8 W (xs.map Vl.val) vs T w):=by
 have q:(xs.map Vl.val).length=n:=by simp[hn]
 obtain⟨N,ns,L,I⟩:=zc9 2147483647 (xs.map Vl.val) vs [] (fun u X=>by
  obtain⟨x,Y,rfl⟩:=zpA.1 X;exact zjG (O x Y).1) (by rw[q];exact Z)
 rw[zpa]at L;have V:Vz 2147483647 (xs.map Vl.val) vs=(N,ns,0):=by
  unfold Vz;rw[if_neg zd,L,if_pos rfl]
 have:=zjR h (xs.map Vl.val) A cap (zbL hl) (fun r a R=>⟨U (fun e=>r (by rw[e];rfl)) a R,by
  obtain⟨b,o,hA,hb,_⟩:=zbL hl r;rw[hA]at R;injection R with R;rw[<-R];exact hb⟩) (fun u X=>by
  obtain⟨x,Y,rfl⟩:=zpA.1 X;exact(O x Y).2)
 rw[V,q]at this;refine this.mono ?_;rintro e w'⟨Y,rfl,R,r,X⟩;exact⟨N,ns,Y,by rw[zi2],I,R,⟨r.os,r.tape,r.output,r.size,r.block⟩,X.sub⟩
open Classical in
noncomputable def ZV(G:yR)(p:ByteArray)(args:List Vl):yR:=fun q=>if q=p then some (args.length,Z5 (((G p).map (·.2)).getD []) args)else G q
def zmn(h:Nat)(G:yR)(S:Nat->Prop)(N:Nat)(x:Fa)(w:World)(e:Ending)(w':World):Prop:=
 ∃b:Bool,e=.returned (.tuple #[.bool b,.int .i64 0])/\yd w' h (ZV G x.p x.args) (fun g=>S g\/w.heap.size<=g) (N+x.args.length)/\zh S w w'
def DD(L U N:Nat)(vs:List z6)(D:ByteArray->Option Pd)(T:List Nat)(own:ByteArray->Bool->Nat->Prop)(p:ByteArray)(n:Nat)(us:List z6)(w:World)(e:Ending)(w':World):Prop:=
 ∃(b:Bool) (r:List z6) (I:List Nat) (V:Value->Option Value) (O:List Nat) (h:ByteArray->Bool->Nat->Prop) (d:Pd),e=.returned (.tuple #[.bool b,.int .i64 0])/\Vo us vs r I/\d.ar=n/\d.R=XX (((D p).map (·.R)).getD []) (pad I)/\yF w' L U N r V (X7 D p d) O h/\(∀q a g,h q a g->own q a g\/w.heap.size<=g)/\(D p=none->∀a g,h p a g->w.heap.size<=g)/\(∀k∈O,k∈T\/w.heap.size<=k)/\zh (Zh L N T D own) w w'
theorem zhQ(h:yF w wb tb pb vs f D T own)(p:ByteArray)(A:Option Addr)(cap n:Nat)(args:List Vl)(hn:args.length=n)(hl:zY Vl.cells w A args)(aK:args≠[]->qU (fun g=>¬Zh wb pb T D own g) A)(aV:∀v∈args,v.ok/\v.val.wf)(aZ:n<=24)(hN:vs.length+n<=2147483647)(hp:p.size<=maxLen)(d:Pd)(hd:D p=some d)(aU:d.ar=n)(hR:d.R.length<=4194304):
 Calls prog 43 #[.pointer (some ⟨wb,0,none⟩),.agg #[.string p,.slice A n cap]] w (DD wb tb pb vs D T own p n (args.map Vl.val) w):=by
 obtain⟨W0,L,r⟩:=xj w 71 #[.string p,.slice A n cap];have HX:=zz r;have ba:=zz L;have a3:=zz h;have Hd:=zz hd;have Hn:=zz hn;have Hl:=zz hl;have a6:Kz (args≠[]->∀a,A=some a->a.block∉T):=fun I a O N=>aK I a.block (by simp[zw,O]) (.inr (.inr (.inl N)))
 have a9:=zz aV;have HN:=zz hN;have aq:=zz aU;have HR:=zz hR;have ai:=zz aZ;have H0:=zz (show ∀W,Bl W0 W->W.cell? ⟨wb,1,none⟩=some (.map (some pb))/\W.cell? ⟨w.heap.size,0,none⟩=some (.string p)/\(Instr.lookup 115 (.map (some pb)) (.string p) true).run prog W=.ok (.tuple #[d.kept,.bool true]) W from
  fun W I=>⟨(h.zG.below (zu r.below I)).cell 1,(r.b0.below I).cell 0,by
   have:=(h.map.below (zu r.below I)).look qT underlying115 (z:=.agg #[.pointer none,.pointer none]) zo (qY hp) true;rw[h.XB p,hd]at this;exact this⟩)
 clear h hd hn hl aK aV hN aU hR aZ r L;go_enter func43,ntmps43;go_upto_region 1 with fail
 rw[ba.o];refine xX [0,0,0,0,0,0,0,0,0,0,2,2,0] (fun W=>Bl W0 W) ?_
 repeat refine zT H0.o ?_
 refine xc fun K U=>?_
 go_simp;obtain⟨W2,r,V⟩:=xj W0 131 #[.pointer none,.pointer none];rw[r];have Y:Bl W0 W2.drew:=V.below.drew;refine U.out _ _ Y (fun _=>trivial) ?_;clear U K r;try refine zQ ?_
 repeat refine zT H0.o ?_
 refine xc fun K U=>?_
 refine Xi 131 _ _ rfl W0.heap.size 0 _ _ V.b0.drew [.pointer (some ⟨d.rb,0,none⟩),.pointer (some ⟨d.bb,0,none⟩)] rfl rfl zp (zo) zt ?_;intro w5 X;have N:Bl W0 w5:=X.below Y (zoZ _) (zoZ _);refine U.out _ _ N (fun _=>trivial) ?_;clear U K;try refine zQ ?_
 repeat refine zT H0.o ?_
 refine xu ?_;have L:Bl w w5:=zu HX.o.below N;have h6:zD w5 W0.heap.size 131 #[.pointer (some ⟨d.rb,0,none⟩),.pointer (some ⟨d.bb,0,none⟩)]:=X.zG;have Z:w.heap.size<W0.heap.size:=HX.o.b0.lt;have r:yF w5 wb tb pb vs f D T own:=a3.o.zC (zh.xi (fun _=>False) L) fun _ _ h=>h
 have HF:=zz (HX.o.b0.below N);generalize W0.heap.size=b6 at h6 Z ⊢;have aW:=zz (fun W (I:Bl w5 W)=>show Calls prog 70 #[.pointer (some ⟨d.rb,0,none⟩)] W fun e O=>e=.returned (.int .i64 (n:Int))/\O=W from by
  have:=T6 ((r.rel p d Hd.o).below I);rw[aq.o]at this;exact this)
 obtain⟨f5,D5,r,O,a5⟩:∃f5 D5,yF w5 wb tb pb vs f5 D5 T own/\D5 p=some d/\Kz (∀d2,X7 D5 p d2=X7 D p d2):=⟨f,D,r,Hd.o,zz fun _=>rfl⟩;have af:=zz r;have aI:=zz O;clear O;have H6:=zz h6;have a4:=zz Z;have aO:=zz (Hl.o.below L);have aX:=zz (fun k hk=>a3.o.tab.lt k hk);have ao:=zz (zh.xi (Zh wb pb T D own) L);have aC:Kz (∀q a g,own q a g->own q a g\/w.heap.size<=g):=fun _ _ _ h=>.inl h
 have ay:Kz (∀g,own p false g->Zh wb pb T D own g\/w.heap.size<=g):=fun g O=>.inl (.inr (.inr (.inr ⟨p,d,false,Hd.o,O⟩)))
 have aF:Kz (D p=none->∀a g,own p a g->w.heap.size<=g):=fun an=>by rw[Hd.o]at an;cases an
 have a7:=zz (show d.R=((D p).map (·.R)).getD []from by rw[Hd.o];rfl);have H2:Kz (∀W,Bl w5 W->W.cell? ⟨b6,0,none⟩=some (.pointer (some ⟨d.rb,0,none⟩))/\W.cell? ⟨w.heap.size,1,none⟩=some (.slice A n cap)):=fun W I=>⟨(h6.below I).cell 0,(HF.o.below I).cell 1⟩
 clear X N Y V L h6 Z r;go_upto_region 2 with fail
 refine Vc [(0,0),(1,0),(2,0),(3,0),(5,0),(6,0),(7,0),(4,2),(8,0),(9,0)] (fun W=>Bl w5 W) ?_
 repeat refine zT H2.o ?_
 refine xc fun K U=>?_
 go_simp;refine(aW.o _ (Below.refl _ _).drew).mono ?_;rintro e w7⟨rfl,r⟩;obtain rfl:=r.symm;refine U.out _ _ (Below.refl _ _).drew (fun _=>trivial) ?_;clear U K r;try refine zQ ?_
 repeat refine zT H2.o ?_
 refine xu ?_;have r:Bl w5 w5.drew:=(Below.refl _ _).drew;generalize w5.drew=wq at r ⊢;have af:=zz (af.o.zC (zh.xi (fun _=>False) r) fun _ _ h=>h);have H6:=zz (H6.o.below r);have HF:=zz (HF.o.below r);have aO:=zz (aO.o.below r);have ao:=zz (ao.o.trans (zh.xi (fun _=>False) r) fun _ h _=>h.elim);clear r;have aJ:=zz (fun W (I:Bl wq W)=>zbi (af.o.tab.below I) args A cap n Hn.o (aO.o.below I) a6.o a9.o ai.o HN.o);have a1:Kz (b6∉T):=fun h=>by have:=aX.o b6 h;have:=a4.o;omega
 have am:=zz (show ∀W,zh (·∈T) wq W->W.cell? ⟨wb,0,none⟩=some (.pointer (some ⟨tb,0,none⟩))/\W.cell? ⟨w.heap.size,1,none⟩=some (.slice A n cap)from
  fun W I=>⟨(af.o.zG.zC I af.o.XS.1).cell 0,(HF.o.zC I fun h=>by have:=aX.o _ h;omega).cell 1⟩)
 go_upto_region 13 with fail
 refine JZ [(0,0),(1,0),(2,0),(3,0),(4,0),(5,0)] [(7,0),(8,0),(9,0),(10,2),(11,2),(12,0)] [(6,2),(7,0),(8,0),(9,0),(11,2),(12,0)] 9999 6 10 (fun W=>zh (·∈T) wq W) (fun _=>True) zo (zo) zo ?s0 ?s1 ?_
 case s1=>trivial
 case s0=>exact yj
 simp only[xM,qa,qb,qc,qd,qe,qf];try refine zQ ?_
 repeat refine zT am.o ?_
 refine JV ?_ ?_
 ·refine xc fun K U=>?_
  go_simp;refine(aJ.o _ (Below.refl _ _).drew).mono ?_;rintro e w6⟨aj,X,T',rfl,r,Z,ab,V⟩;have I:zh (·∈T) wq w6:=(zh.refl (·∈T) wq).drew.trans ab fun x hx _=>hx
  refine U.out _ _ I (fun _=>trivial) ?_;clear U K;try refine zQ ?_
  repeat refine zT am.o ?_
  refine xc fun K U=>?_
  go_simp;obtain⟨W7,aA,ad⟩:=xj w6 155 #[.int .i32 0,.int .i32 0,.int .i32 0,.int .i32 0,.int .i32 0,.int .i32 0,.int .i32 0,.int .i32 0,.int .i32 0,.int .i32 0,.int .i32 0,.int .i32 0,.int .i32 0,.int .i32 0,.int .i32 0,.int .i32 0,.int .i32 0,.int .i32 0,.int .i32 0,.int .i32 0,.int .i32 0,.int .i32 0,.int .i32 0,.int .i32 0];rw[aA];have ah:zh (·∈T) wq W7:=I.trans (zh.xi (fun _=>False) ad.below) fun _ h _=>h.elim
  refine U.out _ _ ah (fun _=>trivial) ?_;clear U K aA;try refine zQ ?_
  repeat refine zT am.o ?_
  have N:(zX (pad X)).length=24:=by
   have:=r.len;rw[zph,Hn.o]at this;unfold pad;simp;have:=ai.o;omega
  refine xc fun K U=>?_
  refine Xi 155 _ _ rfl w6.heap.size 0 _ _ ad.b0 (zX (pad X)) rfl rfl (by rw[N];decide) (by rw[N];exact yC) (XT _) ?_;intro W8 ae;have aa:zh (·∈T) wq W8:=ah.trans ae.zC fun x hx az=>by have:=I.size;omega
  refine U.out _ _ aa (fun _=>trivial) ?_;clear U K;try refine zQ ?_
  repeat refine zT am.o ?_
  refine xu ?_;have L:zD W8 w6.heap.size 155 (zX (pad X)).toArray:=by
   have:=ae.zG;rw[N]at this;simpa using this
  have aG:qu W8 tb 2147483647 aj T':=Z.same fun k hk=>by
   have Y:=Z.lt k hk;exact(ae.zC.block k (zo0 Y ad.below.size) zd).trans (ad.below.block k Y)
  have Y:∀k∈T',k∈T\/wq.heap.size<=k:=V;generalize w6.heap.size=ag at L ⊢;clear ae ad ah I ab Z V N;have Z:=af.o.Tq aa aG r.pre Y;have I:(args.map Vl.val).length=n:=by rw[zph];exact Hn.o
  have V:yN aj d.ar (pad X):=by
   have:=r.Jv (by rw[I];exact ai.o);rw[I]at this;rw[aq.o];exact this
  have ak:Rw (pad X):=Rw.pad (by rw[r.len,I];exact ai.o) fun k hk=>by
   have h1:=r.lt k hk;have h2:=r.le;rw[I]at h2;have:=HN.o;omega
  have ax:=H6.o.zC aa a1.o;have ac:=Z.rel p d aI.o;have av:=zz (Gy ac (pad X) ak V.zero HR.o);have k0:=ax.cell 0;have aM:W8.rangeAt ag 0 (zX (pad X)):=by
   intro j v hv;rw[zpx,L.cell];simpa using hv
  have aL:(prog.info? 155).map (·.size)=some (zX (pad X)).length:=by rw[zph,ak.len];exact yC
  have aw:=zz Z;have au:=zz V;have aS:=zz r;have aE:=zz aa;have aN:=zz Y;clear Z I V ak ax ac L r aa aG Y
  go_wp2_with (first
   |(refine xV 155 _ rfl ?_;refine yZ zj 155 _ rfl ag 0 rfl (zX (pad X)) _ aM underlying155 rfl aL ?_)
   |(go_at_call 93;refine av.o.mono ?_;rintro e w9⟨rfl,ab,aB⟩;have al:=zz ab;have ap:=zz aB;clear ab aB))
  go_returns;have a2:wq.heap.size<=W8.heap.size:=aE.o.size;have a8:w.heap.size<=wq.heap.size:=ao.o.size;have aD:=aw.o.GY aI.o au.o ap.o al.o;rw[a5.o]at aD;refine⟨_,aj,X,f5,T',_,{ d with R:=XX d.R (pad X)},rfl,aS.o,aq.o,by rw[<-a7.o],aD,fun q a g O=>?_,fun an a g O=>?_,fun k hk=>?_,(ao.o.trans aE.o fun g O az=>.inr (.inr (.inl O))).trans ap.o fun g O az=>?_⟩
  ·rcases O with O |⟨_,_,O,_⟩
   ·exact aC.o q a g O
   ·right;omega
  ·rcases O with O |⟨_,_,O,_⟩
   ·exact aF.o an a g O
   ·omega
  ·rcases aN.o k hk with h|h
   ·exact .inl h
   ·right;omega
  ·rcases ay.o g O with h|h
   ·exact h
   ·omega
 ·refine xc fun K U=>?_
  go_simp;obtain⟨W7,aA,ad⟩:=xj wq 155 #[.int .i32 0,.int .i32 0,.int .i32 0,.int .i32 0,.int .i32 0,.int .i32 0,.int .i32 0,.int .i32 0,.int .i32 0,.int .i32 0,.int .i32 0,.int .i32 0,.int .i32 0,.int .i32 0,.int .i32 0,.int .i32 0,.int .i32 0,.int .i32 0,.int .i32 0,.int .i32 0,.int .i32 0,.int .i32 0,.int .i32 0,.int .i32 0];rw[aA];have aH:Bl wq W7.drew:=ad.below.drew;refine U.out _ _ (zh.xi _ aH) (fun _=>trivial) ?_;clear U K aA;try refine zQ ?_
  repeat refine zT am.o ?_
  refine xc fun K U=>?_
  go_simp;refine(aJ.o _ aH).mono ?_;rintro e w7⟨aj,X,T',rfl,r,aP,aQ,aA⟩;have ah:zh (·∈T) wq w7:=(zh.xi (·∈T) aH).trans aQ fun x hx _=>hx
  refine U.out _ _ ah (fun _=>trivial) ?_;clear U K;try refine zQ ?_
  repeat refine zT am.o ?_
  have N:(zX (pad X)).length=24:=by
   have:=r.len;rw[zph,Hn.o]at this;unfold pad;simp;have:=ai.o;omega
  have aR:∀k∈T,k<wq.heap.size:=fun k hk=>af.o.tab.lt k hk
  have aT:zD w7 wq.heap.size 155 #[.int .i32 0,.int .i32 0,.int .i32 0,.int .i32 0,.int .i32 0,.int .i32 0,.int .i32 0,.int .i32 0,.int .i32 0,.int .i32 0,.int .i32 0,.int .i32 0,.int .i32 0,.int .i32 0,.int .i32 0,.int .i32 0,.int .i32 0,.int .i32 0,.int .i32 0,.int .i32 0,.int .i32 0,.int .i32 0,.int .i32 0,.int .i32 0]:=ad.b0.drew.zC aQ fun h=>zqq _ (aR _ h)
  have aY:wq.heap.size∉T':=fun h=>by
   rcases aA _ h with h1|h1
   ·exact zqq _ (aR _ h1)
   ·have:=ad.size;have h2:W7.drew.heap.size=W7.heap.size:=rfl;omega
  refine xc fun K U=>?_
  refine Xi 155 _ _ rfl wq.heap.size 0 _ _ aT (zX (pad X)) rfl rfl (by rw[N];decide) (by rw[N];exact yC) (XT _) ?_;intro W8 ae;have aa:zh (·∈T) wq W8:=ah.trans ae.zC fun x hx az=>zd
  refine U.out _ _ aa (fun _=>trivial) ?_;clear U K;try refine zQ ?_
  repeat refine zT am.o ?_
  refine xu ?_;have L:zD W8 wq.heap.size 155 (zX (pad X)).toArray:=by
   have:=ae.zG;rw[N]at this;simpa using this
  have aG:qu W8 tb 2147483647 aj T':=aP.same fun k hk=>ae.zC.block k (aP.lt k hk) fun e=>aY (e▸hk)
  have Y:∀k∈T',k∈T\/wq.heap.size<=k:=fun k hk=>(aA k hk).imp id fun h=>zpd aH.size h
  obtain⟨ag,U⟩:∃ag,wq.heap.size=ag:=⟨_,rfl⟩;rw[U]at L ⊢;have bc:=zz U;clear U;clear ae ad ah aH aQ aP aA N aR aT aY;have Z:=af.o.Tq aa aG r.pre Y;have I:(args.map Vl.val).length=n:=by rw[zph];exact Hn.o
  have V:yN aj d.ar (pad X):=by
   have:=r.Jv (by rw[I];exact ai.o);rw[I]at this;rw[aq.o];exact this
  have ak:Rw (pad X):=Rw.pad (by rw[r.len,I];exact ai.o) fun k hk=>by
   have h1:=r.lt k hk;have h2:=r.le;rw[I]at h2;have:=HN.o;omega
  have ax:=H6.o.zC aa a1.o;have ac:=Z.rel p d aI.o;have av:=zz (Gy ac (pad X) ak V.zero HR.o);have k0:=ax.cell 0;have aM:W8.rangeAt ag 0 (zX (pad X)):=by
   intro j v hv;rw[zpx,L.cell];simpa using hv
  have aL:(prog.info? 155).map (·.size)=some (zX (pad X)).length:=by rw[zph,ak.len];exact yC
  have aw:=zz Z;have au:=zz V;have aS:=zz r;have aE:=zz aa;have aN:=zz Y;clear Z I V ak ax ac L r aa aG Y
  go_wp2_with (first
   |(refine xV 155 _ rfl ?_;refine yZ zj 155 _ rfl ag 0 rfl (zX (pad X)) _ aM underlying155 rfl aL ?_)
   |(go_at_call 93;refine av.o.mono ?_;rintro e w9⟨rfl,ab,aB⟩;have al:=zz ab;have ap:=zz aB;clear ab aB))
  go_returns;have a2:wq.heap.size<=W8.heap.size:=aE.o.size;have a8:w.heap.size<=wq.heap.size:=ao.o.size;have aD:=aw.o.GY aI.o au.o ap.o al.o;rw[a5.o]at aD;refine⟨_,aj,X,f5,T',_,{ d with R:=XX d.R (pad X)},rfl,aS.o,aq.o,by rw[<-a7.o],aD,fun q a g O=>?_,fun an a g O=>?_,fun k hk=>?_,(ao.o.trans aE.o fun g O az=>.inr (.inr (.inl O))).trans ap.o fun g O az=>?_⟩
  ·rcases O with O |⟨_,_,O,_⟩
   ·exact aC.o q a g O
   ·right;omega
  ·rcases O with O |⟨_,_,O,_⟩
   ·exact aF.o an a g O
   ·omega
  ·rcases aN.o k hk with h|h
   ·exact .inl h
   ·right;omega
  ·rcases ay.o g O with h|h
   ·exact h
   ·omega
theorem zir(h:yF w wb tb pb vs f D T own)(p:ByteArray)(A:Option Addr)(cap n:Nat)(args:List Vl)(hn:args.length=n)(hl:zY Vl.cells w A args)(aD:args≠[]->qU (fun g=>¬Zh wb pb T D own g) A)(bd:∀v∈args,v.ok/\v.val.wf)(bi:n<=24)(hN:vs.length+n<=2147483647)(hp:p.size<=maxLen)(hd:D p=none):
 Calls prog 43 #[.pointer (some ⟨wb,0,none⟩),.agg #[.string p,.slice A n cap]] w (DD wb tb pb vs D T own p n (args.map Vl.val) w):=by
 obtain⟨W0,O,N⟩:=xj w 71 #[.string p,.slice A n cap];have HX:=zz N;have bG:=zz O;have av:=zz h;have Hd:=zz hd;have Hn:=zz hn;have Hl:=zz hl;have bs:Kz (args≠[]->∀a,A=some a->a.block∉T):=fun L a I r=>aD L a.block (by simp[zw,I]) (.inr (.inr (.inl r)))
 have bx:=zz (fun W (r:zh (·=pb) w W)=>hl.YD r fun L g I e=>aD L g I (.inr (.inl e)));have bv:=zz bd;have HN:=zz hN;have ah:=zz bi;have H0:=zz (show ∀W,Bl W0 W->W.cell? ⟨wb,1,none⟩=some (.map (some pb))/\W.cell? ⟨w.heap.size,0,none⟩=some (.string p)/\W.cell? ⟨w.heap.size,1,none⟩=some (.slice A n cap)/\(Instr.lookup 115 (.map (some pb)) (.string p) true).run prog W=.ok (.tuple #[.agg #[.pointer none,.pointer none],.bool false]) W from
  fun W r=>⟨(h.zG.below (zu N.below r)).cell 1,(N.b0.below r).cell 0,(N.b0.below r).cell 1,by
   have:=(h.map.below (zu N.below r)).look qT underlying115 (z:=.agg #[.pointer none,.pointer none]) zo (qY hp) true;rw[h.XB p,hd]at this;exact this⟩)
 clear h hd hn hl aD bd hN bi N O;go_enter func43,ntmps43;go_upto_region 1 with fail
 rw[bG.o];refine xX [0,0,0,0,0,0,0,0,0,0,2,2,0] (fun W=>Bl W0 W) ?_
 repeat refine zT H0.o ?_
 refine xc fun K Z=>?_
 go_simp;obtain⟨W2,L,O⟩:=xj W0 131 #[.pointer none,.pointer none];rw[L];have U:Bl W0 W2.drew:=O.below.drew;refine Z.out _ _ U (fun _=>trivial) ?_;clear Z K L;try refine zQ ?_
 repeat refine zT H0.o ?_
 refine xc fun K Z=>?_
 refine Xi 131 _ _ rfl W0.heap.size 0 _ _ O.b0.drew [.pointer none,.pointer none] rfl rfl zp (zo) zt ?_;intro w3 N;have L:Bl W0 w3:=N.below U (zoZ _) (zoZ _);refine Z.out _ _ L (fun _=>trivial) ?_;clear Z K;try refine zQ ?_
 repeat refine zT H0.o ?_
 refine xu ?_;have V:Bl w w3:=zu HX.o.below L;have X:zD w3 W0.heap.size 131 #[.pointer none,.pointer none]:=N.zG;have aj:Kz (w.heap.size<W0.heap.size):=HX.o.b0.lt;have H6:=zz X;have bl:=zz L;have bJ:=zz V;clear N L U O V X;go_upto_region 2 with fail
 refine Vc [(0,0),(1,0),(2,0),(3,0),(5,0),(6,0),(7,0),(4,2),(8,0),(9,0)] (fun W=>Bl W0 W) (h0:=?s0) ?_
 case s0=>exact bl.o.drew
 try refine zQ ?_
 repeat refine zT H0.o ?_
 refine xu ?_;have L:Bl W0 w3.drew:=bl.o.drew;have aZ:Kz (zD w3.drew W0.heap.size 131 #[.pointer none,.pointer none]):=H6.o;generalize w3.drew=w4 at L aZ ⊢;have bo:=zz L;have c1:=(H0.o w4 L).2.2.1;clear L;go_upto_region 12 with(first
  |(go_at_call 90;refine(znZ _ n ah.o).mono ?_;rintro e w5⟨rb,rfl,aK,bq,br⟩;have aN:=zz aK;have aL:=zz br;have bK:=zz bq;clear aK br bq c1)
  |(go_at_call 91;refine(znF aN.o).mono ?_;rintro e w7⟨bb,mb,rfl,ax,bc,aT,aS,ai⟩;have bE:=zz ax;have bB:=zz bc;have a3:=zz ai;have bm:=zz aT;have ba:=zz aS;have bA:=zz ((aZ.o.below aL.o).below ai);clear ax bc aT aS ai)
  |(refine xy 131 _ _ rfl ?_;refine yE 131 W0.heap.size 0 bA.out [.pointer (some ⟨rb,0,none⟩),.pointer (some ⟨bb,0,none⟩)] ?_;intro w8 L;have bD:=zz L;clear L))
 have L:XK w7 W0.heap.size 131 #[.pointer (some ⟨rb,0,none⟩),.pointer (some ⟨bb,0,none⟩)] w8:=bD.o;have ag:W0.heap.size<w4.heap.size:=aZ.o.lt;have N:=(aN.o.cut.below a3.o).zC L.zC fun g I e=>by have:=I.1;omega
 have X:=(yS.new bE.o bB.o (fun g=>w5.heap.size<=g) ba.o bm.o).zC L.zC fun g I e=>by have:=aL.o.size;omega
 have Y:Bl w w7:=zu HX.o.below (zu bo.o (zu aL.o a3.o));have V:zh (fun g=>g=W0.heap.size) w w8:=(zh.xi (fun g=>g=W0.heap.size) Y).trans L.zC fun g I _=>I
 have U:Bl w w8:=V.below (zoZ _) fun g I=>by have:=aj.o;omega
 have O:yF w8 wb tb pb vs f D T own:=av.o.zC (zh.xi (fun _=>False) U) fun _ _ h=>h
 have af:zD w8 W0.heap.size 131 #[.pointer (some ⟨rb,0,none⟩),.pointer (some ⟨bb,0,none⟩)]:=L.zG;have aa:zD w8 w.heap.size 71 #[.string p,.slice A n cap]:=(HX.o.b0.below (zu bo.o (zu aL.o a3.o))).zC L.zC fun e=>by have:=aj.o;omega
 have ab:pb<w.heap.size:=av.o.map.lt;have ae:wb≠pb:=av.o.zG.qM av.o.map;obtain⟨d,bH,bw,ac,ad⟩:∃d:Pd,d.rb=rb/\d.bb=bb/\d.ar=n/\d.R=[]:=⟨⟨rb,bb,n,[]⟩,rfl,rfl,rfl,rfl⟩;subst bH bw;have bh:=zz (show ∀W,zh (·=pb) w8 W->W.cell? ⟨wb,1,none⟩=some (.map (some pb))/\W.cell? ⟨w.heap.size,0,none⟩=some (.string p)/\W.cell? ⟨W0.heap.size,0,none⟩=some (.pointer (some ⟨d.rb,0,none⟩))/\W.cell? ⟨W0.heap.size,1,none⟩=some (.pointer (some ⟨d.bb,0,none⟩))from
  fun W r=>⟨(O.zG.zC r ae).cell 1,(aa.zC r zd).cell 0,(af.zC r (by have:=aj.o;omega)).cell 0,(af.zC r (by have:=aj.o;omega)).cell 1⟩)
 have a6:=zz N;have be:=zz X;have a9:=zz U;have bk:=zz O;have bC:=zz af;have bF:=zz aa;have aR:=zz ab;have au:=zz ac;have a8:=zz ad;have aP:=zz (show w.heap.size<=w4.heap.size/\w.heap.size<=w5.heap.size from⟨by have:=aj.o;omega,by have:=aj.o;have:=aL.o.size;omega⟩);clear L ag N X Y V U O af aa ab ae ac ad;refine xX [0,0,0,0,0,0,0,2] (fun W=>zh (·=pb) w8 W) ?_
 repeat refine zT bh.o ?_
 refine xc fun K Z=>?_
 refine Zp _ _ _ rfl (bk.o.map.same (w':=w8.drew) rfl) qT underlying115 rfl (.string p) d.kept _ rfl rfl (qY hp) ?_;intro X ab ad;have Y:zh (·=pb) w8 X:=(zh.refl (·=pb) w8).drew.yi ad fun _=>rfl
 refine Z.out _ _ Y (fun _=>trivial) ?_;clear Z K;try refine zQ ?_
 repeat refine zT bh.o ?_
 refine xu ?_;have aa:zh (·=pb) w X:=(zh.xi (·=pb) a9.o).trans Y fun g I _=>I
 obtain⟨aq,U,V,N⟩:=av.o.born (d:=d) hp Hd.o a8.o (by rw[au.o];exact ah.o) aa
  (SR:=fun g=>w4.heap.size<=g/\g<w5.heap.size) (SB:=fun g=>w5.heap.size<=g)
  (by rw[au.o];exact a6.o.zC Y fun g I e=>by have:=aR.o;have:=aP.o.1;have:=I.1;omega)
  (be.o.zC Y fun g I e=>by have:=aR.o;have:=aP.o.2;omega)
  (fun g I=>zpd aP.o.1 I.1) (fun g I=>zpd aP.o.2 I) (fun g I h=>by have:=I.2;omega) ab rfl
 obtain⟨f5,U⟩:∃f5,yF X wb tb pb vs f5 (X7 D p d) T aq:=⟨_,U⟩;obtain⟨D5,U,ac,bp⟩:∃D5,yF X wb tb pb vs f5 D5 T aq/\D5 p=some d/\Kz (∀d2,X7 D5 p d2=X7 D p d2):=
  ⟨_,U,if_pos rfl,zz fun d2=>by
   funext q
   unfold X7;split
   ·rfl
   ·rfl⟩
 have aw:=zz U;have aO:=zz ac;have H6:=zz (bC.o.zC Y (by have:=aj.o;have:=aR.o;omega));have HF:=zz (bF.o.zC Y (by have:=aR.o;omega));have aV:=aj;have HR:=zz (show d.R.length<=4194304 by rw[a8.o];exact zo5 _);have bz:=zz (bx.o X aa);have bf:=zz (fun k hk=>av.o.tab.lt k hk);have aQ:=zz (aa.mono (S':=Zh wb pb T D own) fun g I _=>.inr (.inl I));have aG:=zz V;have aC:Kz (∀g,aq p false g->Zh wb pb T D own g\/w.heap.size<=g):=fun g I=>.inr (N false g I)
 have aJ:Kz (D p=none->∀a g,aq p a g->w.heap.size<=g):=fun _ a g I=>N a g I
 have bt:=zz (show d.R=((D p).map (·.R)).getD []from by rw[Hd.o,a8.o];rfl);generalize W0.heap.size=b6 at H6 aV ⊢;clear U ac V N aa Y ab ad;have aU:=zz (fun W (r:Bl X W)=>zbi (aw.o.tab.below r) args A cap n Hn.o (bz.o.below r) bs.o bv.o ah.o HN.o);have bj:Kz (b6∉T):=fun h=>by have:=bf.o b6 h;have:=aV.o;omega
 have ap:=zz (show ∀W,zh (·∈T) X W->W.cell? ⟨wb,0,none⟩=some (.pointer (some ⟨tb,0,none⟩))/\W.cell? ⟨w.heap.size,1,none⟩=some (.slice A n cap)from
  fun W r=>⟨(aw.o.zG.zC r aw.o.XS.1).cell 0,(HF.o.zC r fun h=>by have:=bf.o _ h;omega).cell 1⟩)
 go_upto_region 13 with fail
 refine JZ [(0,0),(1,0),(2,0),(3,0),(4,0),(5,0)] [(7,0),(8,0),(9,0),(10,2),(11,2),(12,0)] [(6,2),(7,0),(8,0),(9,0),(11,2),(12,0)] 9999 6 10 (fun W=>zh (·∈T) X W) (fun _=>True) zo (zo) zo ?s0 ?s1 ?_
 case s1=>trivial
 case s0=>exact yj
 simp only[xM,qa,qb,qc,qd,qe,qf];try refine zQ ?_
 repeat refine zT ap.o ?_
 refine JV ?_ ?_
 ·refine xc fun K Z=>?_
  go_simp;refine(aU.o _ (Below.refl _ _).drew).mono ?_;rintro e w6⟨am,ns,T',rfl,r,ad,ae,aa⟩;have N:zh (·∈T) X w6:=(zh.refl (·∈T) X).drew.trans ae fun x hx _=>hx
  refine Z.out _ _ N (fun _=>trivial) ?_;clear Z K;try refine zQ ?_
  repeat refine zT ap.o ?_
  refine xc fun K Z=>?_
  go_simp;obtain⟨W7,aF,ag⟩:=xj w6 155 #[.int .i32 0,.int .i32 0,.int .i32 0,.int .i32 0,.int .i32 0,.int .i32 0,.int .i32 0,.int .i32 0,.int .i32 0,.int .i32 0,.int .i32 0,.int .i32 0,.int .i32 0,.int .i32 0,.int .i32 0,.int .i32 0,.int .i32 0,.int .i32 0,.int .i32 0,.int .i32 0,.int .i32 0,.int .i32 0,.int .i32 0,.int .i32 0];rw[aF];have al:zh (·∈T) X W7:=N.trans (zh.xi (fun _=>False) ag.below) fun _ h _=>h.elim
  refine Z.out _ _ al (fun _=>trivial) ?_;clear Z K aF;try refine zQ ?_
  repeat refine zT ap.o ?_
  have V:(zX (pad ns)).length=24:=by
   have:=r.len;rw[zph,Hn.o]at this;unfold pad;simp;have:=ah.o;omega
  refine xc fun K Z=>?_
  refine Xi 155 _ _ rfl w6.heap.size 0 _ _ ag.b0 (zX (pad ns)) rfl rfl (by rw[V];decide) (by rw[V];exact yC) (XT _) ?_;intro W8 L;have ac:zh (·∈T) X W8:=al.trans L.zC fun x hx aE=>by have:=N.size;omega
  refine Z.out _ _ ac (fun _=>trivial) ?_;clear Z K;try refine zQ ?_
  repeat refine zT ap.o ?_
  refine xu ?_;have U:zD W8 w6.heap.size 155 (zX (pad ns)).toArray:=by
   have:=L.zG;rw[V]at this;simpa using this
  have aM:qu W8 tb 2147483647 am T':=ad.same fun k hk=>by
   have ab:=ad.lt k hk;exact(L.zC.block k (zo0 ab ag.below.size) zd).trans (ag.below.block k ab)
  have ab:∀k∈T',k∈T\/X.heap.size<=k:=aa;generalize w6.heap.size=ak at U ⊢;clear L ag al N ae ad aa V;have O:=aw.o.Tq ac aM r.pre ab;have N:(args.map Vl.val).length=n:=by rw[zph];exact Hn.o
  have aa:yN am d.ar (pad ns):=by
   have:=r.Jv (by rw[N];exact ah.o);rw[N]at this;rw[au.o];exact this
  have an:Rw (pad ns):=Rw.pad (by rw[r.len,N];exact ah.o) fun k hk=>by
   have h1:=r.lt k hk;have h2:=r.le;rw[N]at h2;have:=HN.o;omega
  have af:=H6.o.zC ac bj.o;have ae:=O.rel p d aO.o;have aA:=zz (Gy ae (pad ns) an aa.zero HR.o);have k0:=af.cell 0;have aX:W8.rangeAt ak 0 (zX (pad ns)):=by
   intro j v hv;rw[zpx,U.cell];simpa using hv
  have aW:(prog.info? 155).map (·.size)=some (zX (pad ns)).length:=by rw[zph,an.len];exact yC
  have aB:=zz O;have az:=zz aa;have a7:=zz r;have aI:=zz ac;have a1:=zz ab;clear O N aa an af ae U r ac aM ab
  go_wp2_with (first
   |(refine xV 155 _ rfl ?_;refine yZ zj 155 _ rfl ak 0 rfl (zX (pad ns)) _ aX underlying155 rfl aW ?_)
   |(go_at_call 93;refine aA.o.mono ?_;rintro e w9⟨rfl,ad,Y⟩;have ao:=zz ad;have ay:=zz Y;clear ad Y))
  go_returns;have bn:X.heap.size<=W8.heap.size:=aI.o.size;have bu:w.heap.size<=X.heap.size:=aQ.o.size;have aH:=aB.o.GY aO.o az.o ay.o ao.o;rw[bp.o]at aH;refine⟨_,am,ns,f5,T',_,{ d with R:=XX d.R (pad ns)},rfl,a7.o,au.o,by rw[<-bt.o],aH,fun q a g I=>?_,fun aY a g I=>?_,fun k hk=>?_,(aQ.o.trans aI.o fun g I aE=>.inr (.inr (.inl I))).trans ay.o fun g I aE=>?_⟩
  ·rcases I with I |⟨_,_,I,_⟩
   ·exact aG.o q a g I
   ·right;omega
  ·rcases I with I |⟨_,_,I,_⟩
   ·exact aJ.o aY a g I
   ·omega
  ·rcases a1.o k hk with h|h
   ·exact .inl h
   ·right;omega
  ·rcases aC.o g I with h|h
   ·exact h
   ·omega
 ·refine xc fun K Z=>?_
  go_simp;obtain⟨W7,aF,ag⟩:=xj X 155 #[.int .i32 0,.int .i32 0,.int .i32 0,.int .i32 0,.int .i32 0,.int .i32 0,.int .i32 0,.int .i32 0,.int .i32 0,.int .i32 0,.int .i32 0,.int .i32 0,.int .i32 0,.int .i32 0,.int .i32 0,.int .i32 0,.int .i32 0,.int .i32 0,.int .i32 0,.int .i32 0,.int .i32 0,.int .i32 0,.int .i32 0,.int .i32 0];rw[aF];have ai:Bl X W7.drew:=ag.below.drew;refine Z.out _ _ (zh.xi _ ai) (fun _=>trivial) ?_;clear Z K aF;try refine zQ ?_
  repeat refine zT ap.o ?_
  refine xc fun K Z=>?_
  go_simp;refine(aU.o _ ai).mono ?_;rintro e w7⟨am,ns,T',rfl,r,a2,a4,aF⟩;have al:zh (·∈T) X w7:=(zh.xi (·∈T) ai).trans a4 fun x hx _=>hx
  refine Z.out _ _ al (fun _=>trivial) ?_;clear Z K;try refine zQ ?_
  repeat refine zT ap.o ?_
  have V:(zX (pad ns)).length=24:=by
   have:=r.len;rw[zph,Hn.o]at this;unfold pad;simp;have:=ah.o;omega
  have a5:∀k∈T,k<X.heap.size:=fun k hk=>aw.o.tab.lt k hk
  have ax:zD w7 X.heap.size 155 #[.int .i32 0,.int .i32 0,.int .i32 0,.int .i32 0,.int .i32 0,.int .i32 0,.int .i32 0,.int .i32 0,.int .i32 0,.int .i32 0,.int .i32 0,.int .i32 0,.int .i32 0,.int .i32 0,.int .i32 0,.int .i32 0,.int .i32 0,.int .i32 0,.int .i32 0,.int .i32 0,.int .i32 0,.int .i32 0,.int .i32 0,.int .i32 0]:=ag.b0.drew.zC a4 fun h=>zqq _ (a5 _ h)
  have bg:X.heap.size∉T':=fun h=>by
   rcases aF _ h with h1|h1
   ·exact zqq _ (a5 _ h1)
   ·have:=ag.size;have h2:W7.drew.heap.size=W7.heap.size:=rfl;omega
  refine xc fun K Z=>?_
  refine Xi 155 _ _ rfl X.heap.size 0 _ _ ax (zX (pad ns)) rfl rfl (by rw[V];decide) (by rw[V];exact yC) (XT _) ?_;intro W8 L;have ac:zh (·∈T) X W8:=al.trans L.zC fun x hx aE=>zd
  refine Z.out _ _ ac (fun _=>trivial) ?_;clear Z K;try refine zQ ?_
  repeat refine zT ap.o ?_
  refine xu ?_;have U:zD W8 X.heap.size 155 (zX (pad ns)).toArray:=by
   have:=L.zG;rw[V]at this;simpa using this
  have aM:qu W8 tb 2147483647 am T':=a2.same fun k hk=>L.zC.block k (a2.lt k hk) fun e=>bg (e▸hk)
  have ab:∀k∈T',k∈T\/X.heap.size<=k:=fun k hk=>(aF k hk).imp id fun h=>zpd ai.size h
  obtain⟨ak,Z⟩:∃ak,X.heap.size=ak:=⟨_,rfl⟩;rw[Z]at U ⊢;have bI:=zz Z;clear Z;clear L ag al ai a4 a2 aF V a5 ax bg;have O:=aw.o.Tq ac aM r.pre ab;have N:(args.map Vl.val).length=n:=by rw[zph];exact Hn.o
  have aa:yN am d.ar (pad ns):=by
   have:=r.Jv (by rw[N];exact ah.o);rw[N]at this;rw[au.o];exact this
  have an:Rw (pad ns):=Rw.pad (by rw[r.len,N];exact ah.o) fun k hk=>by
   have h1:=r.lt k hk;have h2:=r.le;rw[N]at h2;have:=HN.o;omega
  have af:=H6.o.zC ac bj.o;have ae:=O.rel p d aO.o;have aA:=zz (Gy ae (pad ns) an aa.zero HR.o);have k0:=af.cell 0;have aX:W8.rangeAt ak 0 (zX (pad ns)):=by
   intro j v hv;rw[zpx,U.cell];simpa using hv
  have aW:(prog.info? 155).map (·.size)=some (zX (pad ns)).length:=by rw[zph,an.len];exact yC
  have aB:=zz O;have az:=zz aa;have a7:=zz r;have aI:=zz ac;have a1:=zz ab;clear O N aa an af ae U r ac aM ab
  go_wp2_with (first
   |(refine xV 155 _ rfl ?_;refine yZ zj 155 _ rfl ak 0 rfl (zX (pad ns)) _ aX underlying155 rfl aW ?_)
   |(go_at_call 93;refine aA.o.mono ?_;rintro e w9⟨rfl,ad,Y⟩;have ao:=zz ad;have ay:=zz Y;clear ad Y))
  go_returns;have bn:X.heap.size<=W8.heap.size:=aI.o.size;have bu:w.heap.size<=X.heap.size:=aQ.o.size;have aH:=aB.o.GY aO.o az.o ay.o ao.o;rw[bp.o]at aH;refine⟨_,am,ns,f5,T',_,{ d with R:=XX d.R (pad ns)},rfl,a7.o,au.o,by rw[<-bt.o],aH,fun q a g I=>?_,fun aY a g I=>?_,fun k hk=>?_,(aQ.o.trans aI.o fun g I aE=>.inr (.inr (.inl I))).trans ay.o fun g I aE=>?_⟩
  ·rcases I with I |⟨_,_,I,_⟩
   ·exact aG.o q a g I
   ·right;omega
  ·rcases I with I |⟨_,_,I,_⟩
   ·exact aJ.o aY a g I
   ·omega
  ·rcases a1.o k hk with h|h
   ·exact .inl h
   ·right;omega
  ·rcases aC.o g I with h|h
   ·exact h
   ·omega
theorem Dz{zR:Nat}(h:qu w q zR vs T):vs.Nodup:=by
 obtain⟨I,A,r,D,h,_⟩:=h;exact h.nodup
theorem zec{us:List z6}{R:List (List Nat)}(h:∀r∈R,yN vs q r)(I:vs <+: us):rowsOf us q R=rowsOf vs q R:=zqU fun r L=>zm2 (h r L) I
theorem V8(vs:List z6)(h:Nat)(R:List (List Nat)):(rowsOf vs h R).length=R.length:=zph _
theorem _root_.List.zdv{α:Type}{P:List α->Prop}(l:List α)(nil:P [])(snoc:∀l x,P l->P (l++[x])):P l:=by
 have:∀n (l:List α),l.length=n->P l:=fun n=>by
  induction n with
  |zero=>intro l h;rw[List.length_eq_zero_iff.1 h];exact nil
  |succ n r=>
   intro l h;have q:l≠[]:=fun e=>by rw[e]at h;cases h
   rw[<-List.dropLast_concat_getLast q];exact snoc _ _ (r _ (by rw[List.length_dropLast];omega))
 exact this _ l rfl
theorem zhM(h:yd w wb G S N)(x:Fa)(hl:zY Vl.cells w x.A x.args)(aj:x.args≠[]->qU (fun g=>¬S g) x.A)(ai:∀v∈x.args,v.ok/\v.val.wf)(hp:x.p.size<=maxLen)(O:x.args.length<=24)(hN:N+x.args.length<=2147483647)(ae:∀a R,G x.p=some (a,R)->a=x.args.length/\R.length<=4194304):Calls prog 43 #[.pointer (some ⟨wb,0,none⟩),.agg x.cells.toArray] w (zmn wb G S N x w):=by
 obtain⟨tb,pb,vs,f,D,T,own,h,hG,al,hs⟩:=h;have U:x.args≠[]->qU (fun g=>¬Zh wb pb T D own g) x.A:=fun I g V L=>aj I g V (hs g L)
 have ak:Calls prog 43 #[.pointer (some ⟨wb,0,none⟩),.agg x.cells.toArray] w (DD wb tb pb vs D T own x.p x.args.length (x.args.map Vl.val) w):=by
  rcases hd:D x.p with _|d
  ·exact zir h x.p x.A x.cap x.args.length x.args rfl hl U ai O zd hp hd
  ·have:=ae d.ar (rowsOf vs d.ar d.R) (by rw[hG,hd];rfl);rw[V8]at this;exact zhQ h x.p x.A x.cap x.args.length x.args rfl hl U ai O zd hp d hd this.1 this.2
 refine ak.mono ?_;rintro e w'⟨b,ag,ns,f',T',af,d,rfl,I,ah,ad,Z,xT,ab,hT,hc⟩;have L:(x.args.map Vl.val).length=x.args.length:=zph _;have ac:(x.args.map Vl.val).map z6.vl=x.args:=by
  rw[List.map_map];exact(zqU fun v _=>GP v).trans (List.map_id _)
 have W:=I.Jv (by rw[L];exact O);have hv:=I.zfY (by rw[L];exact O);rw[L]at W hv;rw[ac]at hv;refine⟨b,rfl,⟨tb,pb,ag,f',X7 D x.p d,T',af,Z,fun q=>?_,?_,fun g V=>?_⟩,hc.mono fun g V _=>hs g V⟩
 ·unfold ZV X7
  by_cases hq:q=x.p
  ·rw[if_pos hq,if_pos hq,zpK,ah,ad]
   congr 1
   congr 1
   have X:∀r∈((D x.p).map (·.R)).getD [],yN ag x.args.length r:=fun r hr=>by
    have:=Z.rows x.p d (by unfold X7;rw[if_pos rfl]) r (by
     rw[ad];unfold XX;split
     ·exact hr
     ·exact zpu _ hr)
    rw[ah]at this;exact this
   rw[(zil (Dz Z.tab) O X W).1,hv]
   congr 1
   rw[hG x.p]
   rcases hd:D x.p with _|Y
   ·rfl
   ·rw[hd]at X;simp only[zpK,zpT]at X ⊢;have:=ae Y.ar (rowsOf vs Y.ar Y.R) (by rw[hG,hd];rfl);rw[this.1];exact(zec (fun r hr=>this.1▸h.rows x.p Y hd r hr) I.pre).symm
  ·rw[if_neg hq,if_neg hq,hG q]
   rcases hd:D q with _|Y
   ·rfl
   ·rw[zpK,zpK,zec (fun r hr=>h.rows q Y hd r hr) I.pre]
 ·have:=I.le;rw[L]at this;omega
 ·rcases V with rfl|rfl|V |⟨q,e,a,he,V⟩
  ·exact .inl (hs _ (.inl rfl))
  ·exact .inl (hs _ (.inr (.inl rfl)))
  ·rcases hT g V with X|X
   ·exact .inl (hs _ (.inr (.inr (.inl X))))
   ·exact .inr X
  ·by_cases aa:w.heap.size<=g
   ·exact .inr aa
   ·left
    rcases xT q a g V with X|X
    ·rcases Vd he with⟨rfl,rfl⟩ |⟨_,he⟩
     ·rcases hd:D x.p with _|Y
      ·exact(aa (ab hd a g V)).elim
      ·exact hs _ (.inr (.inr (.inr ⟨x.p,Y,a,hd,X⟩)))
     ·exact hs _ (.inr (.inr (.inr ⟨q,e,a,he,X⟩)))
    ·exact(aa X).elim
noncomputable def yL(l:List Fa):yR:=l.foldl (fun G x=>ZV G x.p x.args) fun _=>none
theorem DV(l:List Fa)(x:Fa):yL (l++[x])=ZV (yL l) x.p x.args:=by unfold yL;rw[zqi];rfl
theorem zdC(R:List (List Vl))(x:List Vl):(Z5 R x).length<=R.length+1:=by
 unfold Z5;split<;>simp
theorem Dw:∀(l:List Fa)(p:ByteArray)(a:Nat)(R:List (List Vl)),yL l p=some (a,R)->(∃x∈l,x.p=p/\x.args.length=a)/\R.length<=l.length:=fun l=>by
 induction l using List.zdv with
 |nil=>intro p a R h;cases h
 |snoc l x r=>
  intro p a R h;rw[DV]at h;unfold ZV at h;split at h
  ·rename_i e;injection h with h
   injection h with q I
   refine⟨⟨x,zp,e.symm,q⟩,?_⟩;rw[<-I,zo1,zpD];refine zpd (zdC _ _) (Nat.succ_le_succ ?_)
   rcases hq:yL l x.p with _ |⟨L,N⟩
   ·simp
   ·exact(r x.p L N hq).2
  ·obtain⟨⟨y,L,q⟩,I⟩:=r p a R h;exact⟨⟨y,by simp[L],q⟩,zb⟩
theorem zd7(h:yd w q G S N):Calls prog 51 #[.pointer (some ⟨q,0,none⟩)] w fun e r=>e=.returned (.bool true)/\r=w:=by
 obtain⟨I,r,O,f,D,T,own,h,-⟩:=h;have L:=h.zG.cell 1;have R:∀W,(binOp .neq 115 (.map (some r)) (.map none)).run prog W=.ok (.bool true) W:=fun W=>zo
 clear h;go_enter func51,ntmps51;go_wp2;go_returns;exact⟨rfl,rfl⟩
def YW(G:yR)(p:ByteArray):Nat:=(((G p).map (·.2)).getD []).length
theorem Dh{X:Nat}(h:yd w X G S N)(p:ByteArray)(hp:p.size<=maxLen):Calls prog 15 #[.pointer (some ⟨X,0,none⟩),.string p] w fun e q=>e=.returned (.int .i64 (YW G p:Int))/\Bl w q:=by
 have V:=zz (zd7 h);obtain⟨tb,Y,vs,f,D,T,own,h,L,-⟩:=h;have k1:=h.zG.cell 1;have q:=h.map.look qT underlying115 (z:=.agg #[.pointer none,.pointer none]) zo (qY hp) true;rw[h.XB p]at q
 rcases hd:D p with _|d
 ·rw[hd]at q;have O:=zz (show YW G p=0 by unfold YW;rw[L,hd];rfl)
  replace q:(Instr.lookup 115 (.map (some Y)) (.string p) true).run prog w=.ok (.tuple #[.agg #[.pointer none,.pointer none],.bool false]) w:=q
  clear h L hd;go_enter func15,ntmps15
  go_wp2_with (go_at_call 51;refine V.o.mono ?_;rintro e U⟨rfl,r⟩;obtain rfl:=r.symm)
  go_returns;exact⟨by rw[O.o];rfl,xo w _⟩
 ·rw[hd]at q;have O:=zz (show YW G p=d.R.length by unfold YW;rw[L,hd];exact V8 _ _ _)
  replace q:(Instr.lookup 115 (.map (some Y)) (.string p) true).run prog w=.ok (.tuple #[.agg #[.pointer (some ⟨d.rb,0,none⟩),.pointer (some ⟨d.bb,0,none⟩)],.bool true]) w:=q
  have I:=zz (fun W (Z:Bl w W)=>UD ((h.rel p d hd).below Z));clear h L hd;go_enter func15,ntmps15
  go_wp2_with (first
   |(go_at_call 51;refine V.o.mono ?_;rintro e U⟨rfl,r⟩;obtain rfl:=r.symm)
   |(go_at_call 52;refine(I.o _ (xo _ _)).mono ?_;rintro e U⟨rfl,rfl⟩))
  go_returns;exact⟨by rw[O.o];rfl,xo w _⟩
theorem yd.more{M:Nat}(h:yd w q G S N)(V:N<=M):yd w q G S M:=by
 obtain⟨r,O,I,f,D,T,own,h,R,U,L⟩:=h;exact⟨r,O,I,f,D,T,own,h,R,zd,L⟩
theorem yF.fresh{I r:Nat}(N:zD w I 117 #[.pointer (some ⟨r,0,none⟩),.map (some q)])(U:qu w r 2147483647 [] T)(L:xv prog 9 w q fun _=>none)(R:I∉T)(O:q∉T):
 yF w I r q [] (fun _=>none) (fun _=>none) T fun _ _ _=>False:=
 ⟨N,U,L,fun _=>rfl,fun _ _ h=>(by cases h),fun _ _ h=>(by cases h),fun _ _ h=>(by cases h),fun _ _ h=>(by cases h),fun _ _ h=>(by cases h),fun _ _ h=>(by cases h),fun _ _ _ _ h=>(by cases h),fun _ _ _ _ _ _ _ h=>(by cases h),fun _ _ _ _ h=>(by cases h),R,O⟩
def zfg(fs:List Fa)(w:World)(e:Ending)(w':World):Prop:=∃h,e=.returned (.tuple #[.pointer (some ⟨h,0,none⟩),.int .i64 0])/\yd w' h (yL fs) (fun g=>w.heap.size<=g) (24*fs.length)/\Bl w w'
theorem zcQ(w:World)(F:Option Addr)(Z V:Nat)(fs:List Fa)(hF:zY Fa.cells w F fs)(hn:fs.length=V)(hl:∀x∈fs,x.zO w)(hs:∀x∈fs,x.p.size<=maxLen)(ab:∀x∈fs,x.ok)(hc:Cons (fs.map qX))(hb:V<=1048576)(af:∀g∈zw F,g<w.heap.size)(hv:∀x∈fs,∀v∈x.args,v.ok/\v.val.wf):Calls prog 13 #[.slice F V Z] w (zfg fs w):=by
 have aw:=@run_makeMap prog;have HJ:=zz (zhD w F Z V fs hF hn hl hs ab hc hb af);have al:=zz (fun W=>zkU 2147483647 W (zoZ _));have HF:=zz hF;have HN:=zz hn;have HL:=zz hl;have HS:=zz hs;have HO:=zz ab;have HC:=zz hc;have Hb:=zz hb;have HV:=zz hv;have HA:=zz (fun x (hx:x∈fs) (X:x.args≠[])=>zY.yb (f:=Vl.cells) (fun v e=>(nomatch e)) (hl x hx).rd X);clear hF hn hl hs ab hc af hv hb;go_enter func13,ntmps13;go_upto_region 7 with(first
  |(go_at_call 41;refine HJ.o.mono ?_;rintro e w1⟨rfl,ak⟩;have ai:=zz ak;clear ak)
  |(go_at_call 42;refine(al.o w1).mono ?_;rintro e L⟨tb,T,rfl,Y,hT,ac⟩;have HT:=zz Y;have aj:=zz hT;have ad:=zz (zu ai.o ac);have ah:=zz ac;clear ac Y hT))
 obtain⟨W4,q⟩:∃W4,L.alloc (.map #[] 0)=W4:=⟨_,rfl⟩;have ag:W4.heap.size=L.heap.size+1:=by rw[<-q];simp
 have U:Bl L W4:=by rw[<-q];exact xo L _
 have aa:xv prog 9 W4 L.heap.size fun _=>none:=by rw[<-q];exact xv.new L 0
 obtain⟨W5,ae,I⟩:=xj W4 117 #[.pointer (some ⟨tb,0,none⟩),.map (some L.heap.size)];have hk:zD W5 (L.heap.size+1) 117 #[.pointer (some ⟨tb,0,none⟩),.map (some L.heap.size)]:=ag▸I.b0;have HB:Kz (Bl w W5):=zu ad.o (zu U I.below);have O:=zz (show yd W5 (L.heap.size+1) (yL (fs.take 0)) (fun g=>w.heap.size<=g) (24*0)from by
  have am:Bl L W5:=zu U I.below;refine⟨tb,L.heap.size,[],fun _=>none,fun _=>none,T,fun _ _ _=>False,yF.fresh hk (HT.o.same fun g N=>am.block g (HT.o.lt g N)) (aa.below I.below) (fun h=>?_) fun h=>?_,fun _=>rfl,zoZ _,fun g N=>?_⟩
  ·have:=HT.o.lt _ h;omega
  ·have:=HT.o.lt _ h;omega
  ·have h1:=ai.o.size;have h3:=ad.o.size
   rcases N with rfl|rfl|N |⟨p,d,a,hd,_⟩
   ·omega
   ·omega
   ·exact zpd h1 (aj.o g N)
   ·cases hd)
 have an:=zz q;have aq:=zz ae;clear q ag U ae I hk aa ad ah HT aj;generalize q:L.heap.size+1=wb at O;have ap:=zz q;clear q;go_wp2;rw[an.o,aq.o,ap.o]
 go_loopg[9,10,11,30] V (fun gk s9 U aa q I=>∃i:Nat,i<=V/\gk=V-i/\q=.int .i64 (i:Int)/\yd I wb (yL (fs.take i)) (fun g=>w.heap.size<=g) (24*i)/\Bl w I)
 case atStart=>exact⟨0,zo5 _,rfl,rfl,O.o,HB.o⟩
 case round=>
  obtain⟨i,hi,rfl,rfl,hW,q⟩:=hrel;have HB:=zz q;have O:=zz hW;clear q hW
  by_cases ag:i<V
  ·have q:i<fs.length:=by rw[HN.o];exact ag
   obtain⟨b,o,rfl,au,hr⟩:=(HF.o.below HB.o).at Fa.xF i q;have U:=zz (show yL (fs.take (i+1))=ZV (yL (fs.take i)) fs[i].p fs[i].args by
    rw[<-DV,List.take_add_one,zo6 q];rfl)
   have I:=zz (fun W (hW:Bl wr W)=>zhM (O.o.below hW) fs[i] (((HL.o _ (zo3 q)).rd.below HB.o).below hW) (fun X g N aa=>zqq _ (zo0 (HA.o _ (zo3 q) X g N) aa)) (HV.o _ (zo3 q)) (HS.o _ (zo3 q)) (HO.o _ (zo3 q)).2.1
    (by have:=(HO.o _ (zo3 q)).2.1;have:=Hb.o;omega) (fun a R h=>by
     obtain⟨⟨y,X,h1,h2⟩,h3⟩:=Dw _ _ _ _ h;refine⟨?_,by rw[zpv]at h3;have:=Hb.o;omega⟩;rw[<-h2];exact HC.o _ (List.mem_map_of_mem (zqr X)) _ (List.mem_map_of_mem (zo3 q)) h1))
   have X:=zz (HO.o _ (zo3 q)).2.1;generalize fs[i]=x at hr U I X;obtain⟨p,A2,ar,r⟩:=x;simp only[Fa.cells]at hr I X;have aa:∃n,r.length=n:=⟨_,rfl⟩;obtain⟨n,ae⟩:=aa;have aa:=zz ae;rw[ae]at hr I X;clear ae
   replace hr:wr.rangeAt b (o+i*2) _:=hr
   obtain⟨d0,d1⟩:=two hr;clear hr;have av:=Hb.o
   go_wp2_with (go_at_call 43;refine(I.o _ (xo _ _)).mono ?_;rintro e w2⟨bb,rfl,ae,ao⟩)
   go_roundg (V-(i+1))
   case measure=>omega
   case rel=>
    refine⟨i+1,ag,rfl,ze,?_,?_⟩
    ·rw[U.o];have am:=HB.o.size;refine((ae.mono fun g N=>?_).more ?_)
     ·rcases N with N|N
      ·exact N
      ·refine zpd am (zpd ?_ N);simp
     ·have:=X.o;rw[aa.o];omega
    ·exact ao.qq (zu HB.o (xo _ _)) (zoZ _) fun _ hx=>hx
  ·obtain rfl:i=V:=zd;have q:=zz (show yd wr wb (yL fs) (fun g=>w.heap.size<=g) (24*fs.length) by
    have:=O.o;rw[zpm (zqC HN.o)]at this;rw[HN.o];exact this)
   go_wp2;go_returns;exact⟨wb,rfl,q.o,HB.o⟩
end
