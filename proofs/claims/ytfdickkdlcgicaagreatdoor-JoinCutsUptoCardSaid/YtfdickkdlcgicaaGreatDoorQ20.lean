/-
  Books: a row under a mask. A map by what it says: an entry t
-/
import Derived.Test.YtfdickkdlcgicaaGreatDoorQ19
set_option maxRecDepth 100000
set_option maxHeartbeats 8000000
set_option linter.all false
namespace Go.Proofs.YtfdickkdlcgicaaGreatDoor.C
open Go.Proofs.Tryz Go Go.RowKit Go.Maps Go.WideMaps
variable {A:Option Addr}{G:Value->List (List Value)}{I N bb cap g m n q rb size:Nat}{K:Act->World->Prop}{L w w':World}{P:Program}{Q:Exit->Act->World->Prop}{R:List (List Nat)}{S S':Nat->Prop}{a:Act}{e st t:TypeId}{es:List MapEntry}{f:Value->Option Value}{h v x:Value}{l:Lit}{o:Oper}{r:List Nat}{α:Type}
section
abbrev JV(n:Nat):List Value:=[.int .i32 (n:Int)]
theorem zbX(r:List Nat):r.flatMap JV=zX r:=by
 induction r with
 |nil=>rfl
 |cons n r h=>rw[zpZ,h];rfl
theorem zf4:qB prog 252 153 1 4:=qB.of (z:=.int .i32 0) underlying252 zo rfl zr
theorem zjf(m:Nat)(r:List Nat)(i:Nat)(h:i<r.length):ql m (r.take (i+1))=ql m (r.take i)++[if m.testBit i then r[i]else 0]:=by
 unfold ql;rw[zpC h,List.mapIdx_append];have:(r.take i).length=i:=by rw[zp3];omega
 simp[this]
theorem zhD(h:Array Value)(w:World)(q:Nat)(I:Array Value)(O:h.getD 4 undef=.pointer (some ⟨q,0,none⟩))(R:w.heap[q]? = some (.cells I 155 (0,0)))(hi:(prog.info? 155).map (·.size)=some I.size):
 (results Tryz.f324 h).run prog w=.ok (.agg I) w:=by
 have L:h[4]?.getD undef=.pointer (some ⟨q,0,none⟩):=by simpa using O
 have N:=run_loadVar_row (P:=prog) w q 155 155 I (0,0) _ R underlying155 rfl hi;simp[results,results324,L,asAddr,N]
theorem TL(w:World)(xb:Nat)(r:List Nat)(hr:Rw r)(hx:w.rangeAt xb 0 (zX r))(ao:xb<w.heap.size)(m:Nat)(hm:m<2 ^ 24):
 Calls prog 324 #[.int .u32 (m:Int),.pointer (some ⟨xb,0,none⟩)] w fun e q=>e=.returned (.agg (zX (ql m r)).toArray)/\Bl w q:=by
 have Hr:=zz hr.len;have aq:=zz (hr.mask m);have Hx:=zz (fun W (O:Bl w W)=>yB hx O ao);have Hm:=zz hm;have q:(zX (ql m r)).length=24:=by simp[VG,hr.len]
 have ae:=zz (show(prog.info? 155).map (·.size)=some (zX (ql m r)).length by rw[q];exact yJ);have Z:=zz q;obtain⟨W0,I,L⟩:=xi w 155 (zX (List.replicate 24 0)).toArray;have HX:=zz L;clear hr hx hm q L;go_enter func324,ntmps324;go_upto_region 1 with fail
 try rw[show(w.alloc (.cells #[.int .i32 0,.int .i32 0,.int .i32 0,.int .i32 0,.int .i32 0,.int .i32 0,.int .i32 0,.int .i32 0,.int .i32 0,.int .i32 0,.int .i32 0,.int .i32 0,.int .i32 0,.int .i32 0,.int .i32 0,.int .i32 0,.int .i32 0,.int .i32 0,.int .i32 0,.int .i32 0,.int .i32 0,.int .i32 0,.int .i32 0,.int .i32 0] 155))=W0 from I]
 clear I;go_wp2
 go_loopg[5,9] 24 (fun gk L I q=>∃(i:Nat) (A:Option Addr) (N:Nat) (ys:List Nat),i<=24/\gk=24-i/\I=.int .i64 (i:Int)/\L=.slice A i N/\ys.length=i/\ys=ql m (r.take i)/\Own JV 153 1 q A N ys/\(∀g∈zw A,W0.heap.size<=g)/\Bl W0 q)
 case atStart=>exact⟨0,none,0,[],zpD _,rfl,rfl,rfl,rfl,rfl,Own.qz _,by simp[zw],Below.refl _ _⟩
 case round=>
  obtain⟨i,A,N,ys,hi,rfl,rfl,rfl,I,q,R,hg,U⟩:=hrel;have L:=zz I;have ag:=zz q;have Ho:=zz R;have Hg:=zz hg;have HB:=zz U;clear I q R hg U
  by_cases ah:i<24
  ·have al:i<r.length:=by rw[Hr.o];exact ah
   have I:=zz (zjf m r i al);have H0:=zz (show ∀W,Bl wr W->W.cell? ⟨xb,i,none⟩=some (.int .i32 (r[i]:Int))from fun W O=>by
    have:=Hx.o W (zl HX.o.below (zl HB.o O)) i (.int .i32 (r[i]:Int)) (by simp[al])
    rwa [zp6]at this)
   generalize r[i]=u at I H0;have an:decide ((i:Int)<0)=false:=zp;have am:decide ((24:Int)<=(i:Int))=false:=zb;have ac:=GB i m ah Hm.o;have ad:=zz (show m.testBit i=false↔(((m &&& 2 ^ i:Nat):Int)==0)=true from by
    rw[<-and_zero];constructor
    ·intro h;rw[h];rfl
    ·intro h;have:=eq_of_beq h;omega)
   go_upto_region 4 with fail
   refine xX [0,0,0,0,0,0] (fun W=>Bl wr W) ?_
   repeat refine zS H0.o ?_
   refine xt ?_;have O:Bl wr wr.drew:=(Below.refl _ _).drew;have q:Own JV 153 1 wr.drew A N ys:=Ho.o.same fun _ _=>rfl
   generalize wr.drew=w1 at O q ⊢;have ab:=zz (zl HB.o O);have ak:=zz q;clear O q;have ap:i<=24:=hi
   by_cases q:m.testBit i=true
   ·rw[if_pos q]at I;have hz:(((m &&& 2 ^ i:Nat):Int)==0)=false:=by
     cases hq:(((m &&& 2 ^ i:Nat):Int)==0)with
     |false=>rfl
     |true=>rw[ad.o.2 hq]at q;cases q
    clear q
    go_wp2_with (at_builtin;refine ZP zf4 (f:=JV) (xs:=ys) (ak.o.alloc _) L.o u ?_)
    intro g R w5 O Y aa;have X:zh (·∈zw A) w1 w5:=((zh.refl _ w1).alloc _).trans Y (fun x hx _=>hx);have V:Bl W0 w5:=X.qt ab.o (zpx _) Hg.o;have U:W0.heap.size<=g:=by
     rcases aa with h|h
     ·exact Hg.o g h
     ·have h4:=ab.o.size;try simp at h
      omega
    have af:=zz O;have aj:=zz V;have ai:=zz U;clear O Y aa X V U hz ac an am;go_wp2
    go_roundg (24-(i+1))
    case measure=>omega
    case rel=>exact⟨i+1,some ⟨g,0,none⟩,R,ys++[u],zd,rfl,ze,rfl,by simp[L.o],by rw[I.o,ag.o],af.o,xY ai.o,aj.o⟩
   ·rw[if_neg q]at I;have hz:(((m &&& 2 ^ i:Nat):Int)==0)=true:=ad.o.1 (by simpa using q);clear q
    go_wp2_with (at_builtin;refine ZP zf4 (f:=JV) (xs:=ys) (ak.o.alloc _) L.o 0 ?_)
    intro g R w5 O Y aa;have X:zh (·∈zw A) w1 w5:=((zh.refl _ w1).alloc _).trans Y (fun x hx _=>hx);have V:Bl W0 w5:=X.qt ab.o (zpx _) Hg.o;have U:W0.heap.size<=g:=by
     rcases aa with h|h
     ·exact Hg.o g h
     ·have h4:=ab.o.size;try simp at h
      omega
    have af:=zz O;have aj:=zz V;have ai:=zz U;clear O Y aa X V U hz ac an am;go_wp2
    go_roundg (24-(i+1))
    case measure=>omega
    case rel=>exact⟨i+1,some ⟨g,0,none⟩,R,ys++[0],zd,rfl,ze,rfl,by simp[L.o],by rw[I.o,ag.o],af.o,xY ai.o,aj.o⟩
  ·obtain rfl:i=24:=zd;have q:ys=ql m r:=by rw[ag.o,zpT (by rw[Hr.o];omega)]
   obtain⟨g,rfl⟩:∃g,A=some ⟨g,0,none⟩:=by
    rcases Ho.o.form with⟨_,_,rfl⟩ |⟨g,hg,_⟩
    ·have:=L.o;simp at this
    ·exact⟨g,hg⟩
   have V:24<=N:=by
    rcases Ho.o.form with⟨h,_⟩ |⟨I,_,_,h,_⟩
    ·cases h
    ·rw[L.o]at h;exact h
   have O:wr.rangeAt g 0 (zX (ql m r)):=by
    obtain⟨b,o,R,_,I⟩:=Ho.o.xI (by rw[zbX,q];intro e;have:=congrArg List.length e;simp[Z.o]at this)
    cases R
    rw[zbX,q]at I;exact I
   have U:=zz (HX.o.b0.below HB.o);have X:∀W,(Instr.arrayAt 155 (.slice (some ⟨g,0,none⟩) 24 N)).run prog W=.ok (.pointer (some ⟨g,0,none⟩)) W:=fun W=>by
    simp[Instr.arrayAt,run_underlying underlying155,Result.andThen]
   clear ah hi q
   go_wp2_with (first
    |(refine xW 155 _ rfl ?_;refine y7 zj 155 _ rfl g 0 rfl (zX (ql m r)) _ O underlying155 rfl ae.o ?_)
    |(refine xy 155 _ _ rfl ?_;refine XG zj 155 _ _ rfl w.heap.size 0 _ _ U.o (zX (ql m r)) rfl rfl (by simp[Z.o]) ae.o (X7 _) ?_;intro Y q;have I:=zz q;clear q))
   have R:zD Y w.heap.size 155 (zX (ql m r)).toArray:=by
    have:=I.o.zH;rw[Z.o]at this;simpa using this
   refine bodyPost_ret (v:=.agg (zX (ql m r)).toArray) (zhD _ Y w.heap.size _ rfl R (by simpa using ae.o)) rfl ?_;exact⟨rfl,I.o.below (zl HX.o.below HB.o) (zpx _) (zpx _)⟩
end
section
open Go Go.RowKit Go.Maps Go.ChangeMaps
section
variable {P:Program}{k t e:TypeId}{w:World}{b:Nat}{f:Value->Option Value}
def VM(P:Program)(k:TypeId)(w:World)(b:Nat)(f:Value->Option Value)(x:Value)(q:Nat):Prop:=
 ∃I h,w.heap[b]? = some (.map I h)/\Yu P k I.toList f/\MapKept.Stamped I h/\∃(j:Nat) (L:MapEntry),I[j]? = some L/\L.key=x/\L.born=q
theorem VM.map(h:VM P k w b f x I):xv P k w b f:=by
 obtain⟨O,q,N,L,R,_⟩:=h;exact⟨O,q,N,L,R⟩
theorem VM.same(h:VM P k w b f x q)(R:w'.heap[b]? = w.heap[b]?):VM P k w' b f x q:=by
 obtain⟨O,I,N,L⟩:=h;exact⟨O,I,R.trans N,L⟩
theorem Yu.GV(h:Yu P k es f)(R:keyOf P k x=some l)(I:∀e∈es,e.key≠x)(c:Nat):Yu P k (es++[⟨x,v,c⟩]) (yp f x v):=by
 refine⟨fun e q=>?_,?_,fun e q=>?_,fun y u L=>?_⟩
 ·rcases zpE.1 q with q|q
  ·exact h.keys e q
  ·obtain rfl:=zpy.1 q;exact⟨l,R⟩
 ·exact List.pairwise_append.2 ⟨h.apart,List.pairwise_singleton _ _,fun a N c O=>by obtain rfl:=zpy.1 O;exact I a N⟩
 ·rcases zpE.1 q with q|q
  ·rw[XR (I e q)];exact h.has e q
  ·obtain rfl:=zpy.1 q;exact Yt _ _ _
 ·by_cases e1:y=x
  ·exact⟨_,zpR _ (zpy.2 rfl),e1.symm⟩
  ·rw[XR e1]at L;obtain⟨e,q,N⟩:=h.only y u L;exact⟨e,zp0 _ q,N⟩
theorem Yu.qI(V:Yu P k es f){j:Nat}{L:MapEntry}(hj:es[j]? = some L)(v:Value):Yu P k (es.set j { L with val:=v }) (yp f L.key v):=by
 have q:=(zp9.1 hj).1;obtain⟨i0,I⟩:=zp9.1 hj;have N:∀a∈es.set j { L with val:=v },(a.key=L.key/\a.val=v)\/(a∈es/\a.key≠L.key):=fun a ha=>by
  obtain⟨i,Z,rfl⟩:=zpS.1 ha;rw[zrt];split
  ·exact .inl ⟨rfl,rfl⟩
  ·rename_i U;rw[zqe]at Z;refine .inr ⟨zpB _,fun O=>?_⟩
   rcases Nat.lt_or_gt_of_ne U with W|W
   ·exact zqf.1 V.apart j i q Z W (by rw[I,O])
   ·exact zqf.1 V.apart i j Z q W (by rw[I,O])
 obtain⟨l,hl⟩:=V.keys L (zqE hj);refine⟨fun e O=>?_,?_,fun e O=>?_,fun y u hy=>?_⟩
 ·rcases N e O with⟨h,_⟩ |⟨h,_⟩
  ·exact⟨l,by rw[h];exact hl⟩
  ·exact V.keys e h
 ·rw[zqf];intro a c ha W R;rw[zrt,zrt];rw[zqe]at ha W;have hp:=zqf.1 V.apart;split<;>split
  ·omega
  ·rename_i Y X;subst Y;have:=hp j c q W R;rw[I]at this;exact this
  ·rename_i Y X;subst X;have:=hp a j ha q R;rw[I]at this;exact this
  ·exact hp a c ha W R
 ·rcases N e O with⟨Y,X⟩ |⟨Y,X⟩
  ·rw[Y,Yt,X]
  ·rw[XR X];exact V.has e Y
 ·by_cases e1:y=L.key
  ·exact⟨{ L with val:=v },zpS.2 ⟨j,by simpa using q,zp⟩,e1.symm⟩
  ·rw[XR e1]at hy;obtain⟨e,O,R⟩:=V.only y u hy;obtain⟨i,Z,rfl⟩:=zpS.1 O;have U:j≠i:=by rintro rfl;exact e1 (by rw[<-R,I])
   exact⟨es[i],zpS.2 ⟨i,by simpa using Z,by rw[zre U]⟩,R⟩
theorem zbQ{f:Value->Option Value}(h:f x=some v):yp f x v=f:=by
 funext y
 by_cases q:y=x
 ·rw[q,Yt,h]
 ·rw[XR q]
theorem xv.entry(h:xv P k w b f)(K:Keyed P k)(ht:P.underlying t=some (.map k e)){z:Value}(hz:∀W,(zeroValue e).run P W=.ok z W)(X:keyOf P k x=some l):
 ∃(I:Nat) (q:World),(Instr.mapEntry t (.map (some b)) x).run P w=.ok (.tuple #[(f x).getD z,goInt I]) q/\VM P k q b (yp f x ((f x).getD z)) x I/\w.mapTurned q b:=by
 obtain⟨N,q,L,hm,V⟩:=h
 rcases hm.find K w X with⟨h1,U,h3⟩ |⟨j,Y,h1,hj,hk,U⟩
 ·refine⟨q,_,(by simp[Instr.mapEntry,run_underlying ht,MapKept.run_getObj_map L,K.check w false X,h1,hz,MapKept.run_setObj_map _ L,Result.andThen,U];rfl),⟨N.push ⟨x,z,q⟩,q+1,heap_setBlock_same L _,?_,MapKept.stamped_push V h3,N.size,⟨x,z,q⟩,zp,rfl,rfl⟩,⟨N,q,_,_,L,rfl⟩⟩;rw[Array.toList_push,U];exact hm.GV X h3 q
 ·have O:N[j]? = some Y:=by simpa using hj
  have R:(N.modify j fun e=>{ e with key:=x })=N:=by
   apply Array.ext_getElem?;intro i;rw[Array.getElem?_modify];split
   ·rename_i Z;subst Z;rw[O];simp[<-hk]
   ·rfl
  refine⟨Y.born,_,(by simp[Instr.mapEntry,run_underlying ht,MapKept.run_getObj_map L,K.check w false X,h1,MapKept.run_setObj_map _ L,Result.andThen,O,hk,K.stays w X,U,R];rfl),⟨N,q,heap_setBlock_same L _,?_,V,j,Y,O,hk,rfl⟩,⟨N,q,_,_,L,rfl⟩⟩;rw[U,zqr,zbQ U];exact hm
theorem VM.store(h:VM P k w b f x q)(v:Value):∃I,(Instr.entryStore t (.map (some b)) (goInt q) v).run P w=.ok () I/\xv P k I b (yp f x v)/\w.mapTurned I b:=by
 obtain⟨N,I,Y,hm,W,j,O,U,rfl,rfl⟩:=h;have L:=(zpN.1 U).1;have X:N.toList[j]? = some O:=by simpa using U
 have R:N.findIdx? (fun e=>(e.born:Int)==(O.born:Int))=some j:=by
  rw[Array.findIdx?_eq_some_iff_getElem];refine⟨L,?_,fun i hi=>?_⟩
  ·have:N[j]=O:=by rw[zqD L]at U;injection U
   rw[this];simp
  ·have aa:=(MapKept.stamped_iff N I).1 W |>.2.1
   have Z:N[j]=O:=by rw[zqD L]at U;injection U
   have h1:i<N.size:=Nat.lt_trans hi L;intro V;have V:(N[i].born:Int)=(O.born:Int):=by simpa using V
   have V:N[i].born=O.born:=Int.ofNat.inj V;exact zqf.1 aa i j (by simpa using h1) (by simpa using L) hi (by simp[V,Z])
 refine⟨_,(by simp[Instr.entryStore,MapKept.run_getObj_map Y,R,asInt,asIntOf,goInt,MapKept.run_setObj_map _ Y,Result.andThen];rfl),⟨N.modify j fun e=>{ e with val:=v },I,heap_setBlock_same Y _,?_,MapKept.stamped_modify W j _ (fun _ _=>rfl) (fun _ _ _=>rfl)⟩,⟨N,I,_,_,Y,rfl⟩⟩;have Z:(N.modify j fun e=>{ e with val:=v }).toList=N.toList.set j { O with val:=v }:=by
  rw[Array.toList_modify];apply List.ext_getElem?;intro i;rw[List.getElem?_modify,List.getElem?_set]
  by_cases V:j=i
  ·subst V;rw[X];simp[L]
  ·simp[V]
 rw[Z];exact hm.qI X v
theorem zoj{w:World}(h:Xo P k st size w b f G)(L:xv P k w' b f)(N:w.mapTurned w' b):Xo P k st size w' b f G:=
 ⟨L,h.none_,fun x v q=>⟨Jr (h.some_ x v q).1 fun g I=>N.grown.block g (World.ownsRow.lt (h.some_ x v q).1 g I).2 (by
  rintro e;obtain rfl:=zqB e;exact De h.map (h.some_ x v q).1 I),(h.some_ x v q).2⟩,h.apart⟩
theorem Xo.entry{el:TypeId}(h:Xo P k el size w b f G)(K:Keyed P k)(ht:P.underlying t=some (.map k st))(hz:∀W,(zeroValue st).run P W=.ok (.slice none 0 0) W)(hx:keyOf P k x=some l):
 ∃(N:Nat) (U:World) (A:Option Addr) (R:Nat) (q:Value->Option Value),(Instr.mapEntry t (.map (some b)) x).run P w=.ok (.tuple #[.slice A (G x).length R,goInt N]) U/\q x=some (.slice A (G x).length R)/\Xo P k el size U b q G/\VM P k U b q x N/\(∀g,qh b q g->qh b f g)/\zh (qh b f) w U:=by
 obtain⟨N,U,hr,Y,hm⟩:=h.map.entry K ht hz hx;obtain⟨A,R,L,xV⟩:=h.V4 x;rw[L]at hr Y;have hC:zh (qh b f) w U:=(zh.refl _ w).yu hm fun _=>.inl rfl
 rcases hf:f x with _|v
 ·rw[hf,Option.getD_none]at L;injection L with e1 e2 e3
  subst e1 e3;have O:∀y v,yp f x (.slice none (G x).length 0) y=some v->y≠x->f y=some v:=fun y v q I=>by rwa [XR I]at q
  refine⟨N,U,none,0,_,hr,Yt _ _ _,⟨Y.map,fun y q=>?_,fun y v q=>?_,fun y y' u v g q Z V hv=>?_⟩,Y,?_,hC⟩
  ·by_cases I:y=x
   ·subst I;rw[Yt]at q;cases q
   ·rw[XR I]at q;exact h.none_ y q
  ·by_cases I:y=x
   ·subst I;rw[Yt]at q;injection q with q
    subst q;refine⟨Jr xV (fun g X=>by cases X),none,0,rfl⟩
   ·have q:=O y v q I;have hs:=h.some_ y v q;refine⟨Jr hs.1 fun g X=>hm.grown.block g (World.ownsRow.lt hs.1 g X).2 (by
     rintro e;obtain rfl:=zqB e;exact De h.map hs.1 X),hs.2⟩
  ·have nx:∀y u,yp f x (.slice none (G x).length 0) y=some u->u.ownBlock=some g->y≠x:=fun y u q V I=>by
    subst I;rw[Yt]at q;injection q with q
    subst q
    cases V
   exact h.apart y y' u v g (O y u q (nx y u q V)) (O y' v Z (nx y' v Z hv)) V hv
  ·rintro g (rfl |⟨y,u,q,V⟩)
   ·exact .inl rfl
   ·refine .inr ⟨y,u,O y u q fun I=>?_,V⟩;subst I;rw[Yt]at q;injection q with q
    subst q
    cases V
 ·rw[hf,zqr]at L;subst L;have e:=zbQ hf;rw[e]at Y;exact⟨N,U,A,R,f,hr,hf,zoj h Y.map hm,Y,fun _ X=>X,hC⟩
theorem zc4(m x:Operand)(q:o.op=.mapEntry t m x)(I:a.eval m=.map (some b))(O:a.eval x=h)(L:(Instr.mapEntry t (.map (some b)) h).run P w=.ok v w')(N:K (a.put o.dst v) w'):o.wp P a w K Q:=by
 unfold Oper.wp;simp[execOp,q,I,O,L,Result.andThen];exact N
theorem zcn(m s x:Operand)(h:o.op=.entryStore t m s x){q:Value}(I:a.eval m=.map (some b))(O:a.eval s=q)(R:a.eval x=v)(L:(Instr.entryStore t (.map (some b)) q v).run P w=.ok () w')(N:K (a.put o.dst undef) w'):o.wp P a w K Q:=by
 unfold Oper.wp;simp[execOp,h,I,O,R,L,Result.andThen];exact N
theorem ze1(s y:Operand)(q:o.op=.call { callee:=.builtin .append,args:=#[s,y],argTypes:=#[t,t]}){u:Value}(N:a.eval s=v)(hy:a.eval y=u)(I:(Builtin.append_ #[t,t] o.type #[v,u]).run P w=.ok h w')(L:K (a.put o.dst h) w'):o.wp P a w K Q:=by
 unfold Oper.wp execOp;simp only[q,resolve,invoke,builtin,Sem.run_bind,Sem.run_pure,Result.andThen_ok,zqJ,zqb,zq3,N,hy,I];exact L
theorem Xo.kind{L:TypeId}(h:Xo P k L size w b f G)(U:qh b f g):g=b\/∃q,w.heap[g]? = some (.cells q L (0,0)):=by
 rcases U with rfl |⟨x,v,N,I⟩
 ·exact .inl rfl
 ·rcases(h.some_ x v N).1.2 with⟨rfl,_⟩ |⟨V,R,q,rfl,_,O,_⟩
  ·cases I
  ·simp only[Value.ownBlock,zqn]at I;subst I;exact .inr ⟨q,O⟩
end
end
section
section
variable {P:Program}{ops:Array Oper}{rest:List Oper}{o:Oper}{a:Act}{w:World}{Q:Exit->Act->World->Prop}{n:Nat}{F:Fence}
theorem Gh(q:TypeId)(x y:Operand)(_:o.op=.store q x y)(h:wpListIn F n P ops Q (o::rest) a w):wpListIn F n P ops Q (o::rest) a w:=h
theorem zdS(q:TypeId)(x:Operand)(_:o.op=.load q x)(h:wpListIn F n P ops Q (o::rest) a w):wpListIn F n P ops Q (o::rest) a w:=h
theorem T8(hF:{ Fence.wide with round:=F.round }=F)(hw:Region.wanted o (yielded ops a.tmps)=true)(q:∀c,o.op≠.defer c)(h:∀K:Act->World->Prop,(∀a w,wpListIn F n P ops Q rest a w->K a w)->o.wp P a w K Q):wpListIn F n P ops Q (o::rest) a w:=
 wpListIn_step fun K I=>by
  rw[if_pos hw];have:=zfc (ro:=F.round) (n:=n) q (h K I);rw[hF]at this;exact this
theorem zda(hF:{ Fence.wide with round:=F.round }=F)(hw:Region.wanted o (yielded ops a.tmps)=true)(I:TypeId)(x:Operand)(N:o.op=.load I x)(b L:Nat)(W:a.eval x=.pointer (some ⟨b,L,none⟩))(q:List Value)(d:TypeDesc)(V:w.rangeAt b L q)(U:P.underlying I=some d)(O:d.isRow=true)(hi:(P.info? I).map (·.size)=some q.length)(h:wpListIn F n P ops Q rest (a.put o.dst (.agg q.toArray)) w):wpListIn F n P ops Q (o::rest) a w:=
 T8 hF hw (fun c e=>by rw[N]at e;cases e) fun _ R=>wp_load_mid I x N b L W q d V U O hi (R _ _ h)
theorem zig(hF:{ Fence.wide with round:=F.round }=F)(hw:Region.wanted o (yielded ops a.tmps)=true)(I:TypeId)(x y:Operand)(L:o.op=.store I x y)(g a0:Nat)(t:TypeId)(q:Array Value)(O:zD w g t q)(vs:List Value)(X:a.eval x=.pointer (some ⟨g,a0,none⟩))(hy:a.eval y=.agg vs.toArray)(V:a0+vs.length<=q.size)(hi:(P.info? I).map (·.size)=some vs.length)(U:∀v∈vs,v.oneCell'=true)(h:∀W,XX w g t (q.toList.take a0++vs++q.toList.drop (a0+vs.length)).toArray W->wpListIn F n P ops Q rest (a.put o.dst undef) W):wpListIn F n P ops Q (o::rest) a w:=
 T8 hF hw (fun c e=>by rw[L]at e;cases e) fun _ R=>Xu I x y L g a0 t q O vs X hy V hi U fun W N=>R _ _ (h W N)
theorem za4(hF:{ Fence.wide with round:=F.round }=F){q:World}(hw:Region.wanted o (yielded ops a.tmps)=true)(I:TypeId)(x y:Operand)(Y:o.op=.store I x y)(N:Array Value)(L:List Value)(Z:a.eval x=.pointer (some ⟨q.heap.size,0,none⟩))(hy:a.eval y=.agg L.toArray)(X:N.size=L.length)(hi:(P.info? I).map (·.size)=some L.length)(V:∀v∈L,v.oneCell'=true)(h:∀W,G2 q I L.toArray W->wpListIn F n P ops Q rest (a.put o.dst undef) W):wpListIn F n P ops Q (o::rest) a (q.alloc (.cells N I)):=by
 have U:zD (q.alloc (.cells N I)) q.heap.size I N:=zD.new q _ _;refine zig hF hw I x y Y q.heap.size 0 I N U L Z hy zd hi V fun W O=>h W ?_
 have R:=O.zH;have e:N.toList.drop (0+L.length)=[]:=List.drop_eq_nil_of_le (by simp[X]);rw[e,zpY,zpI,zp7]at R;exact⟨O.below (xq q _) (zpx _) (zpx _),by rw[O.size];simp,R⟩
theorem zlP(w:World)(N I:Array Value)(t:TypeId):(w.alloc (.cells N t)).setRow w.heap.size I=w.alloc (.cells I t):=by
 unfold World.setRow World.alloc
 congr 1
 apply Array.ext_getElem?;intro i;rw[Array.getElem?_modify]
 by_cases h:w.heap.size=i
 ·subst h;simp
 ·rw[if_neg h]
  by_cases L:i<w.heap.size
  ·simp[Array.getElem?_push_lt L,Array.getElem?_push,h,zrA h]
  ·have q:w.heap.size+1<=i:=zd;rw[zqN (by simpa using q),zqN (by simpa using q)]
theorem zla(q:TypeId)(x y:Operand)(O:o.op=.store q x y)(N I:Array Value)(U:a.eval x=.pointer (some ⟨L.heap.size,0,none⟩))(hy:a.eval y=.agg I)(V:N.size=I.size)(hi:(P.info? q).map (·.size)=some I.size)(R:I.all (·.oneCell')=true)(h:K (a.put o.dst undef) (L.alloc (.cells I q))):o.wp P a (L.alloc (.cells N q)) K Q:=by
 unfold Oper.wp execOp;simp only[O,U,hy,Instr.storeAt,Instr.sureAddr,Sem.run_bind,Sem.run_pure,Result.andThen_ok,run_storeVar_row (L.alloc (.cells N q)) L.heap.size q q N I (heap_alloc_new L _) hi V R,zlP];exact h
theorem zf8(hF:{ Fence.wide with round:=F.round }=F)(hw:Region.wanted o (yielded ops a.tmps)=true)(I:TypeId)(x y:Operand)(O:o.op=.store I x y)(N q:Array Value)(V:a.eval x=.pointer (some ⟨L.heap.size,0,none⟩))(hy:a.eval y=.agg q)(W:N.size=q.size)(hi:(P.info? I).map (·.size)=some q.size)(U:q.all (·.oneCell')=true)(h:wpListIn F n P ops Q rest (a.put o.dst undef) (L.alloc (.cells q I))):wpListIn F n P ops Q (o::rest) a (L.alloc (.cells N I)):=
 T8 hF hw (fun c e=>by rw[O]at e;cases e) fun _ R=>zla I x y O N q V hy W hi U (R _ _ h)
end
end
section
def JN(r:List Nat):List Nat:=(r++List.replicate 24 0).take 24
theorem zl2(h:r.length=24):JN r=r:=by
 unfold JN;rw[zqx zd,zpT zd]
theorem zjg(r:List Nat):(JN r).length=24:=by unfold JN;simp
def VY(r:List Nat):List Value:=zX (JN r)
theorem za9(r:List Nat):(VY r).length=24:=by unfold VY;simp[zjg]
theorem G5(h:r.length=24):VY r=zX r:=by unfold VY;rw[zl2 h]
theorem Tl:∀{xs:List (List Nat)},(∀r∈xs,r.length=24)->xs.flatMap VY=xs.flatMap zX
 |[],_=>rfl
 |x::xs,h=>by rw[zpZ,zpZ,G5 (h x zpP),Tl fun r q=>h r (zpQ _ q)]
theorem zZ.drop{f:α->List Value}{xs:List α}(O:∀x∈xs,(f x).length=size)(I:g<w.heap.size)(h:w.rangeAt g 0 (xs.flatMap f))(k:Nat)(L:k<=xs.length):zZ f w (some ⟨g,k*size,none⟩) (xs.drop k):=by
 intro _;refine⟨g,k*size,rfl,I,?_⟩;have U:xs.flatMap f=(xs.take k).flatMap f++(xs.drop k).flatMap f:=by rw[<-zp2,zqi]
 have R:∀l:List α,(∀x∈l,(f x).length=size)->(l.flatMap f).length=l.length*size:=fun l=>by
  induction l with
  |nil=>intro _;simp
  |cons a l N=>intro h;rw[zpZ,zpA,h a zpP,N fun x q=>h x (zpQ _ q),zpV,zrq,Nat.add_comm]
 have N:((xs.take k).flatMap f).length=k*size:=by
  rw[R _ fun x q=>O x (zqW q),zp3,Nat.min_eq_left L]
 intro j v q;have:=h (k*size+j) v (by rw[U,zqL zd,N,zq9];exact q);rw[zp6]at this;exact this
theorem zgM(w:World)(A:Option Addr)(cap n:Nat)(xs:List (List Nat))(L:∀r∈xs,r.length=24)(Y:xs.length=n)(X:zZ zX w A xs)(R:n<=4194304):Calls prog 127 #[.slice A n cap] w (XA zX 155 24 xs w):=by
 have q:zZ VY w A xs:=by unfold zZ;rw[Tl L];exact X
 refine(UL Tryz.zmh T4 rfl (fun w=>sizeOf155 w) za9 (fun r=>X7 _) w A cap n xs Y q R zr).mono ?_;rintro e Z⟨W,h,N,V,O,I,U⟩;refine⟨W,h,N,V,O,?_,U⟩;unfold Own at I ⊢;rw[Tl L]at I;exact I
def X1(t:TypeId)(W I:World):Prop:=∀(k:Nat)(h:Array Value)(q:Nat×Nat),W.heap[k]? = some (Obj.cells h t q)->I.heap[k]? = some (Obj.cells h t q)
theorem X1.trans{X Y Z:World}(h:X1 t X Y)(k:X1 t Y Z):X1 t X Z:=fun b q I L=>k b q I (h b q I L)
theorem X1.alloc(W:World)(o:Obj):X1 t W (W.alloc o):=fun k q I h=>(Below.heap_alloc W o k (zpN.1 h).1).trans h
theorem X1.put(W:World)(l:Nat)(o o':Obj)(h:W.heap[l]? = some o)(I:o.isCells=false):X1 t W (W.putObj l o'):=fun k L N q=>by
 have:k≠l:=by rintro rfl;rw[h]at q;injection q with q;subst q;cases I
 exact(World.putObj_heap_other this).trans q
theorem zD.Ds{q:Array Value}(h:zD w g t q)(I:X1 t w w'):zD w' g t q:=I _ _ _ h
theorem Own.Ds{f:α->List Value}{xs:List α}(h:Own f e size w A cap xs)(L:X1 e w w'):Own f e size w' A cap xs:=by
 rcases h.form with⟨rfl,rfl,rfl⟩ |⟨g,rfl,O,_⟩
 ·exact Own.qz _
 ·obtain⟨I,q,_⟩:=h.whole;exact h.same fun x N=>by
   obtain rfl:x=g:=by simpa[zw]using N
   exact(q.Ds L).trans q.symm
theorem zhi(L:P.underlying t=some (.slice e))(N:∀W,(Go.sizeOf e).run P W=.ok size W)(g l h cap n:Nat)(I:l<h)(q:h<=cap)(W:World):
 (Instr.slice t (.slice (some ⟨g,0,none⟩) n cap) (some (.int .i64 (l:Int))) (some (.int .i64 (h:Int))) none).run P W=.ok (.slice (some ⟨g,l*size,none⟩) (h-l) (cap-l)) W:=by
 have e3:cap≠l:=zd;simp[Instr.slice,run_underlying L,Instr.sliceBounds,Instr.sliceBound,asIntOf,N,Result.andThen,zrb I,q,e3,Addr.add_mid]
def Zb(R:List (List Nat))(i:Nat):List Value:=VY (R.getD i [])
theorem zc1(R:List (List Nat))(i:Nat):(Zb R i).length=24:=za9 _
theorem zcc(R:List (List Nat))(i:Nat):∀u∈Zb R i,u.oneCell'=true:=X7 _
def GA(R:List (List Nat))(i:Nat):Array Value:=#[.int .i64 (i:Int),.agg (Zb R i).toArray]
attribute [local go_sem] Oper.semAt_some
theorem zcE{k rx fx tx:Nat}{w0:World}{ar:Nat}(aT:1<=k)(h:Rel w0 rb ar R S)(lo:Nat)(ak:lo<=R.length)(af:R.length<=4194304)(k0:zD w0 rx 128 #[.pointer (some ⟨rb,0,none⟩)])(k1:zD w0 fx 3 #[.int .i64 (lo:Int)])(k2:zD w0 tx 3 #[.int .i64 (R.length:Int)]):
 US bb Fence.wide k prog 126 #[.pointer (some ⟨rx,0,none⟩),.pointer (some ⟨fx,0,none⟩),.pointer (some ⟨tx,0,none⟩)] (GA R) (X1 155) (fun O=>O=List.range' lo (R.length-lo)) (fun _=>True) (fun N=>∃j,N=List.range' lo j/\lo+j<=R.length) w0:=fun q J U W I L hY h0=>by
 have aF:=zz hY;have ae:=zz L;have H0:=zz h0;have ac:=zz (fun W' (N:Bl W W')=>UR ((h.below I).below N));obtain⟨pb,mb,A,V,f,hR,-⟩:=h.below I;obtain⟨n,U⟩:∃n,R.length=n:=⟨_,rfl⟩;have X:=zz U;have O:Kz (∀r∈R,r.length=24):=fun r N=>(hR.ok r N).len
 have c0:=(k0.below I).cell 0;have c1:=(k1.below I).cell 0;have c2:=(k2.below I).cell 0;have r2:=hR.rel.cell 2;have Y:=hR.pl.cell 0;have Ho:=zz hR.own;rw[U]at c2 Y af ak ac;have Z:=zz af;have HI:Kz (∀W':World,(W'.cell? ⟨fx,0,none⟩=some (.int .i64 (lo:Int))/\W'.cell? ⟨tx,0,none⟩=some (.int .i64 (n:Int)))->(W'.cell? ⟨fx,0,none⟩=some (.int .i64 (lo:Int))/\W'.cell? ⟨tx,0,none⟩=some (.int .i64 (n:Int)))):=fun _ h=>h
 have HC:=zz (show W.cell? ⟨fx,0,none⟩=some (.int .i64 (lo:Int))/\W.cell? ⟨tx,0,none⟩=some (.int .i64 (n:Int))from⟨c1,c2⟩);clear hY L h0 I h hR U k0 k1 k2 af;refine callsIn_of_wp func126 rfl trivial ?_ rfl;show Code.wpIn _ _ _ _ _ { tmps:=#[.func (.yield q) #[] #[],.pointer (some ⟨rx,0,none⟩),.pointer (some ⟨fx,0,none⟩),.pointer (some ⟨tx,0,none⟩)]++_,defers:=[]} _;simp only[ntmps126,zq0,zpV,zqd,Nat.reduceAdd,Nat.reduceSub,zq7,zq8,zrn,zrg,zpI,zpJ]
 gi_upto_region 1 with(refine⟨trivial,?_⟩;gi_at_call 52;refine(callsIn_wide.2 (ac.o _ (Below.refl _ _))).mono ?_;rintro e w1⟨rfl,aB⟩;obtain rfl:=aB.symm)
 refine Zm [(0,0),(1,0),(2,0),(3,0),(4,0),(5,0),(6,0)] 9999 (fun W'=>W'.cell? ⟨fx,0,none⟩=some (.int .i64 (lo:Int))/\W'.cell? ⟨tx,0,none⟩=some (.int .i64 (n:Int))) (fun _=>True) zo (zo) zo rfl zo ?s0 ?s1 ?_
 case s1=>trivial
 case s0=>exact HC.o
 simp only[xO,qa,qb,qc,qd,qe,qf];try refine zQ ?_
 repeat refine zS HI.o ?_
 refine YR ?_;try simp only[Act.put]
 have U:zh (·=bb) W W.drew:=(zh.refl _ W).drew;have I:=ae.o [] W _ H0.o U;have al:W.drew.cell? ⟨rx,0,none⟩=some (.pointer (some ⟨rb,0,none⟩)):=c0;have au:W.drew.cell? ⟨rb,2,none⟩=some (.pointer (some ⟨pb,0,none⟩)):=r2;have ai:W.drew.cell? ⟨pb,0,none⟩=some (.slice A n V):=Y;have L:Own zX 155 24 W.drew A V R:=Ho.o.same fun _ _=>rfl
 clear c0 r2 Y c1 c2 U;generalize W.drew=W1 at I al au ai L ⊢;have ah:=zz I;have HO:=zz L;clear I L
 by_cases aA:n<=lo
 ·have aI:decide ((lo:Int) ≥ (n:Int))=true:=zb;have I:R.length-lo=0:=by rw[X.o];omega
  have L:=zz I;clear I
  gi_wp2
  refine bodyPost_ret (results_none rfl _ _ _) rfl ?_;exact⟨⟨_,rfl⟩,.inl ⟨[],by rw[L.o];rfl,ah.o⟩⟩
 ·have aI:decide ((lo:Int) ≥ (n:Int))=false:=zb;have I:lo<n:=zd;obtain⟨g,rfl⟩:∃g,A=some ⟨g,0,none⟩:=by
   rcases HO.o.form with⟨_,_,rfl⟩ |⟨g,L,_⟩
   ·have:=X.o;simp at this;omega
   ·exact⟨g,L⟩
  have U:n<=V:=by
   rcases HO.o.form with⟨h,_⟩ |⟨L,_,_,h,_⟩
   ·cases h
   ·rw[X.o]at h;exact h
  have aP:=fun W=>zhi (P:=prog) underlying211 (fun W=>sizeOf155 W) g lo n V n I U W
  have L:zZ zX W1 (some ⟨g,lo*24,none⟩) (R.drop lo):=zZ.drop (fun r N=>by simp[O.o r N]) HO.o.Y4 (by
   obtain⟨b,o,Y,_,N⟩:=HO.o.xI (by
    intro e;have h1:=UY (f:=VY) za9 R;rw[Tl O.o,e,zqd]at h1;have:=X.o;omega)
   cases Y
   exact N) lo (by rw[X.o];omega)
  have aJ:=zz (zgM W1 (some ⟨g,lo*24,none⟩) (V-lo) (n-lo) (R.drop lo) (fun r N=>O.o r (List.mem_of_mem_drop N)) (by rw[zqC,X.o]) L (by have:=Z.o;omega));have aM:=zz I;clear U L ak I
  gi_wp2_with (refine⟨trivial,?_⟩;gi_at_call 127;refine(callsIn_wide.2 aJ.o).mono ?_;rintro e w2⟨A2,ax,n2,rfl,ay,ao,am,aw⟩;have aG:=zz am;have aD:=zz ao;have aq:=zz ay;have aQ:=zz aw;clear am ao ay aw al au ai)
  clear aA;have aC:Kz (∀r∈R,(prog.info? 155).map (·.size)=some (zX r).length):=fun r N=>by rw[zpO,O.o r N];exact yJ
  have aE:=zz (ae.o [] W1 w2 ah.o (zh.xj _ aG.o));have U:=zz (show n2=n-lo by rw[<-aq.o,zqC,X.o])
  gi_loopw [32] (fun L wr=>∃i:Nat,L=.int .i64 (i:Int)/\i<=n2/\Own zX 155 24 wr A2 ax (R.drop lo)/\J (List.range' lo i) wr) (fun L _=>n2+2-DN L)
  case atStart=>exact⟨0,rfl,zpD _,aD.o,aE.o⟩
  case round=>
   obtain⟨i,rfl,hi,Y,L⟩:=hrel;have HOr:=zz Y;have an:=zz L;clear Y L
   by_cases I:i<n2
   ·have ag:i<(R.drop lo).length:=by rw[aq.o];exact I
    have aj:decide ((i:Int)<(n2:Int))=true:=zb;obtain⟨b,o,rfl,aO,N⟩:=zZ.at_mem (c:=23) (fun r N=>by simp[O.o r (List.mem_of_mem_drop N)]) HOr.o.xI i ag;have L:=List.mem_of_mem_drop (zpB ag);have ab:(R.drop lo)[i]=R.getD (lo+i) []:=by
     rw[getD_at _ (by have:=X.o;have:=U.o;omega),List.getElem_drop]
    have ad:=zz (show GA R (lo+i)=#[.int .i64 ((lo+i:Nat):Int),.agg (zX (R.drop lo)[i]).toArray]from by unfold GA Zb;rw[<-ab,G5 (O.o _ L)]);generalize(R.drop lo)[i]=r at N L ad;have Y:=aC.o r L;have aa:(zX r).length=24:=by rw[zpO,O.o r L]
    have av:=zz aa
    replace N:wr.rangeAt b (o+i*24) (zX r):=N
    clear ab ag aa L
    gi_upto_region 6 with(first
     |(refine zdS 155 _ rfl ?_;refine zda rfl zj 155 _ rfl b (o+i*24) rfl (zX r) _ N underlying155 rfl Y ?_)
     |(refine Gh 155 _ _ rfl ?_;refine za4 rfl zj 155 _ _ rfl _ (zX r) rfl rfl (by simp[av.o]) Y (X7 r) ?_;intro W9 ab;have aa:=zz ab;clear ab N))
    have Hi:=zz I;have hx:=zz (aF.o (List.range' lo i) (lo+i) W9 (ae.o _ _ _ an.o (zh.xj _ aa.o.below)) ⟨i+1,(List.range'_1_concat ..).symm,by rw[X.o];have:=U.o;have:=aM.o;omega⟩);have L:=hx.o;rw[ad.o]at L;obtain⟨fn,ap,az,aN,hy,hR⟩:=L;rw[show(((lo+i:Nat):Int))=(lo:Int)+(i:Int) from zd]at hy;have L:W9.rangeAt wr.heap.size 0 (zX r):=by
     intro j v hv;rw[zp6,aa.o.b0.cell];simpa using hv
    have aR:=IntWalk.i64_in ((lo:Int)+(i:Int)) ⟨by have:=U.o;have:=Z.o;omega,by have:=U.o;have:=Z.o;omega⟩
    gi_upto_region 7 with(refine zdS 155 _ rfl ?_;refine zda rfl zj 155 _ rfl wr.heap.size 0 rfl (zX r) _ L underlying155 rfl Y ?_)
    refine hR.mono ?_;have aH:=zz (show List.range' lo i++[lo+i]=List.range' lo (i+1)from(List.range'_1_concat ..).symm);clear hy L Y hx aj I;rintro e W3 (⟨rfl,ag,Y⟩ |⟨rfl,L⟩)
    ·have aK:=zz ag;have aL:=zz ((HOr.o.below aa.o.below).Ds Y);clear ag Y;have aS:i<4194304:=by have:=Hi.o;have:=U.o;have:=Z.o;omega
     gi_wp2
     go_roundw
     case rel=>exact⟨i+1,ze,(by have:=Hi.o;omega),aL.o,by rw[<-aH.o];exact aK.o⟩
     case measure=>rw[Tt,Tt];have:=Hi.o;omega
    ·gi_wp2
     refine bodyPost_ret (results_none rfl _ _ _) rfl ?_;exact⟨⟨_,rfl⟩,.inr ⟨_,trivial,L⟩⟩
   ·obtain rfl:i=n2:=zd;have aj:decide ((i:Int)<(i:Int))=false:=zp;clear I hi
    gi_wp2
    go_end0;exact⟨⟨_,rfl⟩,.inl ⟨_,rfl,by rw[X.o,<-U.o];exact an.o⟩⟩
structure yI where
 xb:Nat
 kb:Nat
 f:Value->Option Value
 seen:Nat
noncomputable def Y3(R:List (List Nat))(seen m:Nat)(h:Value):List (List Value):=((List.range seen).filter fun n=>tf (Value.agg (zX (ql m (R.getD n []))).toArray=h)).map fun n:Nat=>[Value.int .i64 (n:Int)]
def yO(d:yI)(g:Nat):Prop:=g=d.xb\/qh d.kb d.f g
structure XI (w:World) (R:List (List Nat)) (m:Nat) (d:yI):Prop where
 zH:zD w d.xb 456 #[.map (some d.kb),.int .i64 (d.seen:Int),.int .i64 0]
 Yq:Xo prog 155 3 1 w d.kb d.f (Y3 R d.seen m)
 le:d.seen<=R.length
theorem zhj(R:List (List Nat))(m:Nat):Y3 R 0 m=fun _=>[]:=rfl
theorem zbD(R:List (List Nat))(seen m:Nat):Y3 R (seen+1) m=fun y=>open Classical in if y=.agg (zX (ql m (R.getD seen []))).toArray then Y3 R seen m y++[[.int .i64 (seen:Int)]]else Y3 R seen m y:=by
 funext y
 unfold Y3;rw[zrf,zrk,zp1];split
 ·rename_i h;rw[zqK (by rw[qs h.symm])];rfl
 ·rename_i h;rw[zqp (by rw[qu (fun e=>h e.symm)];exact zqV)];simp
theorem zjd{R':List (List Nat)}{seen:Nat}(m:Nat)(h:∀n,n<seen->R.getD n []=R'.getD n []):Y3 R seen m=Y3 R' seen m:=by
 funext y
 unfold Y3
 congr 1
 refine List.filter_congr fun n q=>?_
 rw[h n (zqA.1 q)]
theorem zgI(m:Nat)(x:List Nat):Y3 R R.length m (.agg (zX (ql m x)).toArray)=(qL R m x).map fun n:Nat=>[Value.int .i64 (n:Int)]:=by
 unfold Y3 qL
 congr 1
 refine List.filter_congr fun n _=>?_
 by_cases h:ql m (R.getD n [])=ql m x
 ·rw[decide_eq_true h,h,qs rfl]
 ·rw[decide_eq_false h,qu];intro e;injection e with e
  exact h (zeP (List.toArray_inj e))
theorem zdh(R:List (List Nat))(seen m:Nat)(y:Value):(Y3 R seen m y).length<=seen:=by
 unfold Y3;rw[zpO];exact zpK (zqS _ _) zp
theorem XI.lt{d:yI}(h:XI w R m d):∀g,yO d g->g<w.heap.size:=by
 rintro g (rfl|q)
 ·exact h.zH.lt
 ·exact h.Yq.lt g q
theorem XI.same{d:yI}(h:XI w R m d)(q:∀g,yO d g->w'.heap[g]? = w.heap[g]?):XI w' R m d:=
 ⟨h.zH.same (q _ (.inl rfl)),h.Yq.same fun g I=>q g (.inr I),h.le⟩
theorem XI.grow{d:yI}(h:XI w R m d)(r:List Nat):XI w (R++[r]) m d:=
 ⟨h.zH,by
  rw[zjd (R':=R) m fun n q=>zcA _ (zpz q h.le)];exact h.Yq,by rw[zpA];exact zpK h.le (Nat.le_add_right _ _)⟩
structure YS (w:World) (bb rb:Nat) (R:List (List Nat)) (mb:Nat) (f:Value->Option Value) (ix:Nat->Option yI):Prop where
 zH:zD w bb 294 #[.pointer (some ⟨rb,0,none⟩),.map (some mb)]
 map:xv prog 105 w mb f
 XM:∀m:Nat,m<2 ^ 24->f (.int .u32 (m:Int))=(ix m).map fun d=>.pointer (some ⟨d.xb,0,none⟩)
 each:∀m d,ix m=some d->XI w R m d
 apart:∀m m' d d' g,ix m=some d->ix m'=some d'->yO d g->yO d' g->m=m'
 off:∀m d g,ix m=some d->yO d g->g≠mb/\g≠bb
def YC(bb h:Nat)(ix:Nat->Option yI)(g:Nat):Prop:=g=bb\/g=h\/∃m d,ix m=some d/\yO d g
def yY(w:World)(bb I:Nat)(R:List (List Nat))(S:Nat->Prop):Prop:=∃h f q,YS w bb I R h f q/\∀g,YC bb h q g->S g
theorem YS.lt{L:Nat}{ix:Nat->Option yI}(h:YS w bb L R q f ix):∀g,YC bb q ix g->g<w.heap.size:=by
 rintro g (rfl|rfl |⟨m,d,I,N⟩)
 ·exact h.zH.lt
 ·exact h.map.lt
 ·exact(h.each m d I).lt g N
theorem YS.same{ix:Nat->Option yI}(h:YS w bb N R q f ix)(I:∀g,YC bb q ix g->w'.heap[g]? = w.heap[g]?):YS w' bb N R q f ix:=
 ⟨h.zH.same (I _ (.inl rfl)),h.map.same (I _ (.inr (.inl rfl))),h.XM,fun m d L=>(h.each m d L).same fun g O=>I g (.inr (.inr ⟨m,d,L,O⟩)),h.apart,h.off⟩
theorem yY.zC{Q:Nat->Prop}(h:yY w bb q R S)(U:zh Q w w')(V:∀x,S x->¬Q x):yY w' bb q R S:=by
 obtain⟨N,f,O,h,I⟩:=h;exact⟨N,f,O,h.same fun g L=>U.block g (h.lt g L) (V g (I g L)),I⟩
theorem yY.below(h:yY w bb q R S)(N:Bl w w'):yY w' bb q R S:=by
 obtain⟨I,f,L,h,O⟩:=h;exact⟨I,f,L,h.same fun g U=>N.block g (h.lt g U),O⟩
theorem yY.mono(h:yY w bb q R S)(O:∀g,S g->S' g):yY w bb q R S':=by
 obtain⟨I,f,N,h,L⟩:=h;exact⟨I,f,N,h,fun g U=>O g (L g U)⟩
theorem yY.grow(h:yY w bb q R S)(r:List Nat):yY w bb q (Ye R r) S:=by
 unfold Ye;split
 ·exact h
 ·obtain⟨L,f,N,h,O⟩:=h;exact⟨L,f,N,⟨h.zH,h.map,h.XM,fun m d I=>(h.each m d I).grow r,h.apart,h.off⟩,O⟩
theorem yY.new(R:zD w bb 294 #[.pointer (some ⟨I,0,none⟩),.map (some q)])(L:w.heap[q]? = some (.map #[] 0))(S:Nat->Prop)(O:S bb)(N:S q):yY w bb I [] S:=
 ⟨q,fun _=>none,fun _=>none,⟨R,⟨#[],0,L,Yu.none_,MapKept.stamped_empty 0⟩,fun _ _=>rfl,(fun _ _ h=>by cases h),(fun _ _ _ _ _ h=>by cases h),(fun _ _ _ h=>by cases h)⟩,fun g U=>by
  rcases U with rfl|rfl |⟨_,_,h,_⟩
  ·exact O
  ·exact N
  ·cases h⟩
theorem ZJ.lt{L:Nat}(h:ZJ w L N R q I A cap f):∀x,(x=L\/x=q\/x=I\/x∈zw A)->x<w.heap.size:=by
 rintro x (rfl|rfl|rfl|O)
 ·exact h.rel.lt
 ·exact h.pl.lt
 ·exact h.map.lt
 ·exact h.own.lt x O
theorem Rel.cut{L:Nat}(h:Rel w L I R S):Rel w L I R (fun g=>S g/\g<w.heap.size):=by
 obtain⟨V,O,A,q,f,h,U⟩:=h;exact⟨V,O,A,q,f,h,fun x N=>⟨U x N,h.lt x N⟩⟩
theorem Rel.mono{L:Nat}(h:Rel w L I R S)(U:∀g,S g->S' g):Rel w L I R S':=by
 obtain⟨V,N,A,q,f,h,O⟩:=h;exact⟨V,N,A,q,f,h,fun x W=>U x (O x W)⟩
theorem yY.cut(h:yY w bb q R S):yY w bb q R (fun g=>S g/\g<w.heap.size):=by
 obtain⟨L,f,N,h,O⟩:=h;exact⟨L,f,N,h,fun g I=>⟨O g I,h.lt g I⟩⟩
open Classical in
noncomputable def ZC(ix:Nat->Option yI)(m:Nat)(d:yI):Nat->Option yI:=fun n=>if n=m then some d else ix n
theorem YS.zbH{mb:Nat}{ix:Nat->Option yI}(h:YS w bb rb R mb f ix){d V:yI}(W:ix m=some d)(hc:zh (yO d) w w')(h':XI w' R m V)(hx:V.xb=d.xb)(hn:∀g,yO V g->yO d g\/w.heap.size<=g):YS w' bb rb R mb f (ZC ix m V):=by
 have O:=fun g (N:yO d g)=>h.off m d g W N
 have XL:∀q I,ZC ix m V q=some I->(q=m/\I=V)\/(q≠m/\ix q=some I):=fun q I L=>by
  unfold ZC at L;split at L
  ·rename_i e;injection L with L;exact .inl ⟨e,L.symm⟩
  ·rename_i e;exact .inr ⟨e,L⟩
 refine⟨h.zH.zC hc fun N=>(O _ N).2 rfl,h.map.zC hc fun N=>(O _ N).1 rfl,fun q aa=>?_,fun q I L=>?_,fun m1 q d1 I g h1 L Z U=>?_,fun q I g L U=>?_⟩
 ·rw[h.XM q aa];unfold ZC;split
  ·rename_i e;subst e;rw[W];simp[hx]
  ·rfl
 ·rcases XL q I L with⟨rfl,rfl⟩ |⟨X,L⟩
  ·exact h'
  ·exact(h.each q I L).same fun g N=>hc.block g ((h.each q I L).lt g N) fun Y=>X (h.apart q m I d g L W N Y)
 ·have Y:∀q I,ix q=some I->yO I g->g<w.heap.size:=fun q I L N=>(h.each q I L).lt g N
  rcases XL m1 d1 h1 with⟨e1,e2⟩ |⟨ac,k1⟩<;>rcases XL q I L with⟨e3,e4⟩ |⟨ab,k2⟩
  ·exact e1.trans e3.symm
  ·rcases hn g (e2▸Z)with N|N
   ·rw[e1];exact h.apart _ _ _ _ g W k2 N U
   ·have:=Y q I k2 U;omega
  ·rcases hn g (e4▸U)with N|N
   ·rw[e3];exact h.apart _ _ _ _ g k1 W Z N
   ·have:=Y m1 d1 k1 Z;omega
  ·exact h.apart _ _ _ _ g k1 k2 Z U
 ·rcases XL q I L with⟨rfl,rfl⟩ |⟨X,L⟩
  ·rcases hn g U with N|N
   ·exact O g N
   ·have:=h.map.lt;have:=h.zH.lt;omega
  ·exact h.off q I g L U
theorem YS.made{U:Nat}{f':Value->Option Value}{ix:Nat->Option yI}(h:YS w bb rb R U f ix){O:yI}(hd:ix m=none)(hc:zh (·=U) w w')(h':XI w' R m O)(hn:∀g,yO O g->w.heap.size<=g)(hm:xv prog 105 w' U f')(hf:f'=yp f (.int .u32 (m:Int)) (.pointer (some ⟨O.xb,0,none⟩))):YS w' bb rb R U f' (ZC ix m O):=by
 have XL:∀q I,ZC ix m O q=some I->(q=m/\I=O)\/(q≠m/\ix q=some I):=fun q I L=>by
  unfold ZC at L;split at L
  ·rename_i e;injection L with L;exact .inl ⟨e,L.symm⟩
  ·rename_i e;exact .inr ⟨e,L⟩
 have Y:bb≠U:=h.zH.qU h.map;refine⟨h.zH.zC hc Y,hm,fun q Z=>?_,fun q I L=>?_,fun m1 q d1 I g h1 L g1 N=>?_,fun q I g L N=>?_⟩
 ·rw[hf];unfold ZC
  by_cases e:q=m
  ·subst e;rw[Yt,if_pos rfl,zqh]
  ·rw[XR (fun V=>e (by injection V with _ V;exact Int.ofNat.inj V)),if_neg e];exact h.XM q Z
 ·rcases XL q I L with⟨rfl,rfl⟩ |⟨X,L⟩
  ·exact h'
  ·exact(h.each q I L).same fun g W=>hc.block g ((h.each q I L).lt g W) (h.off q I g L W).1
 ·have V:∀q I,ix q=some I->yO I g->g<w.heap.size:=fun q I L W=>(h.each q I L).lt g W
  rcases XL m1 d1 h1 with⟨e1,e2⟩ |⟨ab,W⟩<;>rcases XL q I L with⟨e3,e4⟩ |⟨aa,k2⟩
  ·exact e1.trans e3.symm
  ·have:=hn g (e2▸g1);have:=V q I k2 N;omega
  ·have:=hn g (e4▸N);have:=V m1 d1 W g1;omega
  ·exact h.apart _ _ _ _ g W k2 g1 N
 ·rcases XL q I L with⟨rfl,rfl⟩ |⟨X,L⟩
  ·have:=hn g N;have:=h.map.lt;have:=h.zH.lt;omega
  ·exact h.off q I g L N
theorem zak:Keyed prog 105:=int_keyed underlying105
theorem DA(h:m<2 ^ 24):keyOf prog 105 (.int .u32 (m:Int))=some (.int .u32 (m:Int)):=
 keyOf_int_mk underlying105 (by
  have I:IntKind.u32.min=0:=zr;have q:IntKind.u32.max=4294967295:=zr;simp[Lit.wf,I,q];omega)
attribute [local go_sem] Oper.semAt_some
theorem zcw{F:Fence}{g:Operand}{ps:Array Tmp}{assign body:Code}(aa:F.round=none)(h1:1<=n){gf:Nat}{lb:Array Value}(hg:a.eval g=.func (.func gf) #[] lb)(ai:F.fn gf)(eg:∀h w,(callFunc gf h).run P w=.ok (.enter gf h) w){L:α->Array Value}{O:World->World->Prop}{S Sp V:List α->Prop}(ad:bb<w.heap.size)(Y:US bb F (n-1) P gf lb L O S Sp V w)(ac:∀{A B C:World},O A B->O B C->O A C)(ag:∀(W:World)(l:Nat)(o o':Obj),w.heap.size<=l->W.heap[l]? = some o->o.isCells=false->o.isWalk=false->O W (W.putObj l o'))(af:∀x,(L x).size=ps.size)(I:List α->World->Prop)(Z:Code->List α->World->Prop)(hI:OwnFrom w.heap.size I)(ae:∀c,OwnFrom w.heap.size (Z c))(ah:∀s W q,I s W->zh (·=bb) W q->I s q)(h0:I [] w)(ob:α->Obj)(ab:∀(W:World)(o:Obj),w.heap.size<=W.heap.size->O W (W.alloc o))(a₁:α->Nat->Act)(N:∀(l:Nat)(x:α)(W:World)(g:Nat)(K:Act->World->Prop),W.heap.size=g->K (a₁ x g) (W.alloc (ob x))->
  assign.wpIn (F.inRound l) (n-1-1) P (Exit.then K (fun _ _ _=>False)) { tmps:=(ps.zip (L x)).foldl (fun t (p,v)=>t.setIfInBounds p v) a.tmps,defers:=[]} W)(X:∀(l:Nat)(q:List α)(x:α)(W:World)(g:Nat),w.heap.size<=g->W.heap[g]? = some (ob x)->I q W->V (q++[x])->body.wpIn (F.inRound l) (n-1-1) P (ownPostG w.heap.size O I Z (q++[x]) W) (a₁ x g) W)(R:∀(D:Nat)(xs:List α)(W:World),w.heap.size<=D->S xs->I xs W->W.heap[D]? = some (.deferred (some []))->Q .normal { a with defers:={ target:=.collected D,args:=#[]}::a.defers } W)(U:∀(D:Nat)(c:Code)(q:List α)(W:World),w.heap.size<=D->Sp q->Z c q W->W.heap[D]? = some (.deferred (some []))->c.wpIn F n P Q { a with defers:={ target:=.collected D,args:=#[]}::a.defers } W):
 (Code.rangeFunc g ps assign body).wpIn F n P Q a w:=
 zca aa h1 hg ai eg ad Y ac ag af I Z hI ae ah h0 a₁ ob ab (fun l x W K h=>N l x W _ K rfl h) X R U
def Dk(m bb h:Nat)(R:List (List Nat))(S:Nat->Prop)(w:World)(e:Ending)(w':World):Prop:=
 ∃d:yI,e=.returned (.tuple #[.pointer (some ⟨d.xb,0,none⟩),.int .i64 0])/\d.seen=R.length/\XI w' R m d/\(∀g,yO d g->S g\/w.heap.size<=g)/\yY w' bb h R (fun g=>S g\/w.heap.size<=g)/\zh S w w'
def Vu(I:World)(L:Nat)(R:List (List Nat))(m:Nat)(d:yI)(h:List Nat)(W:World):Prop:=
 ∃q,Xo prog 155 3 1 W d.kb q (Y3 R (d.seen+h.length) m)/\(∀g,qh d.kb q g->qh d.kb d.f g\/I.heap.size<=g)/\zh (fun g=>qh d.kb d.f g\/g=L) I W
theorem zd0{U:World}{Z:Nat}{d:yI}{B:Nat}(hB:U.heap.size<=B)(hk:d.kb<B):OwnFrom B (Vu U Z R m d):=fun _ W L h ⟨q,I,V,Y⟩ N O=>by
 refine⟨q,I.same fun g h=>N.block g (I.lt g h) fun e=>?_,V,Y.grown N fun k e X=>?_⟩
 ·obtain⟨aa,o,q,hc⟩:=O g e.symm
  rcases I.kind h with rfl |⟨cs,L⟩
  ·omega
  ·rw[L]at q;injection q with q;subst q;cases hc
 ·have:=(O k e).1;omega
theorem zeL{d:yI}(U:q<L.heap.size)(Z:¬qh d.kb d.f q):∀s W I,Vu L q R m d s W->zh (·=q) W I->Vu L q R m d s I:=fun _ W I ⟨X,O,N,Y⟩ V=>
 ⟨X,O.same fun g I=>V.block g (O.lt g I) fun e=>by
  subst e
  rcases N g I with h|h
  ·exact Z h
  ·omega,N,Y.trans V fun x U _=>.inr U⟩
theorem zbx{lo:Nat}{q:List Nat}{x:Nat}(h:∃j,q++[x]=List.range' lo j/\lo+j<=n):x=lo+q.length/\x<n:=by
 obtain⟨j,h,L⟩:=h;have I:=congrArg List.length h;rw[zpA,zqs,List.length_range']at I;have:=congrArg (fun l=>l[q.length]?) h;simp only[List.getElem?_concat_length]at this;rw[List.getElem?_range' zd]at this;injection this with this
 omega
theorem XI.ne{d:yI}(h:XI w R m d){O:Array Value}(k:zD w g t O)(U:t≠456)(N:t≠3):¬yO d g:=by
 rintro(rfl|V)
 ·unfold zD at k;have:=h.zH;unfold zD at this;rw[this]at k;injection k with k
  injection k with _ k
  exact U k.symm
 ·unfold zD at k
  rcases h.Yq.kind V with rfl |⟨L,q⟩
  ·obtain⟨W,c,I,_⟩:=h.Yq.map;rw[I]at k;cases k
  ·rw[q]at k;injection k with k
   injection k with _ k
   exact N k.symm
theorem XI.T3{d:yI}(h:XI w R m d):¬qh d.kb d.f d.xb:=by
 intro O;have I:=h.zH;unfold zD at I
 rcases h.Yq.kind O with e |⟨N,q⟩
 ·obtain⟨U,c,L,_⟩:=h.Yq.map;rw[<-e,I]at L;cases L
 ·rw[I]at q;injection q with q
  injection q with _ q
  exact absurd q zr
theorem zdY{ix:Nat->Option yI}{d I:yI}(h:ZC ix m d q=some I):(q=m/\I=d)\/(q≠m/\ix q=some I):=by
 unfold ZC at h;split at h
 ·rename_i e;injection h with h;exact .inl ⟨e,h.symm⟩
 ·rename_i e;exact .inr ⟨e,h⟩
theorem zaI:qB prog 65 3 1 8:=qB.of (z:=.int .i64 0) underlying65 zo rfl zr
end
