/-
  Books: a row under a mask. A map by what it says: an entry t
-/
import Derived.Test.YtfdickkdlcgicaaGreatDoorP19
set_option maxRecDepth 100000
set_option maxHeartbeats 8000000
set_option linter.all false
namespace Go.Proofs.YtfdickkdlcgicaaGreatDoor.C
open Go.Proofs.Tryz Go Go.RowKit Go.Maps Go.WideMaps
variable {A:Option Addr}{G:Value->List (List Value)}{I L bb cap g m q r rb size:Nat}{K:Act->World->Prop}{Q:Exit->Act->World->Prop}{R:List (List Nat)}{S S':Nat->Prop}{a:Act}{e st t:TypeId}{es:List MapEntry}{f:Value->Option Value}{h v x:Value}{l:Lit}{o:Oper}{w w':World}{α:Type}
section
abbrev JH(n:Nat):List Value:=[.int .i32 (n:Int)]
theorem zbu(r:List Nat):r.flatMap JH=zX r:=by
 induction r with
 |nil=>rfl
 |cons n r h=>rw[zps,h];rfl
theorem zft:qy prog 252 153 1 4:=qy.of (z:=.int .i32 0) underlying252 zo rfl zr
theorem ziK(m:Nat)(r:List Nat)(i:Nat)(h:i<r.length):qk m (r.take (i+1))=qk m (r.take i)++[if m.testBit i then r[i]else 0]:=by
 unfold qk;rw[zo4 h,List.mapIdx_append];have:(r.take i).length=i:=by rw[zpv];omega
 simp[this]
theorem zg3(h:Array Value)(w:World)(q:Nat)(r:Array Value)(N:h.getD 4 undef=.pointer (some ⟨q,0,none⟩))(O:w.heap[q]? = some (.cells r 155 (0,0)))(hi:(prog.info? 155).map (·.size)=some r.size):
 (results Tryz.f324 h).run prog w=.ok (.agg r) w:=by
 have I:h[4]?.getD undef=.pointer (some ⟨q,0,none⟩):=by simpa using N
 have L:=run_loadVar_row (P:=prog) w q 155 155 r (0,0) _ O underlying155 rfl hi;simp[results,results324,I,asAddr,L]
theorem To(w:World)(xb:Nat)(r:List Nat)(hr:Rw r)(hx:w.rangeAt xb 0 (zX r))(ao:xb<w.heap.size)(m:Nat)(hm:m<2 ^ 24):
 Calls prog 324 #[.int .u32 (m:Int),.pointer (some ⟨xb,0,none⟩)] w fun e q=>e=.returned (.agg (zX (qk m r)).toArray)/\Bl w q:=by
 have Hr:=zz hr.len;have aq:=zz (hr.mask m);have Hx:=zz (fun W (O:Bl w W)=>yo hx O ao);have Hm:=zz hm;have q:(zX (qk m r)).length=24:=by simp[Vw,hr.len]
 have ae:=zz (show(prog.info? 155).map (·.size)=some (zX (qk m r)).length by rw[q];exact yC);have Z:=zz q;obtain⟨W0,I,L⟩:=xj w 155 (zX (List.replicate 24 0)).toArray;have HX:=zz L;clear hr hx hm q L;go_enter func324,ntmps324;go_upto_region 1 with fail
 try rw[show(w.alloc (.cells #[.int .i32 0,.int .i32 0,.int .i32 0,.int .i32 0,.int .i32 0,.int .i32 0,.int .i32 0,.int .i32 0,.int .i32 0,.int .i32 0,.int .i32 0,.int .i32 0,.int .i32 0,.int .i32 0,.int .i32 0,.int .i32 0,.int .i32 0,.int .i32 0,.int .i32 0,.int .i32 0,.int .i32 0,.int .i32 0,.int .i32 0,.int .i32 0] 155))=W0 from I]
 clear I;go_wp2
 go_loopg[5,9] 24 (fun gk L I q=>∃(i:Nat) (A:Option Addr) (N:Nat) (ys:List Nat),i<=24/\gk=24-i/\I=.int .i64 (i:Int)/\L=.slice A i N/\ys.length=i/\ys=qk m (r.take i)/\Own JH 153 1 q A N ys/\(∀g∈zw A,W0.heap.size<=g)/\Bl W0 q)
 case atStart=>exact⟨0,none,0,[],zo5 _,rfl,rfl,rfl,rfl,rfl,Own.qC _,by simp[zw],Below.refl _ _⟩
 case round=>
  obtain⟨i,A,N,ys,hi,rfl,rfl,rfl,I,q,R,hg,U⟩:=hrel;have L:=zz I;have ag:=zz q;have Ho:=zz R;have Hg:=zz hg;have HB:=zz U;clear I q R hg U
  by_cases ah:i<24
  ·have al:i<r.length:=by rw[Hr.o];exact ah
   have I:=zz (ziK m r i al);have H0:=zz (show ∀W,Bl wr W->W.cell? ⟨xb,i,none⟩=some (.int .i32 (r[i]:Int))from fun W O=>by
    have:=Hx.o W (zu HX.o.below (zu HB.o O)) i (.int .i32 (r[i]:Int)) (by simp[al])
    rwa [zpx]at this)
   generalize r[i]=u at I H0;have an:decide ((i:Int)<0)=false:=zp;have am:decide ((24:Int)<=(i:Int))=false:=zb;have ac:=TL i m ah Hm.o;have ad:=zz (show m.testBit i=false↔(((m &&& 2 ^ i:Nat):Int)==0)=true from by
    rw[<-and_zero];constructor
    ·intro h;rw[h];rfl
    ·intro h;have:=eq_of_beq h;omega)
   go_upto_region 4 with fail
   refine xX [0,0,0,0,0,0] (fun W=>Bl wr W) ?_
   repeat refine zT H0.o ?_
   refine xu ?_;have O:Bl wr wr.drew:=(Below.refl _ _).drew;have q:Own JH 153 1 wr.drew A N ys:=Ho.o.same fun _ _=>rfl
   generalize wr.drew=w1 at O q ⊢;have ab:=zz (zu HB.o O);have ak:=zz q;clear O q;have ap:i<=24:=hi
   by_cases q:m.testBit i=true
   ·rw[if_pos q]at I;have hz:(((m &&& 2 ^ i:Nat):Int)==0)=false:=by
     cases hq:(((m &&& 2 ^ i:Nat):Int)==0)with
     |false=>rfl
     |true=>rw[ad.o.2 hq]at q;cases q
    clear q
    go_wp2_with (at_builtin;refine ZG zft (f:=JH) (xs:=ys) (ak.o.alloc _) L.o u ?_)
    intro g R w5 O Y aa;have X:zh (·∈zw A) w1 w5:=((zh.refl _ w1).alloc _).trans Y (fun x hx _=>hx);have V:Bl W0 w5:=X.qq ab.o (zoZ _) Hg.o;have U:W0.heap.size<=g:=by
     rcases aa with h|h
     ·exact Hg.o g h
     ·have h4:=ab.o.size;try simp at h
      omega
    have af:=zz O;have aj:=zz V;have ai:=zz U;clear O Y aa X V U hz ac an am;go_wp2
    go_roundg (24-(i+1))
    case measure=>omega
    case rel=>exact⟨i+1,some ⟨g,0,none⟩,R,ys++[u],zd,rfl,ze,rfl,by simp[L.o],by rw[I.o,ag.o],af.o,xW ai.o,aj.o⟩
   ·rw[if_neg q]at I;have hz:(((m &&& 2 ^ i:Nat):Int)==0)=true:=ad.o.1 (by simpa using q);clear q
    go_wp2_with (at_builtin;refine ZG zft (f:=JH) (xs:=ys) (ak.o.alloc _) L.o 0 ?_)
    intro g R w5 O Y aa;have X:zh (·∈zw A) w1 w5:=((zh.refl _ w1).alloc _).trans Y (fun x hx _=>hx);have V:Bl W0 w5:=X.qq ab.o (zoZ _) Hg.o;have U:W0.heap.size<=g:=by
     rcases aa with h|h
     ·exact Hg.o g h
     ·have h4:=ab.o.size;try simp at h
      omega
    have af:=zz O;have aj:=zz V;have ai:=zz U;clear O Y aa X V U hz ac an am;go_wp2
    go_roundg (24-(i+1))
    case measure=>omega
    case rel=>exact⟨i+1,some ⟨g,0,none⟩,R,ys++[0],zd,rfl,ze,rfl,by simp[L.o],by rw[I.o,ag.o],af.o,xW ai.o,aj.o⟩
  ·obtain rfl:i=24:=zd;have q:ys=qk m r:=by rw[ag.o,zpm (by rw[Hr.o];omega)]
   obtain⟨g,rfl⟩:∃g,A=some ⟨g,0,none⟩:=by
    rcases Ho.o.form with⟨_,_,rfl⟩ |⟨g,hg,_⟩
    ·have:=L.o;simp at this
    ·exact⟨g,hg⟩
   have V:24<=N:=by
    rcases Ho.o.form with⟨h,_⟩ |⟨I,_,_,h,_⟩
    ·cases h
    ·rw[L.o]at h;exact h
   have O:wr.rangeAt g 0 (zX (qk m r)):=by
    obtain⟨b,o,R,_,I⟩:=Ho.o.xI (by rw[zbu,q];intro e;have:=congrArg List.length e;simp[Z.o]at this)
    cases R
    rw[zbu,q]at I;exact I
   have U:=zz (HX.o.b0.below HB.o);have X:∀W,(Instr.arrayAt 155 (.slice (some ⟨g,0,none⟩) 24 N)).run prog W=.ok (.pointer (some ⟨g,0,none⟩)) W:=fun W=>by
    simp[Instr.arrayAt,run_underlying underlying155,Result.andThen]
   clear ah hi q
   go_wp2_with (first
    |(refine xV 155 _ rfl ?_;refine yZ zj 155 _ rfl g 0 rfl (zX (qk m r)) _ O underlying155 rfl ae.o ?_)
    |(refine xy 155 _ _ rfl ?_;refine Xu zj 155 _ _ rfl w.heap.size 0 _ _ U.o (zX (qk m r)) rfl rfl (by simp[Z.o]) ae.o (XT _) ?_;intro Y q;have I:=zz q;clear q))
   have R:zD Y w.heap.size 155 (zX (qk m r)).toArray:=by
    have:=I.o.zG;rw[Z.o]at this;simpa using this
   refine bodyPost_ret (v:=.agg (zX (qk m r)).toArray) (zg3 _ Y w.heap.size _ rfl R (by simpa using ae.o)) rfl ?_;exact⟨rfl,I.o.below (zu HX.o.below HB.o) (zoZ _) (zoZ _)⟩
end
section
open Go Go.RowKit Go.Maps Go.ChangeMaps
section
variable {P:Program}{k t e:TypeId}{w:World}{b:Nat}{f:Value->Option Value}
def VB(P:Program)(k:TypeId)(w:World)(b:Nat)(f:Value->Option Value)(x:Value)(q:Nat):Prop:=
 ∃r h,w.heap[b]? = some (.map r h)/\Yj P k r.toList f/\MapKept.Stamped r h/\∃(j:Nat) (I:MapEntry),r[j]? = some I/\I.key=x/\I.born=q
theorem VB.map(h:VB P k w b f x r):xv P k w b f:=by
 obtain⟨N,q,L,I,O,_⟩:=h;exact⟨N,q,L,I,O⟩
theorem VB.same(h:VB P k w b f x q)(O:w'.heap[b]? = w.heap[b]?):VB P k w' b f x q:=by
 obtain⟨N,r,L,I⟩:=h;exact⟨N,r,O.trans L,I⟩
theorem Yj.GC(h:Yj P k es f)(O:keyOf P k x=some l)(r:∀e∈es,e.key≠x)(c:Nat):Yj P k (es++[⟨x,v,c⟩]) (yg f x v):=by
 refine⟨fun e q=>?_,?_,fun e q=>?_,fun y u I=>?_⟩
 ·rcases zo7.1 q with q|q
  ·exact h.keys e q
  ·obtain rfl:=zo2.1 q;exact⟨l,O⟩
 ·exact List.pairwise_append.2 ⟨h.apart,List.pairwise_singleton _ _,fun a L c N=>by obtain rfl:=zo2.1 N;exact r a L⟩
 ·rcases zo7.1 q with q|q
  ·rw[XG (r e q)];exact h.has e q
  ·obtain rfl:=zo2.1 q;exact Yi _ _ _
 ·by_cases e1:y=x
  ·exact⟨_,zpk _ (zo2.2 rfl),e1.symm⟩
  ·rw[XG e1]at I;obtain⟨e,q,L⟩:=h.only y u I;exact⟨e,zpu _ q,L⟩
theorem Yj.qE(U:Yj P k es f){j:Nat}{I:MapEntry}(hj:es[j]? = some I)(v:Value):Yj P k (es.set j { I with val:=v }) (yg f I.key v):=by
 have q:=(zpB.1 hj).1;obtain⟨i0,r⟩:=zpB.1 hj;have L:∀a∈es.set j { I with val:=v },(a.key=I.key/\a.val=v)\/(a∈es/\a.key≠I.key):=fun a Z=>by
  obtain⟨i,Y,rfl⟩:=zpl.1 Z;rw[zqW];split
  ·exact .inl ⟨rfl,rfl⟩
  ·rename_i R;rw[zpG]at Y;refine .inr ⟨zo3 _,fun N=>?_⟩
   rcases Nat.lt_or_gt_of_ne R with V|V
   ·exact zpH.1 U.apart j i q Y V (by rw[r,N])
   ·exact zpH.1 U.apart i j Y q V (by rw[r,N])
 obtain⟨l,hl⟩:=U.keys I (zp8 hj);refine⟨fun e N=>?_,?_,fun e N=>?_,fun y u hy=>?_⟩
 ·rcases L e N with⟨h,_⟩ |⟨h,_⟩
  ·exact⟨l,by rw[h];exact hl⟩
  ·exact U.keys e h
 ·rw[zpH];intro a c Z V O;rw[zqW,zqW];rw[zpG]at Z V;have hp:=zpH.1 U.apart;split<;>split
  ·omega
  ·rename_i X W;subst X;have:=hp j c q V O;rw[r]at this;exact this
  ·rename_i X W;subst W;have:=hp a j Z q O;rw[r]at this;exact this
  ·exact hp a c Z V O
 ·rcases L e N with⟨X,W⟩ |⟨X,W⟩
  ·rw[X,Yi,W]
  ·rw[XG W];exact U.has e X
 ·by_cases e1:y=I.key
  ·exact⟨{ I with val:=v },zpl.2 ⟨j,by simpa using q,zp⟩,e1.symm⟩
  ·rw[XG e1]at hy;obtain⟨e,N,O⟩:=U.only y u hy;obtain⟨i,Y,rfl⟩:=zpl.1 N;have R:j≠i:=by rintro rfl;exact e1 (by rw[<-O,r])
   exact⟨es[i],zpl.2 ⟨i,by simpa using Y,by rw[zqK R]⟩,O⟩
theorem zbn{f:Value->Option Value}(h:f x=some v):yg f x v=f:=by
 funext y
 by_cases q:y=x
 ·rw[q,Yi,h]
 ·rw[XG q]
theorem xv.entry(h:xv P k w b f)(K:Keyed P k)(ht:P.underlying t=some (.map k e)){z:Value}(hz:∀W,(zeroValue e).run P W=.ok z W)(V:keyOf P k x=some l):
 ∃(r:Nat) (q:World),(Instr.mapEntry t (.map (some b)) x).run P w=.ok (.tuple #[(f x).getD z,goInt r]) q/\VB P k q b (yg f x ((f x).getD z)) x r/\w.mapTurned q b:=by
 obtain⟨L,q,I,hm,U⟩:=h
 rcases hm.find K w V with⟨h1,R,h3⟩ |⟨j,X,h1,hj,Z,R⟩
 ·refine⟨q,_,(by simp[Instr.mapEntry,run_underlying ht,MapKept.run_getObj_map I,K.check w false V,h1,hz,MapKept.run_setObj_map _ I,Result.andThen,R];rfl),⟨L.push ⟨x,z,q⟩,q+1,heap_setBlock_same I _,?_,MapKept.stamped_push U h3,L.size,⟨x,z,q⟩,zp,rfl,rfl⟩,⟨L,q,_,_,I,rfl⟩⟩;rw[Array.toList_push,R];exact hm.GC V h3 q
 ·have N:L[j]? = some X:=by simpa using hj
  have O:(L.modify j fun e=>{ e with key:=x })=L:=by
   apply Array.ext_getElem?;intro i;rw[Array.getElem?_modify];split
   ·rename_i Y;subst Y;rw[N];simp[<-Z]
   ·rfl
  refine⟨X.born,_,(by simp[Instr.mapEntry,run_underlying ht,MapKept.run_getObj_map I,K.check w false V,h1,MapKept.run_setObj_map _ I,Result.andThen,N,Z,K.stays w V,R,O];rfl),⟨L,q,heap_setBlock_same I _,?_,U,j,X,N,Z,rfl⟩,⟨L,q,_,_,I,rfl⟩⟩;rw[R,zpT,zbn R];exact hm
theorem VB.store(h:VB P k w b f x q)(v:Value):∃r,(Instr.entryStore t (.map (some b)) (goInt q) v).run P w=.ok () r/\xv P k r b (yg f x v)/\w.mapTurned r b:=by
 obtain⟨L,r,X,hm,V,j,N,R,rfl,rfl⟩:=h;have I:=(zpb.1 R).1;have W:L.toList[j]? = some N:=by simpa using R
 have O:L.findIdx? (fun e=>(e.born:Int)==(N.born:Int))=some j:=by
  rw[Array.findIdx?_eq_some_iff_getElem];refine⟨I,?_,fun i hi=>?_⟩
  ·have:L[j]=N:=by rw[zqA I]at R;injection R
   rw[this];simp
  ·have Z:=(MapKept.stamped_iff L r).1 V |>.2.1
   have Y:L[j]=N:=by rw[zqA I]at R;injection R
   have h1:i<L.size:=Nat.lt_trans hi I;intro U;have U:(L[i].born:Int)=(N.born:Int):=by simpa using U
   have U:L[i].born=N.born:=Int.ofNat.inj U;exact zpH.1 Z i j (by simpa using h1) (by simpa using I) hi (by simp[U,Y])
 refine⟨_,(by simp[Instr.entryStore,MapKept.run_getObj_map X,O,asInt,asIntOf,goInt,MapKept.run_setObj_map _ X,Result.andThen];rfl),⟨L.modify j fun e=>{ e with val:=v },r,heap_setBlock_same X _,?_,MapKept.stamped_modify V j _ (fun _ _=>rfl) (fun _ _ _=>rfl)⟩,⟨L,r,_,_,X,rfl⟩⟩;have Y:(L.modify j fun e=>{ e with val:=v }).toList=L.toList.set j { N with val:=v }:=by
  rw[Array.toList_modify];apply List.ext_getElem?;intro i;rw[List.getElem?_modify,List.getElem?_set]
  by_cases U:j=i
  ·subst U;rw[W];simp[I]
  ·simp[U]
 rw[Y];exact hm.qE W v
theorem znL{w:World}(h:Xc P k st size w b f G)(I:xv P k w' b f)(L:w.mapTurned w' b):Xc P k st size w' b f G:=
 ⟨I,h.none_,fun x v q=>⟨Jb (h.some_ x v q).1 fun g r=>L.grown.block g (World.ownsRow.lt (h.some_ x v q).1 g r).2 (by
  rintro e;obtain rfl:=zqn e;exact TS h.map (h.some_ x v q).1 r),(h.some_ x v q).2⟩,h.apart⟩
theorem Xc.entry{el:TypeId}(h:Xc P k el size w b f G)(K:Keyed P k)(ht:P.underlying t=some (.map k st))(hz:∀W,(zeroValue st).run P W=.ok (.slice none 0 0) W)(hx:keyOf P k x=some l):
 ∃(L:Nat) (R:World) (A:Option Addr) (O:Nat) (q:Value->Option Value),(Instr.mapEntry t (.map (some b)) x).run P w=.ok (.tuple #[.slice A (G x).length O,goInt L]) R/\q x=some (.slice A (G x).length O)/\Xc P k el size R b q G/\VB P k R b q x L/\(∀g,xZ b q g->xZ b f g)/\zh (xZ b f) w R:=by
 obtain⟨L,R,hr,X,hm⟩:=h.map.entry K ht hz hx;obtain⟨A,O,I,xT⟩:=h.VT x;rw[I]at hr X;have hC:zh (xZ b f) w R:=(zh.refl _ w).yi hm fun _=>.inl rfl
 rcases hf:f x with _|v
 ·rw[hf,Option.getD_none]at I;injection I with e1 e2 e3
  subst e1 e3;have N:∀y v,yg f x (.slice none (G x).length 0) y=some v->y≠x->f y=some v:=fun y v q r=>by rwa [XG r]at q
  refine⟨L,R,none,0,_,hr,Yi _ _ _,⟨X.map,fun y q=>?_,fun y v q=>?_,fun y y' u v g q Y U hv=>?_⟩,X,?_,hC⟩
  ·by_cases r:y=x
   ·subst r;rw[Yi]at q;cases q
   ·rw[XG r]at q;exact h.none_ y q
  ·by_cases r:y=x
   ·subst r;rw[Yi]at q;injection q with q
    subst q;refine⟨Jb xT (fun g V=>by cases V),none,0,rfl⟩
   ·have q:=N y v q r;have Z:=h.some_ y v q;refine⟨Jb Z.1 fun g V=>hm.grown.block g (World.ownsRow.lt Z.1 g V).2 (by
     rintro e;obtain rfl:=zqn e;exact TS h.map Z.1 V),Z.2⟩
  ·have Z:∀y u,yg f x (.slice none (G x).length 0) y=some u->u.ownBlock=some g->y≠x:=fun y u q U r=>by
    subst r;rw[Yi]at q;injection q with q
    subst q
    cases U
   exact h.apart y y' u v g (N y u q (Z y u q U)) (N y' v Y (Z y' v Y hv)) U hv
  ·rintro g (rfl |⟨y,u,q,U⟩)
   ·exact .inl rfl
   ·refine .inr ⟨y,u,N y u q fun r=>?_,U⟩;subst r;rw[Yi]at q;injection q with q
    subst q
    cases U
 ·rw[hf,zpT]at I;subst I;have e:=zbn hf;rw[e]at X;exact⟨L,R,A,O,f,hr,hf,znL h X.map hm,X,fun _ V=>V,hC⟩
theorem zct(m x:Operand)(q:o.op=.mapEntry t m x)(r:a.eval m=.map (some b))(N:a.eval x=h)(I:(Instr.mapEntry t (.map (some b)) h).run P w=.ok v w')(L:K (a.put o.dst v) w'):o.wp P a w K Q:=by
 unfold Oper.wp;simp[execOp,q,r,N,I,Result.andThen];exact L
theorem zbO(m s x:Operand)(h:o.op=.entryStore t m s x){q:Value}(r:a.eval m=.map (some b))(N:a.eval s=q)(O:a.eval x=v)(I:(Instr.entryStore t (.map (some b)) q v).run P w=.ok () w')(L:K (a.put o.dst undef) w'):o.wp P a w K Q:=by
 unfold Oper.wp;simp[execOp,h,r,N,O,I,Result.andThen];exact L
theorem zep(s y:Operand)(q:o.op=.call { callee:=.builtin .append,args:=#[s,y],argTypes:=#[t,t]}){u:Value}(L:a.eval s=v)(hy:a.eval y=u)(r:(Builtin.append_ #[t,t] o.type #[v,u]).run P w=.ok h w')(I:K (a.put o.dst h) w'):o.wp P a w K Q:=by
 unfold Oper.wp execOp;simp only[q,resolve,invoke,builtin,Sem.run_bind,Sem.run_pure,Result.andThen_ok,zqh,zpM,zqG,L,hy,r];exact I
theorem Xc.kind{I:TypeId}(h:Xc P k I size w b f G)(R:xZ b f g):g=b\/∃q,w.heap[g]? = some (.cells q I (0,0)):=by
 rcases R with rfl |⟨x,v,L,r⟩
 ·exact .inl rfl
 ·rcases(h.some_ x v L).1.2 with⟨rfl,_⟩ |⟨U,O,q,rfl,_,N,_⟩
  ·cases r
  ·simp only[Value.ownBlock,zpV]at r;subst r;exact .inr ⟨q,N⟩
end
end
section
section
variable {P:Program}{ops:Array Oper}{rest:List Oper}{o:Oper}{a:Act}{w:World}{Q:Exit->Act->World->Prop}{n:Nat}{F:Fence}
theorem J3(q:TypeId)(x y:Operand)(_:o.op=.store q x y)(h:wpListIn F n P ops Q (o::rest) a w):wpListIn F n P ops Q (o::rest) a w:=h
theorem zdi(q:TypeId)(x:Operand)(_:o.op=.load q x)(h:wpListIn F n P ops Q (o::rest) a w):wpListIn F n P ops Q (o::rest) a w:=h
theorem TN(hF:{ Fence.wide with round:=F.round }=F)(hw:Region.wanted o (yielded ops a.tmps)=true)(q:∀c,o.op≠.defer c)(h:∀K:Act->World->Prop,(∀a w,wpListIn F n P ops Q rest a w->K a w)->o.wp P a w K Q):wpListIn F n P ops Q (o::rest) a w:=
 wpListIn_step fun K r=>by
  rw[if_pos hw];have:=zez (ro:=F.round) (n:=n) q (h K r);rw[hF]at this;exact this
theorem zcz(hF:{ Fence.wide with round:=F.round }=F)(hw:Region.wanted o (yielded ops a.tmps)=true)(r:TypeId)(x:Operand)(L:o.op=.load r x)(b I:Nat)(V:a.eval x=.pointer (some ⟨b,I,none⟩))(q:List Value)(d:TypeDesc)(U:w.rangeAt b I q)(R:P.underlying r=some d)(N:d.isRow=true)(hi:(P.info? r).map (·.size)=some q.length)(h:wpListIn F n P ops Q rest (a.put o.dst (.agg q.toArray)) w):wpListIn F n P ops Q (o::rest) a w:=
 TN hF hw (fun c e=>by rw[L]at e;cases e) fun _ O=>wp_load_mid r x L b I V q d U R N hi (O _ _ h)
theorem zhG(hF:{ Fence.wide with round:=F.round }=F)(hw:Region.wanted o (yielded ops a.tmps)=true)(r:TypeId)(x y:Operand)(I:o.op=.store r x y)(g a0:Nat)(t:TypeId)(q:Array Value)(N:zD w g t q)(vs:List Value)(V:a.eval x=.pointer (some ⟨g,a0,none⟩))(hy:a.eval y=.agg vs.toArray)(U:a0+vs.length<=q.size)(hi:(P.info? r).map (·.size)=some vs.length)(R:∀v∈vs,v.oneCell'=true)(h:∀W,XK w g t (q.toList.take a0++vs++q.toList.drop (a0+vs.length)).toArray W->wpListIn F n P ops Q rest (a.put o.dst undef) W):wpListIn F n P ops Q (o::rest) a w:=
 TN hF hw (fun c e=>by rw[I]at e;cases e) fun _ O=>Xi r x y I g a0 t q N vs V hy U hi R fun W L=>O _ _ (h W L)
theorem zaG(hF:{ Fence.wide with round:=F.round }=F){q:World}(hw:Region.wanted o (yielded ops a.tmps)=true)(r:TypeId)(x y:Operand)(X:o.op=.store r x y)(L:Array Value)(I:List Value)(Y:a.eval x=.pointer (some ⟨q.heap.size,0,none⟩))(hy:a.eval y=.agg I.toArray)(V:L.size=I.length)(hi:(P.info? r).map (·.size)=some I.length)(U:∀v∈I,v.oneCell'=true)(h:∀W,Dd q r I.toArray W->wpListIn F n P ops Q rest (a.put o.dst undef) W):wpListIn F n P ops Q (o::rest) a (q.alloc (.cells L r)):=by
 have R:zD (q.alloc (.cells L r)) q.heap.size r L:=zD.new q _ _;refine zhG hF hw r x y X q.heap.size 0 r L R I Y hy zd hi U fun W N=>h W ?_
 have O:=N.zG;have e:L.toList.drop (0+I.length)=[]:=List.drop_eq_nil_of_le (by simp[V]);rw[e,zpr,zpa,zpw]at O;exact⟨N.below (xo q _) (zoZ _) (zoZ _),by rw[N.size];simp,O⟩
theorem zli(w:World)(L r:Array Value)(t:TypeId):(w.alloc (.cells L t)).setRow w.heap.size r=w.alloc (.cells r t):=by
 unfold World.setRow World.alloc
 congr 1
 apply Array.ext_getElem?;intro i;rw[Array.getElem?_modify]
 by_cases h:w.heap.size=i
 ·subst h;simp
 ·rw[if_neg h]
  by_cases I:i<w.heap.size
  ·simp[Array.getElem?_push_lt I,Array.getElem?_push,h,Ne.symm h]
  ·have q:w.heap.size+1<=i:=zd;rw[zqL (by simpa using q),zqL (by simpa using q)]
theorem zkB{I:World}(q:TypeId)(x y:Operand)(N:o.op=.store q x y)(L r:Array Value)(R:a.eval x=.pointer (some ⟨I.heap.size,0,none⟩))(hy:a.eval y=.agg r)(U:L.size=r.size)(hi:(P.info? q).map (·.size)=some r.size)(O:r.all (·.oneCell')=true)(h:K (a.put o.dst undef) (I.alloc (.cells r q))):o.wp P a (I.alloc (.cells L q)) K Q:=by
 unfold Oper.wp execOp;simp only[N,R,hy,Instr.storeAt,Instr.sureAddr,Sem.run_bind,Sem.run_pure,Result.andThen_ok,run_storeVar_row (I.alloc (.cells L q)) I.heap.size q q L r (heap_alloc_new I _) hi U O,zli];exact h
theorem zfx(hF:{ Fence.wide with round:=F.round }=F){I:World}(hw:Region.wanted o (yielded ops a.tmps)=true)(r:TypeId)(x y:Operand)(N:o.op=.store r x y)(L q:Array Value)(U:a.eval x=.pointer (some ⟨I.heap.size,0,none⟩))(hy:a.eval y=.agg q)(V:L.size=q.size)(hi:(P.info? r).map (·.size)=some q.size)(R:q.all (·.oneCell')=true)(h:wpListIn F n P ops Q rest (a.put o.dst undef) (I.alloc (.cells q r))):wpListIn F n P ops Q (o::rest) a (I.alloc (.cells L r)):=
 TN hF hw (fun c e=>by rw[N]at e;cases e) fun _ O=>zkB r x y N L q U hy V hi R (O _ _ h)
end
end
section
def JA(r:List Nat):List Nat:=(r++List.replicate 24 0).take 24
theorem zlt{r:List Nat}(h:r.length=24):JA r=r:=by
 unfold JA;rw[zp3 zd,zpm zd]
theorem ziL(r:List Nat):(JA r).length=24:=by unfold JA;simp
def VM(r:List Nat):List Value:=zX (JA r)
theorem zaJ(r:List Nat):(VM r).length=24:=by unfold VM;simp[ziL]
theorem GL{r:List Nat}(h:r.length=24):VM r=zX r:=by unfold VM;rw[zlt h]
theorem GZ:∀{q:List (List Nat)},(∀r∈q,r.length=24)->q.flatMap VM=q.flatMap zX
 |[],_=>rfl
 |x::q,h=>by rw[zps,zps,GL (h x zpi),GZ fun r I=>h r (zpj _ I)]
theorem zY.drop{f:α->List Value}{xs:List α}(N:∀x∈xs,(f x).length=size)(r:g<w.heap.size)(h:w.rangeAt g 0 (xs.flatMap f))(k:Nat)(I:k<=xs.length):zY f w (some ⟨g,k*size,none⟩) (xs.drop k):=by
 intro _;refine⟨g,k*size,rfl,r,?_⟩;have R:xs.flatMap f=(xs.take k).flatMap f++(xs.drop k).flatMap f:=by rw[<-zpq,zpL]
 have O:∀l:List α,(∀x∈l,(f x).length=size)->(l.flatMap f).length=l.length*size:=fun l=>by
  induction l with
  |nil=>intro _;simp
  |cons a l L=>intro h;rw[zps,zo1,h a zpi,L fun x q=>h x (zpj _ q),zpn,zqS,Nat.add_comm]
 have L:((xs.take k).flatMap f).length=k*size:=by
  rw[O _ fun x q=>N x (zqr q),zpv,Nat.min_eq_left I]
 intro j v q;have:=h (k*size+j) v (by rw[R,zpS zd,L,zqE];exact q);rw[zpx]at this;exact this
theorem zgc(w:World)(A:Option Addr)(cap n:Nat)(xs:List (List Nat))(L:∀r∈xs,r.length=24)(Y:xs.length=n)(X:zY zX w A xs)(R:n<=4194304):Calls prog 127 #[.slice A n cap] w (Xo zX 155 24 xs w):=by
 have q:zY VM w A xs:=by unfold zY;rw[GZ L];exact X
 refine(Ux Tryz.zlJ TI rfl (fun w=>sizeOf155 w) zaJ (fun r=>XT _) w A cap n xs Y q R zr).mono ?_;rintro e Z⟨W,h,N,V,O,I,U⟩;refine⟨W,h,N,V,O,?_,U⟩;unfold Own at I ⊢;rw[GZ L]at I;exact I
def XO(t:TypeId)(W r:World):Prop:=∀(k:Nat)(h:Array Value)(q:Nat×Nat),W.heap[k]? = some (Obj.cells h t q)->r.heap[k]? = some (Obj.cells h t q)
theorem XO.trans{X Y Z:World}(h:XO t X Y)(k:XO t Y Z):XO t X Z:=fun b q r I=>k b q r (h b q r I)
theorem XO.alloc(W:World)(o:Obj):XO t W (W.alloc o):=fun k q r h=>(Below.heap_alloc W o k (zpb.1 h).1).trans h
theorem XO.put(W:World)(l:Nat)(o o':Obj)(h:W.heap[l]? = some o)(r:o.isCells=false):XO t W (W.putObj l o'):=fun k I L q=>by
 have:k≠l:=by rintro rfl;rw[h]at q;injection q with q;subst q;cases r
 exact(World.putObj_heap_other this).trans q
theorem zD.T1{q:Array Value}(h:zD w g t q)(r:XO t w w'):zD w' g t q:=r _ _ _ h
theorem Own.T1{f:α->List Value}{xs:List α}(h:Own f e size w A cap xs)(I:XO e w w'):Own f e size w' A cap xs:=by
 rcases h.form with⟨rfl,rfl,rfl⟩ |⟨g,rfl,N,_⟩
 ·exact Own.qC _
 ·obtain⟨r,q,_⟩:=h.whole;exact h.same fun x L=>by
   obtain rfl:x=g:=by simpa[zw]using L
   exact(q.T1 I).trans q.symm
theorem zgK{P:Program}(I:P.underlying t=some (.slice e))(L:∀W,(Go.sizeOf e).run P W=.ok size W)(g l h cap n:Nat)(r:l<h)(q:h<=cap)(W:World):
 (Instr.slice t (.slice (some ⟨g,0,none⟩) n cap) (some (.int .i64 (l:Int))) (some (.int .i64 (h:Int))) none).run P W=.ok (.slice (some ⟨g,l*size,none⟩) (h-l) (cap-l)) W:=by
 have e3:cap≠l:=zd;simp[Instr.slice,run_underlying I,Instr.sliceBounds,Instr.sliceBound,asIntOf,L,Result.andThen,zqB r,q,e3,Addr.add_mid]
def Y1(R:List (List Nat))(i:Nat):List Value:=VM (R.getD i [])
theorem zcq(R:List (List Nat))(i:Nat):(Y1 R i).length=24:=zaJ _
theorem zbH(R:List (List Nat))(i:Nat):∀u∈Y1 R i,u.oneCell'=true:=XT _
def Gk(R:List (List Nat))(i:Nat):Array Value:=#[.int .i64 (i:Int),.agg (Y1 R i).toArray]
attribute [local go_sem] Oper.semAt_some
theorem zb6{k rx fx tx:Nat}{w0:World}{ar:Nat}(aT:1<=k)(h:Rel w0 rb ar R S)(lo:Nat)(ak:lo<=R.length)(af:R.length<=4194304)(k0:zD w0 rx 128 #[.pointer (some ⟨rb,0,none⟩)])(k1:zD w0 fx 3 #[.int .i64 (lo:Int)])(k2:zD w0 tx 3 #[.int .i64 (R.length:Int)]):
 UE bb Fence.wide k prog 126 #[.pointer (some ⟨rx,0,none⟩),.pointer (some ⟨fx,0,none⟩),.pointer (some ⟨tx,0,none⟩)] (Gk R) (XO 155) (fun N=>N=List.range' lo (R.length-lo)) (fun _=>True) (fun I=>∃j,I=List.range' lo j/\lo+j<=R.length) w0:=fun q J O W L U hY h0=>by
 have aF:=zz hY;have ae:=zz U;have H0:=zz h0;have ac:=zz (fun I (N:Bl W I)=>UD ((h.below L).below N));obtain⟨pb,mb,A,V,f,hR,-⟩:=h.below L;obtain⟨n,Y⟩:∃n,R.length=n:=⟨_,rfl⟩;have X:=zz Y;have O:Kz (∀r∈R,r.length=24):=fun r N=>(hR.ok r N).len
 have c0:=(k0.below L).cell 0;have c1:=(k1.below L).cell 0;have c2:=(k2.below L).cell 0;have r2:=hR.rel.cell 2;have p0:=hR.pl.cell 0;have Ho:=zz hR.own;rw[Y]at c2 p0 af ak ac;have Z:=zz af;have HI:Kz (∀I:World,(I.cell? ⟨fx,0,none⟩=some (.int .i64 (lo:Int))/\I.cell? ⟨tx,0,none⟩=some (.int .i64 (n:Int)))->(I.cell? ⟨fx,0,none⟩=some (.int .i64 (lo:Int))/\I.cell? ⟨tx,0,none⟩=some (.int .i64 (n:Int)))):=fun _ h=>h
 have HC:=zz (show W.cell? ⟨fx,0,none⟩=some (.int .i64 (lo:Int))/\W.cell? ⟨tx,0,none⟩=some (.int .i64 (n:Int))from⟨c1,c2⟩);clear hY U h0 L h hR Y k0 k1 k2 af;refine callsIn_of_wp func126 rfl trivial ?_ rfl;show Code.wpIn _ _ _ _ _ { tmps:=#[.func (.yield q) #[] #[],.pointer (some ⟨rx,0,none⟩),.pointer (some ⟨fx,0,none⟩),.pointer (some ⟨tx,0,none⟩)]++_,defers:=[]} _;simp only[ntmps126,zqk,zpn,zpF,Nat.reduceAdd,Nat.reduceSub,zqs,zqt,zqI,zqz,zpa,zpc]
 gi_upto_region 1 with(refine⟨trivial,?_⟩;gi_at_call 52;refine(callsIn_wide.2 (ac.o _ (Below.refl _ _))).mono ?_;rintro e w1⟨rfl,aB⟩;obtain rfl:=aB.symm)
 refine Ze [(0,0),(1,0),(2,0),(3,0),(4,0),(5,0),(6,0)] 9999 (fun I=>I.cell? ⟨fx,0,none⟩=some (.int .i64 (lo:Int))/\I.cell? ⟨tx,0,none⟩=some (.int .i64 (n:Int))) (fun _=>True) zo (zo) zo rfl zo ?s0 ?s1 ?_
 case s1=>trivial
 case s0=>exact HC.o
 simp only[xM,qa,qb,qc,qd,qe,qf];try refine zQ ?_
 repeat refine zT HI.o ?_
 refine YG ?_;try simp only[Act.put]
 have U:zh (·=bb) W W.drew:=(zh.refl _ W).drew;have I:=ae.o [] W _ H0.o U;have al:W.drew.cell? ⟨rx,0,none⟩=some (.pointer (some ⟨rb,0,none⟩)):=c0;have au:W.drew.cell? ⟨rb,2,none⟩=some (.pointer (some ⟨pb,0,none⟩)):=r2;have ai:W.drew.cell? ⟨pb,0,none⟩=some (.slice A n V):=p0;have L:Own zX 155 24 W.drew A V R:=Ho.o.same fun _ _=>rfl
 clear c0 r2 p0 c1 c2 U;generalize W.drew=W1 at I al au ai L ⊢;have ah:=zz I;have HO:=zz L;clear I L
 by_cases aA:n<=lo
 ·have aI:decide ((lo:Int) ≥ (n:Int))=true:=zb;have I:R.length-lo=0:=by rw[X.o];omega
  have L:=zz I;clear I
  gi_wp2
  refine bodyPost_ret (results_none rfl _ _ _) rfl ?_;exact⟨⟨_,rfl⟩,.inl ⟨[],by rw[L.o];rfl,ah.o⟩⟩
 ·have aI:decide ((lo:Int) ≥ (n:Int))=false:=zb;have I:lo<n:=zd;obtain⟨g,rfl⟩:∃g,A=some ⟨g,0,none⟩:=by
   rcases HO.o.form with⟨_,_,rfl⟩ |⟨g,L,_⟩
   ·have:=X.o;simp at this;omega
   ·exact⟨g,L⟩
  have U:n<=V:=by
   rcases HO.o.form with⟨h,_⟩ |⟨L,_,_,h,_⟩
   ·cases h
   ·rw[X.o]at h;exact h
  have aP:=fun W=>zgK (P:=prog) underlying211 (fun W=>sizeOf155 W) g lo n V n I U W
  have L:zY zX W1 (some ⟨g,lo*24,none⟩) (R.drop lo):=zY.drop (fun r N=>by simp[O.o r N]) HO.o.YR (by
   obtain⟨b,o,Y,_,N⟩:=HO.o.xI (by
    intro e;have h1:=UI (f:=VM) zaJ R;rw[GZ O.o,e,zpF]at h1;have:=X.o;omega)
   cases Y
   exact N) lo (by rw[X.o];omega)
  have aJ:=zz (zgc W1 (some ⟨g,lo*24,none⟩) (V-lo) (n-lo) (R.drop lo) (fun r N=>O.o r (List.mem_of_mem_drop N)) (by rw[zp7,X.o]) L (by have:=Z.o;omega));have aM:=zz I;clear U L ak I
  gi_wp2_with (refine⟨trivial,?_⟩;gi_at_call 127;refine(callsIn_wide.2 aJ.o).mono ?_;rintro e w2⟨A2,ax,n2,rfl,ay,ao,am,aw⟩;have aG:=zz am;have aD:=zz ao;have aq:=zz ay;have aQ:=zz aw;clear am ao ay aw al au ai)
  clear aA;have aC:Kz (∀r∈R,(prog.info? 155).map (·.size)=some (zX r).length):=fun r N=>by rw[zph,O.o r N];exact yC
  have aE:=zz (ae.o [] W1 w2 ah.o (zh.xi _ aG.o));have U:=zz (show n2=n-lo by rw[<-aq.o,zp7,X.o])
  gi_loopw [32] (fun L wr=>∃i:Nat,L=.int .i64 (i:Int)/\i<=n2/\Own zX 155 24 wr A2 ax (R.drop lo)/\J (List.range' lo i) wr) (fun L _=>n2+2-Dx L)
  case atStart=>exact⟨0,rfl,zo5 _,aD.o,aE.o⟩
  case round=>
   obtain⟨i,rfl,hi,Y,L⟩:=hrel;have HOr:=zz Y;have an:=zz L;clear Y L
   by_cases I:i<n2
   ·have ag:i<(R.drop lo).length:=by rw[aq.o];exact I
    have aj:decide ((i:Int)<(n2:Int))=true:=zb;obtain⟨b,o,rfl,aO,N⟩:=zY.at_mem (c:=23) (fun r N=>by simp[O.o r (List.mem_of_mem_drop N)]) HOr.o.xI i ag;have L:=List.mem_of_mem_drop (zo3 ag);have ab:(R.drop lo)[i]=R.getD (lo+i) []:=by
     rw[getD_at _ (by have:=X.o;have:=U.o;omega),List.getElem_drop]
    have ad:=zz (show Gk R (lo+i)=#[.int .i64 ((lo+i:Nat):Int),.agg (zX (R.drop lo)[i]).toArray]from by unfold Gk Y1;rw[<-ab,GL (O.o _ L)]);generalize(R.drop lo)[i]=r at N L ad;have Y:=aC.o r L;have aa:(zX r).length=24:=by rw[zph,O.o r L]
    have av:=zz aa
    replace N:wr.rangeAt b (o+i*24) (zX r):=N
    clear ab ag aa L
    gi_upto_region 6 with(first
     |(refine zdi 155 _ rfl ?_;refine zcz rfl zj 155 _ rfl b (o+i*24) rfl (zX r) _ N underlying155 rfl Y ?_)
     |(refine J3 155 _ _ rfl ?_;refine zaG rfl zj 155 _ _ rfl _ (zX r) rfl rfl (by simp[av.o]) Y (XT r) ?_;intro W9 ab;have aa:=zz ab;clear ab N))
    have Hi:=zz I;have hx:=zz (aF.o (List.range' lo i) (lo+i) W9 (ae.o _ _ _ an.o (zh.xi _ aa.o.below)) ⟨i+1,(List.range'_1_concat ..).symm,by rw[X.o];have:=U.o;have:=aM.o;omega⟩);have L:=hx.o;rw[ad.o]at L;obtain⟨fn,ap,az,aN,hy,hR⟩:=L;rw[show(((lo+i:Nat):Int))=(lo:Int)+(i:Int) from zd]at hy;have L:W9.rangeAt wr.heap.size 0 (zX r):=by
     intro j v hv;rw[zpx,aa.o.b0.cell];simpa using hv
    have aR:=IntWalk.i64_in ((lo:Int)+(i:Int)) ⟨by have:=U.o;have:=Z.o;omega,by have:=U.o;have:=Z.o;omega⟩
    gi_upto_region 7 with(refine zdi 155 _ rfl ?_;refine zcz rfl zj 155 _ rfl wr.heap.size 0 rfl (zX r) _ L underlying155 rfl Y ?_)
    refine hR.mono ?_;have aH:=zz (show List.range' lo i++[lo+i]=List.range' lo (i+1)from(List.range'_1_concat ..).symm);clear hy L Y hx aj I;rintro e W3 (⟨rfl,ag,Y⟩ |⟨rfl,L⟩)
    ·have aK:=zz ag;have aL:=zz ((HOr.o.below aa.o.below).T1 Y);clear ag Y;have aS:i<4194304:=by have:=Hi.o;have:=U.o;have:=Z.o;omega
     gi_wp2
     go_roundw
     case rel=>exact⟨i+1,ze,(by have:=Hi.o;omega),aL.o,by rw[<-aH.o];exact aK.o⟩
     case measure=>rw[G5,G5];have:=Hi.o;omega
    ·gi_wp2
     refine bodyPost_ret (results_none rfl _ _ _) rfl ?_;exact⟨⟨_,rfl⟩,.inr ⟨_,trivial,L⟩⟩
   ·obtain rfl:i=n2:=zd;have aj:decide ((i:Int)<(i:Int))=false:=zp;clear I hi
    gi_wp2
    go_end0;exact⟨⟨_,rfl⟩,.inl ⟨_,rfl,by rw[X.o,<-U.o];exact an.o⟩⟩
structure yQ where
 xb:Nat
 kb:Nat
 f:Value->Option Value
 seen:Nat
noncomputable def YQ(R:List (List Nat))(seen m:Nat)(h:Value):List (List Value):=((List.range seen).filter fun n=>tf (Value.agg (zX (qk m (R.getD n []))).toArray=h)).map fun n:Nat=>[Value.int .i64 (n:Int)]
def yI(d:yQ)(g:Nat):Prop:=g=d.xb\/xZ d.kb d.f g
structure Xw (w:World) (R:List (List Nat)) (m:Nat) (d:yQ):Prop where
 zG:zD w d.xb 456 #[.map (some d.kb),.int .i64 (d.seen:Int),.int .i64 0]
 Yd:Xc prog 155 3 1 w d.kb d.f (YQ R d.seen m)
 le:d.seen<=R.length
theorem zgL(R:List (List Nat))(m:Nat):YQ R 0 m=fun _=>[]:=rfl
theorem zbb(R:List (List Nat))(seen m:Nat):YQ R (seen+1) m=fun y=>open Classical in if y=.agg (zX (qk m (R.getD seen []))).toArray then YQ R seen m y++[[.int .i64 (seen:Int)]]else YQ R seen m y:=by
 funext y
 unfold YQ;rw[zp2,zqN,zpt];split
 ·rename_i h;rw[zqe (by rw[qs h.symm])];rfl
 ·rename_i h;rw[zpU (by rw[qt (fun e=>h e.symm)];exact zqp)];simp
theorem ziI{R':List (List Nat)}{seen:Nat}(m:Nat)(h:∀n,n<seen->R.getD n []=R'.getD n []):YQ R seen m=YQ R' seen m:=by
 funext y
 unfold YQ
 congr 1
 refine List.filter_congr fun n q=>?_
 rw[h n (zqc.1 q)]
theorem zf8(m:Nat)(x:List Nat):YQ R R.length m (.agg (zX (qk m x)).toArray)=(qG R m x).map fun n:Nat=>[Value.int .i64 (n:Int)]:=by
 unfold YQ qG
 congr 1
 refine List.filter_congr fun n _=>?_
 by_cases h:qk m (R.getD n [])=qk m x
 ·rw[decide_eq_true h,h,qs rfl]
 ·rw[decide_eq_false h,qt];intro e;injection e with e
  exact h (zed (List.toArray_inj e))
theorem zcF(R:List (List Nat))(seen m:Nat)(y:Value):(YQ R seen m y).length<=seen:=by
 unfold YQ;rw[zph];exact zpd (zql _ _) zp
theorem Xw.lt{d:yQ}(h:Xw w R m d):∀g,yI d g->g<w.heap.size:=by
 rintro g (rfl|q)
 ·exact h.zG.lt
 ·exact h.Yd.lt g q
theorem Xw.same{d:yQ}(h:Xw w R m d)(q:∀g,yI d g->w'.heap[g]? = w.heap[g]?):Xw w' R m d:=
 ⟨h.zG.same (q _ (.inl rfl)),h.Yd.same fun g r=>q g (.inr r),h.le⟩
theorem Xw.grow{d:yQ}(h:Xw w R m d)(r:List Nat):Xw w (R++[r]) m d:=
 ⟨h.zG,by
  rw[ziI (R':=R) m fun n q=>zb3 _ (zo0 q h.le)];exact h.Yd,by rw[zo1];exact zpd h.le (Nat.le_add_right _ _)⟩
structure YT (w:World) (bb rb:Nat) (R:List (List Nat)) (mb:Nat) (f:Value->Option Value) (ix:Nat->Option yQ):Prop where
 zG:zD w bb 294 #[.pointer (some ⟨rb,0,none⟩),.map (some mb)]
 map:xv prog 105 w mb f
 XB:∀m:Nat,m<2 ^ 24->f (.int .u32 (m:Int))=(ix m).map fun d=>.pointer (some ⟨d.xb,0,none⟩)
 each:∀m d,ix m=some d->Xw w R m d
 apart:∀m m' d d' g,ix m=some d->ix m'=some d'->yI d g->yI d' g->m=m'
 off:∀m d g,ix m=some d->yI d g->g≠mb/\g≠bb
def YF(bb h:Nat)(q:Nat->Option yQ)(g:Nat):Prop:=g=bb\/g=h\/∃m d,q m=some d/\yI d g
def yS(w:World)(bb r:Nat)(R:List (List Nat))(S:Nat->Prop):Prop:=∃h f q,YT w bb r R h f q/\∀g,YF bb h q g->S g
theorem YT.lt{r:Nat->Option yQ}(h:YT w bb L R q f r):∀g,YF bb q r g->g<w.heap.size:=by
 rintro g (rfl|rfl |⟨m,d,I,N⟩)
 ·exact h.zG.lt
 ·exact h.map.lt
 ·exact(h.each m d I).lt g N
theorem YT.same{N:Nat}{r:Nat->Option yQ}(h:YT w bb N R q f r)(I:∀g,YF bb q r g->w'.heap[g]? = w.heap[g]?):YT w' bb N R q f r:=
 ⟨h.zG.same (I _ (.inl rfl)),h.map.same (I _ (.inr (.inl rfl))),h.XB,fun m d L=>(h.each m d L).same fun g O=>I g (.inr (.inr ⟨m,d,L,O⟩)),h.apart,h.off⟩
theorem yS.zC{Q:Nat->Prop}(h:yS w bb q R S)(O:zh Q w w')(U:∀x,S x->¬Q x):yS w' bb q R S:=by
 obtain⟨L,f,N,h,r⟩:=h;exact⟨L,f,N,h.same fun g I=>O.block g (h.lt g I) (U g (r g I)),r⟩
theorem yS.below(h:yS w bb q R S)(L:Bl w w'):yS w' bb q R S:=by
 obtain⟨r,f,I,h,N⟩:=h;exact⟨r,f,I,h.same fun g O=>L.block g (h.lt g O),N⟩
theorem yS.mono(h:yS w bb q R S)(N:∀g,S g->S' g):yS w bb q R S':=by
 obtain⟨r,f,L,h,I⟩:=h;exact⟨r,f,L,h,fun g O=>N g (I g O)⟩
theorem yS.grow(h:yS w bb q R S)(r:List Nat):yS w bb q (XX R r) S:=by
 unfold XX;split
 ·exact h
 ·obtain⟨L,f,N,h,O⟩:=h;exact⟨L,f,N,⟨h.zG,h.map,h.XB,fun m d I=>(h.each m d I).grow r,h.apart,h.off⟩,O⟩
theorem yS.new(O:zD w bb 294 #[.pointer (some ⟨r,0,none⟩),.map (some q)])(I:w.heap[q]? = some (.map #[] 0))(S:Nat->Prop)(N:S bb)(L:S q):yS w bb r [] S:=
 ⟨q,fun _=>none,fun _=>none,⟨O,⟨#[],0,I,Yj.none_,MapKept.stamped_empty 0⟩,fun _ _=>rfl,(fun _ _ h=>by cases h),(fun _ _ _ _ _ h=>by cases h),(fun _ _ _ h=>by cases h)⟩,fun g R=>by
  rcases R with rfl|rfl |⟨_,_,h,_⟩
  ·exact N
  ·exact L
  ·cases h⟩
theorem ZA.lt(h:ZA w I L R q r A cap f):∀x,(x=I\/x=q\/x=r\/x∈zw A)->x<w.heap.size:=by
 rintro x (rfl|rfl|rfl|N)
 ·exact h.rel.lt
 ·exact h.pl.lt
 ·exact h.map.lt
 ·exact h.own.lt x N
theorem Rel.cut(h:Rel w I r R S):Rel w I r R (fun g=>S g/\g<w.heap.size):=by
 obtain⟨U,N,A,q,f,h,O⟩:=h;exact⟨U,N,A,q,f,h,fun x L=>⟨O x L,h.lt x L⟩⟩
theorem Rel.mono(h:Rel w I r R S)(O:∀g,S g->S' g):Rel w I r R S':=by
 obtain⟨U,L,A,q,f,h,N⟩:=h;exact⟨U,L,A,q,f,h,fun x V=>O x (N x V)⟩
theorem yS.cut(h:yS w bb q R S):yS w bb q R (fun g=>S g/\g<w.heap.size):=by
 obtain⟨I,f,L,h,N⟩:=h;exact⟨I,f,L,h,fun g r=>⟨N g r,h.lt g r⟩⟩
open Classical in
noncomputable def Y5(h:Nat->Option yQ)(m:Nat)(d:yQ):Nat->Option yQ:=fun n=>if n=m then some d else h n
theorem YT.zbe{mb:Nat}{V:Nat->Option yQ}(h:YT w bb rb R mb f V){d U:yQ}(W:V m=some d)(hc:zh (yI d) w w')(h':Xw w' R m U)(hx:U.xb=d.xb)(hn:∀g,yI U g->yI d g\/w.heap.size<=g):YT w' bb rb R mb f (Y5 V m U):=by
 have N:=fun g (L:yI d g)=>h.off m d g W L
 have XA:∀q r,Y5 V m U q=some r->(q=m/\r=U)\/(q≠m/\V q=some r):=fun q r I=>by
  unfold Y5 at I;split at I
  ·rename_i e;injection I with I;exact .inl ⟨e,I.symm⟩
  ·rename_i e;exact .inr ⟨e,I⟩
 refine⟨h.zG.zC hc fun L=>(N _ L).2 rfl,h.map.zC hc fun L=>(N _ L).1 rfl,fun q aa=>?_,fun q r I=>?_,fun m1 q d1 r g h1 I Z O=>?_,fun q r g I O=>?_⟩
 ·rw[h.XB q aa];unfold Y5;split
  ·rename_i e;subst e;rw[W];simp[hx]
  ·rfl
 ·rcases XA q r I with⟨rfl,rfl⟩ |⟨X,I⟩
  ·exact h'
  ·exact(h.each q r I).same fun g L=>hc.block g ((h.each q r I).lt g L) fun Y=>X (h.apart q m r d g I W L Y)
 ·have Y:∀q r,V q=some r->yI r g->g<w.heap.size:=fun q r I L=>(h.each q r I).lt g L
  rcases XA m1 d1 h1 with⟨e1,e2⟩ |⟨ac,k1⟩<;>rcases XA q r I with⟨e3,e4⟩ |⟨ab,k2⟩
  ·exact e1.trans e3.symm
  ·rcases hn g (e2▸Z)with L|L
   ·rw[e1];exact h.apart _ _ _ _ g W k2 L O
   ·have:=Y q r k2 O;omega
  ·rcases hn g (e4▸O)with L|L
   ·rw[e3];exact h.apart _ _ _ _ g k1 W Z L
   ·have:=Y m1 d1 k1 Z;omega
  ·exact h.apart _ _ _ _ g k1 k2 Z O
 ·rcases XA q r I with⟨rfl,rfl⟩ |⟨X,I⟩
  ·rcases hn g O with L|L
   ·exact N g L
   ·have:=h.map.lt;have:=h.zG.lt;omega
  ·exact h.off q r g I O
theorem YT.made{U:Nat}{f':Value->Option Value}{O:Nat->Option yQ}(h:YT w bb rb R U f O){N:yQ}(hd:O m=none)(hc:zh (·=U) w w')(h':Xw w' R m N)(hn:∀g,yI N g->w.heap.size<=g)(hm:xv prog 105 w' U f')(hf:f'=yg f (.int .u32 (m:Int)) (.pointer (some ⟨N.xb,0,none⟩))):YT w' bb rb R U f' (Y5 O m N):=by
 have XA:∀q r,Y5 O m N q=some r->(q=m/\r=N)\/(q≠m/\O q=some r):=fun q r I=>by
  unfold Y5 at I;split at I
  ·rename_i e;injection I with I;exact .inl ⟨e,I.symm⟩
  ·rename_i e;exact .inr ⟨e,I⟩
 have Y:bb≠U:=h.zG.qM h.map;refine⟨h.zG.zC hc Y,hm,fun q Z=>?_,fun q r I=>?_,fun m1 q d1 r g h1 I g1 L=>?_,fun q r g I L=>?_⟩
 ·rw[hf];unfold Y5
  by_cases e:q=m
  ·subst e;rw[Yi,if_pos rfl,zpK]
  ·rw[XG (fun V=>e (by injection V with _ V;exact Int.ofNat.inj V)),if_neg e];exact h.XB q Z
 ·rcases XA q r I with⟨rfl,rfl⟩ |⟨X,I⟩
  ·exact h'
  ·exact(h.each q r I).same fun g W=>hc.block g ((h.each q r I).lt g W) (h.off q r g I W).1
 ·have V:∀q r,O q=some r->yI r g->g<w.heap.size:=fun q r I W=>(h.each q r I).lt g W
  rcases XA m1 d1 h1 with⟨e1,e2⟩ |⟨ab,W⟩<;>rcases XA q r I with⟨e3,e4⟩ |⟨aa,k2⟩
  ·exact e1.trans e3.symm
  ·have:=hn g (e2▸g1);have:=V q r k2 L;omega
  ·have:=hn g (e4▸L);have:=V m1 d1 W g1;omega
  ·exact h.apart _ _ _ _ g W k2 g1 L
 ·rcases XA q r I with⟨rfl,rfl⟩ |⟨X,I⟩
  ·have:=hn g L;have:=h.map.lt;have:=h.zG.lt;omega
  ·exact h.off q r g I L
theorem DT:Keyed prog 105:=int_keyed underlying105
theorem Df(h:m<2 ^ 24):keyOf prog 105 (.int .u32 (m:Int))=some (.int .u32 (m:Int)):=
 keyOf_int_mk underlying105 (by
  have r:IntKind.u32.min=0:=zr;have q:IntKind.u32.max=4294967295:=zr;simp[Lit.wf,r,q];omega)
end
