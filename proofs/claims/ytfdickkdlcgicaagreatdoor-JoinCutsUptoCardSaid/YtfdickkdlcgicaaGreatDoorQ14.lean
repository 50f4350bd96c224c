/-
  Values: a quotient, or what is left; a division by zero is c
-/
import Derived.Test.YtfdickkdlcgicaaGreatDoorQ13
import Derived.Defers
import Derived.Recover
import Derived.Laws.Pointers
import Derived.Lib.LazyBuf
import Derived.Lib.OthersKept
import Derived.Lib.RuneCount
import Derived.Lib.TrimU
import Derived.Lib.QuoteLoop
set_option maxRecDepth 100000
set_option maxHeartbeats 8000000
set_option linter.all false
namespace Go.Proofs.YtfdickkdlcgicaaGreatDoor.C
open Go.Proofs.Tryz Go Go.RowKit Go.Maps Go.WideMaps
variable {K:List ByteArray}{R:List UInt8}{body:List Li}{g hi i lo mid n q:Nat}{s:ByteArray}{tk:Nat->Int}{w w':World}
section
theorem zh8(p q:Addr)(x:Int)(y:Bool)(u:TypeId)(R:Value)(h:List PanicEntry)(w:World)(X:w.cell? p=some (.int .i64 x))(V:w.frozen? p=false)(U:w.cell? q=some (.bool y))(L:w.frozen? q=false)(I:q.block≠p.block):
 CallsD prog 285 #[.pointer (some p),.pointer (some q)] (.panicking ({ v:=.iface u R,recovered:=false }::h)) w fun e O N=>
  e=.returned (.tuple #[])/\O=.panicking ({ v:=.iface u R,recovered:=true }::h)/\N=(w.setCell p (.int .i64 0)).setCell q (.bool false):=by
 have N:(w.setCell p (.int .i64 0)).cell? q=some (.bool y):=(World.cell?_of_block (Below.heap_setCell w p (.int .i64 0) q.block I)).trans U;have O:(w.setCell p (.int .i64 0)).frozen? q=false:=by rw[World.frozen?_setCell];exact L
 refine callsD_of_wpS func285 rfl fun Y Z W=>?_
 apply wpS_seq;apply wpS_region;simp[wpOpsS,go_sem,recoverD,W,ntmps285,Exit.thenS];refine wpS_cond (t:=true) (by simp[Act.eval,Array.replicate]) ?_;simp only[if_true];apply wpS_region;simp[wpOpsS,go_sem,X,V,N,O,bodyPostS,results,results285]
theorem ziM(p q:Addr)(w:World):
 CallsD prog 285 #[.pointer (some p),.pointer (some q)] .returning w fun e I h=>e=.returned (.tuple #[])/\I=.returning/\h=w:=by
 refine callsD_of_wpS func285 rfl fun h L I=>?_
 apply wpS_seq;apply wpS_region;simp[wpOpsS,go_sem,recoverD,I,ntmps285,Exit.thenS];refine wpS_cond (t:=false) (by simp[Act.eval,Array.replicate]) ?_;simp only[zqw,if_false];refine wpS_of_wp (wp_skip ?_)
 cases h
 simp_all[bodyPostS,results,results285]
theorem zek(w:World)(q a:Int)(I:q=5\/q=6):Calls prog 266 #[.int .i8 q,.int .i64 a,.int .i64 0] w fun e h=>e=.returned (.tuple #[.int .i64 0,.bool false])/\Bl w h:=by
 have O:∀(L:Fn)(first h:Array Value)(w:World),(Instr.makeFunc L first h).run prog w=.ok (.func L first h) w:=fun _ _ _ _=>rfl
 rcases I with rfl|rfl
 all_goals
  go_enter_defers func266,ntmps266
  go_wp2;refine leaves_cons (f:=285) (args:=#[.pointer (some ⟨w.heap.size,0,none⟩),.pointer (some ⟨w.heap.size+1,0,none⟩)]) zp (by simp[go_sem]) ?_;refine(zh8 ⟨w.heap.size,0,none⟩ ⟨w.heap.size+1,0,none⟩ 0 false _ _ [] _ ?_ ?_ ?_ ?_ ?_).mono ?_
  ·simp[go_sem]
  ·simp[go_sem]
  ·simp[go_sem]
  ·simp[go_sem]
  ·simp
  rintro e R N⟨rfl,rfl,rfl⟩;simp[Leaves,settle,results,results266,go_sem];exact(xq w _).alloc zp _
theorem zds(w:World)(q a b:Int)(U:¬b=0)(I:q=5\/q=6):Calls prog 266 #[.int .i8 q,.int .i64 a,.int .i64 b] w fun e h=>e=.returned (.tuple #[.int .i64 (if q=5 then wrap64 (a.tdiv b)else a.tmod b),.bool true])/\Bl w h:=by
 have O:∀(L:Fn)(first h:Array Value)(w:World),(Instr.makeFunc L first h).run prog w=.ok (.func L first h) w:=fun _ _ _ _=>rfl
 rcases I with rfl|rfl
 all_goals
  go_enter_defers func266,ntmps266
  go_wp2;refine leaves_cons (f:=285) (args:=#[.pointer (some ⟨w.heap.size,0,none⟩),.pointer (some ⟨w.heap.size+1,0,none⟩)]) zp (by simp[go_sem]) ?_;refine(ziM ⟨w.heap.size,0,none⟩ ⟨w.heap.size+1,0,none⟩ _).mono ?_;rintro e R N⟨rfl,rfl,rfl⟩;simp[Leaves,settle,results,results266,go_sem];exact(xq w _).alloc zp _
def ZH(l:List UInt8):List Value:=l.map fun x=>Value.int .u8 (x.toNat:Int)
theorem zcG(l:List UInt8):(ZH l).length=l.length:=by simp[ZH]
def YD(n h:Nat)(R:List UInt8):Array Value:=(ZH (List.replicate (n-h) 0++R)).toArray
theorem zka{P:Program}{o:Oper}{a:Act}{K:Act->World->Prop}{Q:Exit->Act->World->Prop}(d x:Operand)(X sT h:TypeId)(ho:o.op=.call { callee:=.builtin .copy,args:=#[d,x],argTypes:=#[X,sT]})(hu:P.underlying X=some (.slice h))(hz:∀w,(Go.sizeOf h).run P w=.ok 1 w)(g N q I:Nat)(t:ByteArray)(hd:a.eval d=.slice (some ⟨g,N,none⟩) q I)(hx:a.eval x=.string t)(ty:TypeId)(V:Array Value)(Z:zD w g ty V)(Y:t.size<=q)(L:N+t.size<=V.size)(hK:∀W,XX w g ty (V.toList.take N++ZH t.data.toList++V.toList.drop (N+t.size)).toArray W->K (a.put o.dst (goInt t.size)) W):Oper.wp P o a w K Q:=by
 have hl:(ZH t.data.toList).length=t.size:=by rw[zcG];rfl
 have O:=Dd Z (a0:=N) (n:=t.size) L;have U:=run_copy_string (P:=P) w X sT o.type h g N q I t hu hz Y (fun j R=>(O j R).1) (fun j R=>(O j R).2);have R:=Gx Z (a0:=N) (ZH t.data.toList) (by rw[hl];exact L);rw[hl]at R;unfold Oper.wp execOp;simp only[ho,resolve,invoke,builtin,Sem.run_bind,Sem.run_pure,Result.andThen_ok,zqJ,zqb,zq3,hd,hx,U];exact hK _ R
theorem zh3{h:Nat}(U:s.size=n)(O:h<=i)(L:i<=n)(N:R.length=h):
 ((YD n h R).toList.take (n-i)++ZH (s.extract h i).data.toList++(YD n h R).toList.drop (n-i+(s.extract h i).size)).toArray=YD n i ((s.extract h i).data.toList++R):=by
 have q:(s.extract h i).size=i-h:=by rw[ByteArray.size_extract];omega
 have I:(s.extract h i).data.toList.length=i-h:=by rw[<-q];rfl
 rw[q];unfold YD ZH;generalize(s.extract h i).data.toList=X at I
 congr 1
 rw[List.toList_toArray,zp1,List.map_replicate,zqx zb,List.drop_append_of_le_length zb,List.take_replicate,List.drop_replicate,zp1,zp1,List.map_replicate];have e1:min (n-i) (n-h)=n-i:=zd;have e2:n-h-(n-i+(i-h))=0:=zd;rw[e1,e2];simp
structure Uy (w:World) (eb wb ob sb g n was:Nat) (s:ByteArray) (R:List UInt8):Prop where
 e:zD w eb 3 #[.int .i64 ((n-was:Nat):Int)]
 k:zD w wb 3 #[.int .i64 (was:Int)]
 o:zD w ob 368 #[.slice (some ⟨g,0,none⟩) n n]
 s:zD w sb 9 #[.string s]
 g:zD w g 5 (YD n was R)
 len:R.length=was
 le:was<=n
 ne1:eb≠wb
def zl1(q h I L g n i:Nat)(s:ByteArray)(R:List UInt8)(w:World)(e:Ending)(w':World):Prop:=e=.returned (.tuple #[])/\Uy w' q h I L g n i s R/\zh (fun x=>x=q\/x=h\/x=g) w w'
theorem zeF(w:World)(L U Y Z g n q i:Nat)(s:ByteArray)(R:List UInt8)(h:Uy w L U Y Z g n q s R)(hn:s.size=n)(hb:n<=4194304)(h1:q<=i)(h2:i<=n):
 Calls prog 286 #[.int .i64 (i:Int),.pointer (some ⟨L,0,none⟩),.pointer (some ⟨U,0,none⟩),.pointer (some ⟨Y,0,none⟩),.pointer (some ⟨Z,0,none⟩)] w (zl1 L U Y Z g n i s ((s.extract q i).data.toList++R) w):=by
 have H:=zz h;have HN:=zz hn;have ai:=h.le;have I:=h.len;have X:=zz I;have ce:=h.e.cell 0;have cw:=h.k.cell 0;have fe:=h.e.frozen 0;have ac:g≠L:=fun e=>by have:=h.e.yK (e▸h.g) zr;exact this rfl
 have N:g≠U:=fun e=>by have:=h.k.yK (e▸h.g) zr;exact this rfl
 have ab:Y≠L:=h.o.yK h.e zr;have ae:Y≠U:=h.o.yK h.k zr;have V:Y≠g:=h.o.yK h.g zr;have ad:Z≠L:=h.s.yK h.e zr;have aa:Z≠U:=h.s.yK h.k zr;have O:Z≠g:=h.s.yK h.g zr;have HD:=zz (show g≠L/\g≠U/\Y≠L/\Y≠U/\Y≠g/\Z≠L/\Z≠U/\Z≠g/\L≠U from⟨ac,N,ab,ae,V,ad,aa,O,h.ne1⟩);clear h hn I ac N ab ae V ad aa O;go_enter func286,ntmps286;go_upto_region 1 with fail
 have N:((n-q:Nat):Int)-((i:Int)-(q:Int))=((n-i:Nat):Int):=zd;rw[N];have I:=U9 (i:=0) H.o.e (.int .i64 ((n-i:Nat):Int));generalize w.setCell ⟨L,0,none⟩ (.int .i64 ((n-i:Nat):Int))=w1 at I ⊢;have af:=zz I;have HE:Kz (zD w1 L 3 #[.int .i64 ((n-i:Nat):Int)]):=I.zH;obtain⟨d1,d2,d3,d4,d5,d6,d7,d8,d9⟩:=HD.o;have HK:=zz (I.qj H.o.k (zrA d9));have HO:=zz (I.qj H.o.o d3);have HS:=zz (I.qj H.o.s d6);have HG:=zz (I.qj H.o.g d1);have H0:=zz (show ∀W,zh (·=g) w1 W->W.cell? ⟨Y,0,none⟩=some (.slice (some ⟨g,0,none⟩) n n)/\W.cell? ⟨L,0,none⟩=some (.int .i64 ((n-i:Nat):Int))/\W.cell? ⟨Z,0,none⟩=some (.string s)/\W.cell? ⟨U,0,none⟩=some (.int .i64 (q:Int))from fun W O=>
  ⟨(HO.o.zC O d5).cell 0,(HE.o.zC O (zrA d1)).cell 0,(HS.o.zC O d8).cell 0,(HK.o.zC O (zrA d2)).cell 0⟩)
 have ab:(s.size:Int)=(n:Int):=by rw[HN.o]
 clear ce cw fe I N d1 d2 d3 d4 d5 d6 d7 d8 d9;have N:n-i<=n:=Nat.sub_le _ _;refine xX [0,0,0,0,0,0,0,2] (fun W=>zh (·=g) w1 W) ?_
 repeat refine zS H0.o ?_
 obtain⟨o0,ac,I⟩:∃o0,(if n=n-i then some ⟨g,0,none⟩else some ⟨g,n-i,none⟩:Option Addr)=some ⟨g,o0,none⟩/\o0+(s.extract q i).size<=(YD n q R).size/\
  ((YD n q R).toList.take o0++ZH (s.extract q i).data.toList++(YD n q R).toList.drop (o0+(s.extract q i).size)).toArray=YD n i ((s.extract q i).data.toList++R):=by
  have ah:(YD n q R).size=n:=by unfold YD;simp[zcG,X.o];omega
  have ad:(s.extract q i).size=i-q:=by rw[ByteArray.size_extract,HN.o];omega
  have V:=zh3 HN.o h1 h2 X.o
  by_cases hi:n=n-i
  ·refine⟨0,by rw[if_pos hi],zd,?_⟩;have h0:(s.extract q i).size=0:=zd;have O:(s.extract q i).data.toList=[]:=zqg h0;rw[<-V,h0,O];simp[ZH]
  ·exact⟨n-i,by rw[if_neg hi],zd,V⟩
 have e2:n-(n-i)=i:=zd;rw[ac,e2];clear e2 N;refine xf fun K hK=>?_
 refine zka _ _ 368 9 5 rfl underlying368 (fun w=>sizeOf5 w) g o0 i i (s.extract q i) rfl rfl 5 _ HG.o.drew (by rw[ByteArray.size_extract,HN.o];omega) I.1 ?_;intro w2 aa;rw[I.2]at aa;have O:=zz aa;refine hK.out _ _ ((zh.refl _ w1).drew.trans aa.zC (fun x N _=>N)) (fun _=>trivial) ?_;clear hK K aa I ac;refine xt ?_;obtain⟨d1,d2,d3,d4,d5,d6,d7,d8,d9⟩:=HD.o;have ag:=zz (O.o.qj HE.o.drew (zrA d1));have aa:=zz (O.o.qj HK.o.drew (zrA d2));have ae:=zz (O.o.qj HO.o.drew d5);have ac:=zz (O.o.qj HS.o.drew d8);have cw:=aa.o.cell 0;have fw:=aa.o.frozen 0;clear d1 d2 d3 d4 d5 d6 d7 d8 d9 ab;go_wp2;go_returns;obtain⟨d1,d2,d3,d4,d5,d6,d7,d8,d9⟩:=HD.o;have I:=U9 (i:=0) aa.o (.int .i64 (i:Int));refine⟨rfl,⟨I.qj ag.o d9,I.zH,I.qj ae.o d4,I.qj ac.o d7,I.qj O.o.zH d2,?_,h2,d9⟩,?_⟩
 ·have ad:(s.extract q i).data.toList.length=(s.extract q i).size:=rfl;rw[zpA,ad,ByteArray.size_extract,HN.o,X.o];omega
 ·exact((af.o.zC.trans (zh.refl (fun _=>False) w1).drew (fun x N _=>N.elim)).mono (fun x N _=>Or.inl N)).trans ((O.o.zC.mono (fun x N _=>(Or.inr (Or.inr N):x=L\/x=U\/x=g))).trans (I.zC.mono (fun x N _=>Or.inr (Or.inl N))) (fun x N _=>N)) (fun x N _=>N)
def Vp(s:ByteArray):Nat->Nat->Nat->List UInt8->List UInt8
 |0,_,q,R=>(s.extract q s.size).data.toList++R
 |f+1,h,q,R=>if h<s.size then Vp s f (h+(Utf8.decode s h).2) h ((s.extract q h).data.toList++R)else(s.extract q s.size).data.toList++R
def ZF(s:ByteArray):ByteArray:=⟨(Vp s s.size 0 0 []).toArray⟩
theorem zcZ(s:ByteArray)(q:Nat)(h:q<s.size):q+(Utf8.decode s q).2<=s.size:=by
 have I:=Lib.decodeN_width_le (s.size-q) (s.get! q).toNat (s.get! (q+1)).toNat (s.get! (q+2)).toNat (s.get! (q+3)).toNat zd;rw[<-Lib.decode_at]at I;omega
theorem ziI(n:Nat)(V:n<=4194304)(W:World):(Instr.makeSlice 368 (.int .i64 (n:Int)) (.int .i64 (n:Int))).run prog W=.ok (.slice (some ⟨W.heap.size,0,none⟩) n n) (W.alloc (.cells (YD n 0 []) 5)):=by
 obtain⟨N,O,q,I,h⟩:=info_parts (show(prog.info? 5).map (fun i=>(i.zero,i.size,i.bytes))=some (some (.int .u8 0),1,1) from zo);have L:=run_make (P:=prog) W 368 5 N (.int .u8 0) underlying368 O q .i64 .i64 (n:Int) (n:Int) zd (zqM _) (by rw[h];omega) zd;rw[I,Int.toNat_natCast]at L;rw[L];have e:madeCells (Value.int .u8 0).cells (n*1)=YD n 0 []:=by
  unfold YD ZH;rw[zqI,Nat.sub_zero,zp7];refine Array.ext (by simp[madeCells]) fun j U R=>?_
  simp[madeCells,Value.cells,Nat.mod_one]
 rw[e]
theorem Uy.same{L N U V:Nat}(h:Uy w L N U V g n q s R)(I:∀k t O,zD w k t O->zD w' k t O):Uy w' L N U V g n q s R:=
 ⟨I _ _ _ h.e,I _ _ _ h.k,I _ _ _ h.o,I _ _ _ h.s,I _ _ _ h.g,h.len,h.le,h.ne1⟩
theorem zfn{k pos':Nat}(L:w.heap[k]? = some (.stringIter s q)){t:TypeId}{I:Array Value}(h:zD w g t I):zD (w.iterAt k s pos') g t I:=
 h.same (Lib.iterAt_other w k g s pos' (fun e=>by unfold zD at h;rw[e,L]at h;cases h))
theorem zgx(w:World)(s:ByteArray)(hb:s.size<=4194304):Calls prog 268 #[.string s] w fun e q=>e=.returned (.string (ZF s))/\Bl w q:=by
 obtain⟨n,q⟩:∃n,s.size=n:=⟨_,rfl⟩;have HN:=zz q;have hs:(s.size:Int)=(n:Int):=by rw[q]
 have ax:∀(fn:Fn)(first aj:Array Value)(w:World),(Instr.makeFunc fn first aj).run prog w=.ok (.func fn first aj) w:=fun _ _ _ _=>rfl
 rw[q]at hb;have Z:=ziI n hb;clear q;go_enter func268,ntmps268;go_upto_region 5 with fail
 obtain⟨W2,U,I⟩:=yb w 9 5 #[.string s] (YD n 0 []);obtain⟨V,W,q⟩:=Vj W2 368 3 3 #[.slice (some ⟨w.heap.size+1,0,none⟩) n n] #[.int .i64 (n:Int)] #[.int .i64 0];have N:=I.size;have O:=q.size;rw[N]at O;rw[U,W];have X:Bl w V:=zl I.below q.below;have Y:=q.b0;have k3:=q.b1;have k4:=q.b2;rw[N]at Y k3 k4;have L:Uy V (w.heap.size+1+1+1) (w.heap.size+1+1+1+1) (w.heap.size+1+1) w.heap.size (w.heap.size+1) n 0 s []:=
  ⟨k3,k4,Y,I.b0.below q.below,I.b1.below q.below,rfl,zpD _,zd⟩
 have HA:=zz L;have ap:=zz X;have ag:=zz O;have c0:=L.s.cell 0;clear I q U W N O X Y k3 k4 L Z;obtain⟨W6,q⟩:∃W6,V.iter s 0=W6:=⟨_,rfl⟩;have ak:W6.heap[V.heap.size]? = some (.stringIter s 0):=by rw[<-q];exact World.alloc_heap_new V _
 have I:Bl V W6:=by rw[<-q];exact xq V _
 go_wp2;try rw[q]
 clear q c0;have aq:=zz (HA.o.same (fun k t W h=>h.below I));have ao:Kz (Bl w W6):=zl ap.o I;have q:∀x,x<w.heap.size+1+1+1+1+1->x≠V.heap.size:=fun x hx=>by have:=ag.o;omega
 have al:=zz q;clear q I
 go_loopg[7,16] n (fun gk U O N=>∃(f q I:Nat) (R:List UInt8),gk=n-q/\I<=q/\q<=n/\n-q<=f/\N.heap[V.heap.size]? = some (.stringIter s q)/\Uy N (w.heap.size+1+1+1) (w.heap.size+1+1+1+1) (w.heap.size+1+1) w.heap.size (w.heap.size+1) n I s R/\Vp s f q I R=Vp s n 0 0 []/\Bl w N)
 case atStart=>exact⟨n,0,0,[],zd,zpx _,zpD _,zd,ak,aq.o,rfl,ao.o⟩
 case round=>
  obtain⟨f,q,I,R,rfl,h1,h2,hf,U,L,Z,hB⟩:=hrel;have au:=zz L;have HB:=zz hB;have av:=zz Z;have aw:=zz U;have Hf:=zz hf
  by_cases an:q<n
  ·have N:q<s.size:=by rw[HN.o];exact an
   have ac:=fun ty=>Lib.run_next_any_at (P:=prog) wr V.heap.size s q ty U N
   have am:=Lib.decode_width_pos s q N;have ad:=zcZ s q N;rw[HN.o]at ad;obtain⟨d,Y⟩:∃d,(Utf8.decode s q).2=d:=⟨_,rfl⟩;have ae:=zz (show ∀f',f=f'+1->Vp s f' (q+d) q ((s.extract I q).data.toList++R)=Vp s n 0 0 []from fun f' e=>by
    subst e;rw[<-Z,Vp,if_pos N,Y])
   rw[Y]at ac am ad;obtain⟨f',X⟩:∃f',f=f'+1:=⟨f-1,zd⟩;have ai:=zz X;have ah:=zz (L.same (fun k t W h=>zfn (pos':=q+d) U h));have af:=zz (Lib.below_iterAt (k:=V.heap.size) hB (by have:=ag.o;omega) s (q+d));have aa:=zz (Lib.iterAt_heap wr V.heap.size s q (q+d) U);obtain⟨w2,O⟩:∃w2,wr.iterAt V.heap.size s (q+d)=w2:=⟨_,rfl⟩;rw[O]at ah af aa ac;have W:=zz (zeF w2 _ _ _ _ _ n I q s R ah.o HN.o hb h1 h2);generalize(Utf8.decode s q).1=ar at ac;clear L hB Z U N Y O hf X
   go_wp2_with (go_at_call 286;refine W.o.mono ?_;rintro e w3⟨rfl,O,X⟩;have Y:=zz O;have ab:=zz X;clear O X)
   go_roundg (n-(q+d))
   case measure=>omega
   case rel=>exact⟨f',q+d,q,(s.extract I q).data.toList++R,rfl,zd,ad,by have:=Hf.o;have:=ai.o;omega,(ab.o.block _ (zpN.1 aa.o).1 (fun h=>by rcases h with h|h|h<;>exact al.o _ zd h.symm)).trans aa.o,Y.o,ae.o f' ai.o,af.o.trans (ab.o.below af.o.size (fun x hx=>by rcases hx with h|h|h<;>omega))⟩
  ·obtain rfl:q=n:=zd;have N:¬q<s.size:=by rw[HN.o];omega
   have ac:=fun ty=>Lib.run_next_end_at (P:=prog) wr V.heap.size s q ty U N
   have aa:(s.extract I q).data.toList++R=Vp s q 0 0 []:=by
    rw[<-Z];have e:s.extract I q=s.extract I s.size:=by rw[HN.o]
    rw[e]
    cases f with
    |zero=>rfl
    |succ f=>rw[Vp,if_neg N]
   have ae:=zz aa;have W:=zz (zeF wr _ _ _ _ _ q I q s R L HN.o hb h1 (zpx _));have c0:=L.s.cell 0;clear L hB Z U N aa hf;go_upto_region 10 with(go_at_call 286;refine W.o.mono ?_;rintro e w3⟨rfl,O,X⟩;have Y:=zz O;have ab:=zz X;clear O X c0)
   have N:=Y.o.len;have aa:=run_convert_bytes_back (P:=prog) w3 368 9 5 ⟨w.heap.size+1,0,none⟩ q ((s.extract I q).data.toList++R) underlying368 underlying5 underlying9 (fun j hj=>by
    have:=Y.o.g.cell j;rw[show(⟨w.heap.size+1,0,none⟩:Addr).add j=⟨w.heap.size+1,j,none⟩ by cases j<;>simp[Addr.add],this];unfold YD ZH;rw[zrp,List.replicate_zero,zpI,zpL,zqt,zpF hj];rfl)
   rw[N,ae.o]at aa;have ad:=zz (show ZF s=⟨(Vp s q 0 0 []).toArray⟩ by unfold ZF;rw[HN.o]);have c2:=Y.o.o.cell 0;clear N;go_wp2;go_returns;exact⟨by rw[ad.o];rfl,HB.o.trans (ab.o.below HB.o.size (fun x hx=>by rcases hx with h|h|h<;>omega))⟩
abbrev Env:=ByteArray->Option Vl
def Vl.zero:Vl:=⟨0,0,⟨#[]⟩⟩
open Classical in
noncomputable def qR(ρ:Env)(v:ByteArray)(x:Vl):Env:=fun u=>if u=v then some x else ρ u
open Classical in
noncomputable def ZS(ρ:Env)(v:ByteArray):Env:=fun u=>if u=v then none else ρ u
noncomputable def Z2(ρ:Env)(vs:List ByteArray):Env:=vs.foldl ZS ρ
open Classical in
noncomputable def Tm.at(ρ:Env)(t:Tm):Vl:=if t.v.toList=[]then t.x else(ρ t.v).getD Vl.zero
theorem zfg{ρ:Env}{v:ByteArray}{x:Vl}(h:ρ v=some x):qR ρ v x=ρ:=by
 funext u;unfold qR;split
 ·rename_i e;rw[e,h]
 ·rfl
open Classical in
theorem zea:∀(q:List ByteArray)(ρ:Env)(u:ByteArray),Z2 ρ q u=if u∈q then none else ρ u
 |[],ρ,u=>by simp[Z2]
 |v::q,ρ,u=>by
  show Z2 (ZS ρ v) q u=_;rw[zea q (ZS ρ v) u];unfold ZS
  by_cases L:u∈q
  ·rw[if_pos L,if_pos (zpQ _ L)]
  ·rw[if_neg L]
   by_cases I:u=v
   ·rw[if_pos I,if_pos (by rw[I];exact zpP)]
   ·rw[if_neg I,if_neg (fun h=>by rcases zpU.1 h with h|h<;>contradiction)]
open Classical in
noncomputable def fit(m:Nat):Nat->List Tm->List Vl->Env->Bool×Env
 |i,t::h,x::q,ρ=>
  if m.testBit i=true\/t.v.toList=[95]then fit m (i+1) h q ρ
  else match ρ t.v with
   |some y=>if y=x then fit m (i+1) h q ρ else(false,ρ)
   |none=>fit m (i+1) h q (qR ρ t.v x)
 |_,_,_,ρ=>(true,ρ)
def Zu(m:Nat)(ρ:Env)(args:List Tm)(row:List Vl):Prop:=∀i (h:i<args.length),m.testBit i=true->row[i]? = some (args[i].at ρ)
inductive St where
 |rows (p:ByteArray) (args:List Tm) (m:Nat) (gives:List ByteArray) (lo hi:Nat)
 |Xm (p:ByteArray) (args:List Tm) (m:Nat)
 |test (rl:Int) (l r:Ex)
 |set (v:ByteArray) (side:Ex)
noncomputable def XN(R:List (List Vl))(m:Nat)(ρ:Env)(args:List Tm)(lo hi:Nat):List Nat:=
 ((List.range R.length).filter fun n=>tf (Zu m ρ args (R.getD n []))).filter fun n=>decide (lo<=n/\n<hi)
section
variable (ev:Env->Ex->Option Vl)(ho:Int->Vl->Vl->Bool)(R:ByteArray->List (List Vl))
noncomputable def solve:List St->Env->List Env
 |[],ρ=>[ρ]
 |.rows p q m _ N O::h,ρ=>(XN (R p) m ρ q N O).flatMap fun n=>
  if(fit m 0 q ((R p).getD n []) ρ).1=true then solve h (fit m 0 q ((R p).getD n []) ρ).2 else []
 |.Xm p q m::h,ρ=>if XN (R p) m ρ q 0 (R p).length=[]then solve h ρ else []
 |.test L l r::h,ρ=>match ev ρ l,ev ρ r with
  |some a,some b=>if ho L a b=true then solve h ρ else []
  |_,_=>[]
 |.set v I::h,ρ=>match ev ρ I with
  |some x=>solve h (qR ρ v x)
  |none=>[]
theorem zjq(T:List (List Vl))(m:Nat)(ρ:Env)(args:List Tm)(X:lo<=mid)(W:mid<=hi):XN T m ρ args lo hi=XN T m ρ args lo mid++XN T m ρ args mid hi:=by
 unfold XN;generalize q:((List.range T.length).filter fun n=>tf (Zu m ρ args (T.getD n [])))=L;have U:L.Pairwise (·<·):=by rw[<-q];exact List.pairwise_lt_range.filter _
 clear q
 induction L with
 |nil=>rfl
 |cons a L I=>
  have I:=I (List.Pairwise.of_cons U);have V:∀y∈L,a<y:=fun y q=>List.rel_of_pairwise_cons U q
  by_cases h:a<mid
  ·by_cases q:lo<=a
   ·rw[zqK zb,zqK zb,zqp zb,I,zpJ]
   ·rw[zqp zb,zqp zb,zqp zb,I]
  ·have N:(a::L).filter (fun n=>decide (lo<=n/\n<mid))=[]:=zri.2 fun n q=>by
    rcases zpU.1 q with rfl|q
    ·simp;omega
    ·have:=V _ q;simp;omega
   rw[N,zpI];refine List.filter_congr fun n q=>?_
   have:mid<=n:=by
    rcases zpU.1 q with rfl|q
    ·omega
    ·have:=V _ q;omega
   by_cases O:n<hi
   ·simp[O,this];omega
   ·simp[O]
inductive UW:List St->List St->List St->Prop
 |here {p:ByteArray} {args:List Tm} {m:Nat} {gives:List ByteArray} {lo mid hi:Nat} {rest:List St} (h1:lo<=mid) (h2:mid<=hi) :
  UW (.rows p args m gives lo hi::rest) (.rows p args m gives lo mid::rest) (.rows p args m gives mid hi::rest)
 |next {s:St} {a b c:List St} (h:UW a b c):UW (s::a) (s::b) (s::c)
theorem zeC{α β:Type}{f g h:α->List β}:∀(l:List α),(∀x∈l,(f x).Perm (g x++h x))->(l.flatMap f).Perm (l.flatMap g++l.flatMap h)
 |[],_=>zp
 |x::l,q=>by
  simp only[zpZ];have N:=q x zpP;have I:=zeC l fun y L=>q y (zpQ _ L)
  refine(N.append I).trans ?_;rw[zpX,zpX];refine List.Perm.append_left _ ?_;rw[<-zpX,<-zpX];exact List.Perm.append_right _ List.perm_append_comm
theorem zfE{p:ByteArray}{args:List Tm}{m:Nat}{h:List ByteArray}{rest:List St}(I:lo<=mid)(q:mid<=hi)(ρ:Env):
 solve ev ho R (.rows p args m h lo hi::rest) ρ=solve ev ho R (.rows p args m h lo mid::rest) ρ++solve ev ho R (.rows p args m h mid hi::rest) ρ:=by
 unfold solve;rw[zjq _ _ _ _ I q,zp2]
theorem zbG{a b c:List St}(h:UW a b c):∀ρ,(solve ev ho R a ρ).Perm (solve ev ho R b ρ++solve ev ho R c ρ):=by
 induction h with
 |here U O=>intro ρ;rw[zfE ev ho R U O]
 |@next s a b c h I=>
  intro ρ
  cases s with
  |rows p q m L X V=>
   unfold solve;refine zeC _ fun n _=>?_
   split
   ·exact I _
   ·simp
  |Xm p q m=>
   unfold solve;split
   ·exact I _
   ·simp
  |test W l r=>
   unfold solve;split
   ·split
    ·exact I _
    ·simp
   ·simp
  |set v N=>
   unfold solve;split
   ·exact I _
   ·simp
inductive Void:List St->Prop
 |here {p:ByteArray} {args:List Tm} {m:Nat} {gives:List ByteArray} {lo hi:Nat} {rest:List St} (h:hi<=lo):Void (.rows p args m gives lo hi::rest)
 |next {s:St} {a:List St} (h:Void a):Void (s::a)
theorem zkQ{a:List St}(h:Void a):∀ρ,solve ev ho R a ρ=[]:=by
 induction h with
 |here h=>
  intro ρ;unfold solve XN;rw[zri.2 fun n _=>zb];rfl
 |@next s a h I=>
  intro ρ
  cases s with
  |rows p q m L U V=>
   unfold solve;rw[List.flatMap_eq_nil_iff];intro n _;split
   ·exact I _
   ·rfl
  |Xm p q m=>unfold solve;split;exact I _;rfl
  |test O l r=>unfold solve;split;(split;exact I _;rfl);rfl
  |set v N=>unfold solve;split;exact I _;rfl
end
open Classical in
noncomputable def madeOf(body:List Li)(lo hi:Nat->Nat)(s:Sp):St:=
 match body[s.lit]? with
 |none=>.Xm ⟨#[]⟩ [] 0
 |some x=>
  if s.k=4 then .Xm x.a.p x.a.args s.known
  else if s.k=5 then .test x.rl x.l x.r
  else if s.k=6 then(if x.l.q=0/\[x.l.t.v]=s.gives then .set x.l.t.v x.r else .set (s.gives.headD ⟨#[]⟩) x.l)
  else .rows x.a.p x.a.args s.known s.gives (lo s.lit) (hi s.lit)
theorem zaY{j:Nat}{U I O V:Nat->Nat}(ha:∀k,k≠j->U k=O k)(W:∀k,k≠j->I k=V k){L:List Nat}{rest:List Sp}(hr:yi body K L rest)(h:j∉L):
 rest.map (madeOf body U I)=rest.map (madeOf body O V):=by
 induction hr with
 |nil=>rfl
 |@cons K L q s rest X Y hs _ ih=>
  rw[zqb,zqb];have N:q≠j:=fun e=>h (e▸X)
  have Z:=(YQ hs).1
  congr 1
  ·unfold madeOf;rw[Z,ha q N,W q N]
  ·exact ih (fun hm=>h (List.mem_of_mem_erase hm))
theorem ze4{left:List Nat}{ss:List Sp}(h:yi body K left ss)(hn:left.Nodup)(hi:i∈left)(hb:i<body.length)(hk:body[i].k=1){lo hi':Nat->Nat}(h1:lo i<=mid)(h2:mid<=hi' i)(L q:Nat->Nat)(ac:∀j,j≠i->L j=lo j)(Y:∀j,j≠i->q j=hi' j)(ae:L i=mid)(ab:q i=mid):
 UW (ss.map (madeOf body lo hi')) (ss.map (madeOf body lo q)) (ss.map (madeOf body L hi')):=by
 induction h with
 |nil=>cases hi
 |@cons K left j s af hj ad hs hr ih=>
  have hl:=(YQ hs).1
  by_cases e:j=i
  ·subst e;have aa:j∉left.erase j:=fun X=>by rw[hn.mem_erase_iff]at X;exact X.1 rfl
   have V:=fun(O I N U:Nat->Nat) (ha:∀k,k≠j->O k=N k) (Z:∀k,k≠j->I k=U k)=>zaY ha Z hr aa
   rw[zqb,zqb,zqb,V lo hi' lo q (fun _ _=>rfl) (fun k hk=>(Y k hk).symm),V L hi' lo q ac (fun k hk=>(Y k hk).symm)];have W:s.k≠4/\s.k≠5/\s.k≠6:=by
    unfold stepOf at hs;rw[if_pos hk]at hs;injection hs with hs
    subst hs;refine⟨?_,?_,?_⟩<;>(simp only;split<;>(try split)<;>decide)
   have X:∀(lo hi:Nat->Nat),madeOf body lo hi s=.rows body[j].a.p body[j].a.args s.known s.gives (lo j) (hi j):=fun lo hi=>by
    unfold madeOf;rw[hl,zpF ad];simp only;rw[if_neg W.1,if_neg W.2.1,if_neg W.2.2]
   rw[X,X,X,ab,ae];exact .here h1 h2
  ·rw[zqb,zqb,zqb];have X:∀(O I N U:Nat->Nat),O j=N j->I j=U j->madeOf body O I s=madeOf body N U s:=fun O I N U ha Z=>by
    unfold madeOf;rw[hl,ha,Z]
   rw[X lo q lo hi' rfl (Y j e),X L hi' lo hi' (ac j e) rfl];exact .next (ih (hn.erase _) ((List.mem_erase_of_ne (zrA e)).2 hi))
end
section
structure Tk (w:World) (tk:Nat->Int):Prop where
 lt:2<w.heap.size
 cell:∀j,j<11->w.cell? ⟨2,j,none⟩=some (.int .i8 (tk j))
theorem Tk.below(h:Tk w tk){B:Nat}(q:Below B w w')(L:w.heap.size<=B):Tk w' tk:=⟨zpz h.lt q.size,fun j I=>(World.cell?_of_block (w:=w) (q.block _ (zpz h.lt L))).trans (h.cell j I)⟩
theorem Tk.zC{S:Nat->Prop}(h:Tk w tk)(q:zh S w w')(L:¬S 2):Tk w' tk:=⟨zpz h.lt q.size,fun j I=>(q.cell (p:=⟨2,j,none⟩) h.lt L).trans (h.cell j I)⟩
open Classical in
noncomputable def qQ(tk:Nat->Int)(q:Nat)(l:List Vl):Option Vl:=
 if y9 (tk q) l then
  if q=1 then some (.num (wrap64 (-(l.getD 0 Vl.zero).n)))
  else if q=2 then some (.num (wrap64 ((l.getD 0 Vl.zero).n+(l.getD 1 Vl.zero).n)))
  else if q=3 then some (.num (wrap64 ((l.getD 0 Vl.zero).n-(l.getD 1 Vl.zero).n)))
  else if q=4 then some (.num (wrap64 ((l.getD 0 Vl.zero).n*(l.getD 1 Vl.zero).n)))
  else if q=5\/q=6 then(if(l.getD 1 Vl.zero).n=0 then none else some (.num (if q=5 then wrap64 ((l.getD 0 Vl.zero).n.tdiv (l.getD 1 Vl.zero).n)else(l.getD 0 Vl.zero).n.tmod (l.getD 1 Vl.zero).n)))
  else if q=7 then(if((l.getD 0 Vl.zero).s++(l.getD 1 Vl.zero).s).size<=200 then some (.YU ((l.getD 0 Vl.zero).s++(l.getD 1 Vl.zero).s))else none)
  else if q=8 then some (.num ((l.getD 0 Vl.zero).s.size:Int))
  else if q=9 then some (.num (Lib.runeCount (l.getD 0 Vl.zero).s:Int))
  else(if(ZF (l.getD 0 Vl.zero).s).size<=200 then some (.YU (ZF (l.getD 0 Vl.zero).s))else none)
 else none
theorem Vl.Yw{x:Vl}(h:x.ok):x.s.size<=200:=by
 rcases h with⟨_,h⟩ |⟨_,_,h⟩
 ·rw[h];decide
 ·exact h
theorem zg9(w:World)(tk:Nat->Int)(R:Tk w tk)(A:Option Addr)(cap:Nat)(l:List Vl)(hl:zZ Vl.cells w A l)(X:∀v∈l,v.ok)(q n:Nat)(ab:1<=q)(hq:q<=10)(hn:l.length=n)(ad:n<=2)(I:¬(y9 (tk q) l)):
 Calls prog 244 #[.int .i8 q,.slice A n cap] w (y6 (qQ tk q l) w):=by
 have O:qQ tk q l=none:=by unfold qQ;rw[if_neg I]
 rw[O];have ac:decide ((q:Int)<0)=false:=zp;have aa:decide ((11:Int)<=(q:Int))=false:=by first |(simp;done) |(simp;omega)
 have Hb:=zz (qu I);obtain⟨W1,h,N⟩:=xi w 43 #[.int .i8 0,.int .i64 0,.string ⟨#[]⟩];have U:=zz h;have Y:=zz N;have Z:(w.alloc (.cells #[.int .i8 0,.int .i64 0,.string ⟨#[]⟩] 43)).cell? ⟨2,q,none⟩=some (.int .i8 (tk q)):=by
  rw[h];exact(N.below.cell (p:=⟨2,q,none⟩) R.lt).trans (R.cell q zd)
 have L:=zz (fun W (V:Bl w W)=>YZ W (tk q) A cap n l hn (hl.below V) X zd);clear N h R hn O I hl;go_enter func244,ntmps244;go_upto_region 2 with(go_at_call 264;rw[U.o];refine(L.o _ Y.o.below).mono ?_;rintro e w2⟨rfl,N⟩;rw[Hb.o];have V:=zz (zl Y.o.below N);have O:=zz (Y.o.b0.below N);clear N Z)
 go_wp2_with (first
  |fail
  |(refine xy 43 _ _ rfl ?_;refine yH 43 w.heap.size 0 O.o [.int .i8 0,.int .i64 0,.string ⟨#[]⟩] ?_;intro W9 h;have z0:=h.zH.cell 0;have z1:=h.zH.cell 1;have Z:=h.zH.cell 2;have HF:=zz h;clear h))
 simp only[zpY,zpI,zpL,zpJ,zpH,zpM]at z0 z1 Z;refine bodyPost_ret (v:=.tuple #[.agg #[.int .i8 0,.int .i64 0,.string ⟨#[]⟩],.bool false]) (by simp[results,results244,go_sem,z0,z1,Z]) rfl ?_;exact .Zx (x:=Vl.zero) rfl (HF.o.below V.o (zpx _) (zpx _))
theorem zgv(w:World)(tk:Nat->Int)(hT:Tk w tk)(A:Option Addr)(cap:Nat)(l:List Vl)(hl:zZ Vl.cells w A l)(V:∀v∈l,v.ok)(hn:l.length=1)(I:y9 (tk 1) l):
 Calls prog 244 #[.int .i8 1,.slice A 1 cap] w (y6 (qQ tk 1 l) w):=by
 obtain⟨x,rfl⟩:∃x,l=[x]:=by
  obtain⟨-,h,-⟩:=I
  match l,hn with
  |[x],_=>exact⟨x,rfl⟩
 obtain⟨b,o,rfl,q,L⟩:=hl.at (c:=2) (fun _=>rfl) 0 zp;have ab:=Vl.Yw (V x zp);simp only[zqj,zqX,zqk]at L;obtain⟨xk,R,xs⟩:=x;simp only[Vl.cells]at L;have Hd:Kz (∀W,Bl w W->W.cell? ⟨b,o,none⟩=some (.int .i8 xk)/\W.cell? ⟨b,o+1,none⟩=some (.int .i64 R)/\W.cell? ⟨b,o+2,none⟩=some (.string xs)):=fun W O=>three (yB L O q)
 clear L q;have q:qQ tk 1 [⟨xk,R,xs⟩]=some (.num (wrap64 (-R))):=by unfold qQ;rw[if_pos I,if_pos rfl];rfl
 rw[q];clear q;have Hb:=zz (qs I);obtain⟨W1,q,N⟩:=xi w 43 #[.int .i8 0,.int .i64 0,.string ⟨#[]⟩];have aa:=zz q;have HX:=zz N;have X:(w.alloc (.cells #[.int .i8 0,.int .i64 0,.string ⟨#[]⟩] 43)).cell? ⟨2,1,none⟩=some (.int .i8 (tk 1)):=by
  rw[q];exact(N.below.cell (p:=⟨2,1,none⟩) hT.lt).trans (hT.cell 1 zr)
 have L:=zz (fun W (O:Bl w W)=>YZ W (tk 1) _ cap 1 _ rfl (hl.below O) V zr);clear N q hT;go_enter func244,ntmps244;go_upto_region 5 with(go_at_call 264;rw[aa.o];refine(L.o _ HX.o.below).mono ?_;rintro e w2⟨rfl,N⟩;rw[Hb.o];have U:=zz (zl HX.o.below N);have Z:=zz (HX.o.b0.below N);clear N X)
 obtain⟨d0,d1,d2⟩:=Hd.o _ U.o
 go_wp2_with (first
  |(go_at_call 265;refine(V0 _ _).mono ?_;rintro e w3⟨rfl,O⟩;simp only[Vl.num,Vl.cells];have X:=zz (zl U.o O);have Y:=zz (Z.o.below O);clear O)
  |(refine xy 43 _ _ rfl ?_;refine yH 43 w.heap.size 0 Y.o [.int .i8 1,.int .i64 (wrap64 (-R)),.string ⟨#[]⟩] ?_;intro W9 q;have z0:=q.zH.cell 0;have z1:=q.zH.cell 1;have z2:=q.zH.cell 2;have HF:=zz q;clear q))
 simp only[zpY,zpI,zpL,zpJ,zpH,zpM]at z0 z1 z2;refine bodyPost_ret (v:=.tuple #[.agg #[.int .i8 1,.int .i64 (wrap64 (-R)),.string ⟨#[]⟩],.bool true]) (by simp[results,results244,go_sem,z0,z1,z2]) rfl ?_;exact .Yx rfl (HF.o.below X.o (zpx _) (zpx _))
theorem GG(n:Int):IntKind.i64.wrap n=wrap64 n:=by rw[IntKind.wrap_i64];unfold wrap64;omega
theorem znp(w:World)(tk:Nat->Int)(hT:Tk w tk)(A:Option Addr)(cap:Nat)(l:List Vl)(hl:zZ Vl.cells w A l)(V:∀v∈l,v.ok)(hn:l.length=2)(q:y9 (tk 2) l):
 Calls prog 244 #[.int .i8 2,.slice A 2 cap] w (y6 (qQ tk 2 l) w):=by
 obtain⟨x,y,rfl⟩:∃x y,l=[x,y]:=by
  match l,hn with
  |[x,y],_=>exact⟨x,y,rfl⟩
 obtain⟨b,o,rfl,L,R⟩:=hl.at (c:=2) (fun _=>rfl) 0 zp;obtain⟨b',o',O,I,h⟩:=hl.at (c:=2) (fun _=>rfl) 1 zp;injection O with O
 injection O with aa af
 subst aa af;have ai:=Vl.Yw (V x zp);have ah:=Vl.Yw (V y zp);simp only[zqj,zqZ,zqX,zqk,zry,Nat.reduceAdd]at R h;obtain⟨xk,X,xs⟩:=x;obtain⟨yk,Y,ys⟩:=y;simp only[Vl.cells]at R h;have Hd:=zz (show ∀W,W.heap[b]? = w.heap[b]?->W.cell? ⟨b,o+1,none⟩=some (.int .i64 X)/\W.cell? ⟨b,o+2,none⟩=some (.string xs)/\W.cell? ⟨b,o+3+1,none⟩=some (.int .i64 Y)/\W.cell? ⟨b,o+3+2,none⟩=some (.string ys)from fun W Z=>
  have e:=fun j=>World.cell?_of_block (w:=w) (w':=W) (a:=⟨b,j,none⟩) Z
  ⟨(e _).trans (R 1 _ rfl),(e _).trans (R 2 _ rfl),(e _).trans (h 1 _ rfl),(e _).trans (h 2 _ rfl)⟩)
 have N:=zz L;clear R h L I;have h:qQ tk 2 [⟨xk,X,xs⟩,⟨yk,Y,ys⟩]=some (.num (wrap64 (X+Y))):=by unfold qQ;rw[if_pos q,if_neg zr,if_pos rfl];rfl
 rw[h];clear h;have Hb:=zz (qs q);obtain⟨W1,h,I⟩:=xi w 43 #[.int .i8 0,.int .i64 0,.string ⟨#[]⟩];have ag:=zz h;have HX:=zz I;have ct:(w.alloc (.cells #[.int .i8 0,.int .i64 0,.string ⟨#[]⟩] 43)).cell? ⟨2,2,none⟩=some (.int .i8 (tk 2)):=by
  rw[h];exact(I.below.cell (p:=⟨2,2,none⟩) hT.lt).trans (hT.cell 2 zr)
 have L:=zz (fun W (Z:Bl w W)=>YZ W (tk 2) _ cap 2 _ rfl (hl.below Z) V zr);clear I h hT;go_enter func244,ntmps244;go_upto_region 7 with(go_at_call 264;rw[ag.o];refine(L.o _ HX.o.below).mono ?_;rintro e I⟨rfl,R⟩;rw[Hb.o];have U:=zz (zl HX.o.below R);have ae:=zz (HX.o.b0.below R);clear R ct)
 have H0:Kz (∀W,zh (·=w.heap.size) I W->_):=fun W Z=>Hd.o W ((Z.block b (by have:=N.o;have:=U.o.size;omega) (by have:=N.o;omega)).trans (U.o.block b N.o))
 refine xX [0,0,0,0,0,0,0,0,0,2,0,0,2,0] (fun W=>zh (·=w.heap.size) I W) ?_
 repeat refine zS H0.o ?_
 refine xf fun K Z=>?_
 go_simp;try simp only[GG]
 refine(V0 _ (wrap64 (X+Y))).mono ?_;rintro e w3⟨rfl,h⟩;simp only[Vl.num,Vl.YU,Vl.cells];have ab:=zz (zl U.o ((Below.refl _ _).drew.trans h));have ac:=zz (ae.o.below ((Below.refl I.heap.size I).drew.trans h));refine Z.out _ _ (zh.xj _ ((Below.refl I.heap.size I).drew.trans h)) (fun _=>trivial) ?_;have ad:=zz (zh.xj (·=w.heap.size) ((Below.refl I.heap.size I).drew.trans h));clear Z K h;try refine zQ ?_
 repeat refine zS H0.o ?_
 refine xf fun K Z=>?_
 refine Xu 43 _ _ rfl w.heap.size 0 _ _ ac.o [.int .i8 1,.int .i64 (wrap64 (X+Y)),.string ⟨#[]⟩] rfl rfl zp (zo) zt ?_;intro W9 h;have z0:=h.zH.cell 0;have z1:=h.zH.cell 1;have z2:=h.zH.cell 2;have HF:=zz h;refine Z.out _ _ (ad.o.trans h.zC (fun x hx _=>hx)) (fun _=>trivial) ?_;clear Z K h;try refine zQ ?_
 repeat refine zS H0.o ?_
 refine xt ?_;simp only[zpY,zpI,zpL,zpJ,zpH,zpM]at z0 z1 z2;go_wp2;refine bodyPost_ret (v:=.tuple #[.agg #[.int .i8 1,.int .i64 (wrap64 (X+Y)),.string ⟨#[]⟩],.bool true]) (by simp[results,results244,go_sem,z0,z1,z2]) rfl ?_;exact .Yx rfl (HF.o.below ab.o (zpx _) (zpx _))
theorem zjv(w:World)(tk:Nat->Int)(hT:Tk w tk)(A:Option Addr)(cap:Nat)(l:List Vl)(hl:zZ Vl.cells w A l)(V:∀v∈l,v.ok)(hn:l.length=2)(q:y9 (tk 3) l):
 Calls prog 244 #[.int .i8 3,.slice A 2 cap] w (y6 (qQ tk 3 l) w):=by
 obtain⟨x,y,rfl⟩:∃x y,l=[x,y]:=by
  match l,hn with
  |[x,y],_=>exact⟨x,y,rfl⟩
 obtain⟨b,o,rfl,L,R⟩:=hl.at (c:=2) (fun _=>rfl) 0 zp;obtain⟨b',o',O,I,h⟩:=hl.at (c:=2) (fun _=>rfl) 1 zp;injection O with O
 injection O with aa af
 subst aa af;have ai:=Vl.Yw (V x zp);have ah:=Vl.Yw (V y zp);simp only[zqj,zqZ,zqX,zqk,zry,Nat.reduceAdd]at R h;obtain⟨xk,X,xs⟩:=x;obtain⟨yk,Y,ys⟩:=y;simp only[Vl.cells]at R h;have Hd:=zz (show ∀W,W.heap[b]? = w.heap[b]?->W.cell? ⟨b,o+1,none⟩=some (.int .i64 X)/\W.cell? ⟨b,o+2,none⟩=some (.string xs)/\W.cell? ⟨b,o+3+1,none⟩=some (.int .i64 Y)/\W.cell? ⟨b,o+3+2,none⟩=some (.string ys)from fun W Z=>
  have e:=fun j=>World.cell?_of_block (w:=w) (w':=W) (a:=⟨b,j,none⟩) Z
  ⟨(e _).trans (R 1 _ rfl),(e _).trans (R 2 _ rfl),(e _).trans (h 1 _ rfl),(e _).trans (h 2 _ rfl)⟩)
 have N:=zz L;clear R h L I;have h:qQ tk 3 [⟨xk,X,xs⟩,⟨yk,Y,ys⟩]=some (.num (wrap64 (X-Y))):=by unfold qQ;rw[if_pos q,if_neg zr,if_neg zr,if_pos rfl];rfl
 rw[h];clear h;have Hb:=zz (qs q);obtain⟨W1,h,I⟩:=xi w 43 #[.int .i8 0,.int .i64 0,.string ⟨#[]⟩];have ag:=zz h;have HX:=zz I;have ct:(w.alloc (.cells #[.int .i8 0,.int .i64 0,.string ⟨#[]⟩] 43)).cell? ⟨2,3,none⟩=some (.int .i8 (tk 3)):=by
  rw[h];exact(I.below.cell (p:=⟨2,3,none⟩) hT.lt).trans (hT.cell 3 zr)
 have L:=zz (fun W (Z:Bl w W)=>YZ W (tk 3) _ cap 2 _ rfl (hl.below Z) V zr);clear I h hT;go_enter func244,ntmps244;go_upto_region 9 with(go_at_call 264;rw[ag.o];refine(L.o _ HX.o.below).mono ?_;rintro e I⟨rfl,R⟩;rw[Hb.o];have U:=zz (zl HX.o.below R);have ae:=zz (HX.o.b0.below R);clear R ct)
 have H0:Kz (∀W,zh (·=w.heap.size) I W->_):=fun W Z=>Hd.o W ((Z.block b (by have:=N.o;have:=U.o.size;omega) (by have:=N.o;omega)).trans (U.o.block b N.o))
 refine xX [0,0,0,0,0,0,0,0,0,2,0,0,2,0] (fun W=>zh (·=w.heap.size) I W) ?_
 repeat refine zS H0.o ?_
 refine xf fun K Z=>?_
 go_simp;try simp only[GG]
 refine(V0 _ (wrap64 (X-Y))).mono ?_;rintro e w3⟨rfl,h⟩;simp only[Vl.num,Vl.YU,Vl.cells];have ab:=zz (zl U.o ((Below.refl _ _).drew.trans h));have ac:=zz (ae.o.below ((Below.refl I.heap.size I).drew.trans h));refine Z.out _ _ (zh.xj _ ((Below.refl I.heap.size I).drew.trans h)) (fun _=>trivial) ?_;have ad:=zz (zh.xj (·=w.heap.size) ((Below.refl I.heap.size I).drew.trans h));clear Z K h;try refine zQ ?_
 repeat refine zS H0.o ?_
 refine xf fun K Z=>?_
 refine Xu 43 _ _ rfl w.heap.size 0 _ _ ac.o [.int .i8 1,.int .i64 (wrap64 (X-Y)),.string ⟨#[]⟩] rfl rfl zp (zo) zt ?_;intro W9 h;have z0:=h.zH.cell 0;have z1:=h.zH.cell 1;have z2:=h.zH.cell 2;have HF:=zz h;refine Z.out _ _ (ad.o.trans h.zC (fun x hx _=>hx)) (fun _=>trivial) ?_;clear Z K h;try refine zQ ?_
 repeat refine zS H0.o ?_
 refine xt ?_;simp only[zpY,zpI,zpL,zpJ,zpH,zpM]at z0 z1 z2;go_wp2;refine bodyPost_ret (v:=.tuple #[.agg #[.int .i8 1,.int .i64 (wrap64 (X-Y)),.string ⟨#[]⟩],.bool true]) (by simp[results,results244,go_sem,z0,z1,z2]) rfl ?_;exact .Yx rfl (HF.o.below ab.o (zpx _) (zpx _))
theorem zjo(w:World)(tk:Nat->Int)(hT:Tk w tk)(A:Option Addr)(cap:Nat)(l:List Vl)(hl:zZ Vl.cells w A l)(V:∀v∈l,v.ok)(hn:l.length=2)(q:y9 (tk 4) l):
 Calls prog 244 #[.int .i8 4,.slice A 2 cap] w (y6 (qQ tk 4 l) w):=by
 obtain⟨x,y,rfl⟩:∃x y,l=[x,y]:=by
  match l,hn with
  |[x,y],_=>exact⟨x,y,rfl⟩
 obtain⟨b,o,rfl,L,R⟩:=hl.at (c:=2) (fun _=>rfl) 0 zp;obtain⟨b',o',O,I,h⟩:=hl.at (c:=2) (fun _=>rfl) 1 zp;injection O with O
 injection O with aa af
 subst aa af;have ai:=Vl.Yw (V x zp);have ah:=Vl.Yw (V y zp);simp only[zqj,zqZ,zqX,zqk,zry,Nat.reduceAdd]at R h;obtain⟨xk,X,xs⟩:=x;obtain⟨yk,Y,ys⟩:=y;simp only[Vl.cells]at R h;have Hd:=zz (show ∀W,W.heap[b]? = w.heap[b]?->W.cell? ⟨b,o+1,none⟩=some (.int .i64 X)/\W.cell? ⟨b,o+2,none⟩=some (.string xs)/\W.cell? ⟨b,o+3+1,none⟩=some (.int .i64 Y)/\W.cell? ⟨b,o+3+2,none⟩=some (.string ys)from fun W Z=>
  have e:=fun j=>World.cell?_of_block (w:=w) (w':=W) (a:=⟨b,j,none⟩) Z
  ⟨(e _).trans (R 1 _ rfl),(e _).trans (R 2 _ rfl),(e _).trans (h 1 _ rfl),(e _).trans (h 2 _ rfl)⟩)
 have N:=zz L;clear R h L I;have h:qQ tk 4 [⟨xk,X,xs⟩,⟨yk,Y,ys⟩]=some (.num (wrap64 (X*Y))):=by unfold qQ;rw[if_pos q,if_neg zr,if_neg zr,if_neg zr,if_pos rfl];rfl
 rw[h];clear h;have Hb:=zz (qs q);obtain⟨W1,h,I⟩:=xi w 43 #[.int .i8 0,.int .i64 0,.string ⟨#[]⟩];have ag:=zz h;have HX:=zz I;have ct:(w.alloc (.cells #[.int .i8 0,.int .i64 0,.string ⟨#[]⟩] 43)).cell? ⟨2,4,none⟩=some (.int .i8 (tk 4)):=by
  rw[h];exact(I.below.cell (p:=⟨2,4,none⟩) hT.lt).trans (hT.cell 4 zr)
 have L:=zz (fun W (Z:Bl w W)=>YZ W (tk 4) _ cap 2 _ rfl (hl.below Z) V zr);clear I h hT;go_enter func244,ntmps244;go_upto_region 11 with(go_at_call 264;rw[ag.o];refine(L.o _ HX.o.below).mono ?_;rintro e I⟨rfl,R⟩;rw[Hb.o];have U:=zz (zl HX.o.below R);have ae:=zz (HX.o.b0.below R);clear R ct)
 have H0:Kz (∀W,zh (·=w.heap.size) I W->_):=fun W Z=>Hd.o W ((Z.block b (by have:=N.o;have:=U.o.size;omega) (by have:=N.o;omega)).trans (U.o.block b N.o))
 refine xX [0,0,0,0,0,0,0,0,0,2,0,0,2,0] (fun W=>zh (·=w.heap.size) I W) ?_
 repeat refine zS H0.o ?_
 refine xf fun K Z=>?_
 go_simp;try simp only[GG]
 refine(V0 _ (wrap64 (X*Y))).mono ?_;rintro e w3⟨rfl,h⟩;simp only[Vl.num,Vl.YU,Vl.cells];have ab:=zz (zl U.o ((Below.refl _ _).drew.trans h));have ac:=zz (ae.o.below ((Below.refl I.heap.size I).drew.trans h));refine Z.out _ _ (zh.xj _ ((Below.refl I.heap.size I).drew.trans h)) (fun _=>trivial) ?_;have ad:=zz (zh.xj (·=w.heap.size) ((Below.refl I.heap.size I).drew.trans h));clear Z K h;try refine zQ ?_
 repeat refine zS H0.o ?_
 refine xf fun K Z=>?_
 refine Xu 43 _ _ rfl w.heap.size 0 _ _ ac.o [.int .i8 1,.int .i64 (wrap64 (X*Y)),.string ⟨#[]⟩] rfl rfl zp (zo) zt ?_;intro W9 h;have z0:=h.zH.cell 0;have z1:=h.zH.cell 1;have z2:=h.zH.cell 2;have HF:=zz h;refine Z.out _ _ (ad.o.trans h.zC (fun x hx _=>hx)) (fun _=>trivial) ?_;clear Z K h;try refine zQ ?_
 repeat refine zS H0.o ?_
 refine xt ?_;simp only[zpY,zpI,zpL,zpJ,zpH,zpM]at z0 z1 z2;go_wp2;refine bodyPost_ret (v:=.tuple #[.agg #[.int .i8 1,.int .i64 (wrap64 (X*Y)),.string ⟨#[]⟩],.bool true]) (by simp[results,results244,go_sem,z0,z1,z2]) rfl ?_;exact .Yx rfl (HF.o.below ab.o (zpx _) (zpx _))
end
