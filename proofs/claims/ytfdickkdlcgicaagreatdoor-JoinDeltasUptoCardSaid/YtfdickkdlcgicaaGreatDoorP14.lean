/-
  Values: a quotient, or what is left; a division by zero is c
-/
import Derived.Test.YtfdickkdlcgicaaGreatDoorP13
import Derived.Defers
import Derived.Recover
import Derived.Laws.Pointers
import Derived.Lib.LazyBuf
import Derived.Lib.OthersKept
import Derived.Lib.RuneCount
import Derived.Lib.TrimU
import Derived.Lib.QuoteLoop
set_option maxRecDepth 100000
set_option maxHeartbeats 8000000
set_option linter.all false
namespace Go.Proofs.YtfdickkdlcgicaaGreatDoor.C
open Go.Proofs.Tryz Go Go.RowKit Go.Maps Go.WideMaps
variable {K:List ByteArray}{R:List UInt8}{body:List Li}{g hi i lo mid n q:Nat}{s:ByteArray}{tk:Nat->Int}{w w':World}
section
theorem zhy(p q:Addr)(x:Int)(y:Bool)(u:TypeId)(O:Value)(h:List PanicEntry)(w:World)(W:w.cell? p=some (.int .i64 x))(U:w.frozen? p=false)(R:w.cell? q=some (.bool y))(I:w.frozen? q=false)(r:q.block≠p.block):
 CallsD prog 285 #[.pointer (some p),.pointer (some q)] (.panicking ({ v:=.iface u O,recovered:=false }::h)) w fun e N L=>
  e=.returned (.tuple #[])/\N=.panicking ({ v:=.iface u O,recovered:=true }::h)/\L=(w.setCell p (.int .i64 0)).setCell q (.bool false):=by
 have L:(w.setCell p (.int .i64 0)).cell? q=some (.bool y):=(World.cell?_of_block (Below.heap_setCell w p (.int .i64 0) q.block r)).trans R;have N:(w.setCell p (.int .i64 0)).frozen? q=false:=by rw[World.frozen?_setCell];exact I
 refine callsD_of_wpS func285 rfl fun X Y V=>?_
 apply wpS_seq;apply wpS_region;simp[wpOpsS,go_sem,recoverD,V,ntmps285,Exit.thenS];refine wpS_cond (t:=true) (by simp[Act.eval,Array.replicate]) ?_;simp only[if_true];apply wpS_region;simp[wpOpsS,go_sem,W,U,L,N,bodyPostS,results,results285]
theorem zie(p q:Addr)(w:World):
 CallsD prog 285 #[.pointer (some p),.pointer (some q)] .returning w fun e r h=>e=.returned (.tuple #[])/\r=.returning/\h=w:=by
 refine callsD_of_wpS func285 rfl fun h I r=>?_
 apply wpS_seq;apply wpS_region;simp[wpOpsS,go_sem,recoverD,r,ntmps285,Exit.thenS];refine wpS_cond (t:=false) (by simp[Act.eval,Array.replicate]) ?_;simp only[zp1,if_false];refine wpS_of_wp (wp_skip ?_)
 cases h
 simp_all[bodyPostS,results,results285]
theorem zdL(w:World)(q a:Int)(r:q=5\/q=6):Calls prog 266 #[.int .i8 q,.int .i64 a,.int .i64 0] w fun e h=>e=.returned (.tuple #[.int .i64 0,.bool false])/\Bl w h:=by
 have N:∀(I:Fn)(first h:Array Value)(w:World),(Instr.makeFunc I first h).run prog w=.ok (.func I first h) w:=fun _ _ _ _=>rfl
 rcases r with rfl|rfl
 all_goals
  go_enter_defers func266,ntmps266
  go_wp2;refine leaves_cons (f:=285) (args:=#[.pointer (some ⟨w.heap.size,0,none⟩),.pointer (some ⟨w.heap.size+1,0,none⟩)]) zp (by simp[go_sem]) ?_;refine(zhy ⟨w.heap.size,0,none⟩ ⟨w.heap.size+1,0,none⟩ 0 false _ _ [] _ ?_ ?_ ?_ ?_ ?_).mono ?_
  ·simp[go_sem]
  ·simp[go_sem]
  ·simp[go_sem]
  ·simp[go_sem]
  ·simp
  rintro e O L⟨rfl,rfl,rfl⟩;simp[Leaves,settle,results,results266,go_sem];exact(xo w _).alloc zp _
theorem zcT(w:World)(q a b:Int)(R:¬b=0)(r:q=5\/q=6):Calls prog 266 #[.int .i8 q,.int .i64 a,.int .i64 b] w fun e h=>e=.returned (.tuple #[.int .i64 (if q=5 then wrap64 (a.tdiv b)else a.tmod b),.bool true])/\Bl w h:=by
 have N:∀(I:Fn)(first h:Array Value)(w:World),(Instr.makeFunc I first h).run prog w=.ok (.func I first h) w:=fun _ _ _ _=>rfl
 rcases r with rfl|rfl
 all_goals
  go_enter_defers func266,ntmps266
  go_wp2;refine leaves_cons (f:=285) (args:=#[.pointer (some ⟨w.heap.size,0,none⟩),.pointer (some ⟨w.heap.size+1,0,none⟩)]) zp (by simp[go_sem]) ?_;refine(zie ⟨w.heap.size,0,none⟩ ⟨w.heap.size+1,0,none⟩ _).mono ?_;rintro e O L⟨rfl,rfl,rfl⟩;simp[Leaves,settle,results,results266,go_sem];exact(xo w _).alloc zp _
def Zy(l:List UInt8):List Value:=l.map fun x=>Value.int .u8 (x.toNat:Int)
theorem zb8(l:List UInt8):(Zy l).length=l.length:=by simp[Zy]
def Yu(n h:Nat)(R:List UInt8):Array Value:=(Zy (List.replicate (n-h) 0++R)).toArray
theorem zjD{P:Program}{o:Oper}{a:Act}{K:Act->World->Prop}{Q:Exit->Act->World->Prop}(d x:Operand)(V Z h:TypeId)(ho:o.op=.call { callee:=.builtin .copy,args:=#[d,x],argTypes:=#[V,Z]})(hu:P.underlying V=some (.slice h))(hz:∀w,(Go.sizeOf h).run P w=.ok 1 w)(g L q r:Nat)(t:ByteArray)(hd:a.eval d=.slice (some ⟨g,L,none⟩) q r)(hx:a.eval x=.string t)(ty:TypeId)(U:Array Value)(Y:zD w g ty U)(X:t.size<=q)(I:L+t.size<=U.size)(hK:∀W,XK w g ty (U.toList.take L++Zy t.data.toList++U.toList.drop (L+t.size)).toArray W->K (a.put o.dst (goInt t.size)) W):Oper.wp P o a w K Q:=by
 have hl:(Zy t.data.toList).length=t.size:=by rw[zb8];rfl
 have N:=TR Y (a0:=L) (n:=t.size) I;have R:=run_copy_string (P:=P) w V Z o.type h g L q r t hu hz X (fun j O=>(N j O).1) (fun j O=>(N j O).2);have O:=Gh Y (a0:=L) (Zy t.data.toList) (by rw[hl];exact I);rw[hl]at O;unfold Oper.wp execOp;simp only[ho,resolve,invoke,builtin,Sem.run_bind,Sem.run_pure,Result.andThen_ok,zqh,zpM,zqG,hd,hx,R];exact hK _ O
theorem zhs{h:Nat}(O:s.size=n)(N:h<=i)(I:i<=n)(L:R.length=h):
 ((Yu n h R).toList.take (n-i)++Zy (s.extract h i).data.toList++(Yu n h R).toList.drop (n-i+(s.extract h i).size)).toArray=Yu n i ((s.extract h i).data.toList++R):=by
 have q:(s.extract h i).size=i-h:=by rw[ByteArray.size_extract];omega
 have r:(s.extract h i).data.toList.length=i-h:=by rw[<-q];rfl
 rw[q];unfold Yu Zy;generalize(s.extract h i).data.toList=X at r
 congr 1
 rw[List.toList_toArray,zpt,List.map_replicate,zp3 zb,List.drop_append_of_le_length zb,List.take_replicate,List.drop_replicate,zpt,zpt,List.map_replicate];have e1:min (n-i) (n-h)=n-i:=zd;have e2:n-h-(n-i+(i-h))=0:=zd;rw[e1,e2];simp
structure Ul (w:World) (eb wb ob sb g n was:Nat) (s:ByteArray) (R:List UInt8):Prop where
 e:zD w eb 3 #[.int .i64 ((n-was:Nat):Int)]
 k:zD w wb 3 #[.int .i64 (was:Int)]
 o:zD w ob 368 #[.slice (some ⟨g,0,none⟩) n n]
 s:zD w sb 9 #[.string s]
 g:zD w g 5 (Yu n was R)
 len:R.length=was
 le:was<=n
 ne1:eb≠wb
def zls(q h r I g n i:Nat)(s:ByteArray)(R:List UInt8)(w:World)(e:Ending)(w':World):Prop:=e=.returned (.tuple #[])/\Ul w' q h r I g n i s R/\zh (fun x=>x=q\/x=h\/x=g) w w'
theorem zd4(w:World)(I O X Y g n q i:Nat)(s:ByteArray)(R:List UInt8)(h:Ul w I O X Y g n q s R)(hn:s.size=n)(hb:n<=4194304)(h1:q<=i)(h2:i<=n):
 Calls prog 286 #[.int .i64 (i:Int),.pointer (some ⟨I,0,none⟩),.pointer (some ⟨O,0,none⟩),.pointer (some ⟨X,0,none⟩),.pointer (some ⟨Y,0,none⟩)] w (zls I O X Y g n i s ((s.extract q i).data.toList++R) w):=by
 have H:=zz h;have HN:=zz hn;have ah:=h.le;have r:=h.len;have V:=zz r;have ce:=h.e.cell 0;have cw:=h.k.cell 0;have fe:=h.e.frozen 0;have ab:g≠I:=fun e=>by have:=h.e.yD (e▸h.g) zr;exact this rfl
 have L:g≠O:=fun e=>by have:=h.k.yD (e▸h.g) zr;exact this rfl
 have aa:X≠I:=h.o.yD h.e zr;have ad:X≠O:=h.o.yD h.k zr;have U:X≠g:=h.o.yD h.g zr;have ac:Y≠I:=h.s.yD h.e zr;have Z:Y≠O:=h.s.yD h.k zr;have N:Y≠g:=h.s.yD h.g zr;have HD:=zz (show g≠I/\g≠O/\X≠I/\X≠O/\X≠g/\Y≠I/\Y≠O/\Y≠g/\I≠O from⟨ab,L,aa,ad,U,ac,Z,N,h.ne1⟩);clear h hn r ab L aa ad U ac Z N;go_enter func286,ntmps286;go_upto_region 1 with fail
 have L:((n-q:Nat):Int)-((i:Int)-(q:Int))=((n-i:Nat):Int):=zd;rw[L];have r:=UQ (i:=0) H.o.e (.int .i64 ((n-i:Nat):Int));generalize w.setCell ⟨I,0,none⟩ (.int .i64 ((n-i:Nat):Int))=w1 at r ⊢;have ae:=zz r;have HE:Kz (zD w1 I 3 #[.int .i64 ((n-i:Nat):Int)]):=r.zG;obtain⟨d1,d2,d3,d4,d5,d6,d7,d8,d9⟩:=HD.o;have HK:=zz (r.qj H.o.k (Ne.symm d9));have HO:=zz (r.qj H.o.o d3);have HS:=zz (r.qj H.o.s d6);have HG:=zz (r.qj H.o.g d1);have H0:=zz (show ∀W,zh (·=g) w1 W->W.cell? ⟨X,0,none⟩=some (.slice (some ⟨g,0,none⟩) n n)/\W.cell? ⟨I,0,none⟩=some (.int .i64 ((n-i:Nat):Int))/\W.cell? ⟨Y,0,none⟩=some (.string s)/\W.cell? ⟨O,0,none⟩=some (.int .i64 (q:Int))from fun W N=>
  ⟨(HO.o.zC N d5).cell 0,(HE.o.zC N (Ne.symm d1)).cell 0,(HS.o.zC N d8).cell 0,(HK.o.zC N (Ne.symm d2)).cell 0⟩)
 have aa:(s.size:Int)=(n:Int):=by rw[HN.o]
 clear ce cw fe r L d1 d2 d3 d4 d5 d6 d7 d8 d9;have L:n-i<=n:=Nat.sub_le _ _;refine xX [0,0,0,0,0,0,0,2] (fun W=>zh (·=g) w1 W) ?_
 repeat refine zT H0.o ?_
 obtain⟨o0,ab,r⟩:∃o0,(if n=n-i then some ⟨g,0,none⟩else some ⟨g,n-i,none⟩:Option Addr)=some ⟨g,o0,none⟩/\o0+(s.extract q i).size<=(Yu n q R).size/\
  ((Yu n q R).toList.take o0++Zy (s.extract q i).data.toList++(Yu n q R).toList.drop (o0+(s.extract q i).size)).toArray=Yu n i ((s.extract q i).data.toList++R):=by
  have ag:(Yu n q R).size=n:=by unfold Yu;simp[zb8,V.o];omega
  have ac:(s.extract q i).size=i-q:=by rw[ByteArray.size_extract,HN.o];omega
  have U:=zhs HN.o h1 h2 V.o
  by_cases hi:n=n-i
  ·refine⟨0,by rw[if_pos hi],zd,?_⟩;have Z:(s.extract q i).size=0:=zd;have N:(s.extract q i).data.toList=[]:=zpI Z;rw[<-U,Z,N];simp[Zy]
  ·exact⟨n-i,by rw[if_neg hi],zd,U⟩
 have e2:n-(n-i)=i:=zd;rw[ab,e2];clear e2 L;refine xc fun K hK=>?_
 refine zjD _ _ 368 9 5 rfl underlying368 (fun w=>sizeOf5 w) g o0 i i (s.extract q i) rfl rfl 5 _ HG.o.drew (by rw[ByteArray.size_extract,HN.o];omega) r.1 ?_;intro w2 Z;rw[r.2]at Z;have N:=zz Z;refine hK.out _ _ ((zh.refl _ w1).drew.trans Z.zC (fun x L _=>L)) (fun _=>trivial) ?_;clear hK K Z r ab;refine xu ?_;obtain⟨d1,d2,d3,d4,d5,d6,d7,d8,d9⟩:=HD.o;have af:=zz (N.o.qj HE.o.drew (Ne.symm d1));have Z:=zz (N.o.qj HK.o.drew (Ne.symm d2));have ad:=zz (N.o.qj HO.o.drew d5);have ab:=zz (N.o.qj HS.o.drew d8);have cw:=Z.o.cell 0;have fw:=Z.o.frozen 0;clear d1 d2 d3 d4 d5 d6 d7 d8 d9 aa;go_wp2;go_returns;obtain⟨d1,d2,d3,d4,d5,d6,d7,d8,d9⟩:=HD.o;have r:=UQ (i:=0) Z.o (.int .i64 (i:Int));refine⟨rfl,⟨r.qj af.o d9,r.zG,r.qj ad.o d4,r.qj ab.o d7,r.qj N.o.zG d2,?_,h2,d9⟩,?_⟩
 ·have ac:(s.extract q i).data.toList.length=(s.extract q i).size:=rfl;rw[zo1,ac,ByteArray.size_extract,HN.o,V.o];omega
 ·exact((ae.o.zC.trans (zh.refl (fun _=>False) w1).drew (fun x L _=>L.elim)).mono (fun x L _=>Or.inl L)).trans ((N.o.zC.mono (fun x L _=>(Or.inr (Or.inr L):x=I\/x=O\/x=g))).trans (r.zC.mono (fun x L _=>Or.inr (Or.inl L))) (fun x L _=>L)) (fun x L _=>L)
def Vf(s:ByteArray):Nat->Nat->Nat->List UInt8->List UInt8
 |0,_,q,R=>(s.extract q s.size).data.toList++R
 |f+1,h,q,R=>if h<s.size then Vf s f (h+(Utf8.decode s h).2) h ((s.extract q h).data.toList++R)else(s.extract q s.size).data.toList++R
def Zw(s:ByteArray):ByteArray:=⟨(Vf s s.size 0 0 []).toArray⟩
theorem zco(s:ByteArray)(q:Nat)(h:q<s.size):q+(Utf8.decode s q).2<=s.size:=by
 have r:=Lib.decodeN_width_le (s.size-q) (s.get! q).toNat (s.get! (q+1)).toNat (s.get! (q+2)).toNat (s.get! (q+3)).toNat zd;rw[<-Lib.decode_at]at r;omega
theorem zia(n:Nat)(U:n<=4194304)(W:World):(Instr.makeSlice 368 (.int .i64 (n:Int)) (.int .i64 (n:Int))).run prog W=.ok (.slice (some ⟨W.heap.size,0,none⟩) n n) (W.alloc (.cells (Yu n 0 []) 5)):=by
 obtain⟨L,N,q,r,h⟩:=info_parts (show(prog.info? 5).map (fun i=>(i.zero,i.size,i.bytes))=some (some (.int .u8 0),1,1) from zo);have I:=run_make (P:=prog) W 368 5 L (.int .u8 0) underlying368 N q .i64 .i64 (n:Int) (n:Int) zd (zqf _) (by rw[h];omega) zd;rw[r,Int.toNat_natCast]at I;rw[I];have e:madeCells (Value.int .u8 0).cells (n*1)=Yu n 0 []:=by
  unfold Yu Zy;rw[zqb,Nat.sub_zero,zpw];refine Array.ext (by simp[madeCells]) fun j R O=>?_
  simp[madeCells,Value.cells,Nat.mod_one]
 rw[e]
theorem Ul.same{I L O U:Nat}(h:Ul w I L O U g n q s R)(r:∀k t N,zD w k t N->zD w' k t N):Ul w' I L O U g n q s R:=
 ⟨r _ _ _ h.e,r _ _ _ h.k,r _ _ _ h.o,r _ _ _ h.s,r _ _ _ h.g,h.len,h.le,h.ne1⟩
theorem zeL{k pos':Nat}(I:w.heap[k]? = some (.stringIter s q)){t:TypeId}{r:Array Value}(h:zD w g t r):zD (w.iterAt k s pos') g t r:=
 h.same (Lib.iterAt_other w k g s pos' (fun e=>by unfold zD at h;rw[e,I]at h;cases h))
theorem zfW(w:World)(s:ByteArray)(hb:s.size<=4194304):Calls prog 268 #[.string s] w fun e q=>e=.returned (.string (Zw s))/\Bl w q:=by
 obtain⟨n,q⟩:∃n,s.size=n:=⟨_,rfl⟩;have HN:=zz q;have hs:(s.size:Int)=(n:Int):=by rw[q]
 have aw:∀(fn:Fn)(first ai:Array Value)(w:World),(Instr.makeFunc fn first ai).run prog w=.ok (.func fn first ai) w:=fun _ _ _ _=>rfl
 rw[q]at hb;have Y:=zia n hb;clear q;go_enter func268,ntmps268;go_upto_region 5 with fail
 obtain⟨W2,O,r⟩:=ya w 9 5 #[.string s] (Yu n 0 []);obtain⟨U,V,q⟩:=Va W2 368 3 3 #[.slice (some ⟨w.heap.size+1,0,none⟩) n n] #[.int .i64 (n:Int)] #[.int .i64 0];have L:=r.size;have N:=q.size;rw[L]at N;rw[O,V];have W:Bl w U:=zu r.below q.below;have X:=q.b0;have Z:=q.b1;have k4:=q.b2;rw[L]at X Z k4;have I:Ul U (w.heap.size+1+1+1) (w.heap.size+1+1+1+1) (w.heap.size+1+1) w.heap.size (w.heap.size+1) n 0 s []:=
  ⟨Z,k4,X,r.b0.below q.below,r.b1.below q.below,rfl,zo5 _,zd⟩
 have HA:=zz I;have ao:=zz W;have af:=zz N;have c0:=I.s.cell 0;clear r q O V L N W X Z k4 I Y;obtain⟨W6,q⟩:∃W6,U.iter s 0=W6:=⟨_,rfl⟩;have aj:W6.heap[U.heap.size]? = some (.stringIter s 0):=by rw[<-q];exact World.alloc_heap_new U _
 have r:Bl U W6:=by rw[<-q];exact xo U _
 go_wp2;try rw[q]
 clear q c0;have ap:=zz (HA.o.same (fun k t V h=>h.below r));have an:Kz (Bl w W6):=zu ao.o r;have q:∀x,x<w.heap.size+1+1+1+1+1->x≠U.heap.size:=fun x hx=>by have:=af.o;omega
 have ak:=zz q;clear q r
 go_loopg[7,16] n (fun gk O N L=>∃(f q r:Nat) (R:List UInt8),gk=n-q/\r<=q/\q<=n/\n-q<=f/\L.heap[U.heap.size]? = some (.stringIter s q)/\Ul L (w.heap.size+1+1+1) (w.heap.size+1+1+1+1) (w.heap.size+1+1) w.heap.size (w.heap.size+1) n r s R/\Vf s f q r R=Vf s n 0 0 []/\Bl w L)
 case atStart=>exact⟨n,0,0,[],zd,zoZ _,zo5 _,zd,aj,ap.o,rfl,an.o⟩
 case round=>
  obtain⟨f,q,r,R,rfl,h1,h2,hf,O,I,Y,hB⟩:=hrel;have ar:=zz I;have HB:=zz hB;have au:=zz Y;have av:=zz O;have Hf:=zz hf
  by_cases am:q<n
  ·have L:q<s.size:=by rw[HN.o];exact am
   have ab:=fun ty=>Lib.run_next_any_at (P:=prog) wr U.heap.size s q ty O L
   have al:=Lib.decode_width_pos s q L;have ac:=zco s q L;rw[HN.o]at ac;obtain⟨d,X⟩:∃d,(Utf8.decode s q).2=d:=⟨_,rfl⟩;have ad:=zz (show ∀f',f=f'+1->Vf s f' (q+d) q ((s.extract r q).data.toList++R)=Vf s n 0 0 []from fun f' e=>by
    subst e;rw[<-Y,Vf,if_pos L,X])
   rw[X]at ab al ac;obtain⟨f',W⟩:∃f',f=f'+1:=⟨f-1,zd⟩;have ah:=zz W;have ag:=zz (I.same (fun k t V h=>zeL (pos':=q+d) O h));have ae:=zz (Lib.below_iterAt (k:=U.heap.size) hB (by have:=af.o;omega) s (q+d));have Z:=zz (Lib.iterAt_heap wr U.heap.size s q (q+d) O);obtain⟨w2,N⟩:∃w2,wr.iterAt U.heap.size s (q+d)=w2:=⟨_,rfl⟩;rw[N]at ag ae Z ab;have V:=zz (zd4 w2 _ _ _ _ _ n r q s R ag.o HN.o hb h1 h2);generalize(Utf8.decode s q).1=aq at ab;clear I hB Y O L X N hf W
   go_wp2_with (go_at_call 286;refine V.o.mono ?_;rintro e w3⟨rfl,N,W⟩;have X:=zz N;have aa:=zz W;clear N W)
   go_roundg (n-(q+d))
   case measure=>omega
   case rel=>exact⟨f',q+d,q,(s.extract r q).data.toList++R,rfl,zd,ac,by have:=Hf.o;have:=ah.o;omega,(aa.o.block _ (zpb.1 Z.o).1 (fun h=>by rcases h with h|h|h<;>exact ak.o _ zd h.symm)).trans Z.o,X.o,ad.o f' ah.o,ae.o.trans (aa.o.below ae.o.size (fun x hx=>by rcases hx with h|h|h<;>omega))⟩
  ·obtain rfl:q=n:=zd;have L:¬q<s.size:=by rw[HN.o];omega
   have ab:=fun ty=>Lib.run_next_end_at (P:=prog) wr U.heap.size s q ty O L
   have Z:(s.extract r q).data.toList++R=Vf s q 0 0 []:=by
    rw[<-Y];have e:s.extract r q=s.extract r s.size:=by rw[HN.o]
    rw[e]
    cases f with
    |zero=>rfl
    |succ f=>rw[Vf,if_neg L]
   have ad:=zz Z;have V:=zz (zd4 wr _ _ _ _ _ q r q s R I HN.o hb h1 (zoZ _));have c0:=I.s.cell 0;clear I hB Y O L Z hf;go_upto_region 10 with(go_at_call 286;refine V.o.mono ?_;rintro e w3⟨rfl,N,W⟩;have X:=zz N;have aa:=zz W;clear N W c0)
   have L:=X.o.len;have Z:=run_convert_bytes_back (P:=prog) w3 368 9 5 ⟨w.heap.size+1,0,none⟩ q ((s.extract r q).data.toList++R) underlying368 underlying5 underlying9 (fun j hj=>by
    have:=X.o.g.cell j;rw[show(⟨w.heap.size+1,0,none⟩:Addr).add j=⟨w.heap.size+1,j,none⟩ by cases j<;>simp[Addr.add],this];unfold Yu Zy;rw[zqw,List.replicate_zero,zpa,zpe,zpX,zo6 hj];rfl)
   rw[L,ad.o]at Z;have ac:=zz (show Zw s=⟨(Vf s q 0 0 []).toArray⟩ by unfold Zw;rw[HN.o]);have c2:=X.o.o.cell 0;clear L;go_wp2;go_returns;exact⟨by rw[ac.o];rfl,HB.o.trans (aa.o.below HB.o.size (fun x hx=>by rcases hx with h|h|h<;>omega))⟩
abbrev Env:=ByteArray->Option Vl
def Vl.zero:Vl:=⟨0,0,⟨#[]⟩⟩
open Classical in
noncomputable def qK(ρ:Env)(v:ByteArray)(x:Vl):Env:=fun u=>if u=v then some x else ρ u
open Classical in
noncomputable def ZJ(ρ:Env)(v:ByteArray):Env:=fun u=>if u=v then none else ρ u
noncomputable def ZS(ρ:Env)(vs:List ByteArray):Env:=vs.foldl ZJ ρ
open Classical in
noncomputable def Tm.at(ρ:Env)(t:Tm):Vl:=if t.v.toList=[]then t.x else(ρ t.v).getD Vl.zero
theorem zeD{ρ:Env}{v:ByteArray}{x:Vl}(h:ρ v=some x):qK ρ v x=ρ:=by
 funext u;unfold qK;split
 ·rename_i e;rw[e,h]
 ·rfl
open Classical in
theorem zdD:∀(q:List ByteArray)(ρ:Env)(u:ByteArray),ZS ρ q u=if u∈q then none else ρ u
 |[],ρ,u=>by simp[ZS]
 |v::q,ρ,u=>by
  show ZS (ZJ ρ v) q u=_;rw[zdD q (ZJ ρ v) u];unfold ZJ
  by_cases I:u∈q
  ·rw[if_pos I,if_pos (zpj _ I)]
  ·rw[if_neg I]
   by_cases r:u=v
   ·rw[if_pos r,if_pos (by rw[r];exact zpi)]
   ·rw[if_neg r,if_neg (fun h=>by rcases zpp.1 h with h|h<;>contradiction)]
open Classical in
noncomputable def fit(m:Nat):Nat->List Tm->List Vl->Env->Bool×Env
 |i,t::h,x::q,ρ=>
  if m.testBit i=true\/t.v.toList=[95]then fit m (i+1) h q ρ
  else match ρ t.v with
   |some y=>if y=x then fit m (i+1) h q ρ else(false,ρ)
   |none=>fit m (i+1) h q (qK ρ t.v x)
 |_,_,_,ρ=>(true,ρ)
def Zl(m:Nat)(ρ:Env)(args:List Tm)(row:List Vl):Prop:=∀i (h:i<args.length),m.testBit i=true->row[i]? = some (args[i].at ρ)
inductive St where
 |rows (p:ByteArray) (args:List Tm) (m:Nat) (gives:List ByteArray) (lo hi:Nat)
 |Xb (p:ByteArray) (args:List Tm) (m:Nat)
 |test (rl:Int) (l r:Ex)
 |set (v:ByteArray) (side:Ex)
noncomputable def XC(R:List (List Vl))(m:Nat)(ρ:Env)(args:List Tm)(lo hi:Nat):List Nat:=
 ((List.range R.length).filter fun n=>tf (Zl m ρ args (R.getD n []))).filter fun n=>decide (lo<=n/\n<hi)
section
variable (ev:Env->Ex->Option Vl)(ho:Int->Vl->Vl->Bool)(R:ByteArray->List (List Vl))
noncomputable def solve:List St->Env->List Env
 |[],ρ=>[ρ]
 |.rows p q m _ N O::h,ρ=>(XC (R p) m ρ q N O).flatMap fun n=>
  if(fit m 0 q ((R p).getD n []) ρ).1=true then solve h (fit m 0 q ((R p).getD n []) ρ).2 else []
 |.Xb p q m::h,ρ=>if XC (R p) m ρ q 0 (R p).length=[]then solve h ρ else []
 |.test L l r::h,ρ=>match ev ρ l,ev ρ r with
  |some a,some b=>if ho L a b=true then solve h ρ else []
  |_,_=>[]
 |.set v I::h,ρ=>match ev ρ I with
  |some x=>solve h (qK ρ v x)
  |none=>[]
theorem ziV(T:List (List Vl))(m:Nat)(ρ:Env)(args:List Tm)(V:lo<=mid)(U:mid<=hi):XC T m ρ args lo hi=XC T m ρ args lo mid++XC T m ρ args mid hi:=by
 unfold XC;generalize q:((List.range T.length).filter fun n=>tf (Zl m ρ args (T.getD n [])))=L;have N:L.Pairwise (·<·):=by rw[<-q];exact List.pairwise_lt_range.filter _
 clear q
 induction L with
 |nil=>rfl
 |cons a L r=>
  have r:=r (List.Pairwise.of_cons N);have O:∀y∈L,a<y:=fun y q=>List.rel_of_pairwise_cons N q
  by_cases h:a<mid
  ·by_cases q:lo<=a
   ·rw[zqe zb,zqe zb,zpU zb,r,zpc]
   ·rw[zpU zb,zpU zb,zpU zb,r]
  ·have I:(a::L).filter (fun n=>decide (lo<=n/\n<mid))=[]:=List.filter_eq_nil_iff.2 fun n q=>by
    rcases zpp.1 q with rfl|q
    ·simp;omega
    ·have:=O _ q;simp;omega
   rw[I,zpa];refine List.filter_congr fun n q=>?_
   have:mid<=n:=by
    rcases zpp.1 q with rfl|q
    ·omega
    ·have:=O _ q;omega
   by_cases q:n<hi
   ·simp[q,this];omega
   ·simp[q]
inductive UG:List St->List St->List St->Prop
 |here {p:ByteArray} {args:List Tm} {m:Nat} {gives:List ByteArray} {lo mid hi:Nat} {rest:List St} (h1:lo<=mid) (h2:mid<=hi) :
  UG (.rows p args m gives lo hi::rest) (.rows p args m gives lo mid::rest) (.rows p args m gives mid hi::rest)
 |next {s:St} {a b c:List St} (h:UG a b c):UG (s::a) (s::b) (s::c)
theorem zd1{α β:Type}{f g h:α->List β}:∀(l:List α),(∀x∈l,(f x).Perm (g x++h x))->(l.flatMap f).Perm (l.flatMap g++l.flatMap h)
 |[],_=>zp
 |x::l,q=>by
  simp only[zps];have L:=q x zpi;have r:=zd1 l fun y I=>q y (zpj _ I)
  refine(L.append r).trans ?_;rw[zpo,zpo];refine List.Perm.append_left _ ?_;rw[<-zpo,<-zpo];exact List.Perm.append_right _ List.perm_append_comm
theorem ze2{p:ByteArray}{args:List Tm}{m:Nat}{h:List ByteArray}{rest:List St}(r:lo<=mid)(q:mid<=hi)(ρ:Env):
 solve ev ho R (.rows p args m h lo hi::rest) ρ=solve ev ho R (.rows p args m h lo mid::rest) ρ++solve ev ho R (.rows p args m h mid hi::rest) ρ:=by
 unfold solve;rw[ziV _ _ _ _ r q,zpq]
theorem zf7{a b c:List St}(h:UG a b c):∀ρ,(solve ev ho R a ρ).Perm (solve ev ho R b ρ++solve ev ho R c ρ):=by
 induction h with
 |here U O=>intro ρ;rw[ze2 ev ho R U O]
 |@next s a b c h I=>
  intro ρ
  cases s with
  |rows p q m L X V=>
   unfold solve;refine zd1 _ fun n _=>?_
   split
   ·exact I _
   ·simp
  |Xb p q m=>
   unfold solve;split
   ·exact I _
   ·simp
  |test W l r=>
   unfold solve;split
   ·split
    ·exact I _
    ·simp
   ·simp
  |set v N=>
   unfold solve;split
   ·exact I _
   ·simp
end
open Classical in
noncomputable def madeOf(body:List Li)(lo hi:Nat->Nat)(s:Sp):St:=
 match body[s.lit]? with
 |none=>.Xb ⟨#[]⟩ [] 0
 |some x=>
  if s.k=4 then .Xb x.a.p x.a.args s.known
  else if s.k=5 then .test x.rl x.l x.r
  else if s.k=6 then(if x.l.q=0/\[x.l.t.v]=s.gives then .set x.l.t.v x.r else .set (s.gives.headD ⟨#[]⟩) x.l)
  else .rows x.a.p x.a.args s.known s.gives (lo s.lit) (hi s.lit)
theorem zaB{j:Nat}{O r N U:Nat->Nat}(ha:∀k,k≠j->O k=N k)(V:∀k,k≠j->r k=U k){L:List Nat}{rest:List Sp}(Z:yu body K L rest)(h:j∉L):
 rest.map (madeOf body O r)=rest.map (madeOf body N U):=by
 induction Z with
 |nil=>rfl
 |@cons K L q s rest W X hs _ ih=>
  rw[zpM,zpM];have I:q≠j:=fun e=>h (e▸W)
  have Y:=(Y6 hs).1
  congr 1
  ·unfold madeOf;rw[Y,ha q I,V q I]
  ·exact ih (fun hm=>h (List.mem_of_mem_erase hm))
theorem zmk{left:List Nat}{ss:List Sp}(h:yu body K left ss)(hn:left.Nodup)(hi:i∈left)(hb:i<body.length)(hk:body[i].k=1){lo q:Nat->Nat}(h1:lo i<=mid)(h2:mid<=q i)(L r:Nat->Nat)(ac:∀j,j≠i->L j=lo j)(Y:∀j,j≠i->r j=q j)(ae:L i=mid)(ab:r i=mid):
 UG (ss.map (madeOf body lo q)) (ss.map (madeOf body lo r)) (ss.map (madeOf body L q)):=by
 induction h with
 |nil=>cases hi
 |@cons K left j s af hj ad hs hr ih=>
  have hl:=(Y6 hs).1
  by_cases e:j=i
  ·subst e;have aa:j∉left.erase j:=fun X=>by rw[hn.mem_erase_iff]at X;exact X.1 rfl
   have V:=fun(O I N U:Nat->Nat) (ha:∀k,k≠j->O k=N k) (Z:∀k,k≠j->I k=U k)=>zaB ha Z hr aa
   rw[zpM,zpM,zpM,V lo q lo r (fun _ _=>rfl) (fun k hk=>(Y k hk).symm),V L q lo r ac (fun k hk=>(Y k hk).symm)];have W:s.k≠4/\s.k≠5/\s.k≠6:=by
    unfold stepOf at hs;rw[if_pos hk]at hs;injection hs with hs
    subst hs;refine⟨?_,?_,?_⟩<;>(simp only;split<;>(try split)<;>decide)
   have X:∀(lo hi:Nat->Nat),madeOf body lo hi s=.rows body[j].a.p body[j].a.args s.known s.gives (lo j) (hi j):=fun lo hi=>by
    unfold madeOf;rw[hl,zo6 ad];simp only;rw[if_neg W.1,if_neg W.2.1,if_neg W.2.2]
   rw[X,X,X,ab,ae];exact .here h1 h2
  ·rw[zpM,zpM,zpM];have X:∀(O I N U:Nat->Nat),O j=N j->I j=U j->madeOf body O I s=madeOf body N U s:=fun O I N U ha Z=>by
    unfold madeOf;rw[hl,ha,Z]
   rw[X lo r lo q rfl (Y j e),X L q lo q (ac j e) rfl];exact .next (ih (hn.erase _) ((List.mem_erase_of_ne (Ne.symm e)).2 hi))
end
section
structure Tk (w:World) (tk:Nat->Int):Prop where
 lt:2<w.heap.size
 cell:∀j,j<11->w.cell? ⟨2,j,none⟩=some (.int .i8 (tk j))
theorem Tk.below(h:Tk w tk){B:Nat}(q:Below B w w')(I:w.heap.size<=B):Tk w' tk:=⟨zo0 h.lt q.size,fun j r=>(World.cell?_of_block (w:=w) (q.block _ (zo0 h.lt I))).trans (h.cell j r)⟩
theorem Tk.zC{S:Nat->Prop}(h:Tk w tk)(q:zh S w w')(I:¬S 2):Tk w' tk:=⟨zo0 h.lt q.size,fun j r=>(q.cell (p:=⟨2,j,none⟩) h.lt I).trans (h.cell j r)⟩
open Classical in
noncomputable def qI(tk:Nat->Int)(q:Nat)(l:List Vl):Option Vl:=
 if yW (tk q) l then
  if q=1 then some (.num (wrap64 (-(l.getD 0 Vl.zero).n)))
  else if q=2 then some (.num (wrap64 ((l.getD 0 Vl.zero).n+(l.getD 1 Vl.zero).n)))
  else if q=3 then some (.num (wrap64 ((l.getD 0 Vl.zero).n-(l.getD 1 Vl.zero).n)))
  else if q=4 then some (.num (wrap64 ((l.getD 0 Vl.zero).n*(l.getD 1 Vl.zero).n)))
  else if q=5\/q=6 then(if(l.getD 1 Vl.zero).n=0 then none else some (.num (if q=5 then wrap64 ((l.getD 0 Vl.zero).n.tdiv (l.getD 1 Vl.zero).n)else(l.getD 0 Vl.zero).n.tmod (l.getD 1 Vl.zero).n)))
  else if q=7 then(if((l.getD 0 Vl.zero).s++(l.getD 1 Vl.zero).s).size<=200 then some (.YI ((l.getD 0 Vl.zero).s++(l.getD 1 Vl.zero).s))else none)
  else if q=8 then some (.num ((l.getD 0 Vl.zero).s.size:Int))
  else if q=9 then some (.num (Lib.runeCount (l.getD 0 Vl.zero).s:Int))
  else(if(Zw (l.getD 0 Vl.zero).s).size<=200 then some (.YI (Zw (l.getD 0 Vl.zero).s))else none)
 else none
theorem Vl.Yo{x:Vl}(h:x.ok):x.s.size<=200:=by
 rcases h with⟨_,h⟩ |⟨_,_,h⟩
 ·rw[h];decide
 ·exact h
theorem zgA(w:World)(tk:Nat->Int)(O:Tk w tk)(A:Option Addr)(cap:Nat)(l:List Vl)(hl:zY Vl.cells w A l)(V:∀v∈l,v.ok)(q n:Nat)(ab:1<=q)(hq:q<=10)(hn:l.length=n)(ad:n<=2)(r:¬(yW (tk q) l)):
 Calls prog 244 #[.int .i8 q,.slice A n cap] w (yV (qI tk q l) w):=by
 have N:qI tk q l=none:=by unfold qI;rw[if_neg r]
 rw[N];have ac:decide ((q:Int)<0)=false:=zp;have aa:decide ((11:Int)<=(q:Int))=false:=by first |(simp;done) |(simp;omega)
 have Hb:=zz (qt r);obtain⟨W1,h,L⟩:=xj w 43 #[.int .i8 0,.int .i64 0,.string ⟨#[]⟩];have R:=zz h;have X:=zz L;have Y:(w.alloc (.cells #[.int .i8 0,.int .i64 0,.string ⟨#[]⟩] 43)).cell? ⟨2,q,none⟩=some (.int .i8 (tk q)):=by
  rw[h];exact(L.below.cell (p:=⟨2,q,none⟩) O.lt).trans (O.cell q zd)
 have I:=zz (fun W (U:Bl w W)=>YM W (tk q) A cap n l hn (hl.below U) V zd);clear L h O hn N r hl;go_enter func244,ntmps244;go_upto_region 2 with(go_at_call 264;rw[R.o];refine(I.o _ X.o.below).mono ?_;rintro e w2⟨rfl,L⟩;rw[Hb.o];have U:=zz (zu X.o.below L);have N:=zz (X.o.b0.below L);clear L Y)
 go_wp2_with (first
  |fail
  |(refine xy 43 _ _ rfl ?_;refine yE 43 w.heap.size 0 N.o [.int .i8 0,.int .i64 0,.string ⟨#[]⟩] ?_;intro W9 h;have z0:=h.zG.cell 0;have Z:=h.zG.cell 1;have Y:=h.zG.cell 2;have HF:=zz h;clear h))
 simp only[zpr,zpa,zpe,zpc,zo9,zpg]at z0 Z Y;refine bodyPost_ret (v:=.tuple #[.agg #[.int .i8 0,.int .i64 0,.string ⟨#[]⟩],.bool false]) (by simp[results,results244,go_sem,z0,Z,Y]) rfl ?_;exact .Zo (x:=Vl.zero) rfl (HF.o.below U.o (zoZ _) (zoZ _))
theorem zfU(w:World)(tk:Nat->Int)(Z:Tk w tk)(A:Option Addr)(cap:Nat)(l:List Vl)(hl:zY Vl.cells w A l)(U:∀v∈l,v.ok)(hn:l.length=1)(r:yW (tk 1) l):
 Calls prog 244 #[.int .i8 1,.slice A 1 cap] w (yV (qI tk 1 l) w):=by
 obtain⟨x,rfl⟩:∃x,l=[x]:=by
  obtain⟨-,h,-⟩:=r
  match l,hn with
  |[x],_=>exact⟨x,rfl⟩
 obtain⟨b,o,rfl,q,I⟩:=hl.at (c:=2) (fun _=>rfl) 0 zp;have ab:=Vl.Yo (U x zp);simp only[zpN,zqu,zpO]at I;obtain⟨xk,O,xs⟩:=x;simp only[Vl.cells]at I;have Hd:Kz (∀W,Bl w W->W.cell? ⟨b,o,none⟩=some (.int .i8 xk)/\W.cell? ⟨b,o+1,none⟩=some (.int .i64 O)/\W.cell? ⟨b,o+2,none⟩=some (.string xs)):=fun W N=>three (yo I N q)
 clear I q;have q:qI tk 1 [⟨xk,O,xs⟩]=some (.num (wrap64 (-O))):=by unfold qI;rw[if_pos r,if_pos rfl];rfl
 rw[q];clear q;have Hb:=zz (qs r);obtain⟨W1,q,L⟩:=xj w 43 #[.int .i8 0,.int .i64 0,.string ⟨#[]⟩];have aa:=zz q;have HX:=zz L;have V:(w.alloc (.cells #[.int .i8 0,.int .i64 0,.string ⟨#[]⟩] 43)).cell? ⟨2,1,none⟩=some (.int .i8 (tk 1)):=by
  rw[q];exact(L.below.cell (p:=⟨2,1,none⟩) Z.lt).trans (Z.cell 1 zr)
 have I:=zz (fun W (N:Bl w W)=>YM W (tk 1) _ cap 1 _ rfl (hl.below N) U zr);clear L q Z;go_enter func244,ntmps244;go_upto_region 5 with(go_at_call 264;rw[aa.o];refine(I.o _ HX.o.below).mono ?_;rintro e w2⟨rfl,L⟩;rw[Hb.o];have R:=zz (zu HX.o.below L);have Y:=zz (HX.o.b0.below L);clear L V)
 obtain⟨d0,d1,d2⟩:=Hd.o _ R.o
 go_wp2_with (first
  |(go_at_call 265;refine(VO _ _).mono ?_;rintro e w3⟨rfl,N⟩;simp only[Vl.num,Vl.cells];have V:=zz (zu R.o N);have X:=zz (Y.o.below N);clear N)
  |(refine xy 43 _ _ rfl ?_;refine yE 43 w.heap.size 0 X.o [.int .i8 1,.int .i64 (wrap64 (-O)),.string ⟨#[]⟩] ?_;intro W9 q;have z0:=q.zG.cell 0;have z1:=q.zG.cell 1;have z2:=q.zG.cell 2;have HF:=zz q;clear q))
 simp only[zpr,zpa,zpe,zpc,zo9,zpg]at z0 z1 z2;refine bodyPost_ret (v:=.tuple #[.agg #[.int .i8 1,.int .i64 (wrap64 (-O)),.string ⟨#[]⟩],.bool true]) (by simp[results,results244,go_sem,z0,z1,z2]) rfl ?_;exact .Yp rfl (HF.o.below V.o (zoZ _) (zoZ _))
theorem Gn(n:Int):IntKind.i64.wrap n=wrap64 n:=by rw[IntKind.wrap_i64];unfold wrap64;omega
theorem zmR(w:World)(tk:Nat->Int)(hT:Tk w tk)(A:Option Addr)(cap:Nat)(l:List Vl)(hl:zY Vl.cells w A l)(U:∀v∈l,v.ok)(hn:l.length=2)(q:yW (tk 2) l):
 Calls prog 244 #[.int .i8 2,.slice A 2 cap] w (yV (qI tk 2 l) w):=by
 obtain⟨x,y,rfl⟩:∃x y,l=[x,y]:=by
  match l,hn with
  |[x,y],_=>exact⟨x,y,rfl⟩
 obtain⟨b,o,rfl,I,O⟩:=hl.at (c:=2) (fun _=>rfl) 0 zp;obtain⟨b',o',N,r,h⟩:=hl.at (c:=2) (fun _=>rfl) 1 zp;injection N with N
 injection N with aa af
 subst aa af;have ai:=Vl.Yo (U x zp);have ah:=Vl.Yo (U y zp);simp only[zpN,zqy,zqu,zpO,zq1,Nat.reduceAdd]at O h;obtain⟨xk,V,xs⟩:=x;obtain⟨yk,X,ys⟩:=y;simp only[Vl.cells]at O h;have Hd:=zz (show ∀W,W.heap[b]? = w.heap[b]?->W.cell? ⟨b,o+1,none⟩=some (.int .i64 V)/\W.cell? ⟨b,o+2,none⟩=some (.string xs)/\W.cell? ⟨b,o+3+1,none⟩=some (.int .i64 X)/\W.cell? ⟨b,o+3+2,none⟩=some (.string ys)from fun W Y=>
  have e:=fun j=>World.cell?_of_block (w:=w) (w':=W) (a:=⟨b,j,none⟩) Y
  ⟨(e _).trans (O 1 _ rfl),(e _).trans (O 2 _ rfl),(e _).trans (h 1 _ rfl),(e _).trans (h 2 _ rfl)⟩)
 have L:=zz I;clear O h I r;have h:qI tk 2 [⟨xk,V,xs⟩,⟨yk,X,ys⟩]=some (.num (wrap64 (V+X))):=by unfold qI;rw[if_pos q,if_neg zr,if_pos rfl];rfl
 rw[h];clear h;have Hb:=zz (qs q);obtain⟨W1,h,r⟩:=xj w 43 #[.int .i8 0,.int .i64 0,.string ⟨#[]⟩];have ag:=zz h;have HX:=zz r;have Z:(w.alloc (.cells #[.int .i8 0,.int .i64 0,.string ⟨#[]⟩] 43)).cell? ⟨2,2,none⟩=some (.int .i8 (tk 2)):=by
  rw[h];exact(r.below.cell (p:=⟨2,2,none⟩) hT.lt).trans (hT.cell 2 zr)
 have I:=zz (fun W (Y:Bl w W)=>YM W (tk 2) _ cap 2 _ rfl (hl.below Y) U zr);clear r h hT;go_enter func244,ntmps244;go_upto_region 7 with(go_at_call 264;rw[ag.o];refine(I.o _ HX.o.below).mono ?_;rintro e r⟨rfl,O⟩;rw[Hb.o];have R:=zz (zu HX.o.below O);have ae:=zz (HX.o.b0.below O);clear O Z)
 have Z:Kz (∀W,zh (·=w.heap.size) r W->_):=fun W Y=>Hd.o W ((Y.block b (by have:=L.o;have:=R.o.size;omega) (by have:=L.o;omega)).trans (R.o.block b L.o))
 refine xX [0,0,0,0,0,0,0,0,0,2,0,0,2,0] (fun W=>zh (·=w.heap.size) r W) ?_
 repeat refine zT Z.o ?_
 refine xc fun K Y=>?_
 go_simp;try simp only[Gn]
 refine(VO _ (wrap64 (V+X))).mono ?_;rintro e w3⟨rfl,h⟩;simp only[Vl.num,Vl.YI,Vl.cells];have ab:=zz (zu R.o ((Below.refl _ _).drew.trans h));have ac:=zz (ae.o.below ((Below.refl r.heap.size r).drew.trans h));refine Y.out _ _ (zh.xi _ ((Below.refl r.heap.size r).drew.trans h)) (fun _=>trivial) ?_;have ad:=zz (zh.xi (·=w.heap.size) ((Below.refl r.heap.size r).drew.trans h));clear Y K h;try refine zQ ?_
 repeat refine zT Z.o ?_
 refine xc fun K Y=>?_
 refine Xi 43 _ _ rfl w.heap.size 0 _ _ ac.o [.int .i8 1,.int .i64 (wrap64 (V+X)),.string ⟨#[]⟩] rfl rfl zp (zo) zt ?_;intro W9 h;have z0:=h.zG.cell 0;have z1:=h.zG.cell 1;have z2:=h.zG.cell 2;have HF:=zz h;refine Y.out _ _ (ad.o.trans h.zC (fun x hx _=>hx)) (fun _=>trivial) ?_;clear Y K h;try refine zQ ?_
 repeat refine zT Z.o ?_
 refine xu ?_;simp only[zpr,zpa,zpe,zpc,zo9,zpg]at z0 z1 z2;go_wp2;refine bodyPost_ret (v:=.tuple #[.agg #[.int .i8 1,.int .i64 (wrap64 (V+X)),.string ⟨#[]⟩],.bool true]) (by simp[results,results244,go_sem,z0,z1,z2]) rfl ?_;exact .Yp rfl (HF.o.below ab.o (zoZ _) (zoZ _))
theorem zi0(w:World)(tk:Nat->Int)(hT:Tk w tk)(A:Option Addr)(cap:Nat)(l:List Vl)(hl:zY Vl.cells w A l)(U:∀v∈l,v.ok)(hn:l.length=2)(q:yW (tk 3) l):
 Calls prog 244 #[.int .i8 3,.slice A 2 cap] w (yV (qI tk 3 l) w):=by
 obtain⟨x,y,rfl⟩:∃x y,l=[x,y]:=by
  match l,hn with
  |[x,y],_=>exact⟨x,y,rfl⟩
 obtain⟨b,o,rfl,I,O⟩:=hl.at (c:=2) (fun _=>rfl) 0 zp;obtain⟨b',o',N,r,h⟩:=hl.at (c:=2) (fun _=>rfl) 1 zp;injection N with N
 injection N with aa af
 subst aa af;have ai:=Vl.Yo (U x zp);have ah:=Vl.Yo (U y zp);simp only[zpN,zqy,zqu,zpO,zq1,Nat.reduceAdd]at O h;obtain⟨xk,V,xs⟩:=x;obtain⟨yk,X,ys⟩:=y;simp only[Vl.cells]at O h;have Hd:=zz (show ∀W,W.heap[b]? = w.heap[b]?->W.cell? ⟨b,o+1,none⟩=some (.int .i64 V)/\W.cell? ⟨b,o+2,none⟩=some (.string xs)/\W.cell? ⟨b,o+3+1,none⟩=some (.int .i64 X)/\W.cell? ⟨b,o+3+2,none⟩=some (.string ys)from fun W Y=>
  have e:=fun j=>World.cell?_of_block (w:=w) (w':=W) (a:=⟨b,j,none⟩) Y
  ⟨(e _).trans (O 1 _ rfl),(e _).trans (O 2 _ rfl),(e _).trans (h 1 _ rfl),(e _).trans (h 2 _ rfl)⟩)
 have L:=zz I;clear O h I r;have h:qI tk 3 [⟨xk,V,xs⟩,⟨yk,X,ys⟩]=some (.num (wrap64 (V-X))):=by unfold qI;rw[if_pos q,if_neg zr,if_neg zr,if_pos rfl];rfl
 rw[h];clear h;have Hb:=zz (qs q);obtain⟨W1,h,r⟩:=xj w 43 #[.int .i8 0,.int .i64 0,.string ⟨#[]⟩];have ag:=zz h;have HX:=zz r;have Z:(w.alloc (.cells #[.int .i8 0,.int .i64 0,.string ⟨#[]⟩] 43)).cell? ⟨2,3,none⟩=some (.int .i8 (tk 3)):=by
  rw[h];exact(r.below.cell (p:=⟨2,3,none⟩) hT.lt).trans (hT.cell 3 zr)
 have I:=zz (fun W (Y:Bl w W)=>YM W (tk 3) _ cap 2 _ rfl (hl.below Y) U zr);clear r h hT;go_enter func244,ntmps244;go_upto_region 9 with(go_at_call 264;rw[ag.o];refine(I.o _ HX.o.below).mono ?_;rintro e r⟨rfl,O⟩;rw[Hb.o];have R:=zz (zu HX.o.below O);have ae:=zz (HX.o.b0.below O);clear O Z)
 have Z:Kz (∀W,zh (·=w.heap.size) r W->_):=fun W Y=>Hd.o W ((Y.block b (by have:=L.o;have:=R.o.size;omega) (by have:=L.o;omega)).trans (R.o.block b L.o))
 refine xX [0,0,0,0,0,0,0,0,0,2,0,0,2,0] (fun W=>zh (·=w.heap.size) r W) ?_
 repeat refine zT Z.o ?_
 refine xc fun K Y=>?_
 go_simp;try simp only[Gn]
 refine(VO _ (wrap64 (V-X))).mono ?_;rintro e w3⟨rfl,h⟩;simp only[Vl.num,Vl.YI,Vl.cells];have ab:=zz (zu R.o ((Below.refl _ _).drew.trans h));have ac:=zz (ae.o.below ((Below.refl r.heap.size r).drew.trans h));refine Y.out _ _ (zh.xi _ ((Below.refl r.heap.size r).drew.trans h)) (fun _=>trivial) ?_;have ad:=zz (zh.xi (·=w.heap.size) ((Below.refl r.heap.size r).drew.trans h));clear Y K h;try refine zQ ?_
 repeat refine zT Z.o ?_
 refine xc fun K Y=>?_
 refine Xi 43 _ _ rfl w.heap.size 0 _ _ ac.o [.int .i8 1,.int .i64 (wrap64 (V-X)),.string ⟨#[]⟩] rfl rfl zp (zo) zt ?_;intro W9 h;have z0:=h.zG.cell 0;have z1:=h.zG.cell 1;have z2:=h.zG.cell 2;have HF:=zz h;refine Y.out _ _ (ad.o.trans h.zC (fun x hx _=>hx)) (fun _=>trivial) ?_;clear Y K h;try refine zQ ?_
 repeat refine zT Z.o ?_
 refine xu ?_;simp only[zpr,zpa,zpe,zpc,zo9,zpg]at z0 z1 z2;go_wp2;refine bodyPost_ret (v:=.tuple #[.agg #[.int .i8 1,.int .i64 (wrap64 (V-X)),.string ⟨#[]⟩],.bool true]) (by simp[results,results244,go_sem,z0,z1,z2]) rfl ?_;exact .Yp rfl (HF.o.below ab.o (zoZ _) (zoZ _))
theorem ziT(w:World)(tk:Nat->Int)(hT:Tk w tk)(A:Option Addr)(cap:Nat)(l:List Vl)(hl:zY Vl.cells w A l)(U:∀v∈l,v.ok)(hn:l.length=2)(q:yW (tk 4) l):
 Calls prog 244 #[.int .i8 4,.slice A 2 cap] w (yV (qI tk 4 l) w):=by
 obtain⟨x,y,rfl⟩:∃x y,l=[x,y]:=by
  match l,hn with
  |[x,y],_=>exact⟨x,y,rfl⟩
 obtain⟨b,o,rfl,I,O⟩:=hl.at (c:=2) (fun _=>rfl) 0 zp;obtain⟨b',o',N,r,h⟩:=hl.at (c:=2) (fun _=>rfl) 1 zp;injection N with N
 injection N with aa af
 subst aa af;have ai:=Vl.Yo (U x zp);have ah:=Vl.Yo (U y zp);simp only[zpN,zqy,zqu,zpO,zq1,Nat.reduceAdd]at O h;obtain⟨xk,V,xs⟩:=x;obtain⟨yk,X,ys⟩:=y;simp only[Vl.cells]at O h;have Hd:=zz (show ∀W,W.heap[b]? = w.heap[b]?->W.cell? ⟨b,o+1,none⟩=some (.int .i64 V)/\W.cell? ⟨b,o+2,none⟩=some (.string xs)/\W.cell? ⟨b,o+3+1,none⟩=some (.int .i64 X)/\W.cell? ⟨b,o+3+2,none⟩=some (.string ys)from fun W Y=>
  have e:=fun j=>World.cell?_of_block (w:=w) (w':=W) (a:=⟨b,j,none⟩) Y
  ⟨(e _).trans (O 1 _ rfl),(e _).trans (O 2 _ rfl),(e _).trans (h 1 _ rfl),(e _).trans (h 2 _ rfl)⟩)
 have L:=zz I;clear O h I r;have h:qI tk 4 [⟨xk,V,xs⟩,⟨yk,X,ys⟩]=some (.num (wrap64 (V*X))):=by unfold qI;rw[if_pos q,if_neg zr,if_neg zr,if_neg zr,if_pos rfl];rfl
 rw[h];clear h;have Hb:=zz (qs q);obtain⟨W1,h,r⟩:=xj w 43 #[.int .i8 0,.int .i64 0,.string ⟨#[]⟩];have ag:=zz h;have HX:=zz r;have Z:(w.alloc (.cells #[.int .i8 0,.int .i64 0,.string ⟨#[]⟩] 43)).cell? ⟨2,4,none⟩=some (.int .i8 (tk 4)):=by
  rw[h];exact(r.below.cell (p:=⟨2,4,none⟩) hT.lt).trans (hT.cell 4 zr)
 have I:=zz (fun W (Y:Bl w W)=>YM W (tk 4) _ cap 2 _ rfl (hl.below Y) U zr);clear r h hT;go_enter func244,ntmps244;go_upto_region 11 with(go_at_call 264;rw[ag.o];refine(I.o _ HX.o.below).mono ?_;rintro e r⟨rfl,O⟩;rw[Hb.o];have R:=zz (zu HX.o.below O);have ae:=zz (HX.o.b0.below O);clear O Z)
 have Z:Kz (∀W,zh (·=w.heap.size) r W->_):=fun W Y=>Hd.o W ((Y.block b (by have:=L.o;have:=R.o.size;omega) (by have:=L.o;omega)).trans (R.o.block b L.o))
 refine xX [0,0,0,0,0,0,0,0,0,2,0,0,2,0] (fun W=>zh (·=w.heap.size) r W) ?_
 repeat refine zT Z.o ?_
 refine xc fun K Y=>?_
 go_simp;try simp only[Gn]
 refine(VO _ (wrap64 (V*X))).mono ?_;rintro e w3⟨rfl,h⟩;simp only[Vl.num,Vl.YI,Vl.cells];have ab:=zz (zu R.o ((Below.refl _ _).drew.trans h));have ac:=zz (ae.o.below ((Below.refl r.heap.size r).drew.trans h));refine Y.out _ _ (zh.xi _ ((Below.refl r.heap.size r).drew.trans h)) (fun _=>trivial) ?_;have ad:=zz (zh.xi (·=w.heap.size) ((Below.refl r.heap.size r).drew.trans h));clear Y K h;try refine zQ ?_
 repeat refine zT Z.o ?_
 refine xc fun K Y=>?_
 refine Xi 43 _ _ rfl w.heap.size 0 _ _ ac.o [.int .i8 1,.int .i64 (wrap64 (V*X)),.string ⟨#[]⟩] rfl rfl zp (zo) zt ?_;intro W9 h;have z0:=h.zG.cell 0;have z1:=h.zG.cell 1;have z2:=h.zG.cell 2;have HF:=zz h;refine Y.out _ _ (ad.o.trans h.zC (fun x hx _=>hx)) (fun _=>trivial) ?_;clear Y K h;try refine zQ ?_
 repeat refine zT Z.o ?_
 refine xu ?_;simp only[zpr,zpa,zpe,zpc,zo9,zpg]at z0 z1 z2;go_wp2;refine bodyPost_ret (v:=.tuple #[.agg #[.int .i8 1,.int .i64 (wrap64 (V*X)),.string ⟨#[]⟩],.bool true]) (by simp[results,results244,go_sem,z0,z1,z2]) rfl ?_;exact .Yp rfl (HF.o.below ab.o (zoZ _) (zoZ _))
end
