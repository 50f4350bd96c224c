/-
  Walks: New, Len, Find, Value of a table that is there. Walks
-/
import Derived.Test.YtfdickkdlcgicaaGreatDoorQ17
import Derived.Laws.CopyRow
set_option maxRecDepth 100000
set_option maxHeartbeats 8000000
set_option linter.all false
namespace Go.Proofs.YtfdickkdlcgicaaGreatDoor
open Go.Proofs.Tryz Go Go.RowKit Go.Maps Go.WideMaps
variable {A:Option Addr}{D:DataW Unit}{I L N O U cap cap' g n q zR:Nat}{K:Act->Prop}{P:Program}{Q:Exit->Act->World->Prop}{S:List Nat}{a:Act}{o:Oper}{t:TypeId}{v:Value}{w w':World}
section
def numOf(vs:List z6)(v:z6):Nat:=if v∈vs then vs.idxOf v else 0
theorem UU{vs:List z6}{v:z6}(h:v∈vs):vs.idxOf v<vs.length:=List.idxOf_lt_length_of_mem h
theorem zdw{vs:List z6}{v:z6}(h:v∈vs):vs[vs.idxOf v]'(UU h)=v:=List.getElem_idxOf _
theorem Td{vs:List z6}{R:Nat}(h:yr w U zR vs R A cap D)(v:z6)(O:v.wf):
 (Instr.lookup 182 (.map (some R)) v.agg true).run prog w=.ok (.tuple #[.int .i32 (numOf vs v:Int),.bool (decide (v∈vs))]) w:=by
 obtain⟨x,V,q,N⟩:=h.own.look_ok law underlying182 (zeq w) (plainElem_int underlying153 zr) (Gy v O);rw[h.nums.has v O]at q
 by_cases L:v∈vs
 ·have I:=h.nums.at_ _ (UU L);rw[zdw L]at I;rw[I]at N;obtain⟨c,rfl,e,_⟩:=plainElem_int_inv underlying153 N;simp only[Prod.mk.injEq]at e;have e1:(vs.idxOf v:Int)=c:=by have:=e.1;injection this with this;injection this
  rw[q];unfold numOf;rw[if_pos L,e1]
 ·have I:D.atKey v.lit (.lit (.int .i32 0))=.lit (.int .i32 0):=atKey_of_not_has (by rw[h.nums.has v O];simp[L]) _;rw[I]at N;obtain⟨c,rfl,e,_⟩:=plainElem_int_inv underlying153 N;simp only[Prod.mk.injEq]at e;have e1:(0:Int)=c:=by have:=e.1;injection this with this;injection this
  rw[q];unfold numOf;rw[if_neg L,<-e1];rfl
theorem zls(m:Nat)(w:World)(I:m<=2147483647):
 Calls prog 42 #[.int .i64 (m:Int)] w fun e q=>∃h S,e=.returned (.tuple #[.pointer (some ⟨h,0,none⟩),.int .i64 0])/\qv q h m [] S/\(∀k∈S,w.heap.size<=k)/\Bl w q:=by
 have h:=@run_makeMap prog;have L:(0:Int)<=(m:Int):=zd;have q:decide ((m:Int)<0)=false:=zp;go_enter func42,ntmps42;go_wp2
 go_ret2
 go_light
 refine⟨w.heap.size+1,Xk (w.heap.size+1) w.heap.size none,rfl,⟨w.heap.size,none,0,.map [],⟨?_,?_,Yr.none_,yG.qz _,zp,zp,zp,zp,I⟩,rfl⟩,by simp[Xk,zw],?_⟩
 ·have:=zD.new (w.alloc (.map #[] 0)) 184 #[.int .i64 (m:Int),.map (some w.heap.size),.slice none 0 0];rw[show(w.alloc (.map #[] 0)).heap.size=w.heap.size+1 from zp]at this;exact this
 ·exact((World.ownsMap_made w _ _ _).alloc _)
 ·exact((Below.refl _ _).alloc (zpx _) _).alloc zp _
theorem zdZ{vs:List z6}(h:qv w I zR vs S)(v:z6)(Z:v.wf):
 Calls prog 322 #[.pointer (some ⟨I,0,none⟩),v.agg] w fun e L=>e=.returned (.tuple #[.int .i32 (numOf vs v:Int),.bool (decide (v∈vs))])/\Bl w L:=by
 obtain⟨R,A,U,D,N,rfl⟩:=h;have O:∀o,yr (w.alloc o) I zR vs R A U D:=fun o=>N.same fun k O=>Below.heap_alloc w o k (N.lt k O)
 have W:∀o,Calls prog 128 #[.pointer (some ⟨I,0,none⟩)] (w.alloc o) fun e L=>e=.returned (.bool true)/\L=w.alloc o:=fun o=>Z9 I _ R _ _ (O o).zH
 have Y:=zz W;have c1:w.cell? ⟨I,1,none⟩=some (.map (some R)):=N.zH.cell 1;have X:I<w.heap.size:=N.zH.lt;have V:∀o n,(Instr.lookup 182 (.map (some R)) v.agg true).run prog ((w.alloc o).drewN n)=.ok (.tuple #[.int .i32 (numOf vs v:Int),.bool (decide (v∈vs))]) ((w.alloc o).drewN n):=
  fun o n=>Td ((O o).same (w':=(w.alloc o).drewN n) fun k _=>rfl) v Z
 clear W N O;generalize(numOf vs v:Int)=q at V ⊢;generalize decide (v∈vs)=N at V ⊢;obtain⟨O,W,s⟩:=v;simp only[z6.agg]at V ⊢;go_enter func322,ntmps322
 go_wp2_with (go_at_call 128;refine(Y.o _).mono ?_;rintro e L⟨rfl,rfl⟩)
 go_quiet (fail)
 go_wp2
 go_ret2
 exact⟨rfl,((Below.refl _ _).alloc (zpx _) _).trans ⟨rfl,rfl,rfl,zpx _,fun _ _=>rfl⟩⟩
def z6.zero:z6:=⟨0,0,⟨#[]⟩⟩
theorem zkI{vs:List z6}(h:qv w L zR vs S)(i:Nat)(hi:i<vs.length):
 Calls prog 130 #[.pointer (some ⟨L,0,none⟩),.int .i32 (i:Int)] w fun e O=>e=.returned (.tuple #[(vs[i]).agg,.int .i64 0])/\Bl w O:=by
 obtain⟨W,A,N,D,q,rfl⟩:=h
 rcases q.row.form with⟨_,_,rfl⟩ |⟨g,rfl,hg,U,aa⟩
 ·simp at hi
 have R:∀o,yr (w.alloc o) L zR vs W (some ⟨g,0,none⟩) N D:=fun o=>q.same fun k R=>Below.heap_alloc w o k (q.lt k R)
 have Z:∀o,Calls prog 128 #[.pointer (some ⟨L,0,none⟩)] (w.alloc o) fun e O=>e=.returned (.bool true)/\O=w.alloc o:=fun o=>Z9 L _ W _ _ (R o).zH
 have Ho:=zz Z;have c2:w.cell? ⟨L,2,none⟩=some (.slice (some ⟨g,0,none⟩) vs.length N):=q.zH.cell 2;have ab:L<w.heap.size:=q.zH.lt;obtain⟨Y,X,V⟩:=q.row.three i hi;have I:vs.length<=2147483647:=zpK q.le q.zR;have hd:decide ((i:Int)<0)=false:=zp;clear Z q R;obtain⟨n,q⟩:∃n,vs.length=n:=⟨_,rfl⟩;rw[q]at c2 hi I U;obtain⟨v,R⟩:∃v,vs[i]' zd=v:=⟨_,rfl⟩;simp only[R]at Y X V ⊢;clear q R;obtain⟨q,R,s⟩:=v;simp only[z6.agg]at Y X V ⊢;go_enter func130,ntmps130
 go_wp2_with (go_at_call 128;refine(Ho.o _).mono ?_;rintro e O⟨rfl,rfl⟩)
 refine bodyPost_ret (v:=.tuple #[.agg #[.int .i8 q,.int .i64 R,.string s],.int .i64 0]) (by simp[results,results130,go_sem]) rfl ⟨rfl,?_⟩
 repeat(first|exact Below.refl _ _|refine Below.setCell ?_ zp _|refine Below.alloc ?_ zp _)
theorem yr.added{w1 w2:World}{vs:List z6}{A':Option Addr}(h:yr w U zR vs L A cap D)(v:z6)(X:v.wf)(V:v.ok=true)(W:v∉vs)(Y:vs.length<zR)(O:zD w2 U 184 #[.int .i64 zR,.map (some L),.slice A' (vs.length+1) cap'])(xV:w1.ownsMap prog 43 (plainElem prog 153) L (vs.length+1) (D.put v.lit (.lit (.int .i32 (vs.length:Int)))))(I:w2.heap[L]? = w1.heap[L]?)(N:w2.ownsRow 0 43 3 (.slice A' (vs.length+1) cap') (vs.length+1) (XJ vs++v.cells)):yr w2 U zR (vs++[v]) L A' cap' (D.put v.lit (.lit (.int .i32 (vs.length:Int)))):=by
 have R:(vs++[v]).length=vs.length+1:=zp;refine⟨by rw[R];exact O,by rw[R];exact Tn xV I,h.nums.put h.wf v X W,?_,?_,?_,?_,by rw[R];omega,h.zR⟩
 ·unfold yG;rw[R,zkG];simpa[XJ]using N
 ·intro u q
  rcases zpE.1 q with q|q
  ·exact h.wf u q
  ·rw[zpy.1 q];exact X
 ·intro u q
  rcases zpE.1 q with q|q
  ·exact h.ok u q
  ·rw[zpy.1 q];exact V
 ·exact zrc.2 ⟨h.nodup,zp,fun a Z b q e=>by rw[zpy]at q;subst q;subst e;exact W Z⟩
theorem zjZ{U:Array Oper}{K:Act->World->Prop}{E:Prop}(hg:o.guard=none)(s x:Operand)(t:TypeId)(Z:o.op=Op.call { callee:=Callee.builtin Builtin.append,args:=#[s,x],argTypes:=#[t,t]})(e:TypeId)(i:TypeInfo)(z:Value)(size bytes:Nat)(Y:P.underlying t=some (.slice e))(hi:P.info? e=some i)(hz:i.zero=some z)(L:i.size=size)(ac:i.bytes=bytes)(af:z.cells.size=size)(ab:0<size)(A:Option Addr)(n cap:Nat)(xs:List Value)(hs:a.eval s=.slice A n cap)(xV:w.ownsRow 0 e size (.slice A n cap) n xs)(ad:Addr)(m c:Nat)(news:List Value)(hx:a.eval x=.slice (some ad) m c)(hl:news.length=m*size)(N:∀j u,news[j]? = some u->w.cell? (ad.add j)=some u)(h1:∀u∈news,u.oneCell'=true)(aa:n+m<=maxLen)(I:(n+m)*bytes<=140737488355328)(hm:0<n+m)(W:Nat)(T:TypeId)(cs:Array Value)(q:zD w W T cs)(ae:e≠T)(hK:∀g h O,O.ownsRow 0 e size (.slice (some ⟨g,0,none⟩) (n+m) h) (n+m) (xs++news)->w.grownBy O (Value.slice A n cap).ownBlock->(some g=(Value.slice A n cap).ownBlock\/g=w.heap.size)->zD O W T cs->
  K (a.put o.dst (.slice (some ⟨g,0,none⟩) (n+m) h)) O):
 if Region.wanted o (yielded U a.tmps)=true then Oper.wp P o a w K Q else E:=by
 have hw:Region.wanted o (yielded U a.tmps)=true:=by simp[Region.wanted,hg]
 rw[if_pos hw];obtain⟨v',O,hr,h2,h3,h4,R⟩:=run_append_own_at (P:=P) w 0 t o.type e i z size bytes Y hi hz L ac af ab _ n xs xV ad m c news hl N h1 aa I (zpD _);unfold Oper.wp execOp;simp only[Z,resolve,invoke,builtin,Sem.run_bind,Sem.run_pure,Result.andThen_ok,zqJ,zqb,zq3,hs,hx,hr];obtain⟨g,h,rfl⟩:∃g h,v'=.slice (some ⟨g,0,none⟩) (n+m) h:=by
  obtain⟨g,h,V,_⟩:=h2.form hm;exact⟨g,h,V⟩
 refine hK g h O h2 h3 ?_ ?_
 ·rcases R with R|R
  ·exact .inl R
  ·right;simpa[Value.ownBlock]using R
 ·refine q.same (h3.block W q.lt ?_);intro X
  rcases xV.2 with⟨V,_⟩ |⟨g0,c0,ag,V,_,hh,_⟩
  ·rw[V]at X;cases X
  ·rw[V]at X;have:W=g0:=by simpa[Value.ownBlock]using X
   subst this;have:=q;unfold zD at this;rw[hh]at this;injection this with this
   injection this with _ Y
   exact ae Y
theorem Tryz.zhA:(prog.info? 43).map (fun i=>(i.zero,i.size,i.bytes))=some (some (.agg #[.int .i8 0,.int .i64 0,.string ⟨#[]⟩]),3,32):=zo
theorem zgQ{vs:List z6}(h:qv w I zR vs S)(v:z6)(L:v.ok=false):
 Calls prog 160 #[.pointer (some ⟨I,0,none⟩),v.agg] w fun e q=>e=.returned (.tuple #[.int .i32 0,.int .i64 10])/\Bl w q:=by
 obtain⟨U,A,R,D,O,rfl⟩:=h;have N:∀o,yr (w.alloc o) I zR vs U A R D:=fun o=>O.same fun k N=>Below.heap_alloc w o k (O.lt k N)
 have X:∀o,Calls prog 128 #[.pointer (some ⟨I,0,none⟩)] (w.alloc o) fun e q=>e=.returned (.bool true)/\q=w.alloc o:=fun o=>Z9 I _ U _ _ (N o).zH
 have Z:=zz X;have Y:∀W,Calls prog 32 #[v.agg] W fun e q=>e=.returned (.int .i64 10)/\Bl W q:=fun W=>by
  have:=GW v W;unfold z6.code at this;rw[L]at this;exact this
 have V:=zz Y;clear X O N Y L;obtain⟨X,Y,s⟩:=v;simp only[z6.agg]at V ⊢;go_enter func160,ntmps160
 go_wp2_with (first
  |(go_at_call 128;refine(Z.o _).mono ?_;rintro e q⟨rfl,rfl⟩)
  |(go_at_call 32;refine(V.o _).mono ?_;rintro e O⟨rfl,N⟩))
 go_ret2
 exact⟨rfl,((Below.refl _ _).alloc (zpx _) _).trans (N.mono zp)⟩
theorem Dr{h:World}{vs:List z6}(q:yr w L zR vs O A cap D)(a b c:Value)(I:Below (w.alloc (.cells #[a,b,c] 43)).heap.size (w.alloc (.cells #[a,b,c] 43)) h):
 yr h L zR vs O A cap D/\zD h w.heap.size 43 #[a,b,c]/\Bl w h:=by
 have R:(w.alloc (.cells #[a,b,c] 43)).heap.size=w.heap.size+1:=zp;refine⟨q.same fun k N=>(I.block k (by have:=q.lt k N;omega)).trans (Below.heap_alloc w _ k (q.lt k N)),(zD.new w _ _).same (I.block _ zd),((Below.refl _ _).alloc (zpx _) _).trans (I.mono zd)⟩
theorem zhm{vs:List z6}(h:qv w L zR vs S)(v:z6)(hv:v.wf)(U:v.ok=true)(hm:v∈vs):
 Calls prog 160 #[.pointer (some ⟨L,0,none⟩),v.agg] w fun e I=>e=.returned (.tuple #[.int .i32 (vs.idxOf v:Int),.int .i64 0])/\Bl w I:=by
 obtain⟨N,A,O,D,R,rfl⟩:=h;have V:∀o,yr (w.alloc o) L zR vs N A O D:=fun o=>R.same fun k V=>Below.heap_alloc w o k (R.lt k V)
 have X:∀o,Calls prog 128 #[.pointer (some ⟨L,0,none⟩)] (w.alloc o) fun e I=>e=.returned (.bool true)/\I=w.alloc o:=fun o=>Z9 L _ N _ _ (V o).zH
 have Ho:=zz X;have hc:∀W,Calls prog 32 #[v.agg] W fun e I=>e=.returned (.int .i64 0)/\Bl W I:=fun W=>by
  have:=GW v W;unfold z6.code at this;rw[U]at this;exact this
 have Hc:=zz hc;have Z:∀W,yr W L zR vs N A O D->∀n,(Instr.lookup 182 (.map (some N)) v.agg true).run prog (W.drewN n)=.ok (.tuple #[.int .i32 (vs.idxOf v:Int),.bool true]) (W.drewN n):=fun W Y n=>by
  have:=Td (Y.same (w':=W.drewN n) fun k _=>rfl) v hv;simp only[numOf,hm,if_true,decide_true]at this;exact this
 have Y:=zz Z;clear X V hc U Z;generalize(vs.idxOf v:Int)=q at Y ⊢;obtain⟨vk,vn,s⟩:=v;simp only[z6.agg]at Hc Y ⊢;have Ht:=zz R;clear R;go_enter func160,ntmps160
 go_wp2_with (go_at_call 128;refine(Ho.o _).mono ?_;rintro e I⟨rfl,rfl⟩)
 refine(Hc.o _).mono ?_;rintro e R⟨rfl,V⟩;obtain⟨Z,X,hB⟩:=Dr Ht.o _ _ _ V;have x0:R.cell? ⟨w.heap.size,0,none⟩=some (.int .i8 vk):=X.cell 0;have x1:R.cell? ⟨w.heap.size,1,none⟩=some (.int .i64 vn):=X.cell 1;have x2:R.cell? ⟨w.heap.size,2,none⟩=some (.string s):=X.cell 2;have c1:R.cell? ⟨L,1,none⟩=some (.map (some N)):=Z.zH.cell 1;have aa:=Y.o R Z;clear Z X V;go_wp2
 go_quiet (fail)
 go_wp2
 go_ret2
 exact⟨rfl,hB.trans ⟨rfl,rfl,rfl,zpx _,fun _ _=>rfl⟩⟩
theorem zmr{vs:List z6}(h:qv w q zR vs S)(v:z6)(hv:v.wf)(U:v.ok=true)(hm:v∉vs)(hf:zR<=vs.length):
 Calls prog 160 #[.pointer (some ⟨q,0,none⟩),v.agg] w fun e I=>e=.returned (.tuple #[.int .i32 0,.int .i64 20])/\Bl w I:=by
 obtain⟨O,A,L,D,N,rfl⟩:=h;have R:∀o,yr (w.alloc o) q zR vs O A L D:=fun o=>N.same fun k R=>Below.heap_alloc w o k (N.lt k R)
 have V:∀o,Calls prog 128 #[.pointer (some ⟨q,0,none⟩)] (w.alloc o) fun e I=>e=.returned (.bool true)/\I=w.alloc o:=fun o=>Z9 q _ O _ _ (R o).zH
 have Ho:=zz V;have hc:∀W,Calls prog 32 #[v.agg] W fun e I=>e=.returned (.int .i64 0)/\Bl W I:=fun W=>by
  have:=GW v W;unfold z6.code at this;rw[U]at this;exact this
 have Z:=zz hc;have X:∀W,yr W q zR vs O A L D->∀n,(Instr.lookup 182 (.map (some O)) v.agg true).run prog (W.drewN n)=.ok (.tuple #[.int .i32 0,.bool false]) (W.drewN n):=fun W Y n=>by
  have:=Td (Y.same (w':=W.drewN n) fun k _=>rfl) v hv;simp only[numOf,hm,if_false,decide_false]at this;exact this
 have Y:=zz X;clear V R hc U X;obtain⟨vk,vn,s⟩:=v;simp only[z6.agg]at Z Y ⊢;have Ht:=zz N;clear N;go_enter func160,ntmps160
 go_wp2_with (go_at_call 128;refine(Ho.o _).mono ?_;rintro e I⟨rfl,rfl⟩)
 refine(Z.o _).mono ?_;rintro e N⟨rfl,V⟩;obtain⟨R,X,hB⟩:=Dr Ht.o _ _ _ V;have x0:N.cell? ⟨w.heap.size,0,none⟩=some (.int .i8 vk):=X.cell 0;have x1:N.cell? ⟨w.heap.size,1,none⟩=some (.int .i64 vn):=X.cell 1;have x2:N.cell? ⟨w.heap.size,2,none⟩=some (.string s):=X.cell 2;have c0:N.cell? ⟨q,0,none⟩=some (.int .i64 zR):=R.zH.cell 0;have c1:N.cell? ⟨q,1,none⟩=some (.map (some O)):=R.zH.cell 1;have c2:N.cell? ⟨q,2,none⟩=some (.slice A vs.length L):=R.zH.cell 2;have aa:=Y.o N R;clear R X V hm;generalize vs.length=n at hf c2;go_wp2
 go_quiet (fail)
 go_wp2
 go_quiet (fail)
 go_wp2
 go_ret2
 exact⟨rfl,hB.trans ⟨rfl,rfl,rfl,zpx _,fun _ _=>rfl⟩⟩
theorem zar{id:Nat}{l:List Oper}(n:Nat)(q:P.follows .mixedOrders=true)(L:Region.lexTailB .any l.toArray n=true)(h:wpStill P l.toArray w.drew (fun I=>wpList P l.toArray Q (l.drop n) I w.drew) (l.take n) a):(Code.region id l.toArray true).wp P Q a w:=wp_region_still_tail n q L h
theorem ziA(w:World)(a b c:Value)(t:TypeId):∀j u,[a,b,c][j]? = some u->(w.drew.alloc (.cells #[a,b,c] t)).cell? ((⟨w.heap.size,0,none⟩:Addr).add j)=some u:=by
 intro j u h;have q:=zD.new w.drew t #[a,b,c]
 match j,h with
 |0,h=>simp at h;subst h;exact q.cell 0
 |1,h=>simp at h;subst h;exact q.cell 1
 |2,h=>simp at h;subst h;exact q.cell 2
theorem ziY{k:IntKind}{a b:Int}(h:a=b):Ending.returned (.tuple #[.int k a,v])=.returned (.tuple #[.int k b,v]):=by rw[h]
theorem zi2{U Y:World}{Z:List z6}{D':DataW Unit}{xs:List Value}{o:Obj}(X:∀(w1 w2:World)(A':Option Addr)(cap':Nat),zD w2 O 184 #[.int .i64 zR,.map (some I),.slice A' (n+1) cap']->w1.ownsMap prog 43 (plainElem prog 153) I (n+1) D'->
  w2.heap[I]? = w1.heap[I]?->w2.ownsRow 0 43 3 (.slice A' (n+1) cap') (n+1) xs->yr w2 O zR Z I A' cap' D')(xV:U.ownsMap prog 43 (plainElem prog 153) I (n+1) D')(aa:I≠O)(ab:some I≠(Value.slice A n cap).ownBlock)(V:xF (Xk O I A) w U)(L:Y.ownsRow 0 43 3 (.slice (some ⟨g,0,none⟩) (n+1) cap') (n+1) xs)(N:(U.drew.alloc o).grownBy Y (Value.slice A n cap).ownBlock)(W:some g=(Value.slice A n cap).ownBlock\/g=(U.drew.alloc o).heap.size)(q:zD Y O 184 #[.int .i64 zR,.map (some I),.slice A n cap]):
 ∃R,qv (Y.setCell ⟨O,2,none⟩ (.slice (some ⟨g,0,none⟩) (n+1) cap')) O zR Z R/\xF (Xk O I A) w (Y.setCell ⟨O,2,none⟩ (.slice (some ⟨g,0,none⟩) (n+1) cap'))/\YI w.heap.size (Xk O I A) R:=by
 have ac:g≠O:=by
  rintro rfl;obtain⟨g0,c0,R,_⟩:=L.form (Nat.succ_pos n)
  rcases L.2 with⟨R,_⟩ |⟨g1,c1,ad,R,_,hh,_⟩
  ·cases R
  ·injection R with e1 _ _
   injection e1 with e1
   injection e1 with e1 _ _
   subst e1;unfold zD at q;rw[hh]at q;injection q with h2
   injection h2 with _ h3
   cases h3
 have ad:I<U.heap.size:=xV.lt;have hA:∀k,(Value.slice A n cap).ownBlock=some k->k∈zw A:=by
  intro k R;cases A<;>simp_all[Value.ownBlock,zw]
 refine⟨Xk O I (some ⟨g,0,none⟩),⟨I,some ⟨g,0,none⟩,cap',D',X U _ _ cap' ?_ xV ?_ ?_,rfl⟩,?_,?_⟩
 ·exact q.qI 2 _
 ·rw[Below.heap_setCell _ _ _ _ aa,N.block I zb ab];exact Below.heap_alloc U.drew o I ad
 ·exact GF L (fun k R=>by
   have:k=g:=by simpa[Value.ownBlock]using R.symm
   subst this;exact Below.heap_setCell _ _ _ _ ac)
 ·exact((V.drew.alloc o).grown N (fun k R=>.inl (by simp[Xk,hA k R]))).setCell (.inl (by simp[Xk])) _
 ·refine⟨fun k R=>?_,rfl⟩;simp only[Xk,zw,zpU,zqh,zqU,zqY,or_false]at R
  rcases R with rfl|rfl|rfl
  ·simp[Xk]
  ·simp[Xk]
  ·rcases W with h|h
   ·left;simp[Xk,hA k h.symm]
   ·right;rw[h];have:=V.size;simp;omega
theorem zhc{vs:List z6}(h:qv w N zR vs S)(v:z6)(hv:v.wf)(ag:v.ok=true)(hm:v∉vs)(hf:vs.length<zR):
 Calls prog 160 #[.pointer (some ⟨N,0,none⟩),v.agg] w fun e w'=>∃S',e=.returned (.tuple #[.int .i32 (vs.length:Int),.int .i64 0])/\qv w' N zR (vs++[v]) S'/\xF S w w'/\YI w.heap.size S S':=by
 obtain⟨R,A,O,D,I,rfl⟩:=h;have hk:∀o,yr (w.alloc o) N zR vs R A O D:=fun o=>I.same fun k hk=>Below.heap_alloc w o k (I.lt k hk)
 have V:∀o,Calls prog 128 #[.pointer (some ⟨N,0,none⟩)] (w.alloc o) fun e w'=>e=.returned (.bool true)/\w'=w.alloc o:=fun o=>Z9 N _ R _ _ (hk o).zH
 have Ho:=zz V;have Z:∀W,Calls prog 32 #[v.agg] W fun e w'=>e=.returned (.int .i64 0)/\Bl W w':=fun W=>by
  have:=GW v W;unfold z6.code at this;rw[ag]at this;exact this
 have Hc:=zz Z;have hl:∀W,yr W N zR vs R A O D->∀n,(Instr.lookup 182 (.map (some R)) v.agg true).run prog (W.drewN n)=.ok (.tuple #[.int .i32 0,.bool false]) (W.drewN n):=fun W q n=>by
  have:=Td (q.same (w':=W.drewN n) fun k _=>rfl) v hv;simp only[numOf,hm,if_false,decide_false]at this;exact this
 have Hl:=zz hl;have ar:vs.length<2147483647:=zpz hf I.zR;have Y:=Gy v hv;have q:∀(w1 w2:World)(A':Option Addr)(L:Nat),zD w2 N 184 #[.int .i64 zR,.map (some R),.slice A' (vs.length+1) L]->w1.ownsMap prog 43 (plainElem prog 153) R (vs.length+1) (D.put v.lit (.lit (.int .i32 (vs.length:Int))))->
  w2.heap[R]? = w1.heap[R]?->w2.ownsRow 0 43 3 (.slice A' (vs.length+1) L) (vs.length+1) (XJ vs++v.cells)->yr w2 N zR (vs++[v]) R A' L (D.put v.lit (.lit (.int .i32 (vs.length:Int)))):=
  fun w1 w2 A' L=>yr.added (w1:=w1) (w2:=w2) (A':=A') (cap':=L) I v hv ag hm hf
 have X:=zz q;have U:v.cells=[.int .i8 v.k,.int .i64 v.n,.string v.s]:=rfl;rw[U]at X;obtain⟨i0,hi,am,av,ap⟩:=info_parts Tryz.zhA;clear V hk Z ag hl hm U q;generalize v.lit=kl at Y X;generalize q:vs++[v]=az at X ⊢;clear q hv;obtain⟨vk,vn,s⟩:=v;simp only[z6.agg]at Hc Hl Y ⊢;have Ht:=zz I;clear I;go_enter func160,ntmps160
 go_wp2_with (go_at_call 128;refine(Ho.o _).mono ?_;rintro e w'⟨rfl,rfl⟩)
 refine(Hc.o _).mono ?_;rintro e W1⟨rfl,U⟩;obtain⟨q,I,Z⟩:=Dr Ht.o _ _ _ U;have x0:W1.cell? ⟨w.heap.size,0,none⟩=some (.int .i8 vk):=I.cell 0;have x1:W1.cell? ⟨w.heap.size,1,none⟩=some (.int .i64 vn):=I.cell 1;have x2:W1.cell? ⟨w.heap.size,2,none⟩=some (.string s):=I.cell 2;have c0:W1.cell? ⟨N,0,none⟩=some (.int .i64 zR):=q.zH.cell 0;have c1:W1.cell? ⟨N,1,none⟩=some (.map (some R)):=q.zH.cell 1;have c2:W1.cell? ⟨N,2,none⟩=some (.slice A vs.length O):=q.zH.cell 2;have V:=Hl.o W1 q;have HT:=zz q;have HX:=zz I;clear q I U;generalize q:vs.length=n at *;have Hn:=zz q;clear q;go_wp2
 go_quiet (fail)
 revert nq
 intro n1;go_wp2
 go_quiet (fail)
 go_upto_region 12 with fail
 refine zar 6 zo (zo) ?_;simp only[List.take_succ_cons,zpY,List.drop_succ_cons,zrm]
 repeat still_step
 refine wpStill_nil ?_;have I:yr (W1.drewN (n1+nq)).drew N zR vs R A O D:=HT.o.same fun k _=>rfl
 have ab:zD (W1.drewN (n1+nq)).drew w.heap.size 43 #[.int .i8 vk,.int .i64 vn,.string s]:=HX.o;have ai:Bl w (W1.drewN (n1+nq)).drew:=Z.trans ⟨rfl,rfl,rfl,zpx _,fun _ _=>rfl⟩;clear x0 x1 x2 c0 c1 c2 V HT HX Z;generalize(W1.drewN (n1+nq)).drew=W2 at I ab ai ⊢;have xV:=I.own;rw[Hn.o]at xV
 go_wp2_with (at_mapUpdate;refine wpList_mapUpdate_own _ rfl _ _ _ 182 rfl 43 153 law underlying182 _ R n _ rfl xV (by unfold maxLen;omega) _ _ _ rfl rfl Y _ [] (plainElem_int underlying153 (WalkArith.wf_i32 zd)) ?_;intro Z V q)
 have ad:R≠N:=by
  rintro rfl;have h1:=I.zH;obtain⟨es,cl,U,_⟩:=I.own;unfold zD at h1;rw[h1]at U;cases U
 have aj:R≠w.heap.size:=by
  rintro e;have h1:=ab;obtain⟨es,cl,U,_⟩:=I.own;rw[e]at U;unfold zD at h1;rw[h1]at U;cases U
 have ae:some R≠(Value.slice A n O).ownBlock:=by
  intro e
  rcases I.row.2 with⟨hv,_⟩ |⟨g0,c0,aa,hv,_,hh,_⟩
  ·injection hv with hA;subst hA;cases e
  ·injection hv with hA;subst hA
   obtain⟨es,cl,U,_⟩:=I.own;have e2:R=g0:=by simpa[Value.ownBlock]using e
   subst e2;rw[hh]at U;cases U
 have ax:some N≠(Value.slice A n O).ownBlock:=by
  intro e
  rcases I.row.2 with⟨hv,_⟩ |⟨g0,c0,aa,hv,_,hh,_⟩
  ·injection hv with hA;subst hA;cases e
  ·injection hv with hA;subst hA
   have U:=I.zH;have e2:N=g0:=by simpa[Value.ownBlock]using e
   subst e2;unfold zD at U;rw[hh]at U;injection U with U
   injection U with _ h3
   cases h3
 have af:zD Z N 184 #[.int .i64 zR,.map (some R),.slice A n O]:=by
  have:=I.zH.same (q.block N I.zH.lt (by simpa using fun e=>ad e.symm));rw[Hn.o]at this;exact this
 have ac:zD Z w.heap.size 43 #[.int .i8 vk,.int .i64 vn,.string s]:=ab.same (q.block _ ab.lt (by simpa using fun e=>aj e.symm));have aa:Z.ownsRow 0 43 3 (.slice A n O) n (XJ vs):=by
  have h0:=I.row;unfold yG at h0;rw[Hn.o]at h0;exact h0.kept q (.inr ae.symm)
 have au:xF (Xk N R A) w Z:=(xF.xj _ ai).grown q (fun k hk=>by cases hk;left;simp[Xk]);have x0:Z.cell? ⟨w.heap.size,0,none⟩=some (.int .i8 vk):=ac.cell 0;have x1:Z.cell? ⟨w.heap.size,1,none⟩=some (.int .i64 vn):=ac.cell 1;have x2:Z.cell? ⟨w.heap.size,2,none⟩=some (.string s):=ac.cell 2;have c2:Z.cell? ⟨N,2,none⟩=some (.slice A n O):=af.cell 2;have ak:=zz af;have ah:=zz V;have ay:R<Z.heap.size:=V.lt;clear I ab ai xV q af ac V Hl Y;have aA:N<Z.heap.size:=ak.o.lt;have V:=ziA Z (.int .i8 vk) (.int .i64 vn) (.string s) 43;have I:∀u∈[Value.int .i8 vk,.int .i64 vn,.string s],u.oneCell'=true:=by intro u hu;simp at hu;rcases hu with rfl|rfl|rfl<;>rfl
 have q:=fun o=>(ak.o.drew.alloc o)
 have aw:=zz V;have al:=zz I;have aq:=zz q;have ai:=zz aa;have ao:n+1<=maxLen:=by unfold maxLen;omega
 have an:(n+1)*32<=140737488355328:=zd;clear V I q aa
 go_region_law (refine zjZ rfl _ _ 69 rfl 43 i0 _ 3 32 underlying69 hi am av ap rfl zr A n O _ rfl (ai.o.drew.alloc _) ⟨Z.heap.size,0,none⟩ 1 1 [.int .i8 vk,.int .i64 vn,.string s] rfl rfl aw.o al.o ao an (Nat.succ_pos _) N 184 _ (aq.o _) zr ?_;intro g L W4 Y I V q;have d2:=q.cell 2;have f2:=q.frozen 2;have ab:=zz Y;have aa:=zz I;have af:=zz V;have ac:=zz q;clear Y I V q)
 all_goals
  obtain⟨S',h1,U,h3⟩:=zi2 X.o ah.o ad ae au ab.o aa.o af.o ac.o;have H1:=zz h1;have H2:=zz U;have H3:=zz h3;clear h1 U h3;go_wp2
  go_ret2
  exact⟨S',ziY (by rw[Hn.o]),H1.o,H2.o,H3.o⟩
theorem zl7{wr:World}{l:Nat}{vs:List z6}(I:yr w N zR vs L A cap D)(Y:n<=vs.length)(R:zD wr N 184 #[.int .i64 zR,.map (some L),.slice A l cap])(O:yG wr A cap vs)(xV:wr.ownsMap prog 43 (plainElem prog 153) L l ((vs.drop n).foldl (fun D v=>D.del v.lit) D))(V:xF [L] w wr):
 yr (wr.setCell ⟨N,2,none⟩ (.slice A n cap)) N zR (vs.take n) L A cap ((vs.drop n).foldl (fun D v=>D.del v.lit) D)/\xF (Xk N L A) w (wr.setCell ⟨N,2,none⟩ (.slice A n cap)):=by
 have X:(vs.take n).length=n:=by rw[zp3];omega
 have h:vs.take n++vs.drop n=vs:=zqi n vs;have q:Yr ((vs.drop n).foldl (fun D v=>D.del v.lit) D) (vs.take n):=Yr.cut (us:=vs.drop n) (by rw[h];exact I.nums) (by rw[h];exact I.wf) (by rw[h];exact I.nodup);refine⟨⟨?_,?_,q,?_,fun v U=>I.wf v (zqW U),fun v U=>I.ok v (zqW U),I.nodup.sublist (List.take_sublist _ _),by have:=I.le;omega,I.zR⟩,?_⟩
 ·rw[X];exact R.qI 2 _
 ·exact zkE (Tn xV (Below.heap_setCell _ _ _ _ I.zaF)) (zq4 q.size)
 ·exact(O.take n Y).same (fun g W=>Below.heap_setCell _ _ _ _ (I.DO g W))
 ·exact(V.mono (by simp[Xk])).setCell (.inl (by simp[Xk])) _
theorem zn1{vs:List z6}(h:qv w O zR vs S)(n:Nat)(hn:n<=vs.length):
 Calls prog 158 #[.pointer (some ⟨O,0,none⟩),.int .i64 (n:Int)] w fun e q=>e=.returned (.int .i64 0)/\qv q O zR (vs.take n) S/\xF S w q:=by
 obtain⟨W,A,q,D,L,rfl⟩:=h;have ag:=zz (Z9 O _ W _ w L.zH);have hd:decide ((n:Int)<0)=false:=zp;have ah:vs.length<=2147483647:=zpK L.le L.zR;have c2:w.cell? ⟨O,2,none⟩=some (.slice A vs.length q):=L.zH.cell 2;have I:=zz L;have N:=L.row.form;clear L;obtain⟨l,hl⟩:∃l,vs.length=l:=⟨_,rfl⟩;rw[hl]at c2 hn ah
 by_cases ao:n=l
 ·
  subst ao;have L:n<=q/\q<=9223372036854775807:=by
   rcases N with⟨_,rfl,V⟩ |⟨g,_,_,U,R⟩
   ·rw[V]at hl;simp at hl;omega
   ·unfold maxLen at R;omega
  obtain⟨ax,au⟩:=L;have af:=I.o.zH.lt;have f2:w.frozen? ⟨O,2,none⟩=false:=I.o.zH.frozen 2;have R:yr (w.setCell ⟨O,2,none⟩ (.slice A n q)) O zR (vs.take n) W A q D:=by
   rw[zpT zd];have L:W≠O:=I.o.zaF;have hg:∀g∈zw A,g≠O:=I.o.DO;refine⟨?_,Tn I.o.own (Below.heap_setCell _ _ _ _ L),I.o.nums,I.o.row.same (fun g U=>Below.heap_setCell _ _ _ _ (hg g U)),I.o.wf,I.o.ok,I.o.nodup,I.o.le,I.o.zR⟩;have:=I.o.zH.qI 2 (.slice A n q);rw[hl]at this ⊢;exact this
  have U:=zz R;clear R N hl
  by_cases ad:q=n
  ·subst ad;go_enter func158,ntmps158
   go_wp2_with (go_at_call 128;refine ag.o.mono ?_;rintro e w1⟨rfl,aa⟩;obtain rfl:w=w1:=aa.symm)
   refine wp_loop_rounds 1 ?_;rw[rounds_succ];go_wp2
   go_ret
   exact⟨rfl,⟨W,A,q,D,U.o,rfl⟩,(xF.refl _ _).setCell (.inl (by simp[Xk])) _⟩
  ·have L:¬q=n:=ad;go_enter func158,ntmps158
   go_wp2_with (go_at_call 128;refine ag.o.mono ?_;rintro e w1⟨rfl,aa⟩;obtain rfl:w=w1:=aa.symm)
   refine wp_loop_rounds 1 ?_;rw[rounds_succ];go_wp2
   go_ret
   exact⟨rfl,⟨W,A,q,D,U.o,rfl⟩,(xF.refl _ _).setCell (.inl (by simp[Xk])) _⟩
 ·obtain⟨g,rfl,hg,am,an⟩:∃g,A=some ⟨g,0,none⟩/\g<w.heap.size/\vs.length<=q/\q<=maxLen:=by
   rcases N with⟨_,rfl,V⟩|V
   ·rw[V]at hl;simp at hl;omega
   ·exact V
  clear N;rw[hl]at am;have Hl:=zz hl;clear hl;have aq:q<=9223372036854775807:=by unfold maxLen at an;omega
  have ad:¬q=n:=zd;have ac:W≠O:=I.o.zaF;have aw:g≠O:=I.o.DO g (by simp[zw]);have aj:g≠W:=I.o.zjF g (by simp[zw]);have af:=I.o.zH.lt;have av:decide (l<n)=false:=zb;go_enter func158,ntmps158
  go_wp2_with (go_at_call 128;refine ag.o.mono ?_;rintro e w1⟨rfl,aa⟩;obtain rfl:w=w1:=aa.symm)
  go_loopg[28] (l-n) (fun gk i L=>∃j:Nat,j<=l-n/\gk=l-n-j/\i=.int .i64 j/\L.ownsMap prog 43 (plainElem prog 153) W l (((vs.drop n).take j).foldl (fun D v=>D.del v.lit) D)/\xF [W] w L)
  case atStart=>
   refine⟨0,zpD _,rfl,rfl,?_,xF.refl _ _⟩;have:=I.o.own;rw[Hl.o]at this;exact this
  case round=>
   obtain⟨j,hj,rfl,rfl,xV,hC⟩:=hrel
   by_cases ar:j<l-n
   ·have Y:yG wr (some ⟨g,0,none⟩) q vs:=I.o.row.same (fun k hk=>by simp[zw]at hk;subst hk;exact hC.block _ hg (by simp[aj]));have L:zD wr O 184 #[.int .i64 zR,.map (some W),.slice (some ⟨g,0,none⟩) l q]:=by
     have:=I.o.zH.same (hC.block O af (by simpa using ac.symm));rw[Hl.o]at this;exact this
    obtain⟨d0,d1,d2⟩:=Y.three (n+j) (by rw[Hl.o];omega);have V:=I.o.wf (vs[n+j]'(by rw[Hl.o];omega)) zp;have X:=Gy _ V;have hD:Kz (((vs.drop n).take (j+1)).foldl (fun D v=>D.del v.lit) D=(((vs.drop n).take j).foldl (fun D v=>D.del v.lit) D).del (vs[n+j]'(by rw[Hl.o];omega)).lit):=zz (by
     rw[zpC (by rw[zqC,Hl.o];omega),zqQ];simp)
    generalize(vs[n+j]'(by rw[Hl.o];omega)).lit=kl at X hD;generalize(vs[n+j]'(by rw[Hl.o];omega))=v at d0 d1 d2 X V;generalize(((vs.drop n).take j).foldl (fun D v=>D.del v.lit) D)=Dj at xV hD;obtain⟨vk,vn,s⟩:=v;simp only[z6.agg]at X d0 d1 d2;clear V;have c1:wr.cell? ⟨O,1,none⟩=some (.map (some W)):=L.cell 1;have ap:=L.lt;rw[show(n+j)*3=n*3+j*3 from zd]at d0 d1 d2;go_wp2;have hX:=zD.new wr 43 #[.int .i8 vk,.int .i64 vn,.string s];have ab:=(xV.alloc (.cells #[.int .i8 vk,.int .i64 vn,.string s] 43)).drew;have ai:=(hC.alloc (.cells #[.int .i8 vk,.int .i64 vn,.string s] 43)).drew;refine zar 5 zo (zo) ?_;simp only[List.take_succ_cons,zpY,List.drop_succ_cons,zrm]
    repeat still_step
    refine wpStill_nil ?_
    go_wp2_with (at_delete;refine wpList_delete_own _ rfl _ _ 182 43 rfl 153 law underlying182 _ W l _ rfl ab _ _ rfl X ?_;intro W3 V Z)
    have ak:=ai.grown Z.grown (fun k hk=>by cases hk;left;simp);rw[<-hD.o]at V;have ae:=zz V;have al:=zz ak;clear V ak Z ab ai xV hC hD;go_wp2
    go_roundg (l-n-(j+1))
    case measure=>omega
    case rel=>exact⟨j+1,zd,rfl,ze,ae.o,al.o⟩
   ·obtain rfl:j=l-n:=zd;have L:zD wr O 184 #[.int .i64 zR,.map (some W),.slice (some ⟨g,0,none⟩) l q]:=by
     have:=I.o.zH.same (hC.block O af (by simpa using ac.symm));rw[Hl.o]at this;exact this
    have Y:yG wr (some ⟨g,0,none⟩) q vs:=I.o.row.same (fun k hk=>by simp[zw]at hk;subst hk;exact hC.block _ hg (by simp[aj]));have c2:wr.cell? ⟨O,2,none⟩=some (.slice (some ⟨g,0,none⟩) l q):=L.cell 2;have f2:wr.frozen? ⟨O,2,none⟩=false:=L.frozen 2;have R:=zl7 I.o (by rw[Hl.o];exact hn) L Y (by rw[zpT (by rw[zqC,Hl.o];omega)]at xV;exact xV) hC;have U:=zz R;clear R L Y xV hC;go_wp2
    go_ret
    exact⟨rfl,⟨W,_,q,_,U.o.1,rfl⟩,U.o.2⟩
def Y7(w:World)(A:Option Addr)(vs:List z6):Prop:=vs≠[]->∃b q,A=some ⟨b,q,none⟩/\b<w.heap.size/\
 ∀i (h:i<vs.length),w.cell? ⟨b,q+i*3,none⟩=some (.int .i8 (vs[i]).k)/\w.cell? ⟨b,q+i*3+1,none⟩=some (.int .i64 (vs[i]).n)/\w.cell? ⟨b,q+i*3+2,none⟩=some (.string (vs[i]).s)
theorem Y7.qj{vs:List z6}(h:Y7 w A vs)(U:w.heap.size<=w'.heap.size)(N:∀a,A=some a->w'.heap[a.block]? = w.heap[a.block]?):Y7 w' A vs:=by
 intro W;obtain⟨b,q,rfl,I,X⟩:=h W;have e:=N _ rfl;refine⟨b,q,rfl,zpz I U,fun i V=>?_⟩;obtain⟨O,L,R⟩:=X i V;exact⟨(World.cell?_of_block (a:=⟨b,q+i*3,none⟩) e).trans O,(World.cell?_of_block (a:=⟨b,q+i*3+1,none⟩) e).trans L,(World.cell?_of_block (a:=⟨b,q+i*3+2,none⟩) e).trans R⟩
theorem Y7.below{vs:List z6}(h:Y7 w A vs)(L:Bl w w'):Y7 w' A vs:=by
 intro N;obtain⟨b,I,rfl,q,R⟩:=h N;have:=Y7.qj (A:=some ⟨b,I,none⟩) (vs:=vs) (fun _=>⟨b,I,rfl,q,R⟩) L.size (fun a O=>by cases O;exact L.block _ q);exact this N
def XK(zR:Nat)(vs:List z6)(u:z6):List z6×Nat×Int:=
 if u.ok=false then(vs,0,10)else if u∈vs then(vs,vs.idxOf u,0)else if vs.length<zR then(vs++[u],vs.length,0)else(vs,0,20)
theorem T6{vs:List z6}(h:qv w U zR vs S)(u:z6)(V:u.wf):
 Calls prog 160 #[.pointer (some ⟨U,0,none⟩),u.agg] w fun e L=>∃q,e=.returned (.tuple #[.int .i32 ((XK zR vs u).2.1:Int),.int .i64 (XK zR vs u).2.2])/\qv L U zR (XK zR vs u).1 q/\xF S w L/\YI w.heap.size S q:=by
 unfold XK
 by_cases R:u.ok=false
 ·simp only[if_pos R];exact(zgQ h u R).mono fun e L ⟨N,q⟩=>⟨S,N,h.below q,xF.xj _ q,YI.refl _ _⟩
 ·have I:u.ok=true:=by cases hh:u.ok;exact absurd hh R;rfl
  simp only[if_neg R]
  by_cases O:u∈vs
  ·simp only[if_pos O];exact(zhm h u V I O).mono fun e L ⟨N,q⟩=>⟨S,N,h.below q,xF.xj _ q,YI.refl _ _⟩
  ·simp only[if_neg O]
   by_cases W:vs.length<zR
   ·simp only[if_pos W];exact zhc h u V I O W
   ·simp only[if_neg W];exact(zmr h u V I O zd).mono fun e L ⟨N,q⟩=>⟨S,N,h.below q,xF.xj _ q,YI.refl _ _⟩
theorem znW{vs:List z6}{u:z6}(q:vs.length<=zR):(XK zR vs u).2.1<=zR:=by
 unfold XK;split
 ·exact zpD _
 ·split
  ·rename_i _ h;exact zpK (zrb (UU h)) q
  ·split
   ·exact q
   ·exact zpD _
def XQ(zR:Nat):List z6->List z6->List Nat->List z6×List Nat×Int
 |[],h,q=>(h,q,0)
 |u::I,h,q=>if(XK zR h u).2.2=0 then XQ zR I (XK zR h u).1 (q++[(XK zR h u).2.1])else((XK zR h u).1,q,(XK zR h u).2.2)
theorem Tv(zR:Nat)(u:z6)(us vs:List z6)(ns:List Nat):XQ zR (u::us) vs ns=if(XK zR vs u).2.2=0 then XQ zR us (XK zR vs u).1 (ns++[(XK zR vs u).2.1])else((XK zR vs u).1,ns,(XK zR vs u).2.2):=rfl
def rowOf(ns:List Nat):Array Value:=((ns.map fun n:Nat=>Value.int .i32 (n:Int))++List.replicate (24-ns.length) (Value.int .i32 0)).toArray
theorem zbk(ns:List Nat)(h:ns.length<=24):(rowOf ns).size=24:=by
 unfold rowOf;simp;omega
theorem zks(ns:List Nat)(h:ns.length<24):(rowOf ns)[ns.length]? = some (.int .i32 0):=by
 unfold rowOf;have q:(ns.map fun n:Nat=>Value.int .i32 (n:Int)).length=ns.length:=zp;rw[zpL,zqL zd,q,zrp,List.getElem?_replicate,if_pos zd]
theorem zjj(ns:List Nat)(n:Nat)(h:ns.length<24):(rowOf ns).setIfInBounds ns.length (.int .i32 (n:Int))=rowOf (ns++[n]):=by
 unfold rowOf;have q:(ns.map fun n:Nat=>Value.int .i32 (n:Int)).length=ns.length:=zp;have e:24-ns.length=24-(ns++[n]).length+1:=by rw[zpA,zqs];omega
 rw[zp4,List.set_append_right _ _ zd,q,zrp,e,List.replicate_succ,zqm,zp1];simp
theorem zjt(N tb zR:Nat)(vs us:List z6)(A:Option Addr)(cap:Nat)(S:List Nat)(w:World)(hT:qv w tb zR vs S)(aD:Y7 w A us)(ar:us≠[]->∀a,A=some a->a.block∉N::S)(aA:∀u∈us,u.wf)(aw:us.length<=24)(L:zD w N 155 (rowOf []))(aK:N∉S):
 Calls prog 159 #[.slice (some ⟨N,0,none⟩) 24 24,.slice A us.length cap,.func (.func 160) #[.pointer (some ⟨tb,0,none⟩)] #[]] w fun e I=>
  ∃S',e=.returned (.int .i64 (XQ zR us vs []).2.2)/\qv I tb zR (XQ zR us vs []).1 S'/\zD I N 155 (rowOf (XQ zR us vs []).2.1)/\xF (N::S) w I/\YI w.heap.size S S'/\N∉S':=by
 obtain⟨n,I⟩:∃n,us.length=n:=⟨_,rfl⟩;rw[I]at aw ⊢;have Hn:=zz I;clear I;have aF:=zz aD;have aB:=zz ar;have HT:=zz hT;have ax:=zz L;have aH:=zz aA;have aM:zR<=2147483647:=by obtain⟨_,_,_,_,ht,_⟩:=hT;exact ht.zR
 clear aD ar hT L aA;go_enter func159,ntmps159;go_wp2
 go_loopg[13] n (fun gk i I=>∃(j:Nat) (W:List z6) (ns:List Nat) (S':List Nat),j<=n/\gk=n-j/\i=.int .i64 j/\ns.length=j/\XQ zR us vs []=XQ zR (us.drop j) W ns/\qv I tb zR W S'/\zD I N 155 (rowOf ns)/\xF (N::S) w I/\YI w.heap.size S S'/\N∉S')
 case atStart=>exact⟨0,vs,[],S,zpD _,rfl,rfl,rfl,rfl,HT.o,ax.o,xF.refl _ _,YI.refl _ _,aK⟩
 case round=>
  obtain⟨j,W,ns,S',hj,rfl,rfl,ao,ac,hT,L,hC,ap,Y⟩:=hrel
  by_cases aG:j<n
  ·have ai:j<us.length:=by rw[Hn.o];exact aG
   have O:Y7 wr A us:=by
    intro aj;obtain⟨b,az,rfl,hb,U⟩:=aF.o aj;have e:=hC.block b hb (aB.o aj _ rfl);exact Y7.qj (w:=w) (fun _=>⟨b,az,rfl,hb,U⟩) hC.size (fun a I=>by cases I;exact e) aj
   obtain⟨b,az,rfl,hb,U⟩:=O (by intro h;rw[h]at ai;simp at ai);obtain⟨d0,d1,d2⟩:=U j ai;have I:∀o,qv (wr.alloc o) tb zR W S':=fun o=>hT.same fun k hk=>Below.heap_alloc _ _ k (hT.lt k hk)
   have V:=fun o=>T6 (I o) (us[j]) (aH.o _ (zpB ai))
   have R:=znW (u:=us[j]) (show W.length<=zR by obtain⟨_,_,_,_,ht,_⟩:=hT;exact ht.le);rw[zqa ai]at ac;clear U O I;have U:=zz V;have aC:=zz hT;have af:=zz ap;have X:=zz L;have HC:=zz hC;have aa:=zz ac;have Z:=zz Y;have aN:=L.lt;clear V hT ap L hC ac Y;generalize us[j]=v at U d0 d1 d2 aa R;obtain⟨vk,vn,s⟩:=v;simp only[z6.agg]at U d0 d1 d2;have Hx:Kz (∀o,(wr.alloc o).heap.size=wr.heap.size+1):=zz (fun o=>zp);obtain⟨q,I⟩:∃q,XK zR W ⟨vk,vn,s⟩=q:=⟨_,rfl⟩;rw[I]at R;rw[Tv]at aa;rw[I]at U aa;clear I;obtain⟨au,ab,ag⟩:=q;simp only at U aa R
   go_wp2_with fail
   refine(U.o _).mono ?_;rintro e W2⟨S2,rfl,ak,al,ah⟩;have V:N∉S2:=fun h=>by
    rcases ah N h with h|h
    ·exact Z.o h
    ·rw[Hx.o]at h;omega
   have I:zD W2 N 155 (rowOf ns):=(X.o.alloc _).same (al.block N (by rw[Hx.o];omega) Z.o);have am:xF (N::S) w W2:=(HC.o.alloc _).trans al (fun x O=>by
    rcases af.o x O with h|h
    ·left;exact zpQ _ h
    ·right;exact h)
   have an:YI w.heap.size S S2:=⟨fun k hk=>by
    rcases ah k hk with h|h
    ·exact af.o k h
    ·right;have:=HC.o.size;rw[Hx.o]at h;omega,ah.map.trans af.o.map⟩
   by_cases O:ag=0
   ·subst O;have z0:W2.cell? ⟨N,j,none⟩=some (.int .i32 0):=by rw[I.cell,<-ao];exact zks ns zd
    have z1:W2.frozen? ⟨N,j,none⟩=false:=I.frozen j;have ae:zD (W2.setCell ⟨N,j,none⟩ (.int .i32 (ab:Int))) N 155 (rowOf (ns++[ab])):=by
     rw[<-zjj ns ab zd,ao];exact I.qI j _
    have ay:qv (W2.setCell ⟨N,j,none⟩ (.int .i32 (ab:Int))) tb zR au S2:=ak.same fun k hk=>Below.heap_setCell _ _ _ _ (fun e=>V (by have e':k=N:=e;rw[<-e'];exact hk))
    have aE:xF (N::S) w (W2.setCell ⟨N,j,none⟩ (.int .i32 (ab:Int))):=am.setCell (.inl zp) _;have aq:=zz ae;have aL:=zz ay;have aI:=zz aE;have av:=zz an;have ad:=zz V;have aJ:=zz ao;clear ae ay aE an V ak al ah I am ao;go_wp2
    go_roundg (n-(j+1))
    case measure=>omega
    case rel=>
     refine⟨j+1,au,ns++[ab],S2,zd,rfl,ze,by rw[zpA,aJ.o];rfl,?_,aL.o,aq.o,aI.o,av.o,ad.o⟩;rw[aa.o];simp
   ·have aj:(ag != 0)=true:=by simpa using O
    have aq:XQ zR us vs []=(au,ns,ag):=by rw[aa.o];simp[O]
    have ae:=zz aq;have av:=zz an;have ad:=zz V;have ay:=zz ak;have aE:=zz I;have aI:=zz am;clear aq an V ak al ah I am O;go_wp2
    go_ret
    rw[ae.o];exact⟨S2,rfl,ay.o,aE.o,aI.o,av.o,ad.o⟩
  ·obtain rfl:j=n:=zd;rw[zqc (by rw[Hn.o];omega)]at ac;have ae:=zz (show XQ zR us vs []=(W,ns,0) by rw[ac];rfl);have aC:=zz hT;have X:=zz L;have HC:=zz hC;have af:=zz ap;have Z:=zz Y;clear hT L hC ap Y ac;go_wp2
   go_ret
   rw[ae.o];exact⟨S',rfl,aC.o,X.o,HC.o,af.o,Z.o⟩
theorem zmZ(h L I N:Nat)(w:World)(R:w.cell? ⟨h,0,none⟩=some (.int .i64 0)):
 CallsD prog 157 #[.pointer (some ⟨h,0,none⟩),.pointer (some ⟨L,0,none⟩),.pointer (some ⟨I,0,none⟩),.pointer (some ⟨N,0,none⟩)] .returning w fun e O q=>O=.returning/\(e=.returned (.tuple #[])/\q=w):=by
 go_enter_d func157,ntmps157
 go_wp2;go_end0;exact⟨rfl,rfl⟩
theorem Ua(ns:List Nat)(h:ns.length<=24):(prog.info? 155).map (·.size)=some (rowOf ns).size:=by
 rw[zbk ns h];kernel_rfl
theorem zbb(ns:List Nat):(rowOf ns).all (·.oneCell')=true:=by
 rw[Array.all_eq_true_iff_forall_mem];intro v h;simp only[rowOf,List.mem_toArray,zpE,zp8,List.mem_replicate]at h
 rcases h with⟨n,_,rfl⟩ |⟨_,rfl⟩<;>rfl
theorem zkh{I q:Array Value}(h:zD w g t I):zD (w.setRow g q) g t q:=
 setRow_heap w g I q t (0,0) h
theorem xF.setRow{a:World}(h:xF S a w)(q:g∈S\/a.heap.size<=g)(I:Array Value):xF S a (w.setRow g I):=
 ⟨h.os,h.tape,h.output,by rw[setRow_size];exact h.size,fun k N L=>by
  rw[setRow_other w g k I (by rintro rfl;rcases q with q|q;exact L q;omega)];exact h.block k N L⟩
theorem zmp(b5 b2 b6 I Y zR q:Nat)(vs:List z6)(S:List Nat)(X:Array Value)(h:Int)(w:World)(hc:h≠0)(h5:w.cell? ⟨b5,0,none⟩=some (.int .i64 h))(h2:w.cell? ⟨b2,0,none⟩=some (.pointer (some ⟨Y,0,none⟩)))(h6:w.cell? ⟨b6,0,none⟩=some (.int .i64 (q:Int)))(W:zD w I 155 X)(Z:X.size=24)(hT:qv w Y zR vs S)(hw:q<=vs.length)(N:I∉S):
 CallsD prog 157 #[.pointer (some ⟨b5,0,none⟩),.pointer (some ⟨b2,0,none⟩),.pointer (some ⟨b6,0,none⟩),.pointer (some ⟨I,0,none⟩)] .returning w fun e O L=>O=.returning/\(e=.returned (.tuple #[])/\qv L Y zR (vs.take q) S/\zD L I 155 (rowOf [])/\xF (I::S) w L):=by
 have ab:(h != 0)=true:=by simpa using hc
 have hcut:=zz (zn1 hT q hw);have H4:=zz W;have V:=W.lt;clear hT W
 go_enter_d func157,ntmps157
 go_wp2_with (first
  |(go_at_call 158;refine hcut.o.mono ?_;rintro e w1⟨rfl,O,L⟩;have aa:=zz O;have U:=zz L;have R:=H4.o.same (L.block I V N);clear O L)
  |refine wpList_store_row rfl 155 _ _ rfl I (rowOf []) rfl rfl 155 X R (Ua [] zp) (by rw[Z,zbk [] zp]) (zbb []) ?_)
 go_end0;refine⟨rfl,aa.o.same fun k hk=>setRow_other _ _ _ _ (by rintro rfl;exact N hk),zkh R,(U.o.mono fun x hx=>.tail _ hx).setRow (.inl (.head _)) _⟩
theorem zh4{L:World}(I:TypeId)(x:Operand)(V:o.op=.load I x)(g:Nat)(X:a.eval x=.pointer (some ⟨g,0,none⟩))(t:TypeId)(q:Array Value)(O:Nat×Nat)(d:TypeDesc)(U:L.heap[g]? = some (.cells q t O))(W:P.underlying I=some d)(R:(match d with|.struct _|.array _ _=>true|_=>false)=true)(hi:(P.info? I).map (·.size)=some q.size)(h:K (a.put o.dst (.agg q))):o.quiet P a (fun N=>∃n,N=L.drewN n) K:=by
 refine⟨_,?_,h⟩;rintro N⟨n,rfl⟩;unfold Oper.quietAt execOp;simp only[V,X,Instr.loadAt,Instr.sureAddr,Sem.run_bind,Sem.run_pure,Result.andThen_ok,run_loadVar_row (L.drewN n) g t I q O d U W R hi];exact⟨rfl,rfl⟩
theorem zjQ{I:World}(L:TypeId)(x y:Operand)(U:o.op=.store L x y)(g:Nat)(q:Array Value)(W:a.eval x=.pointer (some ⟨g,0,none⟩))(hy:a.eval y=.agg q)(t:TypeId)(O:I.heap[g]? = some (.cells q t (0,0)))(hi:(P.info? L).map (·.size)=some q.size)(R:q.all (·.oneCell')=true)(h:K (a.put o.dst undef)):o.quiet P a (fun N=>∃n,N=I.drewN n) K:=by
 refine⟨_,?_,h⟩;rintro N⟨n,rfl⟩;have V:(I.drewN n).setRow g q=I.drewN n:=setRow_self (I.drewN n) g q t (0,0) O;unfold Oper.quietAt execOp;simp only[U,W,hy,Instr.storeAt,Instr.sureAddr,Sem.run_bind,Sem.run_pure,Result.andThen_ok,run_storeVar_row (I.drewN n) g t L q q O hi rfl R,V];exact⟨rfl,rfl⟩
theorem zmw(h:zD w g t #[v]):w.setCell ⟨g,0,none⟩ v=w:=by
 have:=setCell_eq_setRow w g 0 #[v] t (0,0) v h;rw[this];exact setRow_self w g _ t (0,0) h
theorem zcr(zR:Nat)(vs:List z6)(u:z6):vs <+:(XK zR vs u).1:=by
 unfold XK;split
 ·exact zrw _
 ·split
  ·exact zrw _
  ·split
   ·exact List.prefix_append _ _
   ·exact zrw _
theorem zct(zR:Nat):∀(q h:List z6)(I:List Nat),h <+:(XQ zR q h I).1
 |[],h,I=>zrw _
 |u::q,h,I=>by
  rw[Tv];split
  ·exact(zcr zR h u).trans (zct zR q _ _)
  ·exact zcr zR h u
theorem zfA(zR:Nat):∀(I h:List z6)(q:List Nat),(XQ zR I h q).2.1.length<=q.length+I.length
 |[],h,q=>by simp[XQ]
 |u::I,h,q=>by
  rw[Tv];split
  ·have:=zfA zR I (XK zR h u).1 (q++[(XK zR h u).2.1]);simp at this ⊢;omega
  ·simp
def VJ(zR:Nat)(us vs:List z6):List z6×List Nat×Int:=
 if 24<us.length then(vs,[],1)else if(XQ zR us vs []).2.2=0 then XQ zR us vs []else(vs,[],(XQ zR us vs []).2.2)
theorem zd8{vs:List z6}(h:qv w q zR vs S):
 Calls prog 128 #[.pointer (some ⟨q,0,none⟩)] w fun e I=>e=.returned (.bool true)/\I=w:=by
 obtain⟨I,A,L,D,N,rfl⟩:=h;exact Z9 q _ I _ w N.zH
theorem Tw(w:World)(I h q:TypeId)(c1 c2 c3:Array Value):Bl w (((w.alloc (.cells c1 I)).alloc (.cells c2 h)).alloc (.cells c3 q))/\zD (((w.alloc (.cells c1 I)).alloc (.cells c2 h)).alloc (.cells c3 q)) w.heap.size I c1/\
 zD (((w.alloc (.cells c1 I)).alloc (.cells c2 h)).alloc (.cells c3 q)) (w.heap.size+1) h c2/\zD (((w.alloc (.cells c1 I)).alloc (.cells c2 h)).alloc (.cells c3 q)) (w.heap.size+2) q c3/\(((w.alloc (.cells c1 I)).alloc (.cells c2 h)).alloc (.cells c3 q)).heap.size=w.heap.size+3:=by
 refine⟨(((Below.refl _ _).alloc (zpx _) _).alloc zp _).alloc zb _,((zD.new w _ _).alloc _).alloc _,?_,?_,zp⟩
 ·have:=(zD.new (w.alloc (.cells c1 I)) h c2).alloc (.cells c3 q);simpa using this
 ·have:=zD.new ((w.alloc (.cells c1 I)).alloc (.cells c2 h)) q c3;simpa using this
theorem zap(h:Array Value)(w:World)(I L:Nat)(N:Array Value)(q:Int)(W:h.getD 4 undef=.pointer (some ⟨I,0,none⟩))(X:h.getD 5 undef=.pointer (some ⟨L,0,none⟩))(Y:zD w I 155 N)(hi:(prog.info? 155).map (·.size)=some N.size)(U:zD w L 52 #[.int .i64 q]):
 (results Tryz.f92 h).run prog w=.ok (.tuple #[.agg N,.int .i64 q]) w:=by
 have R:h[4]?.getD undef=.pointer (some ⟨I,0,none⟩):=by simpa using W
 have O:h[5]?.getD undef=.pointer (some ⟨L,0,none⟩):=by simpa using X
 have c5:w.cell? ⟨L,0,none⟩=some (.int .i64 q):=U.cell 0;have V:=run_loadVar_row (P:=prog) w I 155 155 N (0,0) _ Y underlying155 rfl hi;simp[results,results92,R,O,asAddr,V];simp[go_sem,c5]
theorem zko{X:Nat}{vs:List z6}(h:qv w X zR vs S)(us:List z6)(A:Option Addr)(cap:Nat)(ax:Y7 w A us)(af:us≠[]->∀a,A=some a->a.block∉S/\a.block<w.heap.size)(aq:∀u∈us,u.wf):
 Calls prog 92 #[.pointer (some ⟨X,0,none⟩),.slice A us.length cap] w fun e I=>
  ∃q,e=.returned (.tuple #[.agg (rowOf (VJ zR us vs).2.1),.int .i64 (VJ zR us vs).2.2])/\qv I X zR (VJ zR us vs).1 q/\xF S w I/\YI w.heap.size S q:=by
 have aN:∀(fn:Fn)(first cap:Array Value)(w:World),(Instr.makeFunc fn first cap).run prog w=.ok (.func fn first cap) w:=fun _ _ _ _=>rfl
 have HT:=zz h;have aB:=zz ax;have aw:=zz af;have aD:=zz aq;clear h ax af aq
 by_cases an:24<us.length
 ·have hd:decide ((24:Int)<(us.length:Int))=true:=zb;have q:VJ zR us vs=(vs,[],1):=by unfold VJ;rw[if_pos an]
  rw[q];clear q
  go_enter_defers func92,ntmps92
  go_wp2_with (first
   |(
    go_at_call 128;refine(zd8 (HT.o.below (Tw w _ _ _ _ _ _).1)).mono ?_;rintro e I⟨rfl,R⟩
    have h3:Bl w I/\zD I w.heap.size 112 #[.pointer (some ⟨X,0,none⟩)]/\zD I (w.heap.size+1) 155 (rowOf [])/\zD I (w.heap.size+2) 52 #[.int .i64 0]/\I.heap.size=w.heap.size+3:=by
     rw[R];exact Tw w _ _ _ _ _ _
    clear R;obtain⟨Z,b2,V,L,Y⟩:=h3;have N:I.setRow (w.heap.size+1) (rowOf [])=I:=setRow_self _ _ _ _ _ V;have c5:I.cell? ⟨w.heap.size+1+1,0,none⟩=some (.int .i64 0):=L.cell 0;have f5:I.frozen? ⟨w.heap.size+1+1,0,none⟩=false:=L.frozen 0)
   |refine wpList_load_row rfl 155 _ rfl (w.heap.size+1) rfl 155 (rowOf []) (0,0) _ V underlying155 rfl (Ua [] zp) ?_
   |(refine wpList_store_row rfl 155 _ _ rfl (w.heap.size+1) (rowOf []) rfl rfl 155 (rowOf []) V (Ua [] zp) rfl (zbb []) ?_;rw[N]))
  have L:=L.qI 0 (.int .i64 1);have V:=V.X4 (p:=⟨w.heap.size+2,0,none⟩) zp (.int .i64 1);refine⟨_,zap _ _ _ _ _ 1 rfl rfl V (Ua [] zp) L,S,rfl,(HT.o.below Z).same fun k O=>Below.heap_setCell _ ⟨w.heap.size+2,0,none⟩ _ _ (by have:=HT.o.lt k O;simp;omega),(xF.xj _ Z).setCell (.inr zb) _,YI.refl _ _⟩
 ·have hd:decide ((24:Int)<(us.length:Int))=false:=zb;have U:=zfA zR us vs [];have W:=zct zR us vs [];have q:VJ zR us vs=if(XQ zR us vs []).2.2=0 then XQ zR us vs []else(vs,[],(XQ zR us vs []).2.2):=by unfold VJ;rw[if_neg an]
  rw[q];clear q;obtain⟨⟨ac,N,q⟩,hg⟩:∃r,XQ zR us vs []=r:=⟨_,rfl⟩;rw[hg]at U W ⊢;simp only at U W ⊢;have Hg:=zz hg;have aA:=zz U;have ar:=zz W;clear hg U W
  go_enter_defers func92,ntmps92
  go_wp2_with (
   go_at_call 128;refine(zd8 (HT.o.below (Tw w _ _ _ _ _ _).1)).mono ?_;rintro e I⟨rfl,R⟩
   have h3:Bl w I/\zD I w.heap.size 112 #[.pointer (some ⟨X,0,none⟩)]/\zD I (w.heap.size+1) 155 (rowOf [])/\zD I (w.heap.size+2) 52 #[.int .i64 0]/\I.heap.size=w.heap.size+3:=by
    rw[R];exact Tw w _ _ _ _ _ _
   clear R;obtain⟨Z,b2,V,L,Y⟩:=h3;have R:=HT.o.below Z;obtain⟨Av,ae,cv⟩:∃Av ae,I.cell? ⟨X,2,none⟩=some (.slice Av vs.length ae):=by obtain⟨mb,A,cap,D,ht,rfl⟩:=R;exact⟨_,_,ht.zH.cell 2⟩
   have aG:=zz R;have c2:I.cell? ⟨w.heap.size,0,none⟩=some (.pointer (some ⟨X,0,none⟩)):=b2.cell 0;have f2:I.frozen? ⟨w.heap.size,0,none⟩=false:=b2.frozen 0;have c5:I.cell? ⟨w.heap.size+1+1,0,none⟩=some (.int .i64 0):=L.cell 0;have f5:I.frozen? ⟨w.heap.size+1+1,0,none⟩=false:=L.frozen 0;have B2:=zz b2;have B4:=zz V;have B5:=zz L;have aa:=zz Y;clear R b2 V L Y)
  obtain⟨W,U⟩:∃W,W=I.alloc (.cells #[.int .i64 (vs.length:Int)] 3):=⟨_,rfl⟩;rw[<-U];have R:Bl I W:=by rw[U];exact(Below.refl _ _).alloc (zpx _) _
  have ab:W.heap.size=I.heap.size+1:=by rw[U];simp
  have au:=zz ab;clear ab;have b6:zD W I.heap.size 3 #[.int .i64 (vs.length:Int)]:=by rw[U];exact zD.new _ _ _
  clear U;have aL:W.cell? ⟨w.heap.size,0,none⟩=some (.pointer (some ⟨X,0,none⟩)):=(B2.o.same (R.block _ B2.o.lt)).cell 0;have aM:W.cell? ⟨w.heap.size+1+1,0,none⟩=some (.int .i64 0):=(B5.o.same (R.block _ B5.o.lt)).cell 0;refine zar 4 zo (zo) ?_;simp only[List.take_succ_cons,zpY,List.drop_succ_cons,zrm]
  repeat still_step
  refine wpStill_nil ?_;have ag:qv W.drew X zR vs S:=(aG.o.below R).same fun k O=>rfl
  have ak:w.heap.size+1<I.heap.size:=B4.o.lt;have U:zD W.drew (w.heap.size+1) 155 (rowOf []):=B4.o.same (R.block _ ak);have aI:w.heap.size+1∉S:=fun O=>by have:=HT.o.lt _ O;omega
  have ad:Y7 W.drew A us:=((aB.o.below Z).below R).qj (zpx _) (fun a _=>rfl);have ah:=zz (zjt (w.heap.size+1) X zR vs us A cap S W.drew ag ad (fun ai a ha Y=>by
   obtain⟨h1,h2⟩:=aw.o ai a ha
   rcases zpU.1 Y with Y|Y
   ·omega
   ·exact h1 Y) aD.o zd U aI)
  rw[Hg.o]at ah;simp only at ah;clear ag U ad c5 c2
  go_wp2_with (
   go_at_call 159;refine ah.o.mono ?_;rintro e W3⟨S3,rfl,aj,ap,U,ai,al⟩
   have ad:∀k,w.heap.size<=k->k≠w.heap.size+1->k∉(w.heap.size+1)::S:=fun k O hn Y=>by
    rcases zpU.1 Y with Y|Y
    ·exact hn Y
    ·have:=HT.o.lt k Y;omega
   have aC:=aa.o;have ab:=au.o;have L:zD W3 (w.heap.size+1+1) 52 #[.int .i64 0]:=(B5.o.same (R.block _ B5.o.lt)).same (U.block _ (show w.heap.size+1+1<W.heap.size from zd) (ad _ zd (zd)));have b2:zD W3 w.heap.size 112 #[.pointer (some ⟨X,0,none⟩)]:=(B2.o.same (R.block _ B2.o.lt)).same (U.block _ (show w.heap.size<W.heap.size from zd) (ad _ zd (zd)));have b6:zD W3 I.heap.size 3 #[.int .i64 (vs.length:Int)]:=b6.same (U.block _ (show I.heap.size<W.heap.size from zd) (ad _ zd (zd)));have c5:W3.cell? ⟨w.heap.size+1+1,0,none⟩=some (.int .i64 0):=L.cell 0;have f5:W3.frozen? ⟨w.heap.size+1+1,0,none⟩=false:=L.frozen 0;have az:=zz aj;have av:=zz ap;have aF:=zz U;have ag:=zz ai;have ay:=zz L;have ao:=zz b2;have am:=zz b6;clear aj ap U ai L b2 b6 aC ab ad)
  have aC:xF S w W.drew:=(xF.xj _ (Z.trans (R.mono (by have:=aa.o;omega)))).drew;have U:xF S w W3:=aC.trans aF.o (fun x hx=>by
   rcases zpU.1 hx with rfl|hx
   ·right;omega
   ·left;exact hx)
  have aK:xF S w (W3.setCell ⟨w.heap.size+1+1,0,none⟩ (.int .i64 q)):=U.setCell (.inr zb) _;have ab:∀k∈S3,k≠w.heap.size+1+1/\(k∈S\/w.heap.size<=k):=fun k O=>by
   have h1:=aa.o;have h2:=au.o
   rcases ag.o k O with O|O
   ·exact⟨by have:=HT.o.lt k O;omega,.inl O⟩
   ·have O:W.heap.size<=k:=O;exact⟨zd,.inr zd⟩
  have L:=ay.o.qI 0 (.int .i64 q);have V:=av.o.X4 (p:=⟨w.heap.size+1+1,0,none⟩) zp (.int .i64 q);have b2:=ao.o.X4 (p:=⟨w.heap.size+1+1,0,none⟩) zb (.int .i64 q);have b6:=am.o.X4 (p:=⟨w.heap.size+1+1,0,none⟩) (by have:=aa.o;simp;omega) (.int .i64 q);have aJ:qv (W3.setCell ⟨w.heap.size+1+1,0,none⟩ (.int .i64 q)) X zR ac S3:=az.o.same fun k O=>Below.heap_setCell _ _ _ _ (ab k O).1
  generalize W3.setCell ⟨w.heap.size+1+1,0,none⟩ (.int .i64 q)=W4 at *;clear c5 f5 U az av ao ay am;have L:zD W4 (w.heap.size+1+1) 52 #[.int .i64 q]:=L;have U:N.length<=24:=by have:=aA.o;simp at this;omega
  have c5:W4.cell? ⟨w.heap.size+1+1,0,none⟩=some (.int .i64 q):=L.cell 0;refine wp_region_quiet_lit zo (zo) ?_;refine wpQuiet_step (fun K hK=>?_);rw[if_pos zj];refine zh4 155 _ rfl (w.heap.size+1) rfl 155 (rowOf N) (0,0) _ V underlying155 rfl (Ua N U) (hK _ ?_);clear hK K;go_simp
  quiet_step (fail)
  refine wpQuiet_step (fun K hK=>?_);rw[if_pos zj];refine zjQ 155 _ _ rfl (w.heap.size+1) (rowOf N) rfl rfl 155 V (Ua N U) (zbb N) (hK _ ?_);clear hK K;have f5:W4.frozen? ⟨w.heap.size+1+1,0,none⟩=false:=L.frozen 0;have ad:∀n,(W4.drewN n).setCell ⟨w.heap.size+1+1,0,none⟩ (.int .i64 q)=W4.drewN n:=fun n=>zmw (L.drewN n)
  quiet_step (fail)
  refine wpQuiet_nil ?_;intro n;have aj:qv (W4.drewN n) X zR ac S3:=aJ.same fun k _=>rfl
  have ap:xF S w (W4.drewN n):=aK.trans ⟨rfl,rfl,rfl,zpx _,fun _ _ _=>rfl⟩ (fun _ hx=>.inl hx);have L:zD (W4.drewN n) (w.heap.size+1+1) 52 #[.int .i64 q]:=L;have V:zD (W4.drewN n) (w.heap.size+1) 155 (rowOf N):=V;have b2:zD (W4.drewN n) w.heap.size 112 #[.pointer (some ⟨X,0,none⟩)]:=b2;have b6:zD (W4.drewN n) I.heap.size 3 #[.int .i64 (vs.length:Int)]:=b6;clear ad;generalize W4.drewN n=W5 at *;go_wp2
  ·
   have hz:q=0:=za;subst hz;refine leaves_cons (f:=157) (args:=#[.pointer (some ⟨w.heap.size+1+1,0,none⟩),.pointer (some ⟨w.heap.size,0,none⟩),.pointer (some ⟨I.heap.size,0,none⟩),.pointer (some ⟨w.heap.size+1,0,none⟩)]) zp (by simp[go_sem]) ?_;refine(zmZ _ _ _ _ W5 (L.cell 0)).mono ?_;rintro e u' W6⟨rfl,rfl,rfl⟩;exact⟨_,zap _ _ _ _ _ 0 rfl rfl V (Ua N U) L,rfl,S3,aj,ap,⟨fun k O=>(ab k O).2,ag.o.map⟩⟩
  ·
   refine leaves_cons (f:=157) (args:=#[.pointer (some ⟨w.heap.size+1+1,0,none⟩),.pointer (some ⟨w.heap.size,0,none⟩),.pointer (some ⟨I.heap.size,0,none⟩),.pointer (some ⟨w.heap.size+1,0,none⟩)]) zp (by simp[go_sem]) ?_;have hl:vs.length<=ac.length:=ar.o.length_le;refine(zmp _ _ _ _ X zR vs.length ac S3 (rowOf N) q W5 h (L.cell 0) (b2.cell 0) (b6.cell 0) V (zbk N U) aj hl al).mono ?_;rintro e u' W6⟨rfl,rfl,ad,aE,ai⟩;have hH:=aa.o;have aH:zD W6 (w.heap.size+1+1) 52 #[.int .i64 q]:=L.same (ai.block _ L.lt (fun Y=>by
    rcases zpU.1 Y with Y|Y
    ·omega
    ·exact(ab _ Y).1 rfl))
   refine⟨_,zap _ W6 _ _ _ q rfl rfl aE (Ua [] zp) aH,rfl,S3,?_,ap.trans ai (fun x hx=>?_),⟨fun k O=>(ab k O).2,ag.o.map⟩⟩
   ·rw[<-List.prefix_iff_eq_take.1 ar.o]at ad;exact ad
   ·rcases zpU.1 hx with rfl|hx
    ·right;omega
    ·exact(ab x hx).2
end
end Go.Proofs.YtfdickkdlcgicaaGreatDoor
namespace Go.Proofs.YtfdickkdlcgicaaGreatDoor.C
open Go.Proofs.Tryz Go Go.RowKit Go.Maps Go.WideMaps
section
abbrev zX(r:List Nat):List Value:=r.map fun n:Nat=>Value.int .i32 (n:Int)
structure Rw (r:List Nat):Prop where
 len:r.length=24
 lt:∀n∈r,n<=2147483647
def pad(ns:List Nat):List Nat:=ns++List.replicate (24-ns.length) 0
theorem zjx(ns:List Nat):rowOf ns=(zX (pad ns)).toArray:=by
 unfold rowOf pad zX;rw[zp1,List.map_replicate];rfl
theorem Rw.pad{ns:List Nat}(h:ns.length<=24)(q:∀n∈ns,n<=2147483647):Rw (pad ns):=
 ⟨by unfold C.pad;simp;omega,fun n I=>by
  rcases zpE.1 I with h|h
  ·exact q n h
  ·rw[(List.mem_replicate.1 h).2];omega⟩
theorem zeP{a b:List Nat}(h:zX a=zX b):a=b:=by
 unfold zX at h;exact(List.map_inj_right (fun x y e=>by injection e with _ e;exact Int.ofNat.inj e)).1 h
theorem Ut:Keyed prog 155:=Keyed.of_law (deep_law_laid laidOut (m:=3) zd (of_decide_eq_true zo) zo (zo))
theorem zin:prog.keyType 155=true:=zo
theorem zeH:prog.cellsOf 155=24:=zo
theorem zfj:prog.cellsOf 153=1:=zo
theorem mapM_some{α β:Type}{f:α->Option β}{g:α->β}:∀{l:List α},(∀x∈l,f x=some (g x))->l.mapM f=some (l.map g)
 |[],_=>rfl
 |a::l,h=>by
  rw[List.mapM_cons,h a zpP,mapM_some fun x q=>h x (zpQ _ q)];rfl
def Gb(r:List Nat):List Lit:=r.map fun n:Nat=>Lit.int .i32 (n:Int)
theorem zkY:∀(r:List Nat),((List.range r.length).map fun i=>[Lit.int .i32 ((r.getD i 0:Nat):Int)]).flatten=Gb r:=fun r=>by
 rw[<-zrs];have:∀l:List Nat,l.flatMap (fun i=>[Lit.int .i32 ((r.getD i 0:Nat):Int)])=l.map (fun i=>Lit.int .i32 ((r.getD i 0:Nat):Int)):=fun l=>by induction l<;>simp_all
 rw[this];unfold Gb;refine zrj zp fun i h I=>?_
 have q:i<r.length:=by simpa using h
 simp[q]
theorem zlN(d:Nat)(r:List Nat)(h:Rw r):prog.keyLits (d+1+1) 155 (zX r)=some (Gb r):=by
 have L:(List.range 24).mapM (fun i=>prog.keyLits (d+1) 153 (((zX r).drop (i*1)).take 1))=some ((List.range 24).map fun i=>[Lit.int .i32 ((r.getD i 0:Nat):Int)]):=mapM_some fun i q=>by
  have q:i<r.length:=by rw[h.len];exact zqA.1 q
  have e:((zX r).drop (i*1)).take 1=[.int .i32 (r[i]:Int)]:=by
   rw[zqI,zqa (by simpa using q)];simp
  have R:=h.lt r[i] (zpB q);have I:(Lit.int .i32 ((r[i]:Nat):Int)).wf=true:=by
   have O:IntKind.i32.min=-2147483648:=zr;have N:IntKind.i32.max=2147483647:=zr;simp[Lit.wf,O,N];omega
  rw[e];simp[Program.keyLits,underlying153,zfj,I,q]
 unfold Program.keyLits;rw[underlying155]
 dsimp only
 rw[zeH,zfj,if_pos (by simp[h.len]),L,<-zkY r,h.len];rfl
theorem Jq{r:List Nat}(h:Rw r):keyOf prog 155 (.agg (zX r).toArray)=some (.string (keyBytes (Gb r))):=by
 have e:(prog.keyLits (prog.types.size+1) 155 (Value.agg (zX r).toArray).cells.toList)=some (Gb r):=by
  rw[zei];exact zlN _ r h
 unfold keyOf;rw[underlying155]
 dsimp only
 rw[zin,e];simp[Value.formed,underlying155,zeH,h.len]
theorem T4:qB prog 211 155 24 96:=qB.of (z:=.agg (zX (List.replicate 24 0)).toArray) underlying211 zo (by simp[Value.cells]) zr
theorem X7(r:List Nat):∀u∈zX r,u.oneCell'=true:=zt
end
