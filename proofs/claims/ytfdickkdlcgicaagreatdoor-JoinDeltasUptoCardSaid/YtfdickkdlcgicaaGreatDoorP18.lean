/-
  Walks: New, Len, Find, Value of a table that is there. Walks
-/
import Derived.Test.YtfdickkdlcgicaaGreatDoorP17
import Derived.Laws.CopyRow
set_option maxRecDepth 100000
set_option maxHeartbeats 8000000
set_option linter.all false
namespace Go.Proofs.YtfdickkdlcgicaaGreatDoor
open Go.Proofs.Tryz Go Go.RowKit Go.Maps Go.WideMaps
variable {A:Option Addr}{D:DataW Unit}{I L N R cap cap' g n q r zR:Nat}{K:Act->Prop}{P:Program}{Q:Exit->Act->World->Prop}{S:List Nat}{a:Act}{o:Oper}{t:TypeId}{v:Value}{w w':World}
section
def numOf(vs:List z6)(v:z6):Nat:=if v∈vs then vs.idxOf v else 0
theorem UF{vs:List z6}{v:z6}(h:v∈vs):vs.idxOf v<vs.length:=List.idxOf_lt_length_of_mem h
theorem zcX{vs:List z6}{v:z6}(h:v∈vs):vs[vs.idxOf v]'(UF h)=v:=List.getElem_idxOf _
theorem GS{vs:List z6}{O:Nat}(h:yh w R zR vs O A cap D)(v:z6)(N:v.wf):
 (Instr.lookup 182 (.map (some O)) v.agg true).run prog w=.ok (.tuple #[.int .i32 (numOf vs v:Int),.bool (decide (v∈vs))]) w:=by
 obtain⟨x,U,q,L⟩:=h.own.look_ok law underlying182 (zdQ w) (plainElem_int underlying153 zr) (Gi v N);rw[h.nums.has v N]at q
 by_cases I:v∈vs
 ·have r:=h.nums.at_ _ (UF I);rw[zcX I]at r;rw[r]at L;obtain⟨c,rfl,e,_⟩:=plainElem_int_inv underlying153 L;simp only[Prod.mk.injEq]at e;have e1:(vs.idxOf v:Int)=c:=by have:=e.1;injection this with this;injection this
  rw[q];unfold numOf;rw[if_pos I,e1]
 ·have r:D.atKey v.lit (.lit (.int .i32 0))=.lit (.int .i32 0):=atKey_of_not_has (by rw[h.nums.has v N];simp[I]) _;rw[r]at L;obtain⟨c,rfl,e,_⟩:=plainElem_int_inv underlying153 L;simp only[Prod.mk.injEq]at e;have e1:(0:Int)=c:=by have:=e.1;injection this with this;injection this
  rw[q];unfold numOf;rw[if_neg I,<-e1];rfl
theorem zkU(m:Nat)(w:World)(r:m<=2147483647):
 Calls prog 42 #[.int .i64 (m:Int)] w fun e q=>∃h S,e=.returned (.tuple #[.pointer (some ⟨h,0,none⟩),.int .i64 0])/\qu q h m [] S/\(∀k∈S,w.heap.size<=k)/\Bl w q:=by
 have h:=@run_makeMap prog;have I:(0:Int)<=(m:Int):=zd;have q:decide ((m:Int)<0)=false:=zp;go_enter func42,ntmps42;go_wp2
 go_ret2
 go_light
 refine⟨w.heap.size+1,Xa (w.heap.size+1) w.heap.size none,rfl,⟨w.heap.size,none,0,.map [],⟨?_,?_,Yg.none_,yy.qC _,zp,zp,zp,zp,r⟩,rfl⟩,by simp[Xa,zw],?_⟩
 ·have:=zD.new (w.alloc (.map #[] 0)) 184 #[.int .i64 (m:Int),.map (some w.heap.size),.slice none 0 0];rw[show(w.alloc (.map #[] 0)).heap.size=w.heap.size+1 from zp]at this;exact this
 ·exact((World.ownsMap_made w _ _ _).alloc _)
 ·exact((Below.refl _ _).alloc (zoZ _) _).alloc zp _
theorem zdr{vs:List z6}(h:qu w r zR vs S)(v:z6)(Y:v.wf):
 Calls prog 322 #[.pointer (some ⟨r,0,none⟩),v.agg] w fun e I=>e=.returned (.tuple #[.int .i32 (numOf vs v:Int),.bool (decide (v∈vs))])/\Bl w I:=by
 obtain⟨O,A,R,D,L,rfl⟩:=h;have N:∀o,yh (w.alloc o) r zR vs O A R D:=fun o=>L.same fun k N=>Below.heap_alloc w o k (L.lt k N)
 have V:∀o,Calls prog 128 #[.pointer (some ⟨r,0,none⟩)] (w.alloc o) fun e I=>e=.returned (.bool true)/\I=w.alloc o:=fun o=>ZX r _ O _ _ (N o).zG
 have X:=zz V;have c1:w.cell? ⟨r,1,none⟩=some (.map (some O)):=L.zG.cell 1;have W:r<w.heap.size:=L.zG.lt;have U:∀o n,(Instr.lookup 182 (.map (some O)) v.agg true).run prog ((w.alloc o).drewN n)=.ok (.tuple #[.int .i32 (numOf vs v:Int),.bool (decide (v∈vs))]) ((w.alloc o).drewN n):=
  fun o n=>GS ((N o).same (w':=(w.alloc o).drewN n) fun k _=>rfl) v Y
 clear V L N;generalize(numOf vs v:Int)=q at U ⊢;generalize decide (v∈vs)=L at U ⊢;obtain⟨N,V,s⟩:=v;simp only[z6.agg]at U ⊢;go_enter func322,ntmps322
 go_wp2_with (go_at_call 128;refine(X.o _).mono ?_;rintro e I⟨rfl,rfl⟩)
 go_quiet (fail)
 go_wp2
 go_ret2
 exact⟨rfl,((Below.refl _ _).alloc (zoZ _) _).trans ⟨rfl,rfl,rfl,zoZ _,fun _ _=>rfl⟩⟩
def z6.zero:z6:=⟨0,0,⟨#[]⟩⟩
theorem zka{vs:List z6}(h:qu w I zR vs S)(i:Nat)(hi:i<vs.length):
 Calls prog 130 #[.pointer (some ⟨I,0,none⟩),.int .i32 (i:Int)] w fun e N=>e=.returned (.tuple #[(vs[i]).agg,.int .i64 0])/\Bl w N:=by
 obtain⟨V,A,L,D,q,rfl⟩:=h
 rcases q.row.form with⟨_,_,rfl⟩ |⟨g,rfl,hg,R,Z⟩
 ·simp at hi
 have O:∀o,yh (w.alloc o) I zR vs V (some ⟨g,0,none⟩) L D:=fun o=>q.same fun k O=>Below.heap_alloc w o k (q.lt k O)
 have Y:∀o,Calls prog 128 #[.pointer (some ⟨I,0,none⟩)] (w.alloc o) fun e N=>e=.returned (.bool true)/\N=w.alloc o:=fun o=>ZX I _ V _ _ (O o).zG
 have Ho:=zz Y;have c2:w.cell? ⟨I,2,none⟩=some (.slice (some ⟨g,0,none⟩) vs.length L):=q.zG.cell 2;have aa:I<w.heap.size:=q.zG.lt;obtain⟨X,W,U⟩:=q.row.three i hi;have r:vs.length<=2147483647:=zpd q.le q.zR;have hd:decide ((i:Int)<0)=false:=zp;clear Y q O;obtain⟨n,q⟩:∃n,vs.length=n:=⟨_,rfl⟩;rw[q]at c2 hi r R;obtain⟨v,O⟩:∃v,vs[i]' zd=v:=⟨_,rfl⟩;simp only[O]at X W U ⊢;clear q O;obtain⟨q,O,s⟩:=v;simp only[z6.agg]at X W U ⊢;go_enter func130,ntmps130
 go_wp2_with (go_at_call 128;refine(Ho.o _).mono ?_;rintro e N⟨rfl,rfl⟩)
 refine bodyPost_ret (v:=.tuple #[.agg #[.int .i8 q,.int .i64 O,.string s],.int .i64 0]) (by simp[results,results130,go_sem]) rfl ⟨rfl,?_⟩
 repeat(first|exact Below.refl _ _|refine Below.setCell ?_ zp _|refine Below.alloc ?_ zp _)
theorem yh.added{w1 w2:World}{vs:List z6}{A':Option Addr}(h:yh w R zR vs I A cap D)(v:z6)(W:v.wf)(U:v.ok=true)(V:v∉vs)(X:vs.length<zR)(N:zD w2 R 184 #[.int .i64 zR,.map (some I),.slice A' (vs.length+1) cap'])(xT:w1.ownsMap prog 43 (plainElem prog 153) I (vs.length+1) (D.put v.lit (.lit (.int .i32 (vs.length:Int)))))(r:w2.heap[I]? = w1.heap[I]?)(L:w2.ownsRow 0 43 3 (.slice A' (vs.length+1) cap') (vs.length+1) (Xx vs++v.cells)):yh w2 R zR (vs++[v]) I A' cap' (D.put v.lit (.lit (.int .i32 (vs.length:Int)))):=by
 have O:(vs++[v]).length=vs.length+1:=zp;refine⟨by rw[O];exact N,by rw[O];exact G0 xT r,h.nums.put h.wf v W V,?_,?_,?_,?_,by rw[O];omega,h.zR⟩
 ·unfold yy;rw[O,zj8];simpa[Xx]using L
 ·intro u q
  rcases zo7.1 q with q|q
  ·exact h.wf u q
  ·rw[zo2.1 q];exact W
 ·intro u q
  rcases zo7.1 q with q|q
  ·exact h.ok u q
  ·rw[zo2.1 q];exact U
 ·exact zqH.2 ⟨h.nodup,zp,fun a Y b q e=>by rw[zo2]at q;subst q;subst e;exact V Y⟩
theorem zjt{R:Array Oper}{K:Act->World->Prop}{E:Prop}(hg:o.guard=none)(s x:Operand)(t:TypeId)(Y:o.op=Op.call { callee:=Callee.builtin Builtin.append,args:=#[s,x],argTypes:=#[t,t]})(e:TypeId)(i:TypeInfo)(z:Value)(size bytes:Nat)(X:P.underlying t=some (.slice e))(hi:P.info? e=some i)(hz:i.zero=some z)(I:i.size=size)(ab:i.bytes=bytes)(ae:z.cells.size=size)(aa:0<size)(A:Option Addr)(n cap:Nat)(xs:List Value)(hs:a.eval s=.slice A n cap)(xT:w.ownsRow 0 e size (.slice A n cap) n xs)(ad:Addr)(m c:Nat)(news:List Value)(hx:a.eval x=.slice (some ad) m c)(hl:news.length=m*size)(L:∀j u,news[j]? = some u->w.cell? (ad.add j)=some u)(h1:∀u∈news,u.oneCell'=true)(Z:n+m<=maxLen)(r:(n+m)*bytes<=140737488355328)(hm:0<n+m)(V:Nat)(T:TypeId)(cs:Array Value)(q:zD w V T cs)(ac:e≠T)(hK:∀g h N,N.ownsRow 0 e size (.slice (some ⟨g,0,none⟩) (n+m) h) (n+m) (xs++news)->w.grownBy N (Value.slice A n cap).ownBlock->(some g=(Value.slice A n cap).ownBlock\/g=w.heap.size)->zD N V T cs->
  K (a.put o.dst (.slice (some ⟨g,0,none⟩) (n+m) h)) N):
 if Region.wanted o (yielded R a.tmps)=true then Oper.wp P o a w K Q else E:=by
 have hw:Region.wanted o (yielded R a.tmps)=true:=by simp[Region.wanted,hg]
 rw[if_pos hw];obtain⟨v',N,hr,h2,h3,h4,O⟩:=run_append_own_at (P:=P) w 0 t o.type e i z size bytes X hi hz I ab ae aa _ n xs xT ad m c news hl L h1 Z r (zo5 _);unfold Oper.wp execOp;simp only[Y,resolve,invoke,builtin,Sem.run_bind,Sem.run_pure,Result.andThen_ok,zqh,zpM,zqG,hs,hx,hr];obtain⟨g,h,rfl⟩:∃g h,v'=.slice (some ⟨g,0,none⟩) (n+m) h:=by
  obtain⟨g,h,U,_⟩:=h2.form hm;exact⟨g,h,U⟩
 refine hK g h N h2 h3 ?_ ?_
 ·rcases O with O|O
  ·exact .inl O
  ·right;simpa[Value.ownBlock]using O
 ·refine q.same (h3.block V q.lt ?_);intro W
  rcases xT.2 with⟨U,_⟩ |⟨g0,c0,af,U,_,hh,_⟩
  ·rw[U]at W;cases W
  ·rw[U]at W;have:V=g0:=by simpa[Value.ownBlock]using W
   subst this;have:=q;unfold zD at this;rw[hh]at this;injection this with this
   injection this with _ X
   exact ac X
theorem Tryz.zg0:(prog.info? 43).map (fun i=>(i.zero,i.size,i.bytes))=some (some (.agg #[.int .i8 0,.int .i64 0,.string ⟨#[]⟩]),3,32):=zo
theorem zgg{vs:List z6}(h:qu w r zR vs S)(v:z6)(I:v.ok=false):
 Calls prog 160 #[.pointer (some ⟨r,0,none⟩),v.agg] w fun e q=>e=.returned (.tuple #[.int .i32 0,.int .i64 10])/\Bl w q:=by
 obtain⟨R,A,O,D,N,rfl⟩:=h;have L:∀o,yh (w.alloc o) r zR vs R A O D:=fun o=>N.same fun k L=>Below.heap_alloc w o k (N.lt k L)
 have V:∀o,Calls prog 128 #[.pointer (some ⟨r,0,none⟩)] (w.alloc o) fun e q=>e=.returned (.bool true)/\q=w.alloc o:=fun o=>ZX r _ R _ _ (L o).zG
 have Y:=zz V;have X:∀W,Calls prog 32 #[v.agg] W fun e q=>e=.returned (.int .i64 10)/\Bl W q:=fun W=>by
  have:=GD v W;unfold z6.code at this;rw[I]at this;exact this
 have U:=zz X;clear V N L X I;obtain⟨V,X,s⟩:=v;simp only[z6.agg]at U ⊢;go_enter func160,ntmps160
 go_wp2_with (first
  |(go_at_call 128;refine(Y.o _).mono ?_;rintro e q⟨rfl,rfl⟩)
  |(go_at_call 32;refine(U.o _).mono ?_;rintro e N⟨rfl,L⟩))
 go_ret2
 exact⟨rfl,((Below.refl _ _).alloc (zoZ _) _).trans (L.mono zp)⟩
theorem T0{h:World}{vs:List z6}(q:yh w I zR vs N A cap D)(a b c:Value)(r:Below (w.alloc (.cells #[a,b,c] 43)).heap.size (w.alloc (.cells #[a,b,c] 43)) h):
 yh h I zR vs N A cap D/\zD h w.heap.size 43 #[a,b,c]/\Bl w h:=by
 have O:(w.alloc (.cells #[a,b,c] 43)).heap.size=w.heap.size+1:=zp;refine⟨q.same fun k L=>(r.block k (by have:=q.lt k L;omega)).trans (Below.heap_alloc w _ k (q.lt k L)),(zD.new w _ _).same (r.block _ zd),((Below.refl _ _).alloc (zoZ _) _).trans (r.mono zd)⟩
theorem zgO{vs:List z6}(h:qu w I zR vs S)(v:z6)(hv:v.wf)(R:v.ok=true)(hm:v∈vs):
 Calls prog 160 #[.pointer (some ⟨I,0,none⟩),v.agg] w fun e r=>e=.returned (.tuple #[.int .i32 (vs.idxOf v:Int),.int .i64 0])/\Bl w r:=by
 obtain⟨L,A,N,D,O,rfl⟩:=h;have U:∀o,yh (w.alloc o) I zR vs L A N D:=fun o=>O.same fun k U=>Below.heap_alloc w o k (O.lt k U)
 have V:∀o,Calls prog 128 #[.pointer (some ⟨I,0,none⟩)] (w.alloc o) fun e r=>e=.returned (.bool true)/\r=w.alloc o:=fun o=>ZX I _ L _ _ (U o).zG
 have Ho:=zz V;have hc:∀W,Calls prog 32 #[v.agg] W fun e r=>e=.returned (.int .i64 0)/\Bl W r:=fun W=>by
  have:=GD v W;unfold z6.code at this;rw[R]at this;exact this
 have Z:=zz hc;have Y:∀W,yh W I zR vs L A N D->∀n,(Instr.lookup 182 (.map (some L)) v.agg true).run prog (W.drewN n)=.ok (.tuple #[.int .i32 (vs.idxOf v:Int),.bool true]) (W.drewN n):=fun W X n=>by
  have:=GS (X.same (w':=W.drewN n) fun k _=>rfl) v hv;simp only[numOf,hm,if_true,decide_true]at this;exact this
 have X:=zz Y;clear V U hc R Y;generalize(vs.idxOf v:Int)=q at X ⊢;obtain⟨vk,vn,s⟩:=v;simp only[z6.agg]at Z X ⊢;have Ht:=zz O;clear O;go_enter func160,ntmps160
 go_wp2_with (go_at_call 128;refine(Ho.o _).mono ?_;rintro e r⟨rfl,rfl⟩)
 refine(Z.o _).mono ?_;rintro e O⟨rfl,U⟩;obtain⟨Y,V,hB⟩:=T0 Ht.o _ _ _ U;have x0:O.cell? ⟨w.heap.size,0,none⟩=some (.int .i8 vk):=V.cell 0;have x1:O.cell? ⟨w.heap.size,1,none⟩=some (.int .i64 vn):=V.cell 1;have x2:O.cell? ⟨w.heap.size,2,none⟩=some (.string s):=V.cell 2;have c1:O.cell? ⟨I,1,none⟩=some (.map (some L)):=Y.zG.cell 1;have aa:=X.o O Y;clear Y V U;go_wp2
 go_quiet (fail)
 go_wp2
 go_ret2
 exact⟨rfl,hB.trans ⟨rfl,rfl,rfl,zoZ _,fun _ _=>rfl⟩⟩
theorem zlT{vs:List z6}(h:qu w q zR vs S)(v:z6)(hv:v.wf)(R:v.ok=true)(Z:v∉vs)(hf:zR<=vs.length):
 Calls prog 160 #[.pointer (some ⟨q,0,none⟩),v.agg] w fun e r=>e=.returned (.tuple #[.int .i32 0,.int .i64 20])/\Bl w r:=by
 obtain⟨N,A,I,D,L,rfl⟩:=h;have O:∀o,yh (w.alloc o) q zR vs N A I D:=fun o=>L.same fun k O=>Below.heap_alloc w o k (L.lt k O)
 have U:∀o,Calls prog 128 #[.pointer (some ⟨q,0,none⟩)] (w.alloc o) fun e r=>e=.returned (.bool true)/\r=w.alloc o:=fun o=>ZX q _ N _ _ (O o).zG
 have Ho:=zz U;have hc:∀W,Calls prog 32 #[v.agg] W fun e r=>e=.returned (.int .i64 0)/\Bl W r:=fun W=>by
  have:=GD v W;unfold z6.code at this;rw[R]at this;exact this
 have Y:=zz hc;have V:∀W,yh W q zR vs N A I D->∀n,(Instr.lookup 182 (.map (some N)) v.agg true).run prog (W.drewN n)=.ok (.tuple #[.int .i32 0,.bool false]) (W.drewN n):=fun W X n=>by
  have:=GS (X.same (w':=W.drewN n) fun k _=>rfl) v hv;simp only[numOf,Z,if_false,decide_false]at this;exact this
 have X:=zz V;clear U O hc R V;obtain⟨vk,vn,s⟩:=v;simp only[z6.agg]at Y X ⊢;have Ht:=zz L;clear L;go_enter func160,ntmps160
 go_wp2_with (go_at_call 128;refine(Ho.o _).mono ?_;rintro e r⟨rfl,rfl⟩)
 refine(Y.o _).mono ?_;rintro e L⟨rfl,U⟩;obtain⟨O,V,hB⟩:=T0 Ht.o _ _ _ U;have x0:L.cell? ⟨w.heap.size,0,none⟩=some (.int .i8 vk):=V.cell 0;have x1:L.cell? ⟨w.heap.size,1,none⟩=some (.int .i64 vn):=V.cell 1;have x2:L.cell? ⟨w.heap.size,2,none⟩=some (.string s):=V.cell 2;have c0:L.cell? ⟨q,0,none⟩=some (.int .i64 zR):=O.zG.cell 0;have c1:L.cell? ⟨q,1,none⟩=some (.map (some N)):=O.zG.cell 1;have c2:L.cell? ⟨q,2,none⟩=some (.slice A vs.length I):=O.zG.cell 2;have aa:=X.o L O;clear O V U Z;generalize vs.length=n at hf c2;go_wp2
 go_quiet (fail)
 go_wp2
 go_quiet (fail)
 go_wp2
 go_ret2
 exact⟨rfl,hB.trans ⟨rfl,rfl,rfl,zoZ _,fun _ _=>rfl⟩⟩
theorem DY{id:Nat}{l:List Oper}(n:Nat)(q:P.follows .mixedOrders=true)(I:Region.lexTailB .any l.toArray n=true)(h:wpStill P l.toArray w.drew (fun r=>wpList P l.toArray Q (l.drop n) r w.drew) (l.take n) a):(Code.region id l.toArray true).wp P Q a w:=wp_region_still_tail n q I h
theorem zh1(w:World)(a b c:Value)(t:TypeId):∀j u,[a,b,c][j]? = some u->(w.drew.alloc (.cells #[a,b,c] t)).cell? ((⟨w.heap.size,0,none⟩:Addr).add j)=some u:=by
 intro j u h;have q:=zD.new w.drew t #[a,b,c]
 match j,h with
 |0,h=>simp at h;subst h;exact q.cell 0
 |1,h=>simp at h;subst h;exact q.cell 1
 |2,h=>simp at h;subst h;exact q.cell 2
theorem zit{k:IntKind}{a b:Int}(h:a=b):Ending.returned (.tuple #[.int k a,v])=.returned (.tuple #[.int k b,v]):=by rw[h]
theorem ziw{R X:World}{Y:List z6}{D':DataW Unit}{xs:List Value}{o:Obj}(W:∀(w1 w2:World)(A':Option Addr)(cap':Nat),zD w2 N 184 #[.int .i64 zR,.map (some r),.slice A' (n+1) cap']->w1.ownsMap prog 43 (plainElem prog 153) r (n+1) D'->
  w2.heap[r]? = w1.heap[r]?->w2.ownsRow 0 43 3 (.slice A' (n+1) cap') (n+1) xs->yh w2 N zR Y r A' cap' D')(xT:R.ownsMap prog 43 (plainElem prog 153) r (n+1) D')(Z:r≠N)(aa:some r≠(Value.slice A n cap).ownBlock)(U:xD (Xa N r A) w R)(I:X.ownsRow 0 43 3 (.slice (some ⟨g,0,none⟩) (n+1) cap') (n+1) xs)(L:(R.drew.alloc o).grownBy X (Value.slice A n cap).ownBlock)(V:some g=(Value.slice A n cap).ownBlock\/g=(R.drew.alloc o).heap.size)(q:zD X N 184 #[.int .i64 zR,.map (some r),.slice A n cap]):
 ∃O,qu (X.setCell ⟨N,2,none⟩ (.slice (some ⟨g,0,none⟩) (n+1) cap')) N zR Y O/\xD (Xa N r A) w (X.setCell ⟨N,2,none⟩ (.slice (some ⟨g,0,none⟩) (n+1) cap'))/\Yx w.heap.size (Xa N r A) O:=by
 have ab:g≠N:=by
  rintro rfl;obtain⟨g0,c0,O,_⟩:=I.form (Nat.succ_pos n)
  rcases I.2 with⟨O,_⟩ |⟨g1,c1,ac,O,_,hh,_⟩
  ·cases O
  ·injection O with e1 _ _
   injection e1 with e1
   injection e1 with e1 _ _
   subst e1;unfold zD at q;rw[hh]at q;injection q with h2
   injection h2 with _ h3
   cases h3
 have ac:r<R.heap.size:=xT.lt;have hA:∀k,(Value.slice A n cap).ownBlock=some k->k∈zw A:=by
  intro k O;cases A<;>simp_all[Value.ownBlock,zw]
 refine⟨Xa N r (some ⟨g,0,none⟩),⟨r,some ⟨g,0,none⟩,cap',D',W R _ _ cap' ?_ xT ?_ ?_,rfl⟩,?_,?_⟩
 ·exact q.qE 2 _
 ·rw[Below.heap_setCell _ _ _ _ Z,L.block r zb aa];exact Below.heap_alloc R.drew o r ac
 ·exact Gm I (fun k O=>by
   have:k=g:=by simpa[Value.ownBlock]using O.symm
   subst this;exact Below.heap_setCell _ _ _ _ ab)
 ·exact((U.drew.alloc o).grown L (fun k O=>.inl (by simp[Xa,hA k O]))).setCell (.inl (by simp[Xa])) _
 ·refine⟨fun k O=>?_,rfl⟩;simp only[Xa,zw,zpp,zpK,zqo,zqv,or_false]at O
  rcases O with rfl|rfl|rfl
  ·simp[Xa]
  ·simp[Xa]
  ·rcases V with h|h
   ·left;simp[Xa,hA k h.symm]
   ·right;rw[h];have:=U.size;simp;omega
theorem zgD{vs:List z6}(h:qu w L zR vs S)(v:z6)(Z:v.wf)(ag:v.ok=true)(hm:v∉vs)(hf:vs.length<zR):
 Calls prog 160 #[.pointer (some ⟨L,0,none⟩),v.agg] w fun e w'=>∃S',e=.returned (.tuple #[.int .i32 (vs.length:Int),.int .i64 0])/\qu w' L zR (vs++[v]) S'/\xD S w w'/\Yx w.heap.size S S':=by
 obtain⟨O,A,N,D,r,rfl⟩:=h;have hk:∀o,yh (w.alloc o) L zR vs O A N D:=fun o=>r.same fun k hk=>Below.heap_alloc w o k (r.lt k hk)
 have U:∀o,Calls prog 128 #[.pointer (some ⟨L,0,none⟩)] (w.alloc o) fun e w'=>e=.returned (.bool true)/\w'=w.alloc o:=fun o=>ZX L _ O _ _ (hk o).zG
 have Ho:=zz U;have Y:∀W,Calls prog 32 #[v.agg] W fun e w'=>e=.returned (.int .i64 0)/\Bl W w':=fun W=>by
  have:=GD v W;unfold z6.code at this;rw[ag]at this;exact this
 have Hc:=zz Y;have hl:∀W,yh W L zR vs O A N D->∀n,(Instr.lookup 182 (.map (some O)) v.agg true).run prog (W.drewN n)=.ok (.tuple #[.int .i32 0,.bool false]) (W.drewN n):=fun W q n=>by
  have:=GS (q.same (w':=W.drewN n) fun k _=>rfl) v Z;simp only[numOf,hm,if_false,decide_false]at this;exact this
 have Hl:=zz hl;have ar:vs.length<2147483647:=zo0 hf r.zR;have X:=Gi v Z;have q:∀(w1 w2:World)(A':Option Addr)(I:Nat),zD w2 L 184 #[.int .i64 zR,.map (some O),.slice A' (vs.length+1) I]->w1.ownsMap prog 43 (plainElem prog 153) O (vs.length+1) (D.put v.lit (.lit (.int .i32 (vs.length:Int))))->
  w2.heap[O]? = w1.heap[O]?->w2.ownsRow 0 43 3 (.slice A' (vs.length+1) I) (vs.length+1) (Xx vs++v.cells)->yh w2 L zR (vs++[v]) O A' I (D.put v.lit (.lit (.int .i32 (vs.length:Int)))):=
  fun w1 w2 A' I=>yh.added (w1:=w1) (w2:=w2) (A':=A') (cap':=I) r v Z ag hm hf
 have V:=zz q;have R:v.cells=[.int .i8 v.k,.int .i64 v.n,.string v.s]:=rfl;rw[R]at V;obtain⟨i0,hi,am,av,ap⟩:=info_parts Tryz.zg0;clear U hk Y ag hl hm R q;generalize v.lit=kl at X V;generalize q:vs++[v]=az at V ⊢;clear q Z;obtain⟨vk,vn,s⟩:=v;simp only[z6.agg]at Hc Hl X ⊢;have Ht:=zz r;clear r;go_enter func160,ntmps160
 go_wp2_with (go_at_call 128;refine(Ho.o _).mono ?_;rintro e w'⟨rfl,rfl⟩)
 refine(Hc.o _).mono ?_;rintro e W1⟨rfl,R⟩;obtain⟨q,r,Y⟩:=T0 Ht.o _ _ _ R;have x0:W1.cell? ⟨w.heap.size,0,none⟩=some (.int .i8 vk):=r.cell 0;have x1:W1.cell? ⟨w.heap.size,1,none⟩=some (.int .i64 vn):=r.cell 1;have x2:W1.cell? ⟨w.heap.size,2,none⟩=some (.string s):=r.cell 2;have c0:W1.cell? ⟨L,0,none⟩=some (.int .i64 zR):=q.zG.cell 0;have c1:W1.cell? ⟨L,1,none⟩=some (.map (some O)):=q.zG.cell 1;have c2:W1.cell? ⟨L,2,none⟩=some (.slice A vs.length N):=q.zG.cell 2;have U:=Hl.o W1 q;have HT:=zz q;have HX:=zz r;clear q r R;generalize q:vs.length=n at *;have Hn:=zz q;clear q;go_wp2
 go_quiet (fail)
 revert nq
 intro n1;go_wp2
 go_quiet (fail)
 go_upto_region 12 with fail
 refine DY 6 zo (zo) ?_;simp only[List.take_succ_cons,zpr,List.drop_succ_cons,zqP]
 repeat still_step
 refine wpStill_nil ?_;have r:yh (W1.drewN (n1+nq)).drew L zR vs O A N D:=HT.o.same fun k _=>rfl
 have ab:zD (W1.drewN (n1+nq)).drew w.heap.size 43 #[.int .i8 vk,.int .i64 vn,.string s]:=HX.o;have ai:Bl w (W1.drewN (n1+nq)).drew:=Y.trans ⟨rfl,rfl,rfl,zoZ _,fun _ _=>rfl⟩;clear x0 x1 x2 c0 c1 c2 U HT HX Y;generalize(W1.drewN (n1+nq)).drew=W2 at r ab ai ⊢;have xT:=r.own;rw[Hn.o]at xT
 go_wp2_with (at_mapUpdate;refine wpList_mapUpdate_own _ rfl _ _ _ 182 rfl 43 153 law underlying182 _ O n _ rfl xT (by unfold maxLen;omega) _ _ _ rfl rfl X _ [] (plainElem_int underlying153 (WalkArith.wf_i32 zd)) ?_;intro Y U q)
 have ad:O≠L:=by
  rintro rfl;have h1:=r.zG;obtain⟨es,cl,R,_⟩:=r.own;unfold zD at h1;rw[h1]at R;cases R
 have aj:O≠w.heap.size:=by
  rintro e;have h1:=ab;obtain⟨es,cl,R,_⟩:=r.own;rw[e]at R;unfold zD at h1;rw[h1]at R;cases R
 have ae:some O≠(Value.slice A n N).ownBlock:=by
  intro e
  rcases r.row.2 with⟨Z,_⟩ |⟨g0,c0,aa,Z,_,hh,_⟩
  ·injection Z with hA;subst hA;cases e
  ·injection Z with hA;subst hA
   obtain⟨es,cl,R,_⟩:=r.own;have e2:O=g0:=by simpa[Value.ownBlock]using e
   subst e2;rw[hh]at R;cases R
 have ax:some L≠(Value.slice A n N).ownBlock:=by
  intro e
  rcases r.row.2 with⟨Z,_⟩ |⟨g0,c0,aa,Z,_,hh,_⟩
  ·injection Z with hA;subst hA;cases e
  ·injection Z with hA;subst hA
   have R:=r.zG;have e2:L=g0:=by simpa[Value.ownBlock]using e
   subst e2;unfold zD at R;rw[hh]at R;injection R with R
   injection R with _ h3
   cases h3
 have af:zD Y L 184 #[.int .i64 zR,.map (some O),.slice A n N]:=by
  have:=r.zG.same (q.block L r.zG.lt (by simpa using fun e=>ad e.symm));rw[Hn.o]at this;exact this
 have ac:zD Y w.heap.size 43 #[.int .i8 vk,.int .i64 vn,.string s]:=ab.same (q.block _ ab.lt (by simpa using fun e=>aj e.symm));have aa:Y.ownsRow 0 43 3 (.slice A n N) n (Xx vs):=by
  have h0:=r.row;unfold yy at h0;rw[Hn.o]at h0;exact h0.kept q (.inr ae.symm)
 have au:xD (Xa L O A) w Y:=(xD.xi _ ai).grown q (fun k hk=>by cases hk;left;simp[Xa]);have x0:Y.cell? ⟨w.heap.size,0,none⟩=some (.int .i8 vk):=ac.cell 0;have x1:Y.cell? ⟨w.heap.size,1,none⟩=some (.int .i64 vn):=ac.cell 1;have x2:Y.cell? ⟨w.heap.size,2,none⟩=some (.string s):=ac.cell 2;have c2:Y.cell? ⟨L,2,none⟩=some (.slice A n N):=af.cell 2;have ak:=zz af;have ah:=zz U;have ay:O<Y.heap.size:=U.lt;clear r ab ai xT q af ac U Hl X;have aA:L<Y.heap.size:=ak.o.lt;have U:=zh1 Y (.int .i8 vk) (.int .i64 vn) (.string s) 43;have r:∀u∈[Value.int .i8 vk,.int .i64 vn,.string s],u.oneCell'=true:=by intro u hu;simp at hu;rcases hu with rfl|rfl|rfl<;>rfl
 have q:=fun o=>(ak.o.drew.alloc o)
 have aw:=zz U;have al:=zz r;have aq:=zz q;have ai:=zz aa;have ao:n+1<=maxLen:=by unfold maxLen;omega
 have an:(n+1)*32<=140737488355328:=zd;clear U r q aa
 go_region_law (refine zjt rfl _ _ 69 rfl 43 i0 _ 3 32 underlying69 hi am av ap rfl zr A n N _ rfl (ai.o.drew.alloc _) ⟨Y.heap.size,0,none⟩ 1 1 [.int .i8 vk,.int .i64 vn,.string s] rfl rfl aw.o al.o ao an (Nat.succ_pos _) L 184 _ (aq.o _) zr ?_;intro g I W4 X r U q;have d2:=q.cell 2;have f2:=q.frozen 2;have ab:=zz X;have aa:=zz r;have af:=zz U;have ac:=zz q;clear X r U q)
 all_goals
  obtain⟨S',h1,R,h3⟩:=ziw V.o ah.o ad ae au ab.o aa.o af.o ac.o;have H1:=zz h1;have H2:=zz R;have H3:=zz h3;clear h1 R h3;go_wp2
  go_ret2
  exact⟨S',zit (by rw[Hn.o]),H1.o,H2.o,H3.o⟩
theorem zly{wr:World}{l:Nat}{vs:List z6}(r:yh w L zR vs I A cap D)(X:n<=vs.length)(O:zD wr L 184 #[.int .i64 zR,.map (some I),.slice A l cap])(N:yy wr A cap vs)(xT:wr.ownsMap prog 43 (plainElem prog 153) I l ((vs.drop n).foldl (fun D v=>D.del v.lit) D))(U:xD [I] w wr):
 yh (wr.setCell ⟨L,2,none⟩ (.slice A n cap)) L zR (vs.take n) I A cap ((vs.drop n).foldl (fun D v=>D.del v.lit) D)/\xD (Xa L I A) w (wr.setCell ⟨L,2,none⟩ (.slice A n cap)):=by
 have W:(vs.take n).length=n:=by rw[zpv];omega
 have h:vs.take n++vs.drop n=vs:=zpL n vs;have q:Yg ((vs.drop n).foldl (fun D v=>D.del v.lit) D) (vs.take n):=Yg.cut (us:=vs.drop n) (by rw[h];exact r.nums) (by rw[h];exact r.wf) (by rw[h];exact r.nodup);refine⟨⟨?_,?_,q,?_,fun v R=>r.wf v (zqr R),fun v R=>r.ok v (zqr R),r.nodup.sublist (List.take_sublist _ _),by have:=r.le;omega,r.zR⟩,?_⟩
 ·rw[W];exact O.qE 2 _
 ·exact zj6 (G0 xT (Below.heap_setCell _ _ _ _ r.zai)) (zqC q.size)
 ·exact(N.take n X).same (fun g V=>Below.heap_setCell _ _ _ _ (r.Dy g V))
 ·exact(U.mono (by simp[Xa])).setCell (.inl (by simp[Xa])) _
theorem znt{vs:List z6}(h:qu w N zR vs S)(n:Nat)(hn:n<=vs.length):
 Calls prog 158 #[.pointer (some ⟨N,0,none⟩),.int .i64 (n:Int)] w fun e q=>e=.returned (.int .i64 0)/\qu q N zR (vs.take n) S/\xD S w q:=by
 obtain⟨V,A,q,D,I,rfl⟩:=h;have af:=zz (ZX N _ V _ w I.zG);have hd:decide ((n:Int)<0)=false:=zp;have ag:vs.length<=2147483647:=zpd I.le I.zR;have c2:w.cell? ⟨N,2,none⟩=some (.slice A vs.length q):=I.zG.cell 2;have r:=zz I;have L:=I.row.form;clear I;obtain⟨l,hl⟩:∃l,vs.length=l:=⟨_,rfl⟩;rw[hl]at c2 hn ag
 by_cases an:n=l
 ·
  subst an;have I:n<=q/\q<=9223372036854775807:=by
   rcases L with⟨_,rfl,U⟩ |⟨g,_,_,R,O⟩
   ·rw[U]at hl;simp at hl;omega
   ·unfold maxLen at O;omega
  obtain⟨aw,ar⟩:=I;have ae:=r.o.zG.lt;have f2:w.frozen? ⟨N,2,none⟩=false:=r.o.zG.frozen 2;have O:yh (w.setCell ⟨N,2,none⟩ (.slice A n q)) N zR (vs.take n) V A q D:=by
   rw[zpm zd];have I:V≠N:=r.o.zai;have hg:∀g∈zw A,g≠N:=r.o.Dy;refine⟨?_,G0 r.o.own (Below.heap_setCell _ _ _ _ I),r.o.nums,r.o.row.same (fun g R=>Below.heap_setCell _ _ _ _ (hg g R)),r.o.wf,r.o.ok,r.o.nodup,r.o.le,r.o.zR⟩;have:=r.o.zG.qE 2 (.slice A n q);rw[hl]at this ⊢;exact this
  have R:=zz O;clear O L hl
  by_cases ac:q=n
  ·subst ac;go_enter func158,ntmps158
   go_wp2_with (go_at_call 128;refine af.o.mono ?_;rintro e w1⟨rfl,Z⟩;obtain rfl:w=w1:=Z.symm)
   refine wp_loop_rounds 1 ?_;rw[rounds_succ];go_wp2
   go_ret
   exact⟨rfl,⟨V,A,q,D,R.o,rfl⟩,(xD.refl _ _).setCell (.inl (by simp[Xa])) _⟩
  ·have I:¬q=n:=ac;go_enter func158,ntmps158
   go_wp2_with (go_at_call 128;refine af.o.mono ?_;rintro e w1⟨rfl,Z⟩;obtain rfl:w=w1:=Z.symm)
   refine wp_loop_rounds 1 ?_;rw[rounds_succ];go_wp2
   go_ret
   exact⟨rfl,⟨V,A,q,D,R.o,rfl⟩,(xD.refl _ _).setCell (.inl (by simp[Xa])) _⟩
 ·obtain⟨g,rfl,hg,al,am⟩:∃g,A=some ⟨g,0,none⟩/\g<w.heap.size/\vs.length<=q/\q<=maxLen:=by
   rcases L with⟨_,rfl,U⟩|U
   ·rw[U]at hl;simp at hl;omega
   ·exact U
  clear L;rw[hl]at al;have Hl:=zz hl;clear hl;have ap:q<=9223372036854775807:=by unfold maxLen at am;omega
  have ac:¬q=n:=zd;have ab:V≠N:=r.o.zai;have av:g≠N:=r.o.Dy g (by simp[zw]);have ai:g≠V:=r.o.zja g (by simp[zw]);have ae:=r.o.zG.lt;have au:decide (l<n)=false:=zb;go_enter func158,ntmps158
  go_wp2_with (go_at_call 128;refine af.o.mono ?_;rintro e w1⟨rfl,Z⟩;obtain rfl:w=w1:=Z.symm)
  go_loopg[28] (l-n) (fun gk i I=>∃j:Nat,j<=l-n/\gk=l-n-j/\i=.int .i64 j/\I.ownsMap prog 43 (plainElem prog 153) V l (((vs.drop n).take j).foldl (fun D v=>D.del v.lit) D)/\xD [V] w I)
  case atStart=>
   refine⟨0,zo5 _,rfl,rfl,?_,xD.refl _ _⟩;have:=r.o.own;rw[Hl.o]at this;exact this
  case round=>
   obtain⟨j,hj,rfl,rfl,xT,hC⟩:=hrel
   by_cases aq:j<l-n
   ·have X:yy wr (some ⟨g,0,none⟩) q vs:=r.o.row.same (fun k hk=>by simp[zw]at hk;subst hk;exact hC.block _ hg (by simp[ai]));have I:zD wr N 184 #[.int .i64 zR,.map (some V),.slice (some ⟨g,0,none⟩) l q]:=by
     have:=r.o.zG.same (hC.block N ae (by simpa using ab.symm));rw[Hl.o]at this;exact this
    obtain⟨d0,d1,d2⟩:=X.three (n+j) (by rw[Hl.o];omega);have U:=r.o.wf (vs[n+j]'(by rw[Hl.o];omega)) zp;have W:=Gi _ U;have hD:Kz (((vs.drop n).take (j+1)).foldl (fun D v=>D.del v.lit) D=(((vs.drop n).take j).foldl (fun D v=>D.del v.lit) D).del (vs[n+j]'(by rw[Hl.o];omega)).lit):=zz (by
     rw[zo4 (by rw[zp7,Hl.o];omega),zqi];simp)
    generalize(vs[n+j]'(by rw[Hl.o];omega)).lit=kl at W hD;generalize(vs[n+j]'(by rw[Hl.o];omega))=v at d0 d1 d2 W U;generalize(((vs.drop n).take j).foldl (fun D v=>D.del v.lit) D)=Dj at xT hD;obtain⟨vk,vn,s⟩:=v;simp only[z6.agg]at W d0 d1 d2;clear U;have c1:wr.cell? ⟨N,1,none⟩=some (.map (some V)):=I.cell 1;have ao:=I.lt;rw[show(n+j)*3=n*3+j*3 from zd]at d0 d1 d2;go_wp2;have hX:=zD.new wr 43 #[.int .i8 vk,.int .i64 vn,.string s];have aa:=(xT.alloc (.cells #[.int .i8 vk,.int .i64 vn,.string s] 43)).drew;have ah:=(hC.alloc (.cells #[.int .i8 vk,.int .i64 vn,.string s] 43)).drew;refine DY 5 zo (zo) ?_;simp only[List.take_succ_cons,zpr,List.drop_succ_cons,zqP]
    repeat still_step
    refine wpStill_nil ?_
    go_wp2_with (at_delete;refine wpList_delete_own _ rfl _ _ 182 43 rfl 153 law underlying182 _ V l _ rfl aa _ _ rfl W ?_;intro W3 U Y)
    have aj:=ah.grown Y.grown (fun k hk=>by cases hk;left;simp);rw[<-hD.o]at U;have ad:=zz U;have ak:=zz aj;clear U aj Y aa ah xT hC hD;go_wp2
    go_roundg (l-n-(j+1))
    case measure=>omega
    case rel=>exact⟨j+1,zd,rfl,ze,ad.o,ak.o⟩
   ·obtain rfl:j=l-n:=zd;have I:zD wr N 184 #[.int .i64 zR,.map (some V),.slice (some ⟨g,0,none⟩) l q]:=by
     have:=r.o.zG.same (hC.block N ae (by simpa using ab.symm));rw[Hl.o]at this;exact this
    have X:yy wr (some ⟨g,0,none⟩) q vs:=r.o.row.same (fun k hk=>by simp[zw]at hk;subst hk;exact hC.block _ hg (by simp[ai]));have c2:wr.cell? ⟨N,2,none⟩=some (.slice (some ⟨g,0,none⟩) l q):=I.cell 2;have f2:wr.frozen? ⟨N,2,none⟩=false:=I.frozen 2;have O:=zly r.o (by rw[Hl.o];exact hn) I X (by rw[zpm (by rw[zp7,Hl.o];omega)]at xT;exact xT) hC;have R:=zz O;clear O I X xT hC;go_wp2
    go_ret
    exact⟨rfl,⟨V,_,q,_,R.o.1,rfl⟩,R.o.2⟩
def YU(w:World)(A:Option Addr)(vs:List z6):Prop:=vs≠[]->∃b q,A=some ⟨b,q,none⟩/\b<w.heap.size/\
 ∀i (h:i<vs.length),w.cell? ⟨b,q+i*3,none⟩=some (.int .i8 (vs[i]).k)/\w.cell? ⟨b,q+i*3+1,none⟩=some (.int .i64 (vs[i]).n)/\w.cell? ⟨b,q+i*3+2,none⟩=some (.string (vs[i]).s)
theorem YU.qj{vs:List z6}(h:YU w A vs)(R:w.heap.size<=w'.heap.size)(L:∀a,A=some a->w'.heap[a.block]? = w.heap[a.block]?):YU w' A vs:=by
 intro V;obtain⟨b,q,rfl,r,W⟩:=h V;have e:=L _ rfl;refine⟨b,q,rfl,zo0 r R,fun i U=>?_⟩;obtain⟨N,I,O⟩:=W i U;exact⟨(World.cell?_of_block (a:=⟨b,q+i*3,none⟩) e).trans N,(World.cell?_of_block (a:=⟨b,q+i*3+1,none⟩) e).trans I,(World.cell?_of_block (a:=⟨b,q+i*3+2,none⟩) e).trans O⟩
theorem YU.below{vs:List z6}(h:YU w A vs)(I:Bl w w'):YU w' A vs:=by
 intro L;obtain⟨b,r,rfl,q,O⟩:=h L;have:=YU.qj (A:=some ⟨b,r,none⟩) (vs:=vs) (fun _=>⟨b,r,rfl,q,O⟩) I.size (fun a N=>by cases N;exact I.block _ q);exact this L
def Xy(zR:Nat)(vs:List z6)(u:z6):List z6×Nat×Int:=
 if u.ok=false then(vs,0,10)else if u∈vs then(vs,vs.idxOf u,0)else if vs.length<zR then(vs++[u],vs.length,0)else(vs,0,20)
theorem TK{vs:List z6}(h:qu w R zR vs S)(u:z6)(U:u.wf):
 Calls prog 160 #[.pointer (some ⟨R,0,none⟩),u.agg] w fun e I=>∃q,e=.returned (.tuple #[.int .i32 ((Xy zR vs u).2.1:Int),.int .i64 (Xy zR vs u).2.2])/\qu I R zR (Xy zR vs u).1 q/\xD S w I/\Yx w.heap.size S q:=by
 unfold Xy
 by_cases O:u.ok=false
 ·simp only[if_pos O];exact(zgg h u O).mono fun e I ⟨L,q⟩=>⟨S,L,h.below q,xD.xi _ q,Yx.refl _ _⟩
 ·have r:u.ok=true:=by cases hh:u.ok;exact absurd hh O;rfl
  simp only[if_neg O]
  by_cases N:u∈vs
  ·simp only[if_pos N];exact(zgO h u U r N).mono fun e I ⟨L,q⟩=>⟨S,L,h.below q,xD.xi _ q,Yx.refl _ _⟩
  ·simp only[if_neg N]
   by_cases V:vs.length<zR
   ·simp only[if_pos V];exact zgD h u U r N V
   ·simp only[if_neg V];exact(zlT h u U r N zd).mono fun e I ⟨L,q⟩=>⟨S,L,h.below q,xD.xi _ q,Yx.refl _ _⟩
theorem zno{vs:List z6}{u:z6}(q:vs.length<=zR):(Xy zR vs u).2.1<=zR:=by
 unfold Xy;split
 ·exact zo5 _
 ·split
  ·rename_i _ h;exact zpd (zqB (UF h)) q
  ·split
   ·exact q
   ·exact zo5 _
def XF(zR:Nat):List z6->List z6->List Nat->List z6×List Nat×Int
 |[],h,q=>(h,q,0)
 |u::r,h,q=>if(Xy zR h u).2.2=0 then XF zR r (Xy zR h u).1 (q++[(Xy zR h u).2.1])else((Xy zR h u).1,q,(Xy zR h u).2.2)
theorem G8(zR:Nat)(u:z6)(us vs:List z6)(ns:List Nat):XF zR (u::us) vs ns=if(Xy zR vs u).2.2=0 then XF zR us (Xy zR vs u).1 (ns++[(Xy zR vs u).2.1])else((Xy zR vs u).1,ns,(Xy zR vs u).2.2):=rfl
def rowOf(ns:List Nat):Array Value:=((ns.map fun n:Nat=>Value.int .i32 (n:Int))++List.replicate (24-ns.length) (Value.int .i32 0)).toArray
theorem zaT(ns:List Nat)(h:ns.length<=24):(rowOf ns).size=24:=by
 unfold rowOf;simp;omega
theorem zjV(ns:List Nat)(h:ns.length<24):(rowOf ns)[ns.length]? = some (.int .i32 0):=by
 unfold rowOf;have q:(ns.map fun n:Nat=>Value.int .i32 (n:Int)).length=ns.length:=zp;rw[zpe,zpS zd,q,zqw,List.getElem?_replicate,if_pos zd]
theorem ziO(ns:List Nat)(n:Nat)(h:ns.length<24):(rowOf ns).setIfInBounds ns.length (.int .i32 (n:Int))=rowOf (ns++[n]):=by
 unfold rowOf;have q:(ns.map fun n:Nat=>Value.int .i32 (n:Int)).length=ns.length:=zp;have e:24-ns.length=24-(ns++[n]).length+1:=by rw[zo1,zpD];omega
 rw[zpy,List.set_append_right _ _ zd,q,zqw,e,List.replicate_succ,zpQ,zpt];simp
theorem ziY(L tb zR:Nat)(vs us:List z6)(A:Option Addr)(cap:Nat)(S:List Nat)(w:World)(hT:qu w tb zR vs S)(aC:YU w A us)(aq:us≠[]->∀a,A=some a->a.block∉L::S)(az:∀u∈us,u.wf)(av:us.length<=24)(I:zD w L 155 (rowOf []))(aJ:L∉S):
 Calls prog 159 #[.slice (some ⟨L,0,none⟩) 24 24,.slice A us.length cap,.func (.func 160) #[.pointer (some ⟨tb,0,none⟩)] #[]] w fun e r=>
  ∃S',e=.returned (.int .i64 (XF zR us vs []).2.2)/\qu r tb zR (XF zR us vs []).1 S'/\zD r L 155 (rowOf (XF zR us vs []).2.1)/\xD (L::S) w r/\Yx w.heap.size S S'/\L∉S':=by
 obtain⟨n,r⟩:∃n,us.length=n:=⟨_,rfl⟩;rw[r]at av ⊢;have Hn:=zz r;clear r;have aE:=zz aC;have aA:=zz aq;have HT:=zz hT;have aw:=zz I;have aG:=zz az;have aL:zR<=2147483647:=by obtain⟨_,_,_,_,ht,_⟩:=hT;exact ht.zR
 clear aC aq hT I az;go_enter func159,ntmps159;go_wp2
 go_loopg[13] n (fun gk i r=>∃(j:Nat) (V:List z6) (ns:List Nat) (S':List Nat),j<=n/\gk=n-j/\i=.int .i64 j/\ns.length=j/\XF zR us vs []=XF zR (us.drop j) V ns/\qu r tb zR V S'/\zD r L 155 (rowOf ns)/\xD (L::S) w r/\Yx w.heap.size S S'/\L∉S')
 case atStart=>exact⟨0,vs,[],S,zo5 _,rfl,rfl,rfl,rfl,HT.o,aw.o,xD.refl _ _,Yx.refl _ _,aJ⟩
 case round=>
  obtain⟨j,V,ns,S',hj,rfl,rfl,an,ab,hT,I,hC,ao,X⟩:=hrel
  by_cases aF:j<n
  ·have ah:j<us.length:=by rw[Hn.o];exact aF
   have N:YU wr A us:=by
    intro ai;obtain⟨b,ay,rfl,hb,R⟩:=aE.o ai;have e:=hC.block b hb (aA.o ai _ rfl);exact YU.qj (w:=w) (fun _=>⟨b,ay,rfl,hb,R⟩) hC.size (fun a r=>by cases r;exact e) ai
   obtain⟨b,ay,rfl,hb,R⟩:=N (by intro h;rw[h]at ah;simp at ah);obtain⟨d0,d1,d2⟩:=R j ah;have r:∀o,qu (wr.alloc o) tb zR V S':=fun o=>hT.same fun k hk=>Below.heap_alloc _ _ k (hT.lt k hk)
   have U:=fun o=>TK (r o) (us[j]) (aG.o _ (zo3 ah))
   have O:=zno (u:=us[j]) (show V.length<=zR by obtain⟨_,_,_,_,ht,_⟩:=hT;exact ht.le);rw[zpC ah]at ab;clear R N r;have R:=zz U;have aB:=zz hT;have ae:=zz ao;have W:=zz I;have HC:=zz hC;have Z:=zz ab;have Y:=zz X;have aM:=I.lt;clear U hT ao I hC ab X;generalize us[j]=v at R d0 d1 d2 Z O;obtain⟨vk,vn,s⟩:=v;simp only[z6.agg]at R d0 d1 d2;have Hx:Kz (∀o,(wr.alloc o).heap.size=wr.heap.size+1):=zz (fun o=>zp);obtain⟨q,r⟩:∃q,Xy zR V ⟨vk,vn,s⟩=q:=⟨_,rfl⟩;rw[r]at O;rw[G8]at Z;rw[r]at R Z;clear r;obtain⟨ar,aa,af⟩:=q;simp only at R Z O
   go_wp2_with fail
   refine(R.o _).mono ?_;rintro e W2⟨S2,rfl,aj,ak,ag⟩;have U:L∉S2:=fun h=>by
    rcases ag L h with h|h
    ·exact Y.o h
    ·rw[Hx.o]at h;omega
   have r:zD W2 L 155 (rowOf ns):=(W.o.alloc _).same (ak.block L (by rw[Hx.o];omega) Y.o);have al:xD (L::S) w W2:=(HC.o.alloc _).trans ak (fun x N=>by
    rcases ae.o x N with h|h
    ·left;exact zpj _ h
    ·right;exact h)
   have am:Yx w.heap.size S S2:=⟨fun k hk=>by
    rcases ag k hk with h|h
    ·exact ae.o k h
    ·right;have:=HC.o.size;rw[Hx.o]at h;omega,ag.map.trans ae.o.map⟩
   by_cases N:af=0
   ·subst N;have z0:W2.cell? ⟨L,j,none⟩=some (.int .i32 0):=by rw[r.cell,<-an];exact zjV ns zd
    have z1:W2.frozen? ⟨L,j,none⟩=false:=r.frozen j;have ad:zD (W2.setCell ⟨L,j,none⟩ (.int .i32 (aa:Int))) L 155 (rowOf (ns++[aa])):=by
     rw[<-ziO ns aa zd,an];exact r.qE j _
    have ax:qu (W2.setCell ⟨L,j,none⟩ (.int .i32 (aa:Int))) tb zR ar S2:=aj.same fun k hk=>Below.heap_setCell _ _ _ _ (fun e=>U (by have e':k=L:=e;rw[<-e'];exact hk))
    have aD:xD (L::S) w (W2.setCell ⟨L,j,none⟩ (.int .i32 (aa:Int))):=al.setCell (.inl zp) _;have ap:=zz ad;have aK:=zz ax;have aH:=zz aD;have au:=zz am;have ac:=zz U;have aI:=zz an;clear ad ax aD am U aj ak ag r al an;go_wp2
    go_roundg (n-(j+1))
    case measure=>omega
    case rel=>
     refine⟨j+1,ar,ns++[aa],S2,zd,rfl,ze,by rw[zo1,aI.o];rfl,?_,aK.o,ap.o,aH.o,au.o,ac.o⟩;rw[Z.o];simp
   ·have ai:(af != 0)=true:=by simpa using N
    have ap:XF zR us vs []=(ar,ns,af):=by rw[Z.o];simp[N]
    have ad:=zz ap;have au:=zz am;have ac:=zz U;have ax:=zz aj;have aD:=zz r;have aH:=zz al;clear ap am U aj ak ag r al N;go_wp2
    go_ret
    rw[ad.o];exact⟨S2,rfl,ax.o,aD.o,aH.o,au.o,ac.o⟩
  ·obtain rfl:j=n:=zd;rw[zpE (by rw[Hn.o];omega)]at ab;have ad:=zz (show XF zR us vs []=(V,ns,0) by rw[ab];rfl);have aB:=zz hT;have W:=zz I;have HC:=zz hC;have ae:=zz ao;have Y:=zz X;clear hT I hC ao X ab;go_wp2
   go_ret
   rw[ad.o];exact⟨S',rfl,aB.o,W.o,HC.o,ae.o,Y.o⟩
theorem zms(h I r L:Nat)(w:World)(O:w.cell? ⟨h,0,none⟩=some (.int .i64 0)):
 CallsD prog 157 #[.pointer (some ⟨h,0,none⟩),.pointer (some ⟨I,0,none⟩),.pointer (some ⟨r,0,none⟩),.pointer (some ⟨L,0,none⟩)] .returning w fun e N q=>N=.returning/\(e=.returned (.tuple #[])/\q=w):=by
 go_enter_d func157,ntmps157
 go_wp2;go_end0;exact⟨rfl,rfl⟩
theorem VY(ns:List Nat)(h:ns.length<=24):(prog.info? 155).map (·.size)=some (rowOf ns).size:=by
 rw[zaT ns h];kernel_rfl
theorem zaL(ns:List Nat):(rowOf ns).all (·.oneCell')=true:=by
 rw[Array.all_eq_true_iff_forall_mem];intro v h;simp only[rowOf,List.mem_toArray,zo7,zpA,List.mem_replicate]at h
 rcases h with⟨n,_,rfl⟩ |⟨_,rfl⟩<;>rfl
theorem zjL{r q:Array Value}(h:zD w g t r):zD (w.setRow g q) g t q:=
 setRow_heap w g r q t (0,0) h
theorem xD.setRow{a:World}(h:xD S a w)(q:g∈S\/a.heap.size<=g)(r:Array Value):xD S a (w.setRow g r):=
 ⟨h.os,h.tape,h.output,by rw[setRow_size];exact h.size,fun k L I=>by
  rw[setRow_other w g k r (by rintro rfl;rcases q with q|q;exact I q;omega)];exact h.block k L I⟩
theorem zlR(b5 b2 b6 r X zR q:Nat)(vs:List z6)(S:List Nat)(W:Array Value)(h:Int)(w:World)(hc:h≠0)(h5:w.cell? ⟨b5,0,none⟩=some (.int .i64 h))(h2:w.cell? ⟨b2,0,none⟩=some (.pointer (some ⟨X,0,none⟩)))(h6:w.cell? ⟨b6,0,none⟩=some (.int .i64 (q:Int)))(V:zD w r 155 W)(Y:W.size=24)(hT:qu w X zR vs S)(hw:q<=vs.length)(L:r∉S):
 CallsD prog 157 #[.pointer (some ⟨b5,0,none⟩),.pointer (some ⟨b2,0,none⟩),.pointer (some ⟨b6,0,none⟩),.pointer (some ⟨r,0,none⟩)] .returning w fun e N I=>N=.returning/\(e=.returned (.tuple #[])/\qu I X zR (vs.take q) S/\zD I r 155 (rowOf [])/\xD (r::S) w I):=by
 have aa:(h != 0)=true:=by simpa using hc
 have hcut:=zz (znt hT q hw);have H4:=zz V;have U:=V.lt;clear hT V
 go_enter_d func157,ntmps157
 go_wp2_with (first
  |(go_at_call 158;refine hcut.o.mono ?_;rintro e w1⟨rfl,N,I⟩;have Z:=zz N;have R:=zz I;have O:=H4.o.same (I.block r U L);clear N I)
  |refine wpList_store_row rfl 155 _ _ rfl r (rowOf []) rfl rfl 155 W O (VY [] zp) (by rw[Y,zaT [] zp]) (zaL []) ?_)
 go_end0;refine⟨rfl,Z.o.same fun k hk=>setRow_other _ _ _ _ (by rintro rfl;exact L hk),zjL O,(R.o.mono fun x hx=>.tail _ hx).setRow (.inl (.head _)) _⟩
theorem zht{I:World}(r:TypeId)(x:Operand)(U:o.op=.load r x)(g:Nat)(W:a.eval x=.pointer (some ⟨g,0,none⟩))(t:TypeId)(q:Array Value)(N:Nat×Nat)(d:TypeDesc)(R:I.heap[g]? = some (.cells q t N))(V:P.underlying r=some d)(O:(match d with|.struct _|.array _ _=>true|_=>false)=true)(hi:(P.info? r).map (·.size)=some q.size)(h:K (a.put o.dst (.agg q))):o.quiet P a (fun L=>∃n,L=I.drewN n) K:=by
 refine⟨_,?_,h⟩;rintro L⟨n,rfl⟩;unfold Oper.quietAt execOp;simp only[U,W,Instr.loadAt,Instr.sureAddr,Sem.run_bind,Sem.run_pure,Result.andThen_ok,run_loadVar_row (I.drewN n) g t r q N d R V O hi];exact⟨rfl,rfl⟩
theorem zjk{r:World}(I:TypeId)(x y:Operand)(R:o.op=.store I x y)(g:Nat)(q:Array Value)(V:a.eval x=.pointer (some ⟨g,0,none⟩))(hy:a.eval y=.agg q)(t:TypeId)(N:r.heap[g]? = some (.cells q t (0,0)))(hi:(P.info? I).map (·.size)=some q.size)(O:q.all (·.oneCell')=true)(h:K (a.put o.dst undef)):o.quiet P a (fun L=>∃n,L=r.drewN n) K:=by
 refine⟨_,?_,h⟩;rintro L⟨n,rfl⟩;have U:(r.drewN n).setRow g q=r.drewN n:=setRow_self (r.drewN n) g q t (0,0) N;unfold Oper.quietAt execOp;simp only[R,V,hy,Instr.storeAt,Instr.sureAddr,Sem.run_bind,Sem.run_pure,Result.andThen_ok,run_storeVar_row (r.drewN n) g t I q q N hi rfl O,U];exact⟨rfl,rfl⟩
theorem zlY(h:zD w g t #[v]):w.setCell ⟨g,0,none⟩ v=w:=by
 have:=setCell_eq_setRow w g 0 #[v] t (0,0) v h;rw[this];exact setRow_self w g _ t (0,0) h
theorem zbS(zR:Nat)(vs:List z6)(u:z6):vs <+:(Xy zR vs u).1:=by
 unfold Xy;split
 ·exact zqZ _
 ·split
  ·exact zqZ _
  ·split
   ·exact List.prefix_append _ _
   ·exact zqZ _
theorem zbV(zR:Nat):∀(q h:List z6)(r:List Nat),h <+:(XF zR q h r).1
 |[],h,r=>zqZ _
 |u::q,h,r=>by
  rw[G8];split
  ·exact(zbS zR h u).trans (zbV zR q _ _)
  ·exact zbS zR h u
theorem zeX(zR:Nat):∀(r h:List z6)(q:List Nat),(XF zR r h q).2.1.length<=q.length+r.length
 |[],h,q=>by simp[XF]
 |u::r,h,q=>by
  rw[G8];split
  ·have:=zeX zR r (Xy zR h u).1 (q++[(Xy zR h u).2.1]);simp at this ⊢;omega
  ·simp
def Vz(zR:Nat)(us vs:List z6):List z6×List Nat×Int:=
 if 24<us.length then(vs,[],1)else if(XF zR us vs []).2.2=0 then XF zR us vs []else(vs,[],(XF zR us vs []).2.2)
theorem zdB{vs:List z6}(h:qu w q zR vs S):
 Calls prog 128 #[.pointer (some ⟨q,0,none⟩)] w fun e r=>e=.returned (.bool true)/\r=w:=by
 obtain⟨r,A,I,D,L,rfl⟩:=h;exact ZX q _ r _ w L.zG
theorem G9(w:World)(r h q:TypeId)(c1 c2 c3:Array Value):Bl w (((w.alloc (.cells c1 r)).alloc (.cells c2 h)).alloc (.cells c3 q))/\zD (((w.alloc (.cells c1 r)).alloc (.cells c2 h)).alloc (.cells c3 q)) w.heap.size r c1/\
 zD (((w.alloc (.cells c1 r)).alloc (.cells c2 h)).alloc (.cells c3 q)) (w.heap.size+1) h c2/\zD (((w.alloc (.cells c1 r)).alloc (.cells c2 h)).alloc (.cells c3 q)) (w.heap.size+2) q c3/\(((w.alloc (.cells c1 r)).alloc (.cells c2 h)).alloc (.cells c3 q)).heap.size=w.heap.size+3:=by
 refine⟨(((Below.refl _ _).alloc (zoZ _) _).alloc zp _).alloc zb _,((zD.new w _ _).alloc _).alloc _,?_,?_,zp⟩
 ·have:=(zD.new (w.alloc (.cells c1 r)) h c2).alloc (.cells c3 q);simpa using this
 ·have:=zD.new ((w.alloc (.cells c1 r)).alloc (.cells c2 h)) q c3;simpa using this
theorem DW(h:Array Value)(w:World)(r I:Nat)(L:Array Value)(q:Int)(V:h.getD 4 undef=.pointer (some ⟨r,0,none⟩))(W:h.getD 5 undef=.pointer (some ⟨I,0,none⟩))(X:zD w r 155 L)(hi:(prog.info? 155).map (·.size)=some L.size)(R:zD w I 52 #[.int .i64 q]):
 (results Tryz.f92 h).run prog w=.ok (.tuple #[.agg L,.int .i64 q]) w:=by
 have O:h[4]?.getD undef=.pointer (some ⟨r,0,none⟩):=by simpa using V
 have N:h[5]?.getD undef=.pointer (some ⟨I,0,none⟩):=by simpa using W
 have c5:w.cell? ⟨I,0,none⟩=some (.int .i64 q):=R.cell 0;have U:=run_loadVar_row (P:=prog) w r 155 155 L (0,0) _ X underlying155 rfl hi;simp[results,results92,O,N,asAddr,U];simp[go_sem,c5]
theorem zjR{X:Nat}{vs:List z6}(h:qu w X zR vs S)(us:List z6)(A:Option Addr)(cap:Nat)(ax:YU w A us)(af:us≠[]->∀a,A=some a->a.block∉S/\a.block<w.heap.size)(aq:∀u∈us,u.wf):
 Calls prog 92 #[.pointer (some ⟨X,0,none⟩),.slice A us.length cap] w fun e I=>
  ∃q,e=.returned (.tuple #[.agg (rowOf (Vz zR us vs).2.1),.int .i64 (Vz zR us vs).2.2])/\qu I X zR (Vz zR us vs).1 q/\xD S w I/\Yx w.heap.size S q:=by
 have aN:∀(fn:Fn)(first cap:Array Value)(w:World),(Instr.makeFunc fn first cap).run prog w=.ok (.func fn first cap) w:=fun _ _ _ _=>rfl
 have HT:=zz h;have aB:=zz ax;have aw:=zz af;have aD:=zz aq;clear h ax af aq
 by_cases an:24<us.length
 ·have hd:decide ((24:Int)<(us.length:Int))=true:=zb;have q:Vz zR us vs=(vs,[],1):=by unfold Vz;rw[if_pos an]
  rw[q];clear q
  go_enter_defers func92,ntmps92
  go_wp2_with (first
   |(
    go_at_call 128;refine(zdB (HT.o.below (G9 w _ _ _ _ _ _).1)).mono ?_;rintro e I⟨rfl,R⟩
    have h3:Bl w I/\zD I w.heap.size 112 #[.pointer (some ⟨X,0,none⟩)]/\zD I (w.heap.size+1) 155 (rowOf [])/\zD I (w.heap.size+2) 52 #[.int .i64 0]/\I.heap.size=w.heap.size+3:=by
     rw[R];exact G9 w _ _ _ _ _ _
    clear R;obtain⟨Z,b2,V,L,Y⟩:=h3;have N:I.setRow (w.heap.size+1) (rowOf [])=I:=setRow_self _ _ _ _ _ V;have c5:I.cell? ⟨w.heap.size+1+1,0,none⟩=some (.int .i64 0):=L.cell 0;have f5:I.frozen? ⟨w.heap.size+1+1,0,none⟩=false:=L.frozen 0)
   |refine wpList_load_row rfl 155 _ rfl (w.heap.size+1) rfl 155 (rowOf []) (0,0) _ V underlying155 rfl (VY [] zp) ?_
   |(refine wpList_store_row rfl 155 _ _ rfl (w.heap.size+1) (rowOf []) rfl rfl 155 (rowOf []) V (VY [] zp) rfl (zaL []) ?_;rw[N]))
  have L:=L.qE 0 (.int .i64 1);have V:=V.XQ (p:=⟨w.heap.size+2,0,none⟩) zp (.int .i64 1);refine⟨_,DW _ _ _ _ _ 1 rfl rfl V (VY [] zp) L,S,rfl,(HT.o.below Z).same fun k O=>Below.heap_setCell _ ⟨w.heap.size+2,0,none⟩ _ _ (by have:=HT.o.lt k O;simp;omega),(xD.xi _ Z).setCell (.inr zb) _,Yx.refl _ _⟩
 ·have hd:decide ((24:Int)<(us.length:Int))=false:=zb;have U:=zeX zR us vs [];have W:=zbV zR us vs [];have q:Vz zR us vs=if(XF zR us vs []).2.2=0 then XF zR us vs []else(vs,[],(XF zR us vs []).2.2):=by unfold Vz;rw[if_neg an]
  rw[q];clear q;obtain⟨⟨ac,N,q⟩,hg⟩:∃r,XF zR us vs []=r:=⟨_,rfl⟩;rw[hg]at U W ⊢;simp only at U W ⊢;have Hg:=zz hg;have aA:=zz U;have ar:=zz W;clear hg U W
  go_enter_defers func92,ntmps92
  go_wp2_with (
   go_at_call 128;refine(zdB (HT.o.below (G9 w _ _ _ _ _ _).1)).mono ?_;rintro e I⟨rfl,R⟩
   have h3:Bl w I/\zD I w.heap.size 112 #[.pointer (some ⟨X,0,none⟩)]/\zD I (w.heap.size+1) 155 (rowOf [])/\zD I (w.heap.size+2) 52 #[.int .i64 0]/\I.heap.size=w.heap.size+3:=by
    rw[R];exact G9 w _ _ _ _ _ _
   clear R;obtain⟨Z,b2,V,L,Y⟩:=h3;have R:=HT.o.below Z;obtain⟨Av,ae,cv⟩:∃Av ae,I.cell? ⟨X,2,none⟩=some (.slice Av vs.length ae):=by obtain⟨mb,A,cap,D,ht,rfl⟩:=R;exact⟨_,_,ht.zG.cell 2⟩
   have aG:=zz R;have c2:I.cell? ⟨w.heap.size,0,none⟩=some (.pointer (some ⟨X,0,none⟩)):=b2.cell 0;have f2:I.frozen? ⟨w.heap.size,0,none⟩=false:=b2.frozen 0;have c5:I.cell? ⟨w.heap.size+1+1,0,none⟩=some (.int .i64 0):=L.cell 0;have f5:I.frozen? ⟨w.heap.size+1+1,0,none⟩=false:=L.frozen 0;have B2:=zz b2;have B4:=zz V;have B5:=zz L;have aa:=zz Y;clear R b2 V L Y)
  obtain⟨W,U⟩:∃W,W=I.alloc (.cells #[.int .i64 (vs.length:Int)] 3):=⟨_,rfl⟩;rw[<-U];have R:Bl I W:=by rw[U];exact(Below.refl _ _).alloc (zoZ _) _
  have ab:W.heap.size=I.heap.size+1:=by rw[U];simp
  have au:=zz ab;clear ab;have b6:zD W I.heap.size 3 #[.int .i64 (vs.length:Int)]:=by rw[U];exact zD.new _ _ _
  clear U;have aL:W.cell? ⟨w.heap.size,0,none⟩=some (.pointer (some ⟨X,0,none⟩)):=(B2.o.same (R.block _ B2.o.lt)).cell 0;have aM:W.cell? ⟨w.heap.size+1+1,0,none⟩=some (.int .i64 0):=(B5.o.same (R.block _ B5.o.lt)).cell 0;refine DY 4 zo (zo) ?_;simp only[List.take_succ_cons,zpr,List.drop_succ_cons,zqP]
  repeat still_step
  refine wpStill_nil ?_;have ag:qu W.drew X zR vs S:=(aG.o.below R).same fun k O=>rfl
  have ak:w.heap.size+1<I.heap.size:=B4.o.lt;have U:zD W.drew (w.heap.size+1) 155 (rowOf []):=B4.o.same (R.block _ ak);have aI:w.heap.size+1∉S:=fun O=>by have:=HT.o.lt _ O;omega
  have ad:YU W.drew A us:=((aB.o.below Z).below R).qj (zoZ _) (fun a _=>rfl);have ah:=zz (ziY (w.heap.size+1) X zR vs us A cap S W.drew ag ad (fun ai a ha Y=>by
   obtain⟨h1,h2⟩:=aw.o ai a ha
   rcases zpp.1 Y with Y|Y
   ·omega
   ·exact h1 Y) aD.o zd U aI)
  rw[Hg.o]at ah;simp only at ah;clear ag U ad c5 c2
  go_wp2_with (
   go_at_call 159;refine ah.o.mono ?_;rintro e W3⟨S3,rfl,aj,ap,U,ai,al⟩
   have ad:∀k,w.heap.size<=k->k≠w.heap.size+1->k∉(w.heap.size+1)::S:=fun k O hn Y=>by
    rcases zpp.1 Y with Y|Y
    ·exact hn Y
    ·have:=HT.o.lt k Y;omega
   have aC:=aa.o;have ab:=au.o;have L:zD W3 (w.heap.size+1+1) 52 #[.int .i64 0]:=(B5.o.same (R.block _ B5.o.lt)).same (U.block _ (show w.heap.size+1+1<W.heap.size from zd) (ad _ zd (zd)));have b2:zD W3 w.heap.size 112 #[.pointer (some ⟨X,0,none⟩)]:=(B2.o.same (R.block _ B2.o.lt)).same (U.block _ (show w.heap.size<W.heap.size from zd) (ad _ zd (zd)));have b6:zD W3 I.heap.size 3 #[.int .i64 (vs.length:Int)]:=b6.same (U.block _ (show I.heap.size<W.heap.size from zd) (ad _ zd (zd)));have c5:W3.cell? ⟨w.heap.size+1+1,0,none⟩=some (.int .i64 0):=L.cell 0;have f5:W3.frozen? ⟨w.heap.size+1+1,0,none⟩=false:=L.frozen 0;have az:=zz aj;have av:=zz ap;have aF:=zz U;have ag:=zz ai;have ay:=zz L;have ao:=zz b2;have am:=zz b6;clear aj ap U ai L b2 b6 aC ab ad)
  have aC:xD S w W.drew:=(xD.xi _ (Z.trans (R.mono (by have:=aa.o;omega)))).drew;have U:xD S w W3:=aC.trans aF.o (fun x hx=>by
   rcases zpp.1 hx with rfl|hx
   ·right;omega
   ·left;exact hx)
  have aK:xD S w (W3.setCell ⟨w.heap.size+1+1,0,none⟩ (.int .i64 q)):=U.setCell (.inr zb) _;have ab:∀k∈S3,k≠w.heap.size+1+1/\(k∈S\/w.heap.size<=k):=fun k O=>by
   have h1:=aa.o;have h2:=au.o
   rcases ag.o k O with O|O
   ·exact⟨by have:=HT.o.lt k O;omega,.inl O⟩
   ·have O:W.heap.size<=k:=O;exact⟨zd,.inr zd⟩
  have L:=ay.o.qE 0 (.int .i64 q);have V:=av.o.XQ (p:=⟨w.heap.size+1+1,0,none⟩) zp (.int .i64 q);have b2:=ao.o.XQ (p:=⟨w.heap.size+1+1,0,none⟩) zb (.int .i64 q);have b6:=am.o.XQ (p:=⟨w.heap.size+1+1,0,none⟩) (by have:=aa.o;simp;omega) (.int .i64 q);have aJ:qu (W3.setCell ⟨w.heap.size+1+1,0,none⟩ (.int .i64 q)) X zR ac S3:=az.o.same fun k O=>Below.heap_setCell _ _ _ _ (ab k O).1
  generalize W3.setCell ⟨w.heap.size+1+1,0,none⟩ (.int .i64 q)=W4 at *;clear c5 f5 U az av ao ay am;have L:zD W4 (w.heap.size+1+1) 52 #[.int .i64 q]:=L;have U:N.length<=24:=by have:=aA.o;simp at this;omega
  have c5:W4.cell? ⟨w.heap.size+1+1,0,none⟩=some (.int .i64 q):=L.cell 0;refine wp_region_quiet_lit zo (zo) ?_;refine wpQuiet_step (fun K hK=>?_);rw[if_pos zj];refine zht 155 _ rfl (w.heap.size+1) rfl 155 (rowOf N) (0,0) _ V underlying155 rfl (VY N U) (hK _ ?_);clear hK K;go_simp
  quiet_step (fail)
  refine wpQuiet_step (fun K hK=>?_);rw[if_pos zj];refine zjk 155 _ _ rfl (w.heap.size+1) (rowOf N) rfl rfl 155 V (VY N U) (zaL N) (hK _ ?_);clear hK K;have f5:W4.frozen? ⟨w.heap.size+1+1,0,none⟩=false:=L.frozen 0;have ad:∀n,(W4.drewN n).setCell ⟨w.heap.size+1+1,0,none⟩ (.int .i64 q)=W4.drewN n:=fun n=>zlY (L.drewN n)
  quiet_step (fail)
  refine wpQuiet_nil ?_;intro n;have aj:qu (W4.drewN n) X zR ac S3:=aJ.same fun k _=>rfl
  have ap:xD S w (W4.drewN n):=aK.trans ⟨rfl,rfl,rfl,zoZ _,fun _ _ _=>rfl⟩ (fun _ hx=>.inl hx);have L:zD (W4.drewN n) (w.heap.size+1+1) 52 #[.int .i64 q]:=L;have V:zD (W4.drewN n) (w.heap.size+1) 155 (rowOf N):=V;have b2:zD (W4.drewN n) w.heap.size 112 #[.pointer (some ⟨X,0,none⟩)]:=b2;have b6:zD (W4.drewN n) I.heap.size 3 #[.int .i64 (vs.length:Int)]:=b6;clear ad;generalize W4.drewN n=W5 at *;go_wp2
  ·
   have hz:q=0:=za;subst hz;refine leaves_cons (f:=157) (args:=#[.pointer (some ⟨w.heap.size+1+1,0,none⟩),.pointer (some ⟨w.heap.size,0,none⟩),.pointer (some ⟨I.heap.size,0,none⟩),.pointer (some ⟨w.heap.size+1,0,none⟩)]) zp (by simp[go_sem]) ?_;refine(zms _ _ _ _ W5 (L.cell 0)).mono ?_;rintro e u' W6⟨rfl,rfl,rfl⟩;exact⟨_,DW _ _ _ _ _ 0 rfl rfl V (VY N U) L,rfl,S3,aj,ap,⟨fun k O=>(ab k O).2,ag.o.map⟩⟩
  ·
   refine leaves_cons (f:=157) (args:=#[.pointer (some ⟨w.heap.size+1+1,0,none⟩),.pointer (some ⟨w.heap.size,0,none⟩),.pointer (some ⟨I.heap.size,0,none⟩),.pointer (some ⟨w.heap.size+1,0,none⟩)]) zp (by simp[go_sem]) ?_;have hl:vs.length<=ac.length:=ar.o.length_le;refine(zlR _ _ _ _ X zR vs.length ac S3 (rowOf N) q W5 h (L.cell 0) (b2.cell 0) (b6.cell 0) V (zaT N U) aj hl al).mono ?_;rintro e u' W6⟨rfl,rfl,ad,aE,ai⟩;have hH:=aa.o;have aH:zD W6 (w.heap.size+1+1) 52 #[.int .i64 q]:=L.same (ai.block _ L.lt (fun Y=>by
    rcases zpp.1 Y with Y|Y
    ·omega
    ·exact(ab _ Y).1 rfl))
   refine⟨_,DW _ W6 _ _ _ q rfl rfl aE (VY [] zp) aH,rfl,S3,?_,ap.trans ai (fun x hx=>?_),⟨fun k O=>(ab k O).2,ag.o.map⟩⟩
   ·rw[<-List.prefix_iff_eq_take.1 ar.o]at ad;exact ad
   ·rcases zpp.1 hx with rfl|hx
    ·right;omega
    ·exact(ab x hx).2
end
end Go.Proofs.YtfdickkdlcgicaaGreatDoor
namespace Go.Proofs.YtfdickkdlcgicaaGreatDoor.C
open Go.Proofs.Tryz Go Go.RowKit Go.Maps Go.WideMaps
section
abbrev zX(r:List Nat):List Value:=r.map fun n:Nat=>Value.int .i32 (n:Int)
structure Rw (r:List Nat):Prop where
 len:r.length=24
 lt:∀n∈r,n<=2147483647
def pad(ns:List Nat):List Nat:=ns++List.replicate (24-ns.length) 0
theorem zi2(ns:List Nat):rowOf ns=(zX (pad ns)).toArray:=by
 unfold rowOf pad zX;rw[zpt,List.map_replicate];rfl
theorem Rw.pad{ns:List Nat}(h:ns.length<=24)(q:∀n∈ns,n<=2147483647):Rw (pad ns):=
 ⟨by unfold C.pad;simp;omega,fun n r=>by
  rcases zo7.1 r with h|h
  ·exact q n h
  ·rw[(List.mem_replicate.1 h).2];omega⟩
theorem zed{a b:List Nat}(h:zX a=zX b):a=b:=by
 unfold zX at h;exact(List.map_inj_right (fun x y e=>by injection e with _ e;exact Int.ofNat.inj e)).1 h
theorem Uf:Keyed prog 155:=Keyed.of_law (deep_law_laid laidOut (m:=3) zd (of_decide_eq_true zo) zo (zo))
theorem zhO:prog.keyType 155=true:=zo
theorem zd6:prog.cellsOf 155=24:=zo
theorem zeH:prog.cellsOf 153=1:=zo
theorem mapM_some{α β:Type}{f:α->Option β}{g:α->β}:∀{l:List α},(∀x∈l,f x=some (g x))->l.mapM f=some (l.map g)
 |[],_=>rfl
 |a::l,h=>by
  rw[List.mapM_cons,h a zpi,mapM_some fun x q=>h x (zpj _ q)];rfl
def JX(r:List Nat):List Lit:=r.map fun n:Nat=>Lit.int .i32 (n:Int)
theorem zkp:∀(r:List Nat),((List.range r.length).map fun i=>[Lit.int .i32 ((r.getD i 0:Nat):Int)]).flatten=JX r:=fun r=>by
 rw[<-zqV];have:∀l:List Nat,l.flatMap (fun i=>[Lit.int .i32 ((r.getD i 0:Nat):Int)])=l.map (fun i=>Lit.int .i32 ((r.getD i 0:Nat):Int)):=fun l=>by induction l<;>simp_all
 rw[this];unfold JX;refine zqM zp fun i h I=>?_
 have q:i<r.length:=by simpa using h
 simp[q]
theorem zlg(d:Nat)(r:List Nat)(h:Rw r):prog.keyLits (d+1+1) 155 (zX r)=some (JX r):=by
 have L:(List.range 24).mapM (fun i=>prog.keyLits (d+1) 153 (((zX r).drop (i*1)).take 1))=some ((List.range 24).map fun i=>[Lit.int .i32 ((r.getD i 0:Nat):Int)]):=mapM_some fun i q=>by
  have q:i<r.length:=by rw[h.len];exact zqc.1 q
  have e:((zX r).drop (i*1)).take 1=[.int .i32 (r[i]:Int)]:=by
   rw[zqb,zpC (by simpa using q)];simp
  have R:=h.lt r[i] (zo3 q);have I:(Lit.int .i32 ((r[i]:Nat):Int)).wf=true:=by
   have O:IntKind.i32.min=-2147483648:=zr;have N:IntKind.i32.max=2147483647:=zr;simp[Lit.wf,O,N];omega
  rw[e];simp[Program.keyLits,underlying153,zeH,I,q]
 unfold Program.keyLits;rw[underlying155]
 dsimp only
 rw[zd6,zeH,if_pos (by simp[h.len]),L,<-zkp r,h.len];rfl
theorem Ja{r:List Nat}(h:Rw r):keyOf prog 155 (.agg (zX r).toArray)=some (.string (keyBytes (JX r))):=by
 have e:(prog.keyLits (prog.types.size+1) 155 (Value.agg (zX r).toArray).cells.toList)=some (JX r):=by
  rw[zdK];exact zlg _ r h
 unfold keyOf;rw[underlying155]
 dsimp only
 rw[zhO,e];simp[Value.formed,underlying155,zd6,h.len]
theorem TI:qy prog 211 155 24 96:=qy.of (z:=.agg (zX (List.replicate 24 0)).toArray) underlying211 zo (by simp[Value.cells]) zr
theorem XT(r:List Nat):∀u∈zX r,u.oneCell'=true:=zt
end
