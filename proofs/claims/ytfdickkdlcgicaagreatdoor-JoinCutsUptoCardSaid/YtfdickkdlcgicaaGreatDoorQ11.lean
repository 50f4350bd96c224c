/-
  Walks: the right step of a comparison that is not ready.
-/
import Derived.Test.YtfdickkdlcgicaaGreatDoorQ10
set_option maxRecDepth 100000
set_option maxHeartbeats 8000000
set_option linter.all false
namespace Go.Proofs.YtfdickkdlcgicaaGreatDoor.C
open Go.Proofs.Tryz Go Go.RowKit Go.Maps Go.WideMaps
section
theorem zmF(w:World)(sb mb:Nat)(B:Option Addr)(zM nb:Nat)(f:Value->Option Value)(K:List ByteArray)(h:yN w sb mb B zM nb f K)(body:List Li)(hn:body.length=nb)(hB:zZ Li.cells w B body)(i:Nat)(hi:i<body.length)(hl:body[i].zN w)(ai:body[i].ok)(ht:body[i].zO.length<=1048576)(hs:∀t∈body[i].zO,t.v.size<=maxLen)(hb:nb<=24)(hk:(body[i].k=3/\(∃v u r,qF K body[i]=v::u::r)/\stepOf K i body[i]=none)):
 Calls prog 49 #[.pointer (some ⟨sb,0,none⟩),.int .i64 (i:Int)] w (Vy K i body[i] w):=by
 obtain⟨b,o,rfl,V,q⟩:=hB.at Li.Yn i hi;have U:i<nb:=zd;generalize body[i]=x at *
 replace q:w.rangeAt b (o+i*16) x.cells:=q
 have H:=zz h;have Hr:=zz (fun W (L:Bl w W)=>yB q L V);have Hv:=zz (fun W (L:Bl w W)=>UG W x (hl.below L) ht hs);have Hu:=zz (fun W (L:Bl w W) (A:Option Addr) (I n:Nat) (hn:x.vars.length=n) (ho:zZ xD W A x.vars)=>Ur W sb mb (some ⟨b,o,none⟩) zM nb f K (h.below L) A I n x.vars hn ho (fun u N=>by
  obtain⟨_,t,I,rfl⟩:=C.qJ.1 N;exact hs t I) (by have:=YY x.zO;unfold Li.vars at hn;omega))
 have Hl:=zz hl;have aO:=zz ai;have Hs:=zz hs;have Ht:=zz ht;have c0:(w.alloc (.cells #[.int .i8 0,.int .i64 0,.int .u32 0,.slice none 0 0] 107)).cell? ⟨sb,0,none⟩=some (.slice (some ⟨b,o,none⟩) nb zM):=(h.below (xq w _)).r.cell 0;clear h q hl ai hs ht hB hn hi V;obtain⟨W1,I,q⟩:=xi w 107 #[.int .i8 0,.int .i64 0,.int .u32 0,.slice none 0 0];have aE:=zz I;have Z:=zz q;clear I q;go_enter func49,ntmps49
 go_wp2_with (first
  |(refine xW 50 _ rfl ?_;rw[aE.o];refine wpList_load_mid rfl 50 _ rfl b (o+i*16) rfl x.cells _ (Hr.o _ Z.o.below) underlying50 rfl (q9 x) ?_)
  |(refine xy 50 _ _ rfl ?_;refine XP rfl 50 _ _ rfl _ x.cells rfl rfl ?z (q9 x) ?one ?_))
 case z=>rw[Li.xG];rfl
 case one=>exact x.Ys
 intro W5 q;have Y:=zz q;have aH:=zz (zl Z.o.below q.below);clear q c0;obtain⟨W6,I,q⟩:=xi W5 107 #[.int .i8 0,.int .i64 (i:Int),.int .u32 0,.slice none 0 0];have aw:=zz I;have ax:=zz q;have aj:=zz (zl aH.o q.below);have aI:=zz (Y.o.b0.below q.below);have aJ:=zz ((Z.o.b0.below Y.o.below).below q.below);clear I q;have ao:¬w.heap.size=W5.heap.size:=by have:=Y.o.size;have:=Z.o.size;omega
 have aM:¬W5.heap.size=w.heap.size:=fun e=>ao e.symm
 obtain⟨hk,⟨v,u,r,I⟩,q⟩:=hk;have R:x.k=3:=hk;have O:¬x.k=1:=zd;have N:¬x.k=2:=zd;have k1:(x.k==1)=false:=by simp[O]
 have k2:(x.k==2)=false:=by simp[N]
 have aB:=zz (fun W A h=>TO I W A h);have ad:=zz (fun W (L:Bl w W)=>GZ W x (Hl.o.below L) Ht.o Hs.o v);have ag:=zz q;have Hq:=zz (show ∀n:Nat,(qF K x).length=n->((n:Int)==0)=false/\0<n/\((n:Int)==1)=false from fun n hn=>by
  rw[I]at hn;subst hn;exact⟨zb,zp,zb⟩)
 clear hk O N R I q U;go_upto_region 24 with(first
  |(refine xW 50 _ rfl ?_;refine wpList_load_mid rfl 50 _ rfl _ 0 rfl x.cells _ (Y.o.b0.below (xq _ _)).range underlying50 rfl (q9 x) ?_)
  |(go_at_call 103;rw[aw.o];refine(Hv.o _ aj.o).mono ?_;rintro e w7⟨A7,aL,n7,rfl,an,ak,U,aA⟩;have av:=zz an;have az:=zz ak;have am:=zz (zl aj.o U);have aG:=zz (aI.o.below U);have aF:=zz (aJ.o.below U);have aD:=zz (ax.o.b0.below U);clear an ak U aA)
  |(go_at_call 102;refine(Hu.o _ am.o _ _ _ av.o az.o.xI).mono ?_;rintro e w8⟨A8,aN,n8,rfl,al,ah,R,aK⟩;have aC:Kz ((qF K x).length=n8):=al;obtain⟨aP,aR,aS⟩:=Hq.o n8 aC.o;obtain⟨bb,oo,rfl,V,dd⟩:=aB.o w8 A8 ah.xI;have k8:=aG.o.below R;have c0:w8.cell? ⟨W1.heap.size,0,none⟩=some (.int .i8 x.k):=k8.cell 0;have c3:w8.cell? ⟨W1.heap.size,3,none⟩=some (.int .i8 x.rl):=k8.cell 3;have ay:=zz k8;have ab:=zz (zl am.o R);have q:=zz (aF.o.below R);have N:=zz (aD.o.below R);have e0:=N.o.cell 0;have e1:=N.o.cell 1;have e2:=N.o.cell 2;have e3:=N.o.cell 3;have g0:=q.o.cell 0;have g1:=q.o.cell 1;have g2:=q.o.cell 2;have g3:=q.o.cell 3;have ac:=q.o.frozen 0;have ae:=q.o.frozen 1;have af:=q.o.frozen 2;have aa:=q.o.frozen 3;clear al ah R aK k8 V)
  |(refine xW 50 _ rfl ?_;refine TV zj 50 _ rfl _ 0 rfl x.cells _ ay.o.range underlying50 rfl (q9 x) ?_)
  |(go_at_call 105;refine(ad.o _ ab.o).mono ?_;rintro e w9⟨rfl,X⟩;clear e0 e1 e2 e3 g0 g1 g2 g3 ac ae af aa;have aQ:=zz (zl ab.o X);have O:=zz (N.o.below X);have L:=zz (q.o.below X);have e0:=O.o.cell 0;have e1:=O.o.cell 1;have e2:=O.o.cell 2;have e3:=O.o.cell 3;have f0:=O.o.frozen 0;have f3:=O.o.frozen 3;have g0:=L.o.cell 0;have g1:=L.o.cell 1;have g2:=L.o.cell 2;have g3:=L.o.cell 3;have ac:=L.o.frozen 0;have ae:=L.o.frozen 1;have af:=L.o.frozen 2;have aa:=L.o.frozen 3;clear X))
 clear e0 e1 e2 e3 g0 g1 g2 g3 ac ae af aa c0 c3 dd;have ap:=zz N.o;have aq:=zz q.o;have ar:=zz ab.o
 go_wp2_with (first
  |(refine xW 107 _ rfl ?_;refine y7 zj 107 _ rfl W5.heap.size 0 rfl [.int .i8 0,.int .i64 (i:Int),.int .u32 0,.slice none 0 0] _ ap.o.range underlying107 rfl zo ?_)
  |(refine xy 107 _ _ rfl ?_;refine yH 107 w.heap.size 0 aq.o [.int .i8 0,.int .i64 (i:Int),.int .u32 0,.slice none 0 0] ?_;intro aT I;have z0:=I.zH.cell 0;have z1:=I.zH.cell 1;have z2:=I.zH.cell 2;have z3:=I.zH.cell 3;have HF:=zz I;clear I))
 simp only[zpY,zpI,zpL,zpJ,zpH,zpM]at z0 z1 z2 z3;refine bodyPost_ret (v:=.tuple #[.agg #[.int .i8 0,.int .i64 (i:Int),.int .u32 0,.slice none 0 0],.bool false]) (by simp[results,results49,go_sem,z0,z1,z2,z3]) rfl ?_;have au:=HF.o.below ar.o (zpx _) (zpx _);refine⟨0,0,none,0,0,false,rfl,by rw[ag.o];rfl,fun s hs=>?_,au⟩;rw[ag.o]at hs
 cases hs
theorem zme(w:World)(sb mb:Nat)(B:Option Addr)(zM nb:Nat)(f:Value->Option Value)(K:List ByteArray)(h:yN w sb mb B zM nb f K)(body:List Li)(hn:body.length=nb)(hB:zZ Li.cells w B body)(i:Nat)(hi:i<body.length)(hl:body[i].zN w)(ai:body[i].ok)(ht:body[i].zO.length<=1048576)(hs:∀t∈body[i].zO,t.v.size<=maxLen)(hb:nb<=24)(hk:(body[i].k=3/\(∃v,qF K body[i]=[v])/\body[i].rl≠1/\stepOf K i body[i]=none)):
 Calls prog 49 #[.pointer (some ⟨sb,0,none⟩),.int .i64 (i:Int)] w (Vy K i body[i] w):=by
 obtain⟨b,o,rfl,V,q⟩:=hB.at Li.Yn i hi;have aU:i<nb:=zd;generalize body[i]=x at *
 replace q:w.rangeAt b (o+i*16) x.cells:=q
 have H:=zz h;have Hr:=zz (fun W (L:Bl w W)=>yB q L V);have Hv:=zz (fun W (L:Bl w W)=>UG W x (hl.below L) ht hs);have Hu:=zz (fun W (L:Bl w W) (A:Option Addr) (I n:Nat) (hn:x.vars.length=n) (ho:zZ xD W A x.vars)=>Ur W sb mb (some ⟨b,o,none⟩) zM nb f K (h.below L) A I n x.vars hn ho (fun u N=>by
  obtain⟨_,t,I,rfl⟩:=C.qJ.1 N;exact hs t I) (by have:=YY x.zO;unfold Li.vars at hn;omega))
 have Hl:=zz hl;have aO:=zz ai;have Hs:=zz hs;have Ht:=zz ht;have c0:(w.alloc (.cells #[.int .i8 0,.int .i64 0,.int .u32 0,.slice none 0 0] 107)).cell? ⟨sb,0,none⟩=some (.slice (some ⟨b,o,none⟩) nb zM):=(h.below (xq w _)).r.cell 0;clear h q hl ai hs ht hB hn hi V;obtain⟨W1,I,q⟩:=xi w 107 #[.int .i8 0,.int .i64 0,.int .u32 0,.slice none 0 0];have aE:=zz I;have Z:=zz q;clear I q;go_enter func49,ntmps49
 go_wp2_with (first
  |(refine xW 50 _ rfl ?_;rw[aE.o];refine wpList_load_mid rfl 50 _ rfl b (o+i*16) rfl x.cells _ (Hr.o _ Z.o.below) underlying50 rfl (q9 x) ?_)
  |(refine xy 50 _ _ rfl ?_;refine XP rfl 50 _ _ rfl _ x.cells rfl rfl ?z (q9 x) ?one ?_))
 case z=>rw[Li.xG];rfl
 case one=>exact x.Ys
 intro W5 q;have Y:=zz q;have aH:=zz (zl Z.o.below q.below);clear q c0;obtain⟨W6,I,q⟩:=xi W5 107 #[.int .i8 0,.int .i64 (i:Int),.int .u32 0,.slice none 0 0];have aw:=zz I;have ax:=zz q;have aj:=zz (zl aH.o q.below);have aI:=zz (Y.o.b0.below q.below);have aJ:=zz ((Z.o.b0.below Y.o.below).below q.below);clear I q;have ao:¬w.heap.size=W5.heap.size:=by have:=Y.o.size;have:=Z.o.size;omega
 have aM:¬W5.heap.size=w.heap.size:=fun e=>ao e.symm
 obtain⟨hk,⟨v,I⟩,O,q⟩:=hk;have U:x.k=3:=hk;have R:¬x.k=1:=zd;have N:¬x.k=2:=zd;have k1:(x.k==1)=false:=by simp[R]
 have k2:(x.k==2)=false:=by simp[N]
 have aB:=zz (fun W A h=>TO I W A h);have ad:=zz (fun W (L:Bl w W)=>GZ W x (Hl.o.below L) Ht.o Hs.o v);have ag:=zz q;have r1:(x.rl==1)=false:=by simp[O]
 have Hq:=zz (show ∀n:Nat,(qF K x).length=n->((n:Int)==0)=false/\0<n/\((n:Int)==1)=true from fun n hn=>by
  rw[I]at hn;simp at hn;subst hn;exact⟨rfl,zr,rfl⟩)
 clear hk R N U I q O;go_upto_region 24 with(first
  |(refine xW 50 _ rfl ?_;refine wpList_load_mid rfl 50 _ rfl _ 0 rfl x.cells _ (Y.o.b0.below (xq _ _)).range underlying50 rfl (q9 x) ?_)
  |(go_at_call 103;rw[aw.o];refine(Hv.o _ aj.o).mono ?_;rintro e w7⟨A7,aL,n7,rfl,an,ak,U,aA⟩;have av:=zz an;have az:=zz ak;have am:=zz (zl aj.o U);have aG:=zz (aI.o.below U);have aF:=zz (aJ.o.below U);have aD:=zz (ax.o.b0.below U);clear an ak U aA)
  |(go_at_call 102;refine(Hu.o _ am.o _ _ _ av.o az.o.xI).mono ?_;rintro e w8⟨A8,aN,n8,rfl,al,ah,R,aK⟩;have aC:Kz ((qF K x).length=n8):=al;obtain⟨aP,aR,aS⟩:=Hq.o n8 aC.o;obtain⟨bb,oo,rfl,V,dd⟩:=aB.o w8 A8 ah.xI;have k8:=aG.o.below R;have c0:w8.cell? ⟨W1.heap.size,0,none⟩=some (.int .i8 x.k):=k8.cell 0;have c3:w8.cell? ⟨W1.heap.size,3,none⟩=some (.int .i8 x.rl):=k8.cell 3;have ay:=zz k8;have ab:=zz (zl am.o R);have q:=zz (aF.o.below R);have N:=zz (aD.o.below R);have e0:=N.o.cell 0;have e1:=N.o.cell 1;have e2:=N.o.cell 2;have e3:=N.o.cell 3;have g0:=q.o.cell 0;have g1:=q.o.cell 1;have g2:=q.o.cell 2;have g3:=q.o.cell 3;have ac:=q.o.frozen 0;have ae:=q.o.frozen 1;have af:=q.o.frozen 2;have aa:=q.o.frozen 3;clear al ah R aK k8 V)
  |(refine xW 50 _ rfl ?_;refine TV zj 50 _ rfl _ 0 rfl x.cells _ ay.o.range underlying50 rfl (q9 x) ?_)
  |(go_at_call 105;refine(ad.o _ ab.o).mono ?_;rintro e w9⟨rfl,X⟩;clear e0 e1 e2 e3 g0 g1 g2 g3 ac ae af aa;have aQ:=zz (zl ab.o X);have O:=zz (N.o.below X);have L:=zz (q.o.below X);have e0:=O.o.cell 0;have e1:=O.o.cell 1;have e2:=O.o.cell 2;have e3:=O.o.cell 3;have f0:=O.o.frozen 0;have f3:=O.o.frozen 3;have g0:=L.o.cell 0;have g1:=L.o.cell 1;have g2:=L.o.cell 2;have g3:=L.o.cell 3;have ac:=L.o.frozen 0;have ae:=L.o.frozen 1;have af:=L.o.frozen 2;have aa:=L.o.frozen 3;clear X))
 clear e0 e1 e2 e3 g0 g1 g2 g3 ac ae af aa c0 c3 dd;have ap:=zz N.o;have aq:=zz q.o;have ar:=zz ab.o
 go_wp2_with (first
  |(refine xW 107 _ rfl ?_;refine y7 zj 107 _ rfl W5.heap.size 0 rfl [.int .i8 0,.int .i64 (i:Int),.int .u32 0,.slice none 0 0] _ ap.o.range underlying107 rfl zo ?_)
  |(refine xy 107 _ _ rfl ?_;refine yH 107 w.heap.size 0 aq.o [.int .i8 0,.int .i64 (i:Int),.int .u32 0,.slice none 0 0] ?_;intro aT I;have z0:=I.zH.cell 0;have z1:=I.zH.cell 1;have z2:=I.zH.cell 2;have z3:=I.zH.cell 3;have HF:=zz I;clear I))
 simp only[zpY,zpI,zpL,zpJ,zpH,zpM]at z0 z1 z2 z3;refine bodyPost_ret (v:=.tuple #[.agg #[.int .i8 0,.int .i64 (i:Int),.int .u32 0,.slice none 0 0],.bool false]) (by simp[results,results49,go_sem,z0,z1,z2,z3]) rfl ?_;have au:=HF.o.below ar.o (zpx _) (zpx _);refine⟨0,0,none,0,0,false,rfl,by rw[ag.o];rfl,fun s hs=>?_,au⟩;rw[ag.o]at hs
 cases hs
theorem zle(w:World)(sb mb:Nat)(B:Option Addr)(zM nb:Nat)(f:Value->Option Value)(K:List ByteArray)(h:yN w sb mb B zM nb f K)(body:List Li)(hn:body.length=nb)(hB:zZ Li.cells w B body)(i:Nat)(hi:i<body.length)(hl:body[i].zN w)(ah:body[i].ok)(ht:body[i].zO.length<=1048576)(hs:∀t∈body[i].zO,t.v.size<=maxLen)(hb:nb<=24)(hk:(body[i].k=3/\(∃v,qF K body[i]=[v]/\¬UQ body[i] v)/\body[i].rl=1/\stepOf K i body[i]=none)):
 Calls prog 49 #[.pointer (some ⟨sb,0,none⟩),.int .i64 (i:Int)] w (Vy K i body[i] w):=by
 obtain⟨b,o,rfl,X,q⟩:=hB.at Li.Yn i hi;have aU:i<nb:=zd;generalize body[i]=x at *
 replace q:w.rangeAt b (o+i*16) x.cells:=q
 have H:=zz h;have Hr:=zz (fun W (N:Bl w W)=>yB q N X);have Hv:=zz (fun W (N:Bl w W)=>UG W x (hl.below N) ht hs);have Hu:=zz (fun W (N:Bl w W) (A:Option Addr) (I n:Nat) (hn:x.vars.length=n) (ho:zZ xD W A x.vars)=>Ur W sb mb (some ⟨b,o,none⟩) zM nb f K (h.below N) A I n x.vars hn ho (fun u L=>by
  obtain⟨_,t,I,rfl⟩:=C.qJ.1 L;exact hs t I) (by have:=YY x.zO;unfold Li.vars at hn;omega))
 have Hl:=zz hl;have aP:=zz ah;have Hs:=zz hs;have Ht:=zz ht;have c0:(w.alloc (.cells #[.int .i8 0,.int .i64 0,.int .u32 0,.slice none 0 0] 107)).cell? ⟨sb,0,none⟩=some (.slice (some ⟨b,o,none⟩) nb zM):=(h.below (xq w _)).r.cell 0;clear h q hl ah hs ht hB hn hi X;obtain⟨W1,I,q⟩:=xi w 107 #[.int .i8 0,.int .i64 0,.int .u32 0,.slice none 0 0];have aF:=zz I;have aa:=zz q;clear I q;go_enter func49,ntmps49
 go_wp2_with (first
  |(refine xW 50 _ rfl ?_;rw[aF.o];refine wpList_load_mid rfl 50 _ rfl b (o+i*16) rfl x.cells _ (Hr.o _ aa.o.below) underlying50 rfl (q9 x) ?_)
  |(refine xy 50 _ _ rfl ?_;refine XP rfl 50 _ _ rfl _ x.cells rfl rfl ?z (q9 x) ?one ?_))
 case z=>rw[Li.xG];rfl
 case one=>exact x.Ys
 intro W5 q;have Z:=zz q;have aI:=zz (zl aa.o.below q.below);clear q c0;obtain⟨W6,I,q⟩:=xi W5 107 #[.int .i8 0,.int .i64 (i:Int),.int .u32 0,.slice none 0 0];have ax:=zz I;have ay:=zz q;have ai:=zz (zl aI.o q.below);have aJ:=zz (Z.o.b0.below q.below);have aK:=zz ((aa.o.b0.below Z.o.below).below q.below);clear I q;have ao:¬w.heap.size=W5.heap.size:=by have:=Z.o.size;have:=aa.o.size;omega
 have aN:¬W5.heap.size=w.heap.size:=fun e=>ao e.symm
 obtain⟨hk,⟨v,L,I⟩,R,q⟩:=hk;have Y:x.k=3:=hk;have V:¬x.k=1:=zd;have O:¬x.k=2:=zd;have k1:(x.k==1)=false:=by simp[V]
 have k2:(x.k==2)=false:=by simp[O]
 have aC:=zz (fun W A h=>TO L W A h);have U:=zz (fun W (N:Bl w W)=>GZ W x (Hl.o.below N) Ht.o Hs.o v);have af:=zz q;have r1:(x.rl==1)=true:=by simp[R]
 rw[qu I]at U;have Hq:=zz (show ∀n:Nat,(qF K x).length=n->((n:Int)==0)=false/\0<n/\((n:Int)==1)=true from fun n hn=>by
  rw[L]at hn;simp at hn;subst hn;exact⟨rfl,zr,rfl⟩)
 clear hk V O Y L q R I;go_upto_region 24 with(first
  |(refine xW 50 _ rfl ?_;refine wpList_load_mid rfl 50 _ rfl _ 0 rfl x.cells _ (Z.o.b0.below (xq _ _)).range underlying50 rfl (q9 x) ?_)
  |(go_at_call 103;rw[ax.o];refine(Hv.o _ ai.o).mono ?_;rintro e w7⟨A7,aM,n7,rfl,an,aj,V,aB⟩;have av:=zz an;have aA:=zz aj;have am:=zz (zl ai.o V);have aH:=zz (aJ.o.below V);have aG:=zz (aK.o.below V);have aE:=zz (ay.o.b0.below V);clear an aj V aB)
  |(go_at_call 102;refine(Hu.o _ am.o _ _ _ av.o aA.o.xI).mono ?_;rintro e w8⟨A8,aO,n8,rfl,al,ag,O,aL⟩;have aD:Kz ((qF K x).length=n8):=al;obtain⟨aQ,aR,aS⟩:=Hq.o n8 aD.o;obtain⟨bb,oo,rfl,X,dd⟩:=aC.o w8 A8 ag.xI;have k8:=aH.o.below O;have c0:w8.cell? ⟨W1.heap.size,0,none⟩=some (.int .i8 x.k):=k8.cell 0;have c3:w8.cell? ⟨W1.heap.size,3,none⟩=some (.int .i8 x.rl):=k8.cell 3;have az:=zz k8;have ak:=zz (zl am.o O);have I:=zz (aG.o.below O);have R:=zz (aE.o.below O);have e0:=R.o.cell 0;have e1:=R.o.cell 1;have e2:=R.o.cell 2;have e3:=R.o.cell 3;have g0:=I.o.cell 0;have g1:=I.o.cell 1;have g2:=I.o.cell 2;have g3:=I.o.cell 3;have ac:=I.o.frozen 0;have ad:=I.o.frozen 1;have ae:=I.o.frozen 2;have ab:=I.o.frozen 3;clear al ag O aL k8 X)
  |(refine xW 50 _ rfl ?_;refine TV zj 50 _ rfl _ 0 rfl x.cells _ az.o.range underlying50 rfl (q9 x) ?_)
  |(go_at_call 105;refine(U.o _ ak.o).mono ?_;rintro e w9⟨rfl,Y⟩;clear e0 e1 e2 e3 g0 g1 g2 g3 ac ad ae ab;have aw:=zz (zl ak.o Y);have N:=zz (R.o.below Y);have L:=zz (I.o.below Y);have e0:=N.o.cell 0;have e1:=N.o.cell 1;have e2:=N.o.cell 2;have e3:=N.o.cell 3;have f0:=N.o.frozen 0;have f3:=N.o.frozen 3;have g0:=L.o.cell 0;have g1:=L.o.cell 1;have g2:=L.o.cell 2;have g3:=L.o.cell 3;have ac:=L.o.frozen 0;have ad:=L.o.frozen 1;have ae:=L.o.frozen 2;have ab:=L.o.frozen 3;clear Y))
 clear f0 f3;clear e0 e1 e2 e3 g0 g1 g2 g3 ac ad ae ab c0 c3 dd;have ap:=zz N.o;have aq:=zz L.o;have ar:=zz aw.o
 go_wp2_with (first
  |(refine xW 107 _ rfl ?_;refine y7 zj 107 _ rfl W5.heap.size 0 rfl [.int .i8 0,.int .i64 (i:Int),.int .u32 0,.slice none 0 0] _ ap.o.range underlying107 rfl zo ?_)
  |(refine xy 107 _ _ rfl ?_;refine yH 107 w.heap.size 0 aq.o [.int .i8 0,.int .i64 (i:Int),.int .u32 0,.slice none 0 0] ?_;intro aT q;have z0:=q.zH.cell 0;have z1:=q.zH.cell 1;have z2:=q.zH.cell 2;have z3:=q.zH.cell 3;have HF:=zz q;clear q))
 simp only[zpY,zpI,zpL,zpJ,zpH,zpM]at z0 z1 z2 z3;refine bodyPost_ret (v:=.tuple #[.agg #[.int .i8 0,.int .i64 (i:Int),.int .u32 0,.slice none 0 0],.bool false]) (by simp[results,results49,go_sem,z0,z1,z2,z3]) rfl ?_;have au:=HF.o.below ar.o (zpx _) (zpx _);refine⟨0,0,none,0,0,false,rfl,by rw[af.o];rfl,fun s hs=>?_,au⟩;rw[af.o]at hs
 cases hs
end
