/-
  Walks: what the document limits: the atoms' variables, all, 
-/
import Derived.Test.YtfdickkdlcgicaaGreatDoorQ03
set_option maxRecDepth 100000
set_option maxHeartbeats 8000000
set_option linter.all false
namespace Go.Proofs.YtfdickkdlcgicaaGreatDoor.C
open Go.Proofs.Tryz Go Go.RowKit Go.Maps Go.WideMaps
variable {A B:Option Addr}{I L N O U cap cap' g n q:Nat}{W w w':World}{f:Value->Option Value}{t:TypeId}{u v:ByteArray}{vs xs:List ByteArray}
section
open Classical in
theorem GM{α:Type}:∀{l m:List α},l.Nodup->(∀x∈l,x∈m)->l.length<=m.length
 |[],_,_,_=>zpD _
 |a::l,m,h,I=>by
  have q:=I a zpP;have L:=List.nodup_cons.1 h;have:=GM (l:=l) (m:=m.erase a) L.2 (fun x N=>(List.mem_erase_of_ne (fun e=>L.1 (by rw[<-e];exact N))).2 (I x (zpQ _ N)));rw[List.length_erase_of_mem q]at this;have:=List.length_pos_of_mem q;rw[zpV];omega
structure Bd (w:World) (B:Option Addr) (body:List Li):Prop where
 rd:zZ Li.cells w B body
 len:body.length*216<=140737488351232
 zN:∀x∈body,x.zN w
 zO:(body.flatMap Li.zO).length<=1048576
theorem Bd.below{body:List Li}(h:Bd w B body)(q:Bl w W):Bd W B body:=⟨h.rd.below q,h.len,fun x I=>(h.zN x I).below q,h.zO⟩
theorem Bd.le{body:List Li}(h:Bd w B body){x:Li}(q:x∈body):x.zO.length<=1048576:=by
 obtain⟨s,t,rfl⟩:=List.append_of_mem q;have:=h.zO;rw[zp2,zpZ,zpA,zpA]at this;omega
noncomputable def Gn(body:List Li):List ByteArray:=varsOf [] (body.flatMap Li.zO)
theorem zdf{body:List Li}(h:Bd w B body):(Gn body).length<=1048576:=by
 have:=Ux (body.flatMap Li.zO) [];have:=h.zO;unfold Gn;rw[zqd]at *;omega
theorem To{body:List Li}{x:Li}(N:x∈body)(h:v∈x.vars):v∈Gn body:=by
 obtain⟨I,t,q,L⟩:=C.qJ.1 h;exact C.qJ.2 ⟨I,t,zqP.2 ⟨x,N,q⟩,L⟩
structure Uh (body:List Li) (xs:List ByteArray):Prop where
 nodup:xs.Nodup
 of:∀v∈xs,∃x∈body,x.k=1/\v∈x.a.vars
theorem Uh.le{body:List Li}(h:Bd w B body)(q:Uh body xs):xs.length<=1048576:=
 zpK (GM q.nodup fun v I=>by obtain⟨x,N,_,L⟩:=q.of v I;exact To N (Li.qJ.2 (.inl L))) (zdf h)
def zfw(P:List ByteArray->Prop)(w:World)(x:Ending)(w':World):Prop:=∃h,P h/\XA xD 9 1 h w x w'
theorem zhU(w:World)(B:Option Addr)(cap:Nat)(body:List Li)(h:Bd w B body)(N:Nat)(hN:body.length=N):
 Calls prog 194 #[.slice B N cap] w (zfw (Uh body) w):=by
 have ae:=h.len;rw[hN]at ae;have H:=zz h;have HN:=zz hN;clear h hN;go_enter func194,ntmps194;go_wp2
 go_loopg[3,4] N (fun gk s3 I wx=>∃(i:Nat) (O:Option Addr) (q m:Nat) (L:List ByteArray),i<=N/\gk=N-i/\I=.int .i64 (i:Int)/\s3=.slice O m q/\L.length=m/\Uh body L/\Own xD 9 1 wx O q L/\Bl w wx/\∀g∈zw O,w.heap.size<=g)
 case atStart=>exact⟨0,none,0,0,[],zpD _,rfl,rfl,rfl,rfl,⟨List.nodup_nil,fun v Z=>by cases Z⟩,Own.qz w,Below.refl _ _,fun g W=>by simp[zw]at W⟩
 case round=>
  obtain⟨i,O,q,m,L,hi,rfl,rfl,rfl,hm,R,ho,U,W⟩:=hrel;have ah:m<=1048576:=by rw[<-hm];exact R.le H.o
  have Y:=zz hm;have I:=zz R;have X:=zz ho;have HB:=zz U;have Hg:=zz W;clear hm R ho U W;obtain⟨W1,ab⟩:∃W1,W1=wr:=⟨_,rfl⟩
  by_cases af:i<N
  ·have am:i<body.length:=by rw[HN.o];exact af
   obtain⟨b,o,rfl,aC,hr⟩:=(H.o.rd.below HB.o).at Li.Yn i am;have V:=zpB am;have Z:=zof wr body[i].a ((H.o.zN _ V).a.below HB.o) (by
    have:=H.o.le V;unfold Li.zO at this;rw[zpA]at this;omega)
   have aa:body[i].a.vars.length<=1048576:=by
    have h1:=Ux body[i].a.args [];have:=H.o.le V;unfold Li.zO at this;unfold At.vars;rw[zpA]at this;rw[zqd]at h1;omega
   generalize body[i]=x at hr V Z aa
   replace hr:wr.rangeAt b (o+i*16) x.cells:=hr
   obtain⟨k,⟨p,A,qM,U⟩,rl,l,r⟩:=x;simp only[At.cells]at Z aa;obtain⟨vv,ac⟩:∃vv,(⟨p,A,qM,U⟩:At).vars=vv:=⟨_,rfl⟩;rw[ac]at Z aa;have au:=zz ac;clear ac;have d0:wr.cell? ⟨b,o+i*16,none⟩=some (.int .i8 k):=hr 0 _ rfl;have d1:wr.cell? ⟨b,o+i*16+1,none⟩=some (.string p):=hr 1 _ rfl;have d2:wr.cell? ⟨b,o+i*16+2,none⟩=some (.slice A U.length qM):=hr 2 _ rfl;obtain⟨Na,ac⟩:∃Na,U.length=Na:=⟨_,rfl⟩;rw[ac]at Z d2;have az:=zz V;have Hv:=zz Z;clear Z V hr ac
   by_cases hk:k=1
   ·subst hk
    go_wp2_with (go_at_call 239;refine Hv.o.mono ?_;rintro e w2⟨A2,aB,M2,rfl,ac,ag,V,aj⟩)
    rw[ac]at aa;have aw:=zz ac;have aq:=zz ag;have ai:=zz V;have av:=zz aj;have HX:=zz (X.o.below V);have HA:=zz (show ∀g∈zw O,g<W1.heap.size from by rw[ab];exact X.o.lt);have ad:W1.heap.size=wr.heap.size:=by rw[ab]
    have ao:=zz ad;clear ac ag V aj d0 d1 d2 ad ab
    go_loopg[3,6] M2 (fun gk s3 V wx=>∃(j:Nat) (O:Option Addr) (q m:Nat) (L:List ByteArray),j<=M2/\gk=M2-j/\V=.int .i64 (j:Int)/\s3=.slice O m q/\L.length=m/\Uh body L/\Own xD 9 1 wx O q L/\
     (∀g∈zw O,w.heap.size<=g/\(g<W1.heap.size\/w2.heap.size<=g))/\zh (fun g=>g<W1.heap.size/\w.heap.size<=g) w2 wx)
    case atStart=>exact⟨0,O,q,m,L,zpD _,rfl,rfl,rfl,Y.o,I.o,HX.o,fun g W=>⟨Hg.o g W,.inl (HA.o g W)⟩,zh.refl _ _⟩
    case round=>
     have ac:=zz HB.o;clear Y I X Hg HX HA ah;obtain⟨j,O,q,m,L,hj,rfl,rfl,rfl,hm,R,ho,W,hC⟩:=hrel;have ah:m<=1048576:=by rw[<-hm];exact R.le H.o
     have V:∀g∈zw A2,¬(g<W1.heap.size/\w.heap.size<=g):=fun g h1 h2=>by have:=av.o g h1;have:=ao.o;omega
     have aj:=(aq.o.zC hC V).xI;have Y:=zz hm;have I:=zz R;have X:=zz ho;have Hg:=zz W;have HC:=zz hC;clear hm R ho W hC V
     by_cases an:j<M2
     ·have ag:j<vv.length:=by rw[aw.o];exact an
      obtain⟨b3,o3,rfl,aA,V⟩:=aj.at DE j ag;have ad:=zpB ag;have R:=fun s=>Tc s wr O q _ X.o.xI m Y.o zd
      generalize vv[j]=u at V ad;have d0:wr.cell? ⟨b3,o3+j,none⟩=some (.string u):=by have:=V 0 _ rfl;simpa using this
      have ap:=zz ad;clear V ad aj
      by_cases e:u∈L
      ·have hi:=R u;rw[qs e]at hi;have Hi:=zz hi;clear R hi e
       go_wp2_with (go_at_call 138;refine Hi.o.mono ?_;rintro e w1⟨rfl,rfl⟩)
       go_roundg (M2-(j+1))
       case measure=>omega
       case rel=>exact⟨j+1,O,q,m,L,zd,rfl,ze,rfl,Y.o,I.o,X.o,Hg.o,HC.o⟩
      ·have hi:=R u;rw[qu e]at hi;have Hi:=zz hi;have He:=zz e;clear R hi e
       go_wp2_with (first
        |(go_at_call 138;refine Hi.o.mono ?_;rintro e w1⟨rfl,rfl⟩)
        |(at_builtin;refine X9 rfl _ _ rfl Vh (f:=xD) (xs:=L) ?own Y.o u _ 0 1 rfl rfl rfl ?news ?one ?le zr ?_))
       case own=>exact X.o.alloc _
       case news=>exact yt _ _ _ rfl
       case one=>simp[Value.oneCell']
       case le=>omega
       intro g V w3 al ak ad;have ax:=zz al;have ar:=zz (((zh.refl (·∈zw O) w1).alloc _).trans ak (fun x hx _=>hx));have ay:Kz (g∈zw O\/w1.heap.size<=g):=ad.imp id (fun h=>zd);clear al ak ad;go_wp2
       go_roundg (M2-(j+1))
       case measure=>omega
       case rel=>
        refine⟨j+1,_,V,m+1,L++[u],zd,rfl,ze,rfl,by rw[zpA,Y.o];rfl,⟨zrc.2 ⟨I.o.nodup,zp,fun a ha b hb=>by
         obtain rfl:=zpy.1 hb;rintro rfl;exact He.o ha⟩,fun v Z=>?_⟩,ax.o,xY ?_,HC.o.trans ar.o (fun x hx af=>?_)⟩
        ·rcases zpE.1 Z with h|h
         ·exact I.o.of v h
         ·obtain rfl:=zpy.1 h;exact⟨_,az.o,rfl,by rw[au.o];exact ap.o⟩
        ·rcases ay.o with h|h
         ·exact Hg.o g h
         ·have:=HC.o.size;have:=ai.o.size;have:=ac.o.size;exact⟨zd,.inr zd⟩
        ·have h1:=Hg.o x hx;exact⟨zd,h1.1⟩
     ·obtain rfl:j=M2:=zd;go_wp2
      go_roundg (N-(i+1))
      case measure=>omega
      case rel=>exact⟨i+1,O,q,m,L,zd,rfl,ze,rfl,Y.o,I.o,X.o,HC.o.qt (ac.o.trans (ai.o.mono ac.o.size)) (zpx _) (fun x hx=>hx.2),fun g W=>(Hg.o g W).1⟩
   ·have R:(k != 1)=true:=by simp[hk]
    clear hk;go_wp2
    go_roundg (N-(i+1))
    case measure=>omega
    case rel=>exact⟨i+1,O,q,m,L,zd,rfl,ze,rfl,Y.o,I.o,X.o,HB.o,Hg.o⟩
  ·obtain rfl:i=N:=zd;go_wp2;go_returns;exact⟨L,I.o,O,q,m,rfl,Y.o,X.o,HB.o,Hg.o⟩
structure Found (body:List Li) (xs:List ByteArray):Prop where
 nodup:xs.Nodup
 lim:∀v∈xs,yo body v
 of:∀v∈xs,v∈Gn body
theorem Found.le{body:List Li}(h:Bd w B body)(q:Found body xs):xs.length<=1048576:=zpK (GM q.nodup q.of) (zdf h)
theorem Uh.found{body:List Li}(h:Uh body xs):Found body xs:=⟨h.nodup,fun v q=>by obtain⟨x,I,N,L⟩:=h.of v q;exact .atom I N L,fun v q=>by obtain⟨x,I,N,L⟩:=h.of v q;exact To I (Li.qJ.2 (.inl L))⟩
theorem Found.push{body:List Li}(h:Found body xs)(N:v∉xs)(O:yo body v)(I:v∈Gn body):Found body (xs++[v]):=
 ⟨zrc.2 ⟨h.nodup,zp,fun a L b R=>by obtain rfl:=zpy.1 R;rintro rfl;exact N L⟩,fun u q=>by
  rcases zpE.1 q with q|q
  ·exact h.lim u q
  ·obtain rfl:=zpy.1 q;exact O,fun u q=>by
  rcases zpE.1 q with q|q
  ·exact h.of u q
  ·obtain rfl:=zpy.1 q;exact I⟩
theorem Ex.Ys(x:Ex):∀v∈x.cells,v.oneCell'=true:=by
 obtain⟨q,⟨v,k,n,s⟩,A,I,h⟩:=x;simp[Ex.cells,Value.oneCell']
theorem Li.Ys(x:Li):∀v∈x.cells,v.oneCell'=true:=fun v q=>by
 unfold Li.cells at q
 rcases zpE.1 q with h|h
 ·simp at h;rcases h with rfl|rfl|rfl|rfl<;>rfl
 ·rcases zpE.1 h with h|h
  ·exact x.l.Ys v h
  ·exact x.r.Ys v h
theorem zD.range{q:List Value}(h:zD w g t q.toArray):w.rangeAt g 0 q:=fun j v I=>by
 rw[zp6,h.cell,zpL];exact I
theorem za6(v:ByteArray):∀u∈xD v,u.oneCell'=true:=zt
theorem Li.left_at{x:Li}(h:zD w g t x.cells.toArray):w.rangeAt g 4 x.l.cells:=by
 have:=zdl (Gw (xs:=[.int .i8 x.k,.string x.a.p,.slice x.a.A x.a.args.length x.a.cap,.int .i8 x.rl]) h.range);exact this
theorem Li.zdH{x:Li}(h:zD w g t x.cells.toArray):w.rangeAt g 10 x.r.cells:=by
 have:=Gw (Gw (xs:=[.int .i8 x.k,.string x.a.p,.slice x.a.A x.a.args.length x.a.cap,.int .i8 x.rl]) h.range);rw[Ex.xG]at this;exact this
theorem Li.split(x:Li):x.cells=[.int .i8 x.k,.string x.a.p,.slice x.a.A x.a.args.length x.a.cap,.int .i8 x.rl]++(x.l.cells++x.r.cells):=rfl
theorem zii(w:World)(B:Option Addr)(cap:Nat)(body:List Li)(h:Bd w B body)(N:Nat)(hN:body.length=N):
 Calls prog 135 #[.slice B N cap] w (zfw (Found body) w):=by
 have q:=zhU w B cap body h N hN;have au:=h.len;rw[hN]at au;have aG:=zz q;have H:=zz h;have HN:=zz hN;clear h hN q;go_enter func135,ntmps135
 go_wp2_with (go_at_call 194;refine aG.o.mono ?_;rintro e w1⟨aM,am,A0,ax,m0,rfl,O,ar,ay,av⟩)
 go_loopg[3] (1048577-m0) (fun gk s3 X=>∃(R:Option Addr) (q m:Nat) (I:List ByteArray),gk=1048577-m/\s3=.slice R m q/\I.length=m/\Found body I/\Own xD 9 1 X R q I/\Bl w X/\∀g∈zw R,w.heap.size<=g)
 case atStart=>exact⟨A0,ax,m0,aM,rfl,rfl,O,am.found,ar,ay,av⟩
 case round=>
  obtain⟨R,q,m,I,rfl,rfl,V,L,ho,hB,Z⟩:=hrel;have aR:m<=1048576:=by rw[<-V];exact L.le H.o
  have Y:=zz V;have Hf:=zz L;have Ho:=zz ho;have HB:=zz hB;have Hg:=zz Z;clear V L ho hB Z am O ar ay av;go_wp2
  go_loopg[3,5] N (fun gk s3 s5 X=>∃(i:Nat) (R:Option Addr) (q U:Nat) (I:List ByteArray),i<=N/\gk=N-i/\s5=.int .i64 (i:Int)/\s3=.slice R U q/\m<=U/\I.length=U/\Found body I/\Own xD 9 1 X R q I/\Bl w X/\∀g∈zw R,w.heap.size<=g)
  case atStart=>exact⟨0,R,q,m,I,zpD _,rfl,rfl,rfl,zpx _,Y.o,Hf.o,Ho.o,HB.o,Hg.o⟩
  case round=>
   clear Y Hf Ho HB Hg;obtain⟨i,R,q,U,I,hi,rfl,rfl,rfl,ak,V,L,ho,hB,Z⟩:=hrel;have aO:U<=1048576:=by rw[<-V];exact L.le H.o
   have Y:=zz V;have Hf:=zz L;have Ho:=zz ho;have HB:=zz hB;have Hg:=zz Z;clear V L ho hB Z
   by_cases aF:i<N
   ·have aC:i<body.length:=by rw[HN.o];exact aF
    obtain⟨b,o,rfl,aP,L⟩:=(H.o.rd.below HB.o).at Li.Yn i aC;have O:=zpB aC;have aa:=(H.o.zN _ O).below HB.o;have X:=H.o.le O;generalize body[i]=x at L O aa X
    replace L:wr.rangeAt b (o+i*16) x.cells:=L
    have Hr:=zz L;clear L
    go_wp2_with (first
     |(refine xW 50 _ rfl ?_;refine wpList_load_mid rfl 50 _ rfl b (o+i*16) rfl x.cells _ Hr.o underlying50 rfl (q9 x) ?_)
     |(refine xy 50 _ _ rfl ?_;refine XP rfl 50 _ _ rfl _ x.cells rfl rfl ?z (q9 x) ?one ?_))
    case z=>rw[Li.xG];rfl
    case one=>exact x.Ys
    intro W5 L;have c0:W5.cell? ⟨wr.heap.size,0,none⟩=some (.int .i8 x.k):=L.b0.cell 0;have c3:W5.cell? ⟨wr.heap.size,3,none⟩=some (.int .i8 x.rl):=L.b0.cell 3;have ad:=zz (zl HB.o L.below);have V:=zz (Ho.o.below L.below);have aS:Kz (∀g∈zw R,g<W5.heap.size):=fun g Z=>by have:=Ho.o.lt g Z;have:=L.size;omega
    by_cases hk:x.k=3
    ·by_cases ab:x.rl=1
     ·have k3:(x.k != 3)=false:=by simp[hk]
      have k1:(x.rl != 1)=false:=by simp[ab]
      have HL:=zz (Li.left_at L.b0);have HR:=zz (Li.zdH L.b0);have aA:=zz L.b0;have ac:=fun W (Z:Bl W5 W)=>zce W x.l x.r (aa.r.below (zl L.below Z)) (by unfold Li.zO at X;simp only[zpA]at X;omega) R q I ((V.o.below Z).xI) U Y.o zd
      have ae:=fun W (Z:Bl W5 W)=>zce W x.r x.l (aa.l.below (zl L.below Z)) (by unfold Li.zO at X;simp only[zpA]at X;omega) R q I ((V.o.below Z).xI) U Y.o zd
      have ag:∀v,x.l.lone v/\v∉I/\(∀u∈x.r.vars,u∈I)->Found body (I++[v]):=fun v ⟨Z,h2,h3⟩=>Hf.o.push h2 (.left O hk ab Z fun u hu=>Hf.o.lim u (h3 u hu)) (To O (Li.qJ.2 (.inr (.inl ((Ex.Ul Z).2 rfl)))))
      have af:∀v,x.r.lone v/\v∉I/\(∀u∈x.l.vars,u∈I)->Found body (I++[v]):=fun v ⟨Z,h2,h3⟩=>Hf.o.push h2 (.right O hk ab Z fun u hu=>Hf.o.lim u (h3 u hu)) (To O (Li.qJ.2 (.inr (.inr ((Ex.Ul Z).2 rfl)))))
      have aJ:=zz ac;have aH:=zz ae;have aE:=zz ag;have aL:=zz af;have Z:=L.size;have aQ:=zz Z;clear ac ae ag af L aa X O hk ab Z
      go_wp2_with (first
       |(refine xW 48 _ rfl ?_;refine wpList_load_mid rfl 48 _ rfl wr.heap.size 4 rfl x.l.cells _ HL.o underlying48 rfl (GS x.l) ?_)
       |(refine xW 48 _ rfl ?_;refine wpList_load_mid rfl 48 _ rfl wr.heap.size 10 rfl x.r.cells _ HR.o underlying48 rfl (GS x.r) ?_)
       |(refine xW 48 _ rfl ?_;refine wpList_load_mid rfl 48 _ rfl wr.heap.size 4 rfl x.l.cells _ aK.o underlying48 rfl (GS x.l) ?_)
       |(refine xW 48 _ rfl ?_;refine wpList_load_mid rfl 48 _ rfl wr.heap.size 10 rfl x.r.cells _ aI.o underlying48 rfl (GS x.r) ?_)
       |(go_at_call 195;refine(aH.o _ ac.o).mono ?_;rintro e w8⟨v2,b2,rfl,az,aw⟩;have aN:=zz az;have aj:=zz (zl ac.o aw);clear az aw)
       |(go_at_call 195;refine(aJ.o _ (Below.refl _ _)).mono ?_;rintro e w7⟨v1,b1,rfl,aB,al⟩;have aD:=zz aB;have aK:=zz (Li.left_at (aA.o.below al));have aI:=zz (Li.zdH (aA.o.below al));have ac:=zz al;clear aB al)
       |(at_builtin;refine X9 rfl _ _ rfl Vh (f:=xD) (xs:=I) ((V.o.below aj.o).alloc _) Y.o v2 _ 0 1 rfl rfl rfl (yt _ _ _ rfl) (za6 v2) zd (zr) ?_)
       |(at_builtin;refine X9 rfl _ _ rfl Vh (f:=xD) (xs:=I) ((V.o.below ac.o).alloc _) Y.o v1 _ 0 1 rfl rfl rfl (yt _ _ _ rfl) (za6 v1) zd (zr) ?_))
      ·have ag:=aL.o v2 (aN.o ‹b2=true›);have an:=zz ag;clear ag;intro g ae w3 ai ah af;have ap:=zz ai;have Z:=zl ad.o aj.o;have ao:=zz ((((zh.refl (·∈zw R) w8).alloc _).trans ah (fun x hx _=>hx)).qt Z (zpx _) Hg.o);have aq:=zz (show w.heap.size<=g from by
        rcases af with h|h
        ·exact Hg.o g h
        ·have:=Z.size;omega)
       clear ai ah af Z;go_wp2
       go_roundg (N-(i+1))
       case measure=>omega
       case rel=>exact⟨i+1,_,ae,U+1,I++[v2],zd,rfl,ze,rfl,zd,by rw[zpA,Y.o];rfl,an.o,ap.o,ao.o,xY aq.o⟩
      ·go_roundg (N-(i+1))
       case measure=>omega
       case rel=>exact⟨i+1,R,q,U,I,zd,rfl,ze,rfl,ak,Y.o,Hf.o,V.o.below aj.o,zl ad.o aj.o,Hg.o⟩
      ·have ag:=aE.o v1 (aD.o ‹b1=true›);have an:=zz ag;clear ag;intro g ae w3 ai ah af;have ap:=zz ai;have Z:=zl ad.o ac.o;have ao:=zz ((((zh.refl (·∈zw R) w7).alloc _).trans ah (fun x hx _=>hx)).qt Z (zpx _) Hg.o);have aq:=zz (show w.heap.size<=g from by
        rcases af with h|h
        ·exact Hg.o g h
        ·have:=Z.size;omega)
       clear ai ah af Z;go_wp2
       go_roundg (N-(i+1))
       case measure=>omega
       case rel=>exact⟨i+1,_,ae,U+1,I++[v1],zd,rfl,ze,rfl,zd,by rw[zpA,Y.o];rfl,an.o,ap.o,ao.o,xY aq.o⟩
      ·go_roundg (N-(i+1))
       case measure=>omega
       case rel=>exact⟨i+1,R,q,U,I,zd,rfl,ze,rfl,ak,Y.o,Hf.o,V.o.below ac.o,zl ad.o ac.o,Hg.o⟩
     ·have k3:(x.k != 3)=false:=by simp[hk]
      have k1:(x.rl != 1)=true:=by simp[ab]
      clear hk ab L aa X O;go_wp2
      go_roundg (N-(i+1))
      case measure=>omega
      case rel=>exact⟨i+1,R,q,U,I,zd,rfl,ze,rfl,ak,Y.o,Hf.o,V.o,ad.o,Hg.o⟩
    ·have k3:(x.k != 3)=true:=by simp[hk]
     clear hk L aa X O;go_wp2
     go_roundg (N-(i+1))
     case measure=>omega
     case rel=>exact⟨i+1,R,q,U,I,zd,rfl,ze,rfl,ak,Y.o,Hf.o,V.o,ad.o,Hg.o⟩
   ·obtain rfl:i=N:=zd
    by_cases V:U=m
    ·subst V;go_wp2;go_returns;exact⟨I,Hf.o,R,q,U,rfl,Y.o,Ho.o,HB.o,Hg.o⟩
    ·have L:((U:Int)==(m:Int))=false:=beq_eq_false_iff_ne.2 zd;go_wp2
     go_roundg (1048577-U)
     case measure=>omega
     case rel=>exact⟨R,q,U,I,rfl,rfl,Y.o,Hf.o,Ho.o,HB.o,Hg.o⟩
theorem zmQ(w:World)(r:Ru)(Y:r.zN w)(hf:r.fits)(hb:r.zO.length<=1048576):Calls prog 73 #[.agg r.cells.toArray] w (Yf (r.ok/\∀v∈r.vars,yo r.body v) w):=by
 have I:Bd w r.B r.body:=⟨Y.rd,Y.y8,Y.body,by unfold Ru.zO at hb;rw[zpA]at hb;omega⟩;have Hc:=zz (fun W (L:Bl w W)=>zil W r (Y.below L) hf hb);have Hv:=zz (fun W (L:Bl w W)=>zbC W r (Y.below L) hb);have Hl:=zz (fun W (L:Bl w W)=>zii W r.B r.zM r.body (I.below L) _ rfl);have an:=zz (fun(Z:List ByteArray) (h:Found r.body Z)=>h.le I);have O:r.vars.length<=1048576:=by
  have:=Ux r.zO [];unfold Ru.vars;rw[zqd]at this;omega
 have ac:=zz O;clear Y hf hb I O;obtain⟨ok,I⟩:∃ok:Prop,r.ok=ok:=⟨_,rfl⟩;rw[I]at Hc ⊢;clear I;generalize r.vars=rv at Hv ac ⊢;obtain⟨p,B,zM,ai,C,ak,q⟩:=r;simp only[Ru.cells]at *;generalize ai.length=N at *;generalize q.length=N2 at *;obtain⟨W0,I,O⟩:=xi w 25 #[.string p,.slice B N zM,.slice C N2 ak];have HX:=zz O;have ao:=zz I;clear O I;go_enter func73,ntmps73
 go_wp2_with (go_at_call 133;refine(Hc.o _ (xq _ _)).mono ?_;rintro e w1⟨c1,rfl,k1,R⟩;rw[ao.o]at R;have HK:=zz (HX.o.b0.below R);have I:=zz (zl HX.o.below R);clear R)
 ·go_returns;exact Yf.no zr I.o
 ·have ar:c1=0:=by simpa using ‹(c1 != 0)=false›
  refine Vm [(0,0),(2,0),(3,0),(1,2),(4,2),(5,2),(6,0)] (fun W=>Bl w1 W) ?_;have H0:Kz (∀W,Bl w1 W->_):=fun W L=>zpG ((HK.o.below L).cell 0) (zpG ((HK.o.below L).cell 1) ((HK.o.below L).cell 2))
  try refine zQ ?_
  repeat refine zS H0.o ?_
  refine xf fun K U=>?_
  go_simp;refine(Hv.o _ (zl I.o (Below.refl _ _).drew)).mono ?_;rintro e w3⟨A3,aj,M3,rfl,X,O,aa,ab⟩;have V:=zz (show Bl w1 w3 from(Below.refl _ _).drew.trans aa);have ah:=zz X;have ap:=zz O;refine U.out _ _ V.o (fun _=>trivial) ?_;clear U K X O aa ab;try refine zQ ?_
  repeat refine zS H0.o ?_
  refine xf fun K U=>?_
  go_simp;refine(Hl.o _ (zl I.o V.o)).mono ?_;rintro e w4⟨Z,ab,A4,ae,M4,rfl,aa,af,X,am⟩;have O:Kz (Bl w1 w4):=zl V.o X;have ad:=zz aa;have aq:=zz af;have al:=zz (ap.o.below X).xI;have ag:=zz ab;refine U.out _ _ O.o (fun _=>trivial) ?_;clear U K aa af X am ab;try refine zQ ?_
  repeat refine zS H0.o ?_
  refine xf fun K U=>?_
  go_simp;refine(zfX w4 A3 aj rv al.o M3 ah.o (by have:=ah.o;have:=ac.o;omega) A4 ae Z aq.o.xI M4 ad.o (by have:=ad.o;have:=an.o Z ag.o;omega)).mono ?_;rintro e X⟨rfl,rfl⟩;refine U.out _ _ O.o (fun _=>trivial) ?_;clear U K;try refine zQ ?_
  repeat refine zS H0.o ?_
  refine xt ?_;go_wp2
  all_goals
   go_returns
   first
    |exact Yf.no zr (zl I.o O.o)
    |exact Yf.may (fun _=>⟨k1 ar,fun v U=>ag.o.lim v ((Zn.1 (by simpa using ‹(!tf (∀v∈rv,v∈Z))=false›):∀v∈rv,v∈Z) v U)⟩) (zl I.o O.o)
theorem zgH(w:World)(r:Ru)(hl:r.zN w)(hf:r.fits)(hb:r.zO.length<=1048576)(h:r.ok):Calls prog 60 #[.agg r.cells.toArray] w fun e q=>e=.returned (.int .i64 0)/\Bl w q:=by
 have HV:=zz (fun W (hW:Bl w W)=>zdI W r (hl.below hW) hb hf.2.2);have Hn:=zz (fun W=>zco W r.p h.name);have Ha:=zz (fun(a:Ar) (L:a∈r.head) W=>zhG W a (h.head a L));have Hx:=zz (fun(x:Li) (L:x∈r.body) W (hW:Bl w W)=>zgw W x ((hl.body x L).below hW) (h.body x L));have R:=h.vars;have Hh:=zz hl.head;have af:=zz hl.rd;have ae:=hl.XY;have ag:=hl.y8;have aa:=h.XY;have ab:=h.y8;clear hl hf hb h;generalize r.vars=rv at HV R;obtain⟨p,B,zM,q,C,L,I⟩:=r;simp only[Ru.cells]at *;obtain⟨N,O⟩:∃N,q.length=N:=⟨_,rfl⟩;rw[O]at ae HV aa ⊢;have HN:=zz O;clear O;obtain⟨Z,O⟩:∃N,I.length=N:=⟨_,rfl⟩;rw[O]at ag HV ab ⊢;have ai:=zz O;clear O;have aj:=zz R;clear R;obtain⟨W0,O,R⟩:=xi w 25 #[.string p,.slice B N zM,.slice C Z L];have Y:=zz R;have ak:=zz O;clear R O;go_enter func60,ntmps60
 go_wp2_with (go_at_call 110;refine(Hn.o _).mono ?_;rintro e w1⟨rfl,X⟩;rw[ak.o]at X;have c1:w1.cell? ⟨w.heap.size,1,none⟩=some (.slice B N zM):=(Y.o.b0.below X).cell 1;have c2:w1.cell? ⟨w.heap.size,2,none⟩=some (.slice C Z L):=(Y.o.b0.below X).cell 2)
 clear c2 c1
 go_loopg[4,27] N (fun gk R O wx=>∃i:Nat,i<=N/\gk=N-i/\O=.int .i64 (i:Int)/\Bl W0 wx)
 case atStart=>exact⟨0,zpD _,rfl,rfl,X⟩
 case round=>
  obtain⟨i,hi,rfl,rfl,hB⟩:=hrel;have c2:wr.cell? ⟨w.heap.size,2,none⟩=some (.slice C Z L):=(Y.o.b0.below hB).cell 2;have O:=zz hB;clear hB X
  by_cases ah:i<N
  ·have V:i<q.length:=by rw[HN.o];exact ah
   obtain⟨b,o,rfl,ac,R⟩:=(Hh.o.below (zl Y.o.below O.o)).at Ar.xG i V;have hk:=Ha.o _ (zpB V);generalize q[i]=t at R hk;obtain⟨g,⟨v,k,m,s⟩⟩:=t;simp only[Ar.cells,Tm.cells]at R hk
   replace R:wr.rangeAt b (o+i*5) _:=R
   obtain⟨d0,d1,d2,d3,d4⟩:=ZY R;have Hk:=zz hk;clear R hk
   go_wp2_with (go_at_call 111;refine(Hk.o _).mono ?_;rintro e w2⟨rfl,U⟩)
   go_roundg (N-(i+1))
   case measure=>omega
   case rel=>exact⟨i+1,zd,rfl,ze,zl O.o (yf U)⟩
  ·obtain rfl:i=N:=zd;go_wp2
   go_loopg[6,7,38] Z (fun gk s6 s7 ac wx=>∃j:Nat,j<=Z/\gk=Z-j/\ac=.int .i64 (j:Int)/\Bl W0 wx)
   case atStart=>exact⟨0,zpD _,rfl,rfl,O.o⟩
   case round=>
    clear c2 O;obtain⟨j,hj,rfl,rfl,hB⟩:=hrel;have O:=zz hB;clear hB
    by_cases ad:j<Z
    ·have V:j<I.length:=by rw[ai.o];exact ad
     obtain⟨b,o,rfl,hb,R⟩:=(af.o.below (zl Y.o.below O.o)).at Li.Yn j V;have hk:=fun W (hW:Bl wr W)=>Hx.o _ (zpB V) W (zl Y.o.below (zl O.o hW))
     generalize I[j]=x at R hk
     replace R:wr.rangeAt b (o+j*16) x.cells:=R
     have Hr:=zz R;have Hk:=zz hk;clear R hk
     go_wp2_with (first
      |(refine xW 50 _ rfl ?_;refine wpList_load_mid rfl 50 _ rfl b (o+j*16) rfl x.cells _ Hr.o underlying50 rfl (q9 x) ?_)
      |(refine xy 50 _ _ rfl ?_;refine XP rfl 50 _ _ rfl _ x.cells rfl rfl ?z (q9 x) ?one ?_))
     case z=>rw[Li.xG];rfl
     case one=>exact x.Ys
     intro W5 R;have al:=zz R.b0.range;have ac:=zz R.below;clear R
     go_wp2_with (first
      |(refine xW 50 _ rfl ?_;refine wpList_load_mid rfl 50 _ rfl wr.heap.size 0 rfl x.cells _ al.o underlying50 rfl (q9 x) ?_)
      |(go_at_call 112;refine(Hk.o _ ac.o).mono ?_;rintro e w2⟨rfl,U⟩))
     go_roundg (Z-(j+1))
     case measure=>omega
     case rel=>exact⟨j+1,zd,rfl,ze,zl O.o (zl ac.o U)⟩
    ·obtain rfl:j=Z:=zd;have c0:wr.cell? ⟨w.heap.size,0,none⟩=some (.string p):=(Y.o.b0.below O.o).cell 0;have c1:wr.cell? ⟨w.heap.size,1,none⟩=some (.slice B i zM):=(Y.o.b0.below O.o).cell 1;have c2:wr.cell? ⟨w.heap.size,2,none⟩=some (.slice C j L):=(Y.o.b0.below O.o).cell 2
     go_wp2_with (first
      |(go_at_call 63;refine(HV.o _ (zl Y.o.below O.o)).mono ?_;rintro e w2⟨A2,am,M2,rfl,V,an,U,ao⟩;have al:M2<=24:=(by rw[<-V];exact aj.o);have ac:decide ((M2:Int)<=24)=true:=zb)
      |(go_at_call 113;refine(JJ _).mono ?_;rintro e w3⟨rfl,R⟩))
     go_returns;exact⟨rfl,zl Y.o.below (zl O.o (zl U R))⟩
def znu(p:ByteArray)(q:List Tm)(w:World)(e:Ending)(w':World):Prop:=
 ∃A h n,e=.returned (.tuple #[.agg #[.string p,.slice A n h],.bool true])/\q.length=n/\Own Tm.cells 45 4 w' A h q/\Bl w w'/\(∀g∈zw A,w.heap.size<=g)
theorem zki(w:World)(r:Ru)(hl:r.zN w)(hb:r.head.length<=1048576)(h:∀a∈r.head,a.g=0):Calls prog 54 #[.agg r.cells.toArray] w (znu r.p (r.head.map (·.t)) w):=by
 have Hh:=zz hl.head;have H0:=zz h;have al:=hl.XY;clear hl h;obtain⟨p,B,zM,I,C,ah,ag⟩:=r;simp only[Ru.cells]at *;obtain⟨T,q⟩:∃T,I.map (·.t)=T:=⟨_,rfl⟩;have HT:Kz (∀i (h:i<I.length),∃L:i<T.length,T[i]=I[i].t):=fun i h=>by subst q;exact⟨by simpa using h,zp⟩
 have ad:=zz (show T.length=I.length by subst q;simp);rw[q];clear q;obtain⟨N,q⟩:∃N,I.length=N:=⟨_,rfl⟩;rw[q]at al hb ⊢;have HN:=zz q;clear q;generalize ag.length=N2;obtain⟨W2,q,L⟩:=Vj w 25 38 38 #[.string p,.slice B N zM,.slice C N2 ah] #[.string ⟨#[]⟩,.slice none 0 0] #[.string p,.slice none 0 0];have U:=zz L;have ak:=zz q;clear L q;go_enter func54,ntmps54;go_wp2;rw[ak.o]
 go_loopg[3,6,13] N (fun gk V W R O=>∃(i:Nat) (L:Option Addr) (q:Nat),i<=N/\gk=N-i/\V=.bool false/\R=.int .i64 (i:Int)/\
  zD O (w.heap.size+1) 38 #[.string ⟨#[]⟩,.slice none 0 0]/\zD O (w.heap.size+1+1) 38 #[.string p,.slice L i q]/\Own Tm.cells 45 4 O L q (T.take i)/\(∀g∈zw L,W2.heap.size<=g)/\Bl w O/\W2.heap.size<=O.heap.size)
 case atStart=>exact⟨0,none,0,zpD _,rfl,rfl,rfl,U.o.b1,U.o.b2,Own.qz _,fun g V=>by simp[zw]at V,U.o.below,zpx _⟩
 case round=>
  obtain⟨i,L,q,hi,rfl,rfl,rfl,Y,W,R,V,X,O⟩:=hrel;have K1:=zz Y;have K2:=zz W;have Ho:=zz R;have Z:=zz V;have HB:=zz X;have ac:=zz O;clear Y W R V X O
  by_cases ap:i<N
  ·have Y:i<I.length:=by rw[HN.o];exact ap
   obtain⟨b,o,rfl,X,R⟩:=Hh.o.at Ar.xG i Y;have R:=yB R HB.o X;obtain⟨qY,ab⟩:=HT.o i Y;have O:T.take (i+1)=T.take i++[I[i].t]:=by rw[zpC qY,ab]
   have aa:(T.take i).length=i:=by rw[zp3];omega
   have W:=H0.o _ (zpB Y);generalize I[i]=t at R O W;obtain⟨g5,⟨v,k,m,s⟩⟩:=t;simp only[Ar.cells,Tm.cells]at R O W;subst W
   replace R:wr.rangeAt b (o+i*5) _:=R
   obtain⟨d0,d1,d2,d3,d4⟩:=ZY R;have ar:=zz O;have ax:=zz aa;clear R O aa ab qY X;obtain⟨W3,R,O⟩:=xi wr 102 #[.int .i8 0,.string v,.int .i8 k,.int .i64 m,.string s];have av:=zz R;have ao:=zz (K1.o.below O.below);have aA:=zz (K2.o.below O.below);have aC:=zz (Ho.o.below O.below);have au:=zz (HB.o.trans (O.below.mono HB.o.size));have az:=zz O.size;have aD:=zz O.b0;have W:wr.cell? ⟨w.heap.size+1+1,1,none⟩=some (.slice L i q):=K2.o.cell 1;have aa:w.heap.size+1+1<wr.heap.size:=K2.o.lt;clear R O
   go_wp2_with (at_builtin;refine X9 rfl _ _ rfl Jz (f:=Tm.cells) (xs:=T.take i) ((Ho.o.alloc _).alloc _) ax.o ⟨v,k,m,s⟩ _ 0 1 rfl rfl rfl (yt _ _ _ zp) zt (zd) zr ?_)
   intro g ab w3 ai X ae;rw[av.o]at X;have am:w.heap.size+1∉zw L:=fun h=>by have:=Z.o _ h;have:=U.o.size;omega
   have aq:w.heap.size+1+1∉zw L:=fun h=>by have:=Z.o _ h;have:=U.o.size;omega
   have R:zh (fun g=>g∈zw L) W3 w3:=((zh.refl _ W3).alloc _).trans X (fun x hx _=>hx);have Zs:=ao.o.zC R am;have O:=aA.o.zC R aq;have an:W2.heap.size<=g:=by
    rcases ae with h|h
    ·exact Z.o g h
    ·have:=ac.o;omega
   have aB:=O.frozen 1;have e21:w3.cell? ⟨w.heap.size+1+1,1,none⟩=some (.slice L i q):=O.cell 1;have ay:=zz ai;have af:=zz R;have aw:=zz Zs;have aj:=zz O;clear ai X ae R Zs O W aa;go_wp2
   go_roundg (N-(i+1))
   case measure=>omega
   case rel=>
    have O:g≠w.heap.size+1+1:=by have:=U.o.size;omega
    refine⟨i+1,_,ab,zd,rfl,rfl,ze,aw.o.X4 zp _,aj.o.qI 1 _,by rw[ar.o];exact ay.o.same (xY (Below.heap_setCell _ _ _ _ O)),xY an,?_,?_⟩
    ·exact(af.o.qt au.o (zpx _) (fun x hx=>by have:=Z.o x hx;have:=U.o.size;omega)).setCell zb _
    ·have:=af.o.size;have:=ac.o;have:=az.o;simp[World.setCell];omega
  ·obtain rfl:i=N:=zd;have O:T.take i=T:=zpT (by rw[ad.o,HN.o];exact zpx _);rw[O]at Ho;clear O;have ae:wr.cell? ⟨w.heap.size+1+1,0,none⟩=some (.string p):=K2.o.cell 0;have W:wr.cell? ⟨w.heap.size+1+1,1,none⟩=some (.slice L i q):=K2.o.cell 1;have aa:=K1.o.frozen 0;have Y:=K1.o.frozen 1;have X:wr.cell? ⟨w.heap.size+1,0,none⟩=some (.string ⟨#[]⟩):=K1.o.cell 0;have ab:wr.cell? ⟨w.heap.size+1,1,none⟩=some (.slice none 0 0):=K1.o.cell 1;go_wp2;have kk:zD ((wr.setCell ⟨w.heap.size+1,0,none⟩ (.string p)).setCell ⟨w.heap.size+1,1,none⟩ (.slice L i q)) (w.heap.size+1) 38 #[.string p,.slice L i q]:=(K1.o.qI 0 _).qI 1 _;have R:Bl w ((wr.setCell ⟨w.heap.size+1,0,none⟩ (.string p)).setCell ⟨w.heap.size+1,1,none⟩ (.slice L i q)):=(HB.o.setCell zp _).setCell zp _;have O:Own Tm.cells 45 4 ((wr.setCell ⟨w.heap.size+1,0,none⟩ (.string p)).setCell ⟨w.heap.size+1,1,none⟩ (.slice L i q)) L q T:=Ho.o.same fun g V=>by
    have:=Z.o g V;have:=U.o.size;exact(Below.heap_setCell _ _ _ _ zb).trans (Below.heap_setCell _ _ _ _ zb)
   clear X ab aa Y ae W;generalize(wr.setCell ⟨w.heap.size+1,0,none⟩ (.string p)).setCell ⟨w.heap.size+1,1,none⟩ (.slice L i q)=W at kk R O ⊢;have X:W.cell? ⟨w.heap.size+1,0,none⟩=some (.string p):=kk.cell 0;have Y:W.cell? ⟨w.heap.size+1,1,none⟩=some (.slice L i q):=kk.cell 1;refine bodyPost_ret (v:=.tuple #[.agg #[.string p,.slice L i q],.bool true]) (by simp[results,results54,go_sem,X,Y]) rfl ?_;exact⟨L,q,i,rfl,by rw[ad.o,HN.o],O,R,fun g V=>by have:=Z.o g V;have:=U.o.size;omega⟩
open Classical in
noncomputable def Zr(vs:List ByteArray)(u:ByteArray):List ByteArray:=if u∈vs then vs else vs++[u]
noncomputable def grow(vs us:List ByteArray):List ByteArray:=us.foldl Zr vs
theorem JH{x:ByteArray}:x∈Zr vs u↔x∈vs\/x=u:=by
 unfold Zr;split
 ·rename_i h;exact⟨.inl,fun q=>q.elim id (fun e=>e▸h)⟩
 ·simp
theorem mem_grow:∀{us vs:List ByteArray}{x:ByteArray},x∈grow vs us↔x∈vs\/x∈us
 |[],vs,x=>by simp[grow]
 |u::us,vs,x=>by
  show x∈grow (Zr vs u) us↔_;rw[mem_grow,JH,zpU,or_assoc]
theorem zcH(vs:List ByteArray)(u:ByteArray):vs.length<=(Zr vs u).length/\(Zr vs u).length<=vs.length+1:=by
 unfold Zr;split<;>simp
theorem zau:∀(q h:List ByteArray),h.length<=(grow h q).length/\(grow h q).length<=h.length+q.length
 |[],h=>by simp[grow]
 |u::q,h=>by
  have L:=zcH h u;have I:=zau q (Zr h u);rw[zpV];show h.length<=(grow (Zr h u) q).length/\(grow (Zr h u) q).length<=_;omega
theorem zmO(vs us:List ByteArray)(i:Nat)(h:i<us.length):grow vs (us.take (i+1))=Zr (grow vs (us.take i)) us[i]:=by
 unfold grow;rw[zpC h,zqQ];rfl
structure Xp (n0:Nat) (w:World) (fb mb:Nat) (A:Option Addr) (cap:Nat) (f:Value->Option Value) (vs:List ByteArray) (n:Nat):Prop where
 len:vs.length=n
 r:zD w fb 230 #[.slice A n cap,.map (some mb)]
 m:xv prog 9 w mb f
 n:Vv vs f
 own:Own xD 9 1 w A cap vs
 ge:n0<=fb/\n0<=mb/\∀g∈zw A,n0<=g
theorem Xp.same(h:Xp L w I q A cap f vs n)(hw:∀g,(g=I\/g=q\/g∈zw A)->w'.heap[g]? = w.heap[g]?):Xp L w' I q A cap f vs n:=
 ⟨h.len,h.r.same (hw _ (.inl rfl)),h.m.same (hw _ (.inr (.inl rfl))),h.n,h.own.same (fun g N=>hw g (.inr (.inr N))),h.ge⟩
theorem Xp.lt(h:Xp N w I q A cap f vs n):∀g,(g=I\/g=q\/g∈zw A)->g<w.heap.size:=by
 rintro g (rfl|rfl|L)
 ·exact h.r.lt
 ·exact h.m.lt
 ·exact h.own.lt g L
theorem Xp.below(h:Xp L w I q A cap f vs n)(N:Bl w w'):Xp L w' I q A cap f vs n:=
 h.same fun g O=>N.block g (h.lt g O)
def V8(L:Nat)(w:World)(I:Nat)(vs:List ByteArray):Prop:=∃q A h f n,Xp L w I q A h f vs n
theorem V8.below(h:V8 L w I vs)(O:Bl w w'):V8 L w' I vs:=by
 obtain⟨N,A,q,f,n,h⟩:=h;exact⟨N,A,q,f,n,h.below O⟩
def VT(P:Prop)(w:World)(e:Ending)(w':World):Prop:=∃b,e=.returned (.bool b)/\(b=true↔P)/\Bl w w'
theorem VT.may{P:Prop}{b:Bool}(h:b=true↔P)(q:Bl w w'):VT P w (.returned (.bool b)) w':=⟨b,rfl,h,q⟩
theorem zaz(V:Nat)(w:World)(R:Nat)(vs:List ByteArray)(s:ByteArray)(h:V8 V w R vs)(W:s.size<=maxLen):Calls prog 120 #[.pointer (some ⟨R,0,none⟩),.string s] w (VT (s∈vs) w):=by
 obtain⟨X,A,U,f,n,h⟩:=h;have I:=ye W;have L:=fun c=>h.m.look q8 underlying219 (z:=.int .i64 0) zo I c
 have q:=L false;simp only[zqw,if_false]at q;have c1:=h.r.cell 1
 by_cases N:s∈vs
 ·obtain⟨j,O,-⟩:=h.n.yes s N;rw[O]at q;clear h I L O;go_enter func120,ntmps120;go_wp2;go_returns;exact VT.may ⟨fun _=>N,fun _=>zp⟩ (Below.refl _ _)
 ·rw[h.n.no s N]at q;clear h I L;go_enter func120,ntmps120;go_wp2;go_returns;exact VT.may ⟨fun h=>(by simp at h),fun h=>(N h).elim⟩ (Below.refl _ _)
theorem znV(n0:Nat)(w:World)(V:Nat)(vs:List ByteArray)(B:Option Addr)(zM n:Nat)(us:List ByteArray)(hn:us.length=n)(h:V8 n0 w V vs)(hl:zZ xD w B us)(hs:∀u∈us,u.size<=maxLen)(hb:n<=4194304):Calls prog 62 #[.pointer (some ⟨V,0,none⟩),.slice B n zM] w (VT (∀u∈us,u∈vs) w):=by
 have Hn:=zz hn;have Hl:=zz hl;have Hh:=zz (fun W (q:Bl w W) u (I:u∈us)=>zaz n0 W V vs u (h.below q) (hs u I));clear hn hl hs h;go_enter func62,ntmps62;go_wp2
 go_loopg[6,9] n (fun gk N q L=>∃i:Nat,i<=n/\gk=n-i/\q=.int .i64 (i:Int)/\(∀u∈us.take i,u∈vs)/\Bl w L)
 case atStart=>exact⟨0,zpD _,rfl,rfl,fun u I=>(by simp at I),Below.refl _ _⟩
 case round=>
  obtain⟨i,hi,rfl,rfl,q,N⟩:=hrel;have Ha:=zz q;have L:=zz N;clear q N
  by_cases U:i<n
  ·have q:i<us.length:=by rw[Hn.o];exact U
   obtain⟨b,o,rfl,aa,hr⟩:=(Hl.o.below L.o).at (c:=0) (fun _=>rfl) i q;have Z:=hr 0 _ rfl;have Hk:=zz (Hh.o wr L.o us[i] (zpB q));have X:Kz (∀u∈us.take (i+1),u∈us.take i\/u=us[i]):=fun u I=>by rw[zpC q,zpE,zpy]at I;exact I
   have Hm:=zz (zpB q);generalize us[i]=u at Z Hk X Hm;simp only[zqI,zqk,zp6]at Z
   go_wp2_with (go_at_call 120;refine Hk.o.mono ?_;rintro e w1⟨O,rfl,Y,N⟩)
   ·go_returns;have R:O=false:=by simpa using ‹(!O)=true›
    exact VT.may ⟨fun h=>(by cases h),fun h=>(by rw[Y.2 (h u Hm.o)]at R;cases R)⟩ (zl L.o N)
   ·have R:O=true:=by simpa using ‹(!O)=false›
    go_roundg (n-(i+1))
    case measure=>omega
    case rel=>exact⟨i+1,zd,rfl,ze,fun x hx=>(X.o x hx).elim (Ha.o x) (fun e=>e▸Y.1 R),zl L.o N⟩
  ·obtain rfl:i=n:=zd;go_wp2;go_returns;exact VT.may ⟨fun _ u I=>Ha.o u (by rw[<-Hn.o,zp5];exact I),fun _=>rfl⟩ L.o
def YT(h q:Nat)(A:Option Addr)(g:Nat):Prop:=g=h\/g=q\/g∈zw A
def zjb(R I q:Nat)(A:Option Addr)(vs:List ByteArray)(w:World)(e:Ending)(w':World):Prop:=
 e=.returned (.tuple #[])/\∃L h O N,Xp R w' I q L h O vs N/\zh (YT I q A) w w'/\(∀g∈zw L,g∈zw A\/w.heap.size<=g)
theorem T6(n0:Nat)(w:World)(N R:Nat)(A:Option Addr)(cap:Nat)(f:Value->Option Value)(vs:List ByteArray)(m:Nat)(av:n0<=w.heap.size)(h:Xp n0 w N R A cap f vs m)(B:Option Addr)(zM n:Nat)(us:List ByteArray)(hn:us.length=n)(hl:∀W,zh (YT N R A) w W->zZ xD W B us)(hs:∀u∈us,u.size<=maxLen)(hb:m+n<=4194304):
 Calls prog 114 #[.pointer (some ⟨N,0,none⟩),.slice B n zM] w (zjb n0 N R A (grow vs us) w):=by
 have Hn:=zz hn;have Hl:=zz hl;have Hs:=zz hs;have ar:Kz (∀i,(grow vs (us.take i)).length<=m+i):=fun i=>by have:=(zau (us.take i) vs).2;rw[h.len,zp3]at this;omega
 have H:=zz h;clear hn hl hs h;go_enter func114,ntmps114;go_wp2
 go_loopg[5,8] n (fun gk U I q=>∃(i:Nat) (Y:Option Addr) (L:Nat) (f':Value->Option Value) (O:Nat),i<=n/\gk=n-i/\I=.int .i64 (i:Int)/\Xp n0 q N R Y L f' (grow vs (us.take i)) O/\zh (YT N R A) w q/\(∀g∈zw Y,g∈zw A\/w.heap.size<=g))
 case atStart=>exact⟨0,A,cap,f,m,zpD _,rfl,rfl,H.o,zh.refl _ _,fun g q=>.inl q⟩
 case round=>
  obtain⟨i,Y,L,f',O,hi,rfl,rfl,hF,I,q⟩:=hrel;have V:=zz hF;have HC:=zz I;have Hg:=zz q;clear hF I q
  by_cases ai:i<n
  ·have af:i<us.length:=by rw[Hn.o];exact ai
   obtain⟨b,o,rfl,au,I⟩:=(Hl.o _ HC.o).at (c:=0) (fun _=>rfl) i af;have c0:=I 0 _ rfl;have q:=Hs.o _ (zpB af);have Hk:=zz (zaz n0 wr N (grow vs (us.take i)) us[i] ⟨R,Y,L,f',O,V.o⟩ q);have aa:=zz (zmO vs us i af);have ae:=zz (ye q);have aw:O<=m+i:=by have:=ar.o i;rw[V.o.len]at this;exact this
   generalize us[i]=u at c0 Hk aa ae;generalize grow vs (us.take i)=vi at V Hk aa;simp only[zqI,zqk,zp6]at c0;clear I q
   go_wp2_with (first
    |(at_builtin;refine ZP Vh (f:=xD) (xs:=vi) ((I.o.own).alloc _) I.o.len u ?_)
    |(go_at_call 120;refine Hk.o.mono ?_;rintro e w1⟨b1,rfl,h1,ac⟩;have I:=zz (V.o.below ac);have ab:=zz ac;have H1:=zz h1;have c1:w1.cell? ⟨N,0,none⟩=some (.slice Y O L):=(V.o.below ac).r.cell 0;clear h1 ac))
   ·intro g q w3 am al aj;have hu:u∉vi:=fun U=>by
     have:=H1.o.2 U;subst this;have U:(!true)=true:=‹_›
     cases U
    have ak:=I.o.own.yD I.o.r zr;have ag:=I.o.own.qU I.o.m;have Z:N≠R:=I.o.r.qU I.o.m;have ad:zh (fun x=>x∈zw Y) w1 w3:=((zh.refl _ w1).alloc _).trans al (fun x U _=>U);have kr:=I.o.r.zC ad ak;have cl:=kr.cell 0;have fl:=kr.frozen 0;have X:g∈zw Y\/w1.heap.size<=g:=aj.imp id (fun h=>zd);have aq:g≠N:=fun e=>by
     rcases X with h|h
     ·exact ak (e▸h)
     ·have:=I.o.r.lt;omega
    have ap:g≠R:=fun e=>by
     rcases X with h|h
     ·exact ag (e▸h)
     ·have:=I.o.m.lt;omega
    have an:=zz am;have ao:=zz ad;have Kr:=zz kr;have ah:=zz X;clear ad kr al aj am X;go_wp2;have ad:zh (fun x=>x=N\/x∈zw Y) w1 (w3.setCell ⟨N,0,none⟩ (.slice (some ⟨g,0,none⟩) (O+1) q)):=(ao.o.mono (fun x U _=>.inr U)).setCell (fun _=>.inl rfl) _;have k4:=Kr.o.qI 0 (.slice (some ⟨g,0,none⟩) (O+1) q);have m4:=I.o.m.zC ad (fun h=>by rcases h with h|h;exact Z h.symm;exact ag h);have X:Own xD 9 1 (w3.setCell ⟨N,0,none⟩ (.slice (some ⟨g,0,none⟩) (O+1) q)) (some ⟨g,0,none⟩) q (vi++[u]):=an.o.same (xY (Below.heap_setCell _ _ _ _ aq));clear cl fl;generalize w3.setCell ⟨N,0,none⟩ (.slice (some ⟨g,0,none⟩) (O+1) q)=w5 at ad k4 m4 X ⊢
    replace k4:zD w5 N 230 #[.slice (some ⟨g,0,none⟩) (O+1) q,.map (some R)]:=k4
    have H5:Kz (∀W,zh (fun x=>x=R) w5 W->_):=fun W hW=>zpG (show W.cell? ⟨N,0,none⟩=some (.slice (some ⟨g,0,none⟩) (O+1) q)from(k4.zC hW Z).cell 0) (show W.cell? ⟨N,1,none⟩=some (.map (some R))from(k4.zC hW Z).cell 1)
    have M5:=zz m4;have K5:=zz k4;have O5:=zz X;have C5:=zz ad;clear k4 m4 X ad;refine xX [0,0,0,0,0,0,0,0,0,0,2] (fun W=>zh (fun x=>x=R) w5 W) ?_
    repeat refine zS H5.o ?_
    refine xf fun K hK=>?_
    refine Zy _ _ _ rfl (M5.o.same (w':=w5.drew) rfl) q8 underlying219 rfl (.string u) (.int .i64 ((O:Int)+1)) _ rfl rfl ae.o ?_;intro w6 m6 t6;have X:zh (fun x=>x=R) w5 w6:=((zh.refl _ w5).drew).yu t6 (fun _=>rfl);refine hK.out _ _ X (fun _=>trivial) ?_;clear hK K;refine xt ?_;have ad:Xp n0 w6 N R (some ⟨g,0,none⟩) q (yp f' (.string u) (.int .i64 ((O:Int)+1))) (vi++[u]) (O+1):=⟨by rw[zpA,V.o.len];rfl,K5.o.zC X Z,m6,by rw[<-V.o.len];exact V.o.n.push u,O5.o.zC X (xY ap),V.o.ge.1,V.o.ge.2.1,xY (by
     rcases ah.o with h|h
     ·exact V.o.ge.2.2 g h
     ·have:=HC.o.size;have:=ab.o.size;omega)⟩
    have al:zh (YT N R A) w w6:=(HC.o.trans (zh.xj (fun _=>False) ab.o) (fun x U _=>U.elim)).trans ((C5.o.mono (S':=YT N R Y) (fun x U _=>by rcases U with h|h;exact .inl h;exact .inr (.inr h))).trans X (fun x U _=>.inr (.inl U))) (fun x U ai=>by
     rcases U with h|h|h
     ·exact .inl h
     ·exact .inr (.inl h)
     ·rcases Hg.o x h with h|h
      ·exact .inr (.inr h)
      ·omega)
    have aj:=zz ad;have am:=zz al;clear ad al;go_wp2
    go_roundg (n-(i+1))
    case measure=>omega
    case rel=>
     have e:grow vs (us.take (i+1))=vi++[u]:=by rw[aa.o];exact if_neg hu
     refine⟨i+1,some ⟨g,0,none⟩,q,_,O+1,zd,rfl,ze,by rw[e];exact aj.o,am.o,xY ?_⟩
     rcases ah.o with h|h
     ·exact Hg.o g h
     ·right;have:=HC.o.size;have:=ab.o.size;omega
   ·have hu:u∈vi:=H1.o.1 (by simpa using ‹(!b1)=false›)
    go_roundg (n-(i+1))
    case measure=>omega
    case rel=>
     have e:grow vs (us.take (i+1))=vi:=by rw[aa.o];exact if_pos hu
     exact⟨i+1,Y,L,f',O,zd,rfl,ze,by rw[e];exact I.o,HC.o.trans (zh.xj (fun _=>False) ab.o) (fun x U _=>U.elim),Hg.o⟩
  ·obtain rfl:i=n:=zd;have q:us.take i=us:=by rw[<-Hn.o,zp5]
   rw[q]at V;go_wp2;go_returns;exact⟨rfl,Y,L,f',O,V.o,HC.o,Hg.o⟩
open Classical in
noncomputable def Ex.Xy:Ex->ByteArray
 |.mk q t _ _ h=>if q=0/\h=[]/\t.v.toList≠[95]then t.v else⟨#[]⟩
theorem Ex.zfR{e:Ex}(h:e.lone v):e.Xy=v/\v.toList≠[]:=by
 obtain⟨q,t,A,U,I⟩:=e;obtain⟨R,O,N,L⟩:=h;exact⟨by rw[Ex.Xy,if_pos ⟨R,O,by rw[N];exact L.2⟩];exact N,L.1⟩
theorem Ex.zkU{e:Ex}(h:e.Xy.toList≠[]):e.lone e.Xy:=by
 obtain⟨q,t,A,N,L⟩:=e;simp only[Ex.Xy]at h ⊢;split at h
 ·rename_i I;rw[if_pos I];exact⟨I.1,I.2.1,rfl,h,I.2.2⟩
 ·rename_i I;exact(h zp).elim
theorem zfC(w:World)(x:Ex):Calls prog 116 #[.agg x.cells.toArray] w fun e h=>e=.returned (.string x.Xy)/\Bl w h:=by
 obtain⟨q,⟨v,k,n,s⟩,A,L,I⟩:=x;obtain⟨N,h⟩:∃N,I.length=N:=⟨_,rfl⟩;have O:Ex.Xy (.mk q ⟨v,k,n,s⟩ A L I)=if q=0/\N=0/\v.toList≠[95]then v else⟨#[]⟩:=by
  unfold Ex.Xy;subst h;simp only[List.length_eq_zero_iff]
 rw[O];simp only[Ex.cells];rw[h];clear h O;obtain⟨R,h⟩:∃R,(if q=0/\N=0/\v.toList≠[95]then v else⟨#[]⟩)=R:=⟨_,rfl⟩;rw[h];have O:=zz h;clear h;go_enter func116,ntmps116;go_wp2
 all_goals
  go_returns;refine⟨?_,xq w _⟩;have h:=O.o
  first
   |(rw[if_pos ⟨za,zd,by have:=‹(v.toList==([95]:List UInt8))=false›;simpa using this⟩]at h;subst h;rfl)
   |(rw[if_neg (by have:(v.toList==([95]:List UInt8))=true:=‹_›;simp at this;simp[this])]at h;subst h;rfl)
   |(rw[if_neg zd]at h;subst h;rfl)
structure qC where
 l:ByteArray
 r:ByteArray
 A:Option Addr
 qM:Nat
 vl:List ByteArray
 B:Option Addr
 zM:Nat
 vr:List ByteArray
abbrev qC.cells(e:qC):List Value:=[.string e.l,.string e.r,.slice e.A e.vl.length e.qM,.slice e.B e.vr.length e.zM]
def qC.zH(e:qC)(g:Nat):Prop:=g∈zw e.A\/g∈zw e.B
structure qC.zN (e:qC) (w:World):Prop where
 a:Own xD 9 1 w e.A e.qM e.vl
 b:Own xD 9 1 w e.B e.zM e.vr
structure qC.ok (e:qC):Prop where
 l:e.l.size<=maxLen
 r:e.r.size<=maxLen
 vl:∀u∈e.vl,u.size<=maxLen
 vr:∀u∈e.vr,u.size<=maxLen
 nl:e.vl.length<=1048576
 nr:e.vr.length<=1048576
 ll:e.l.toList≠[]->e.l∈e.vl
 rr:e.r.toList≠[]->e.r∈e.vr
def qC.shut(e:qC)(vs:List ByteArray):Prop:=(e.l.toList≠[]->(∀u∈e.vr,u∈vs)->e.l∈vs)/\(e.r.toList≠[]->(∀u∈e.vl,u∈vs)->e.r∈vs)
def qC.done(e:qC)(vs:List ByteArray):Prop:=(e.l.toList≠[]->e.l∈vs)/\(e.r.toList≠[]->e.r∈vs)
theorem qC.zN.zC{e:qC}{S:Nat->Prop}(h:e.zN w)(I:zh S w w')(L:∀g,e.zH g->¬S g):e.zN w':=⟨h.a.zC I fun g q=>L g (.inl q),h.b.zC I fun g q=>L g (.inr q)⟩
theorem qC.zN.lt{e:qC}(h:e.zN w):∀g,e.zH g->g<w.heap.size:=by
 rintro g (q|q)
 ·exact h.a.lt g q
 ·exact h.b.lt g q
def zbh(V N L:Nat)(A:Option Addr)(vs:List ByteArray)(q:qC)(w:World)(e:Ending)(w':World):Prop:=
 ∃b h O I U R,e=.returned (.bool b)/\Xp V w' N L O I U h R/\(∀u∈vs,u∈h)/\h.length<=vs.length+1/\(b=false->h=vs/\q.shut vs)/\(b=true->q.done h)/\zh (YT N L A) w w'/\(∀g∈zw O,g∈zw A\/w.heap.size<=g)
theorem zet{q:qC}{o:Obj}{A':Option Addr}{V:Value->Option Value}(R:Bl w W)(hF:Xp U w' L I A' cap' V (grow vs [u]) O)(Y:zh (YT L I A) (W.alloc o) w')(Z:∀g∈zw A',g∈zw A\/(W.alloc o).heap.size<=g)(X:q.done (Zr vs u)):zbh U L I A vs q w (.returned (.bool true)) w':=
 ⟨true,_,A',cap',V,O,rfl,hF,fun x N=>JH.2 (.inl N),(zcH vs u).2,fun h=>(by cases h),fun _=>X,
  ((zh.xj (YT L I A) R).alloc o).trans Y (fun x N _=>N),fun g h=>(Z g h).imp id (fun h=>by have:=R.size;simp at h;omega)⟩
theorem zc2{q:qC}(L:Bl w W)(hF:Xp O w N I A cap f vs n)(R:q.shut vs):zbh O N I A vs q w (.returned (.bool false)) W:=
 ⟨false,vs,A,cap,f,n,rfl,hF.below L,fun x U=>U,zqG _,fun _=>⟨rfl,R⟩,fun h=>(by cases h),zh.xj _ L,fun g h=>.inl h⟩
theorem znS(n0:Nat)(w:World)(fb mb:Nat)(A:Option Addr)(cap:Nat)(f:Value->Option Value)(vs:List ByteArray)(m:Nat)(aq:n0<=w.heap.size)(h:Xp n0 w fb mb A cap f vs m)(q:qC)(hq:q.zN w)(L:q.ok)(hb:m<=2097152):
 Calls prog 119 #[.pointer (some ⟨fb,0,none⟩),.agg q.cells.toArray] w (zbh n0 fb mb A vs q w):=by
 have ae:=zz (fun u (U:u.size<=maxLen) W (I:Bl w W)=>zaz n0 W fb vs u ⟨mb,A,cap,f,m,h.below I⟩ U);have ac:=zz (fun(B:Option Addr) (zM n:Nat) (O:List ByteArray) (R:(B=q.A/\zM=q.qM/\O=q.vl)\/(B=q.B/\zM=q.zM/\O=q.vr)) (hn:O.length=n) W (I:Bl w W)=>znV n0 W fb vs B zM n O hn ⟨mb,A,cap,f,m,h.below I⟩ (by
  rcases R with⟨rfl,rfl,rfl⟩ |⟨rfl,rfl,rfl⟩
  ·exact hq.a.xI.below I
  ·exact hq.b.xI.below I) (by
  rcases R with⟨rfl,rfl,rfl⟩ |⟨rfl,rfl,rfl⟩
  ·exact L.vl
  ·exact L.vr) (by
  rcases R with⟨rfl,rfl,rfl⟩ |⟨rfl,rfl,rfl⟩
  ·have:=L.nl;omega
  ·have:=L.nr;omega))
 have ad:=zz (fun u (U:u.size<=maxLen) W (I:Bl w W)=>T6 n0 (W.alloc (.cells #[.string u] 9)) fb mb A cap f vs m (by have:=I.size;simp;omega) (h.below (I.trans ((xq W _).mono I.size))) (some ⟨W.heap.size,0,none⟩) 1 1 [u] rfl
  (fun X O _=>⟨W.heap.size,0,rfl,by have:=O.size;simp at this;omega,UE (ZK W [.string u] _) zp O (fun V=>by have:=h.lt _ V;have:=I.size;omega)⟩) (fun x R=>by rw[zpy.1 R];exact U) zd)
 have O:=zz L;have H:=zz h;clear h hq L;obtain⟨l,r,A1,af,vl,B1,al,vr⟩:=q;simp only[qC.cells]at *;obtain⟨N1,R⟩:∃N,vl.length=N:=⟨_,rfl⟩;obtain⟨N2,I⟩:∃N,vr.length=N:=⟨_,rfl⟩;rw[R,I];have ao:=zz R;have an:=zz I;clear R I;obtain⟨W0,R,U⟩:=xi w 239 #[.string l,.string r,.slice A1 N1 af,.slice B1 N2 al];have ak:=zz R;have X:=zz U;have I:=zz (Below.refl W0.heap.size W0);clear U R;go_enter func119,ntmps119
 go_wp2_with (first
  |(go_at_call 120;(first|rw[ak.o]|skip);refine(ae.o _ (by first|exact O.o.l|exact O.o.r) _ (zl X.o.below I.o)).mono ?_;rintro e w1⟨b1,rfl,h1,V⟩;replace V:=zl I.o V;clear I;have I:=zz V;have U:=X.o.b0.below V;have c0:=U.cell 0;have c1:=U.cell 1;have c2:=U.cell 2;have c3:=U.cell 3;have ar:=zz h1;clear h1 V U)
  |(go_at_call 62;refine(ac.o _ _ _ _ (by first|exact .inl ⟨rfl,rfl,rfl⟩|exact .inr ⟨rfl,rfl,rfl⟩) (by first|exact ao.o|exact an.o) _ (zl X.o.below I.o)).mono ?_;rintro e w2⟨b2,rfl,h2,R⟩;replace R:=zl I.o R;clear I;have I:=zz R;have U:=X.o.b0.below R;have c0:=U.cell 0;have c1:=U.cell 1;have c2:=U.cell 2;have c3:=U.cell 3;have ai:=zz h2;clear h2 R U)
  |(go_at_call 114;refine(ad.o _ (by first|exact O.o.l|exact O.o.r) _ (zl X.o.below I.o)).mono ?_;rintro e w5⟨rfl,A5,ap,f5,n5,aa,aj,am⟩;have ah:=zz aa;have ag:=zz aj;have ab:=zz am;clear aa aj am))
 all_goals
  go_returns
  first
   |exact zet (zl X.o.below I.o) ah.o ag.o ab.o ⟨fun _=>JH.2 (.inr rfl),fun Y=>JH.2 (.inl (ai.o.1 za _ (O.o.rr Y)))⟩
   |exact zet (zl X.o.below I.o) ah.o ag.o ab.o ⟨fun Y=>JH.2 (.inl (ai.o.1 za _ (O.o.ll Y))),fun _=>JH.2 (.inr rfl)⟩
   |(
    rw[ak.o];refine zc2 (zl X.o.below I.o) H.o ⟨fun Y Z=>?_,fun Y Z=>?_⟩
    all_goals first
     |exact(Y (List.isEmpty_iff.1 za)).elim
     |exact(‹Kz (_=true↔l∈vs)›.out.1 za)
     |exact(‹Kz (_=true↔r∈vs)›.out.1 za)
     |exact nomatch (‹Kz (_=true↔∀u,u∈vr->u∈vs)›.out.2 Z).symm.trans (by assumption:_=false)
     |exact nomatch (‹Kz (_=true↔∀u,u∈vl->u∈vs)›.out.2 Z).symm.trans (by assumption:_=false))
   |(
    refine zc2 (zl X.o.below I.o) H.o ⟨fun Y Z=>?_,fun Y Z=>?_⟩
    all_goals first
     |exact(Y (List.isEmpty_iff.1 za)).elim
     |exact(‹Kz (_=true↔l∈vs)›.out.1 za)
     |exact(‹Kz (_=true↔r∈vs)›.out.1 za)
     |exact nomatch (‹Kz (_=true↔∀u,u∈vr->u∈vs)›.out.2 Z).symm.trans (by assumption:_=false)
     |exact nomatch (‹Kz (_=true↔∀u,u∈vl->u∈vs)›.out.2 Z).symm.trans (by assumption:_=false))
theorem Own.ZU{α β:Type}{f:α->List Value}{f':β->List Value}{e W:TypeId}{size:Nat}{xs:List α}{ys:List β}(h:Own f e size w A cap xs)(k:Own f' W N w B cap' ys)(R:e≠W):∀g∈zw A,g∉zw B:=by
 intro g U q
 rcases h.2 with⟨V,_⟩ |⟨g0,c0,Y,V,_,Z,_⟩
 ·injection V with L;subst L;simp[zw]at U
 ·injection V with L;subst L
  rcases k.2 with⟨I,_⟩ |⟨g1,c1,X,I,_,O,_⟩
  ·injection I with L;subst L;simp[zw]at q
  ·injection I with L;subst L
   simp[zw]at U q;subst U q;rw[Z]at O;injection O with k
   injection k with _ k
   exact R k
theorem zbM:qB prog 231 239 4 80:=qB.of (z:=.agg #[.string ⟨#[]⟩,.string ⟨#[]⟩,.slice none 0 0,.slice none 0 0]) underlying231 zo rfl zr
abbrev zjK(h:Nat):Value:=.func (.func 119) #[.pointer (some ⟨h,0,none⟩)] #[]
structure ZW (n0:Nat) (w:World) (rb fb mb:Nat) (R:Option Addr) (capR:Nat) (es:List qC) (nr:Nat) (A:Option Addr) (cap:Nat) (f:Value->Option Value) (vs:List ByteArray) (n:Nat):Prop where
 len:es.length=nr
 r:zD w rb 233 #[.slice R nr capR]
 own:Own qC.cells 239 4 w R capR es
 yU:Xp n0 w fb mb A cap f vs n
 zN:∀e∈es,e.zN w
 ok:∀e∈es,e.ok
 apart:∀e∈es,∀g,e.zH g->¬YT fb mb A g
 ge:n0<=rb/\∀g∈zw R,n0<=g
theorem Xp.Gq(h:Xp U w N L A cap f vs n){K:Option Addr}{R:List qC}(k:Own qC.cells 239 4 w K q R):∀g∈zw K,¬YT N L A g:=by
 rintro g I (rfl|rfl|O)
 ·exact k.yD h.r zr I
 ·exact k.qU h.m I
 ·exact k.ZU h.own zr g I O
theorem Xp.GX{R:Nat}(h:Xp R w L q A cap f vs n){O:Array Value}(k:zD w I 233 O):¬YT L q A I:=by
 rintro(e|e|N)
 ·exact k.yK h.r zr e
 ·exact k.qU h.m e
 ·exact h.own.yD k zr N
structure Rnd (n0:Nat) (w wx:World) (fb mb:Nat) (A:Option Addr) (es:List qC) (vs:List ByteArray) (i:Nat) (K:Option Addr) (capK:Nat) (ks:List qC) (nk:Nat) (A':Option Addr) (cap':Nat) (f':Value->Option Value) (vs':List ByteArray) (n':Nat):Prop where
 len:ks.length=nk
 own:Own qC.cells 239 4 wx K capK ks
 new:∀g∈zw K,w.heap.size<=g
 yU:Xp n0 wx fb mb A' cap' f' vs' n'
 Un:∀g∈zw A',g∈zw A\/w.heap.size<=g
 zC:zh (YT fb mb A) w wx
 sub:∀e∈ks,e∈es
 grow:∀u∈vs,u∈vs'
 all:∀e∈es.take i,e∈ks\/e.done vs'
 le:nk<=i
 still:nk=i->vs'=vs/\∀e∈ks,e.shut vs
 sum:vs'.length+nk<=vs.length+i
theorem qC.done.mono{e:qC}{q:List ByteArray}(h:e.done vs)(I:∀u∈vs,u∈q):e.done q:=⟨fun x=>I _ (h.1 x),fun x=>I _ (h.2 x)⟩
def zn8(O W Y:Nat)(es:List qC)(vs:List ByteArray)(w:World)(e:Ending)(w':World):Prop:=
 ∃b U Z I h N V L X q R,e=.returned (.bool b)/\ZW O w' W Y U Z I h N V L X q R/\(∀u∈vs,u∈q)/\(∀e∈es,e∈h\/e.done q)/\(b=true->h.length<es.length)/\(b=false->∀e∈h,e.shut q)/\q.length+h.length<=vs.length+es.length/\Below O w w'
theorem zkk(n0:Nat)(w:World)(rb fb mb:Nat)(R:Option Addr)(ay:Nat)(es:List qC)(nr:Nat)(A:Option Addr)(cap:Nat)(f:Value->Option Value)(vs:List ByteArray)(n:Nat)(aG:n0<=w.heap.size)(h:ZW n0 w rb fb mb R ay es nr A cap f vs n)(hb:vs.length+nr<=2097152):
 Calls prog 118 #[.pointer (some ⟨rb,0,none⟩),zjK fb] w (zn8 n0 rb fb es vs w):=by
 have H:=zz h;have I:=h.r.cell 0;clear h;go_enter func118,ntmps118;go_wp2;clear I
 go_loopg[6,8,19] nr (fun gk O V I L=>∃(i:Nat) (K:Option Addr) (U:Nat) (ks:List qC) (nk:Nat) (A':Option Addr) (aa:Nat) (f':Value->Option Value) (X:List ByteArray) (n':Nat),i<=nr/\gk=nr-i/\I=.int .i64 (i:Int)/\O=.slice K nk U/\Rnd n0 w L fb mb A es vs i K U ks nk A' aa f' X n')
 case atStart=>exact⟨0,none,0,[],0,A,cap,f,vs,n,zpD _,rfl,rfl,rfl,rfl,Own.qz _,fun g O=>(by simp[zw]at O),H.o.yU,fun g O=>.inl O,zh.refl _ _,fun e L=>(by cases L),fun u hu=>hu,fun e L=>(by simp at L),zpx _,fun _=>⟨rfl,fun e L=>(by cases L)⟩,zpx _⟩
 case round=>
  obtain⟨i,K,U,ks,nk,A',aa,f',X,n',hi,rfl,rfl,rfl,V⟩:=hrel;have I:=zz V;clear V
  by_cases ag:i<nr
  ·have au:i<es.length:=by rw[H.o.len];exact ag
   have ae:=H.o.yU.Gq H.o.own;obtain⟨b,o,rfl,aK,hr⟩:=(H.o.own.zC I.o.zC ae).xI.at (c:=3) (fun _=>rfl) i au;have hm:=zpB au;have ad:=H.o.zN _ hm;have Z:=H.o.ok _ hm;have ab:=H.o.apart _ hm;have am:Kz (es.take (i+1)=es.take i++[es[i]]):=zpC au;have Hm:=zz hm;generalize es[i]=q at hr ad Z ab am Hm;have ac:=ad.zC I.o.zC ab;obtain⟨W3,af,W⟩:=xi wr 239 q.cells.toArray;have V:=znS n0 W3 fb mb A' aa f' X n' (by have:=W.size;have:=I.o.zC.size;omega) (I.o.yU.below W.below) q (ac.zC (zh.xj (fun _=>False) W.below) (fun _ _ h=>h)) Z (by have:=I.o.yU.len;have:=I.o.sum;omega);have aA:=zz af;have Y:=zz W;have Ht:=zz V;have aM:=zz ac;have aN:=zz ab;have aL:=zz Z;clear af W V ac ab Z ad ae;obtain⟨l,r,A1,ai,vl,B1,ak,vr⟩:=q;simp only[qC.cells]at *;obtain⟨N1,W⟩:∃N,vl.length=N:=⟨_,rfl⟩;obtain⟨N2,V⟩:∃N,vr.length=N:=⟨_,rfl⟩;rw[W,V]at hr aA Y Ht;have aJ:=zz W;have aI:=zz V;clear W V
   replace hr:wr.rangeAt b (o+i*4) _:=hr
   obtain⟨d0,d1,d2,d3⟩:=four hr;clear hr
   go_wp2_with (first
    |(at_builtin;refine X9 rfl _ _ rfl zbM (f:=qC.cells) (xs:=ks) (aq.o.alloc _) I.o.len ⟨l,r,A1,ai,vl,B1,ak,vr⟩ _ 0 1 rfl rfl rfl ?news zt (by have:=I.o.le;omega) zr ?_)
    |(go_at_call 119;rw[aA.o];refine Ht.o.mono ?_;rintro e w4⟨b1,an,A4,ab,f4,n4,rfl,ah⟩;have aE:=zz ah;have kk:=Y.o.b0.zC ah.2.2.2.2.2.1 (fun O=>by have:=I.o.yU.lt _ O;omega);have e0:=kk.cell 0;have e1:=kk.cell 1;have e2:=kk.cell 2;have e3:=kk.cell 3;have aq:=zz ((I.o.own.below Y.o.below).zC ah.2.2.2.2.2.1 (I.o.yU.Gq I.o.own));clear ah kk))
   case news=>(rw[<-aJ.o,<-aI.o];exact yt _ _ _ rfl)
   ·intro g ac w5 ax aC aF;have av:b1=false:=by simpa using ‹(!b1)=true›
    subst av;obtain⟨W,af,ad,az,-,Z,ae⟩:=aE.o;obtain⟨aH,aD⟩:=az rfl;obtain rfl:X=an:=aH.symm;have aj:zh (fun x=>x∈zw K) w4 w5:=((zh.refl _ w4).alloc _).trans aC (fun x V _=>V);have aw:=W.same (w':=w5) (fun g O=>aj.block g (W.lt g O) (fun hk=>W.Gq aq.o g hk O));have al:=Y.o.size;have ao:=Z.size;have aB:g∈zw K\/w4.heap.size<=g:=aF.imp id (fun h=>zd);have ap:=I.o.zC.size;have ar:=zz (show Rnd n0 w w5 fb mb A es vs (i+1) (some ⟨g,0,none⟩) ac (ks++[⟨l,r,A1,ai,vl,B1,ak,vr⟩]) (nk+1) A4 ab f4 X n4 from {
     len:=by rw[zpA,I.o.len];rfl
     own:=ax
     new:=xY (aB.elim (fun h=>I.o.new g h) (fun h=>zd))
     yU:=aw
     Un:=fun x V=>by
      rcases ae x V with h|h
      ·exact I.o.Un x h
      ·right;omega
     zC:=((I.o.zC.trans (zh.xj (fun _=>False) Y.o.below) (fun x V _=>V.elim)).trans Z (fun x V ag=>by
      rcases V with h|h|h
      ·exact .inl h
      ·exact .inr (.inl h)
      ·rcases I.o.Un x h with h|h
       ·exact .inr (.inr h)
       ·omega)).trans aj (fun x V ag=>by have:=I.o.new x V;omega)
     sub:=fun e L=>by
      rcases zpE.1 L with h|h
      ·exact I.o.sub e h
      ·rw[zpy.1 h];exact Hm.o
     grow:=I.o.grow
     all:=fun e L=>by
      rw[am.o]at L
      rcases zpE.1 L with h|h
      ·exact(I.o.all e h).imp (fun h=>zp0 _ h) id
      ·exact .inl (zpR _ h)
     le:=by have:=I.o.le;omega
     still:=fun e=>by
      obtain⟨h1,h2⟩:=I.o.still zd;refine⟨h1,fun x V=>?_⟩
      rcases zpE.1 V with h|h
      ·exact h2 x h
      ·rw[zpy.1 h,<-h1];exact aD
     sum:=by have:=I.o.sum;omega })
    clear W af ad Z ae aD aj aw al ao aB ap ax aC aF az;go_wp2
    go_roundg (nr-(i+1))
    case measure=>omega
    case rel=>exact⟨i+1,_,ac,_,nk+1,A4,ab,f4,X,n4,zd,rfl,ze,ze,ar.o⟩
   ·have av:b1=true:=by simpa using ‹(!b1)=false›
    subst av;obtain⟨W,af,ad,-,aj,Z,ae⟩:=aE.o;have ac:=aj rfl;have al:=Y.o.size;have ao:=Z.size;have ap:=I.o.zC.size;have ar:=zz (show Rnd n0 w w4 fb mb A es vs (i+1) K U ks nk A4 ab f4 an n4 from {
     len:=I.o.len
     own:=aq.o
     new:=I.o.new
     yU:=W
     Un:=fun x V=>by
      rcases ae x V with h|h
      ·exact I.o.Un x h
      ·right;omega
     zC:=(I.o.zC.trans (zh.xj (fun _=>False) Y.o.below) (fun x V _=>V.elim)).trans Z (fun x V ag=>by
      rcases V with h|h|h
      ·exact .inl h
      ·exact .inr (.inl h)
      ·rcases I.o.Un x h with h|h
       ·exact .inr (.inr h)
       ·omega)
     sub:=I.o.sub
     grow:=fun u hu=>af u (I.o.grow u hu)
     all:=fun e L=>by
      rw[am.o]at L
      rcases zpE.1 L with h|h
      ·exact(I.o.all e h).imp id (fun h=>h.mono af)
      ·rw[zpy.1 h];exact .inr ac
     le:=by have:=I.o.le;omega
     still:=fun e=>by have:=I.o.le;omega
     sum:=by have:=I.o.sum;omega })
    clear W af ad Z ae aj ac al ao ap
    go_roundg (nr-(i+1))
    case measure=>omega
    case rel=>exact⟨i+1,K,U,ks,nk,A4,ab,f4,an,n4,zd,rfl,ze,rfl,ar.o⟩
  ·obtain rfl:i=nr:=zd;have ac:=H.o.yU.GX H.o.r;have Y:=H.o.r.zC I.o.zC ac;have cl:=Y.cell 0;have fl:=Y.frozen 0;have W:=zz Y;clear Y;go_wp2;go_returns;have Z:=I.o.own.yD W.o zr;have ht:es.take i=es:=by rw[<-H.o.len,zp5]
   have ab:=(I.o.yU.GX W.o);have ad:=I.o.le;refine⟨_,mb,K,U,ks,nk,A',aa,f',X,n',rfl,⟨I.o.len,W.o.qI 0 _,I.o.own.same (fun g O=>Below.heap_setCell _ _ _ _ (fun(e:g=rb)=>Z (by rw[<-e];exact O))),I.o.yU.same (fun g O=>Below.heap_setCell _ _ _ _ (fun(e:g=rb)=>ab (by rw[<-e];exact O))),fun e L=>?_,fun e L=>H.o.ok e (I.o.sub e L),fun e L g O hA=>?_,H.o.ge.1,fun g O=>by have:=I.o.new g O;omega⟩,I.o.grow,fun e L=>I.o.all e (by rw[ht];exact L),fun h=>?_,fun h e L=>?_,?_,?_⟩
   ·have Y:=(H.o.zN e (I.o.sub e L)).zC I.o.zC (H.o.apart e (I.o.sub e L));exact⟨Y.a.same (fun g O=>Below.heap_setCell _ _ _ _ (fun(e:g=rb)=>Y.a.yD W.o zr (by rw[<-e];exact O))),Y.b.same (fun g O=>Below.heap_setCell _ _ _ _ (fun(e:g=rb)=>Y.b.yD W.o zr (by rw[<-e];exact O)))⟩
   ·have h1:=H.o.apart e (I.o.sub e L) g O;have h2:=(H.o.zN e (I.o.sub e L)).lt g O
    rcases hA with h|h|h
    ·exact h1 (.inl h)
    ·exact h1 (.inr (.inl h))
    ·rcases I.o.Un g h with h|h
     ·exact h1 (.inr (.inr h))
     ·omega
   ·rw[I.o.len,H.o.len];simp at h;omega
   ·obtain⟨h1,h2⟩:=I.o.still (by simp at h;omega);rw[h1];exact h2 e L
   ·rw[I.o.len,H.o.len];exact I.o.sum
   ·exact(I.o.zC.below aG (fun x V=>by
     rcases V with h|h|h
     ·rw[h];exact H.o.yU.ge.1
     ·rw[h];exact H.o.yU.ge.2.1
     ·exact H.o.yU.ge.2.2 x h)).setCell (by exact H.o.ge.1) _
end
