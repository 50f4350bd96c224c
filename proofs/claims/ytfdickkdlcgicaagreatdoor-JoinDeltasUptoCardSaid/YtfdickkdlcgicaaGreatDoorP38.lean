/-
  Run's closure: one answer more. Run's closure gives. Run: th
-/
import Derived.Test.YtfdickkdlcgicaaGreatDoorP37
set_option maxRecDepth 100000
set_option maxHeartbeats 8000000
set_option linter.all false
namespace Go.Proofs.YtfdickkdlcgicaaGreatDoor.C
open Go.Proofs.Tryz Go Go.RowKit Go.Maps Go.WideMaps
variable {G:yR}{L:Array Oper}{N i n wb:Nat}{Q:Exit->Act->World->Prop}{S:Nat->Prop}{a:Act}{args:List Tm}{c:Cx}{fs:List Fa}{o:Oper}{r:Ru}{rest:List Oper}{w:World}{ρ:Env}
section
section
variable {α:Type}{f:α->List Value}{t e:TypeId}{size bytes:Nat}{A:Option Addr}{cap n:Nat}{xs:List α}{P:Program}{w:World}
theorem zbz(R:o.guard=none)(s y:Operand)(W:o.op=.call { callee:=.builtin .append,args:=#[s,y],argTypes:=#[t,t]})(E:qy P t e size bytes)(h:Own f e size w A cap xs)(U:xs.length=n)(x:α)(O N c:Nat)(hs:a.eval s=.slice A n cap)(hy:a.eval y=.slice (some ⟨O,N,none⟩) 1 c)(hl:(f x).length=size)(I:w.rangeAt O N (f x))(h1:∀u∈f x,u.oneCell'=true)(hb:n<=2147483647)(X:bytes<=4096)(hQ:∀g q r,Own f e size r (some ⟨g,0,none⟩) q (xs++[x])->zh (·∈zw A) w r->(g∈zw A\/w.heap.size<=g)->wpList P L Q rest (a.put o.dst (.slice (some ⟨g,0,none⟩) (n+1) q)) r):
 wpList P L Q (o::rest) a w:=by
 refine wpList_plain R fun K hK=>?_
 obtain⟨g,q,r,Y,h2,Z,V⟩:∃g q r,(Builtin.append_ #[t,t] o.type #[.slice A n cap,.slice (some ⟨O,N,none⟩) 1 c]).run P w=.ok (.slice (some ⟨g,0,none⟩) (n+1) q) r/\Own f e size r (some ⟨g,0,none⟩) q (xs++[x])/\zh (·∈zw A) w r/\(g∈zw A\/w.heap.size<=g):=by
  subst U;obtain⟨ht,⟨i,z,hi,hz,Z,V,h5⟩,hp⟩:=E;have hm:(xs.length+1)*bytes<=140737488355328:=by
   have:(xs.length+1)*bytes<=2147483648*4096:=zq0 zd X;omega
  obtain⟨g,q,r,Y,W,hg,U⟩:=h.push (P:=P) x t o.type i z bytes ht hi hz Z V h5 hp O N c hl I h1 (by unfold maxLen;omega) hm;refine⟨g,q,r,Y,W,(zh.refl _ w).grown hg fun k hk _=>?_,?_⟩
  ·cases A with
   |none=>cases hk
   |some a=>simpa[zw]using hk.symm
  ·rcases U with h|h
   ·exact .inl h
   ·right;omega
 unfold Oper.wp execOp;simp only[W,resolve,invoke,builtin,Sem.run_bind,Sem.run_pure,Result.andThen_ok,zqh,zpM,zqG,hs,hy,Y];exact hK _ _ (hQ g q r h2 Z V)
end
theorem G6:qy prog 26 71 2 40:=qy.of (z:=.agg #[.string ⟨#[]⟩,.slice none 0 0]) underlying26 zo rfl zr
structure Ut (ρ:Env) (args:List Tm) (N i:Nat) (ys:List Vl):Prop where
 len:ys.length=N
 at_:∀j (h:j<args.length),j<i->ys[j]? = some (args[j].at ρ)
theorem Ut.put{q:List Vl}(h:Ut ρ args N i q)(hi:i<args.length)(L:i<N):Ut ρ args N (i+1) (q.set i (args[i].at ρ)):=⟨by rw[zpG];exact h.len,fun j I r=>by
 by_cases e:j=i
 ·subst e;rw[List.getElem?_set_self (by rw[h.len];exact L)]
 ·rw[List.getElem?_set_ne (Ne.symm e)];exact h.at_ j I zd⟩
theorem Ut.fin{I:List Vl}(h:Ut ρ args N N I)(L:args.length=N):I=args.map fun t=>t.at ρ:=by
 refine List.ext_getElem? fun j=>?_
 rcases zq2 j N with r|r
 ·have q:j<args.length:=zd;rw[h.at_ j q r,zpX,zo6 q];rfl
 ·rw[zp6 (by rw[h.len];exact r),zp6 (by rw[zph];omega)]
def zjA(h:Nat)(A:Option Addr)(fs:List Fa)(p:ByteArray)(vs:List Vl)(w:World)(e:Ending)(w':World):Prop:=
 e=.returned (.tuple #[])/\∃g cap F,F.p=p/\F.args=vs/\Own Fa.cells 71 2 w' (some ⟨g,0,none⟩) cap (fs++[F])/\zY Vl.cells w' F.A F.args/\(∀x∈zw F.A,w.heap.size<=x/\x<w'.heap.size/\x≠g)/\
  zD w' h 26 #[.slice (some ⟨g,0,none⟩) (fs++[F]).length cap]/\zh (fun x=>x=h\/x∈zw A) w w'/\(g∈zw A\/w.heap.size<=g)
theorem zhW(w:World)(aX aY I sb kb:Nat)(p:ByteArray)(A:Option Addr)(N cap:Nat)(args:List Tm)(hN:args.length=N)(bt:N<=24)(ρ:Env)(c0 c2:Value)(B:Option Addr)(zM n:Nat)(fs:List Fa)(hn:fs.length=n)(a1:n<=2147483647)(ZF:zD w aX 38 #[.string p,.slice A N cap])(Zj:zD w aY 139 #[.pointer (some ⟨sb,0,none⟩)])(Y7:zD w I 26 #[.slice B n zM])(ks:zD w sb 142 #[c0,.map (some kb),c2])(hg:zaj w kb ρ)(hl:zY Tm.cells w A args)(ho:Own Fa.cells 71 2 w B zM fs)(hz:∀t∈args,t.v.size<=maxLen):
 Calls prog 58 #[.pointer (some ⟨aX,0,none⟩),.pointer (some ⟨aY,0,none⟩),.pointer (some ⟨I,0,none⟩)] w (zjA I B fs p (args.map fun t=>t.at ρ) w):=by
 have H0:Kz (∀W,Bl w W->W.cell? ⟨aX,0,none⟩=some (.string p)/\W.cell? ⟨aX,1,none⟩=some (.slice A N cap)):=fun W hW=>⟨(ZF.below hW).cell 0,(ZF.below hW).cell 1⟩
 have a2:=zz ZF;have aZ:=zz Zj;have V:=zz Y7;have bo:=zz ks;have HG:=zz hg;have HL:=zz hl;have HO:=zz ho;have HN:=zz hN;have Hz:=zz hz;have Hn:=zz hn;clear ZF Zj Y7 ks hg hl ho hN hz hn;go_enter func58,ntmps58;go_upto_region 0 with fail
 refine JZ [(0,0),(1,0),(2,0),(3,0),(4,0)] [(6,0),(7,2),(8,2)] [(5,2),(6,0),(8,2)] 9999 5 7 (fun W=>Bl w W) (fun _=>True) zo (zo) zo ?s0 ?s1 ?_
 case s1=>trivial
 case s0=>exact yj
 simp only[xM,qa,qb,qc,qd,qe,qf];try refine zQ ?_
 repeat refine zT H0.o ?_
 refine JV ?_ ?_
 ·refine xc fun K hK=>?_
  go_simp;obtain⟨W1,aF,r,O⟩:=zer N zd w.drew;rw[aF];clear aF;have ap:Bl w W1:=zu (Below.refl _ _).drew O;have aK:w.heap.size<W1.heap.size:=r.YR;refine hK.out _ _ ap (fun _=>trivial) ?_;clear hK K;try refine zQ ?_
  repeat refine zT H0.o ?_
  refine xc fun K hK=>?_
  go_simp;obtain⟨W2,L,q⟩:=xj W1 71 #[.string ⟨#[]⟩,.slice none 0 0];rw[L];have av:Bl w W2:=zu ap q.below;refine hK.out _ _ av (fun _=>trivial) ?_;clear hK K L;try refine zQ ?_
  repeat refine zT H0.o ?_
  refine xc fun K hK=>?_
  refine Xi 71 _ _ rfl W1.heap.size 0 _ _ q.b0 [.string p,.slice (some ⟨w.heap.size,0,none⟩) N N] rfl rfl zp (zo) zt ?_;intro W3 ae;have au:Bl w W3:=ae.below av (zoZ _) (zqB aK);refine hK.out _ _ au (fun _=>trivial) ?_;clear hK K;try refine zQ ?_
  repeat refine zT H0.o ?_
  refine xu ?_;have aA:Own Vl.cells 43 3 W3 (some ⟨w.heap.size,0,none⟩) N (List.replicate N Vl.zero):=ae.own (r.below q.below) (xW (by show w.heap.size≠_;omega));have ax:zD W3 W1.heap.size 71 #[.string p,.slice (some ⟨w.heap.size,0,none⟩) N N]:=ae.zG;have ar:W1.heap.size≠w.heap.size/\w.heap.size<=w.heap.size/\w.heap.size<=W1.heap.size:=⟨zd,zoZ _,zqB aK⟩;obtain⟨fb,L⟩:∃fb,W1.heap.size=fb:=⟨_,rfl⟩;rw[L]at ax ar ⊢;clear L ae av aK ap q r O;have aT:Kz (Bl w W3):=au;have bk:Kz (Own Vl.cells 43 3 W3 (some ⟨w.heap.size,0,none⟩) N (List.replicate N Vl.zero)):=aA;have bj:Kz (zD W3 fb 71 #[.string p,.slice (some ⟨w.heap.size,0,none⟩) N N]):=ax;have U:Kz (fb≠w.heap.size/\w.heap.size<=w.heap.size/\w.heap.size<=fb):=ar;clear au aA ax ar;have a5:=(a2.o.below aT.o).cell 1;go_wp2;clear a5
  go_loopg[4,5,16] N (fun gk s4 s5 a4 wx=>∃(i:Nat) (ys:List Vl),i<=N/\gk=N-i/\a4=.int .i64 (i:Int)/\Ut ρ args N i ys/\Own Vl.cells 43 3 wx (some ⟨w.heap.size,0,none⟩) N ys/\zD wx fb 71 #[.string p,.slice (some ⟨w.heap.size,0,none⟩) N N]/\Bl w wx)
  case atStart=>exact⟨0,List.replicate N Vl.zero,zo5 _,rfl,rfl,⟨zqm,fun j _ h=>absurd h (zqR _)⟩,bk.o,bj.o,aT.o⟩
  case round=>
   obtain⟨i,ys,hi,rfl,rfl,aJ,aI,aM,hB⟩:=hrel;have HB:=zz hB;have ad:=zz aJ;have aq:=zz aI;have ag:=zz aM;clear hB aJ aI aM
   by_cases R:i<N
   ·have az:i<args.length:=by rw[HN.o];exact R
    obtain⟨b,o,rfl,bp,hr⟩:=(HL.o.below HB.o).at Tm.xF i az;have af:=Hz.o _ (zo3 az);have aw:=ad.o.put az R;obtain⟨t,ht⟩:∃t,args[i]=t:=⟨_,rfl⟩;rw[ht]at hr af aw;obtain⟨v,⟨k,m,s⟩⟩:=t;have aG:=zz aw;simp only[Tm.cells]at hr af
    replace hr:wr.rangeAt b (o+i*4) _:=hr
    obtain⟨d0,d1,d2,d3⟩:=four hr;have a7:=zz af;clear hr af ht aw;obtain⟨W4,aD,L⟩:=xj wr 45 #[.string v,.int .i8 k,.int .i64 m,.string s];have a8:=zz aD;have aj:=zz L;have bl:W4.cell? ⟨fb,1,none⟩=some (.slice (some ⟨w.heap.size,0,none⟩) N N):=(ag.o.below L.below).cell 1;have e0:=L.b0.cell 0;have e1:=L.b0.cell 1;have e2:=L.b0.cell 2;have e3:=L.b0.cell 3;have aC:i<ys.length:=by rw[ad.o.len];exact R
    clear aD L;go_upto_region 4 with fail
    rw[a8.o];clear d0 d1 d2 d3;have bs:Kz ((if v.toList=[]then(⟨k,m,s⟩:Vl)else(ρ v).getD Vl.zero)=(Tm.at ρ ⟨v,⟨k,m,s⟩⟩)):=rfl;go_upto_region 5 with(refine xy 43 _ _ rfl ?_;refine zfw zj 43 _ _ rfl (aq.o.below aj.o.below) (fun _=>rfl) i aC 0 [.int .i8 k,.int .i64 m,.string s] ⟨k,m,s⟩ zp (zp) rfl rfl zo (zt) ?_;intro W5 aB aP bd;have aH:=zz aB;have ay:=zz aP;clear aB aP bd)
    clear bl e0 e1 e2 e3;have bm:w.heap.size<wr.heap.size:=aq.o.YR;have aa:=zz ((ag.o.below aj.o.below).zC ay.o (fun e=>U.o.1 e));have ao:=zz (aj.o.b0.zC ay.o zd);have aR:Kz (Bl w W5):=ay.o.qq (zu HB.o aj.o.below) (zoZ _) (fun x q=>by have:=U.o.2.1;omega);have e0:=ao.o.cell 0
    by_cases hv:v.toList=[]
    ·have b2:v.toList.isEmpty=true:=by simp[hv]
     have b3:(v.toList==([]:List UInt8))=true:=by simp[hv]
     have b4:(v.toList !=([]:List UInt8))=false:=by simp[hv]
     have X:=zz (show Tm.at ρ ⟨v,⟨k,m,s⟩⟩=⟨k,m,s⟩from by unfold Tm.at;rw[if_pos hv]);clear hv;go_wp2
     go_roundg (N-(i+1))
     case measure=>omega
     case rel=>exact⟨i+1,_,R,rfl,ze,by have:=aG.o;rw[X.o]at this;exact this,aH.o,aa.o,aR.o⟩
    ·have b2:v.toList.isEmpty=false:=by simp[hv]
     have b3:(v.toList==([]:List UInt8))=false:=by simp[hv]
     have b4:(v.toList !=([]:List UInt8))=true:=by simp[hv]
     obtain⟨⟨xk,xn,xs⟩,q⟩:∃x,(ρ v).getD Vl.zero=x:=⟨_,rfl⟩;have X:=zz (show Tm.at ρ ⟨v,⟨k,m,s⟩⟩=⟨xk,xn,xs⟩from by unfold Tm.at;rw[if_neg hv];exact q);have am:=zz (fun W hW=>HG.o W hW v hv a7.o);rw[q]at am;have ai:=zz (fun W (hW:zh (·=w.heap.size) W5 W)=>hW.qq aR.o (zoZ _) (fun x q=>by have:=U.o.2.1;omega));have H6:=zz (show ∀W,zh (·=w.heap.size) W5 W->W.cell? ⟨fb,1,none⟩=some (.slice (some ⟨w.heap.size,0,none⟩) N N)/\W.cell? ⟨aY,0,none⟩=some (.pointer (some ⟨sb,0,none⟩))/\W.cell? ⟨sb,1,none⟩=some (.map (some kb))/\W.cell? ⟨wr.heap.size,0,none⟩=some (.string v)/\(Instr.lookup 140 (.map (some kb)) (.string v) false).run prog W=.ok (.agg #[.int .i8 xk,.int .i64 xn,.string xs]) W/\(i:Int)<(N:Int)/\i<N from fun W hW=>
      ⟨(aa.o.zC hW (fun e=>U.o.1 e)).cell 1,(aZ.o.below (ai.o W hW)).cell 0,(bo.o.below (ai.o W hW)).cell 1,(ao.o.zC hW zd).cell 0,am.o W (ai.o W hW),zd,R⟩)
     clear hv q;go_upto_region 6 with fail
     have aV:Kz (∀W:World,True->True):=fun _ _=>trivial
     refine XH [0,1,0,1,0,0,1,0,1,1,0,3] 11 (fun W=>zh (·=w.heap.size) W5 W) (fun _=>True) ?s0 ?s1 ?_
     case s1=>trivial
     case s0=>exact yj
     try refine zQ ?_
     repeat refine xK H6.o aV.o ?_
     refine y7 zj (fun K hK=>?_);refine JG 43 _ _ rfl (aH.o.same (w':=W5.drew) fun _ _=>rfl) (fun _=>rfl) i (by rw[zpG];exact aC) 0 [.int .i8 xk,.int .i64 xn,.string xs] ⟨xk,xn,xs⟩ zp (zp) rfl rfl zo (zt) ?_;intro W6 Z Y a6;have r:zh (·=w.heap.size) W5 W6:=(zh.refl _ W5).drew.trans Y (fun x q _=>q);refine hK.out _ _ r ?_;clear hK K;try refine zQ ?_
     repeat refine xK H6.o aV.o ?_
     refine xu ?_;have a3:=zz (aa.o.zC r (fun e=>U.o.1 e));have ba:=zz (ai.o W6 r);have ah:=zz Z;clear r Z Y a6;go_wp2
     go_roundg (N-(i+1))
     case measure=>omega
     case rel=>exact⟨i+1,_,R,rfl,ze,by have:=aG.o;rw[X.o]at this;exact this,by have:=ah.o;rw[List.set_set]at this;exact this,a3.o,ba.o⟩
   ·obtain rfl:i=N:=zd;have bi:=zz (ad.o.fin HN.o);have bh:=(V.o.below HB.o).cell 0;have f0:=ag.o.cell 0;have f1:=ag.o.cell 1;have be:=zz (HO.o.below HB.o)
    go_wp2_with (first
     |(at_builtin;refine zbz rfl _ _ rfl G6 (f:=Fa.cells) (xs:=fs) (be.o.alloc _) Hn.o ⟨p,some ⟨w.heap.size,0,none⟩,i,ys⟩ _ 0 1 rfl rfl rfl (by rw[show(Fa.cells ⟨p,some ⟨w.heap.size,0,none⟩,i,ys⟩)=[.string p,.slice (some ⟨w.heap.size,0,none⟩) i i]from by simp[Fa.cells,ad.o.len]];exact yp _ _ _ rfl) zt a1 zr ?_)
     |fail)
    intro g al w6 Z Y aL;have O:¬I∈zw B:=HO.o.yB V.o zr;have r:zh (·∈zw B) wr w6:=((zh.refl _ wr).alloc _).trans Y (fun x q _=>q);have bf:zD w6 I 26 #[.slice B n zM]:=(V.o.below HB.o).zC r O;have an:g∈zw B\/w.heap.size<=g:=aL.imp id (fun h=>by
     have h4:=HB.o.size;try simp at h
     omega)
    have bc:=zz r;have ah:=zz Z;have aN:=zz an;have aO:=zz O;clear r Z Y aL an O f0 f1 bh
    go_wp2_with (refine xy 26 _ _ rfl ?_;refine Xf zj 26 _ _ rfl I 0 _ _ bf (.slice (some ⟨g,0,none⟩) (n+1) al) rfl rfl zp (zo) rfl ?_;intro W9 aQ;have ak:=zz aQ;clear aQ)
    go_end0;have a9:∀x∈zw B,x<w.heap.size:=HO.o.lt;have aS:=U.o.2.1;have bq:=V.o.lt;have aU:g≠I:=fun e=>by
     rcases aN.o with h|h
     ·exact aO.o (e▸h)
     ·omega
    have aE:zh (fun x=>x=I\/x∈zw B) wr W9:=(bc.o.mono (S':=fun x=>x=I\/x∈zw B) fun x q _=>.inr q).trans ak.o.zC (fun x q _=>.inl q);have ac:Own Vl.cells 43 3 W9 (some ⟨w.heap.size,0,none⟩) i ys:=aq.o.zC aE (fun x q h=>by
     obtain rfl:x=w.heap.size:=by simpa[zw]using q
     rcases h with h|h
     ·omega
     ·have:=a9 _ h;omega)
    refine⟨rfl,g,al,⟨p,some ⟨w.heap.size,0,none⟩,i,ys⟩,rfl,bi.o,ak.o.own ah.o (xW aU),ac.xI,?_,?_,?_,aN.o⟩
    ·exact xW (Q:=fun x=>w.heap.size<=x/\x<W9.heap.size/\x≠g) ⟨aS,ac.YR,fun e=>ac.ZL (ak.o.own ah.o (xW aU)) zr w.heap.size (by simp[zw]) (by simp[zw,e])⟩
    ·have:=ak.o.zG;rw[zo1,Hn.o];simpa using this
    ·exact((zh.xi (fun x=>x=I\/x∈zw B) HB.o).trans aE (fun x q _=>q))
 ·refine xc fun K hK=>?_
  go_simp;obtain⟨W1,bg,aW⟩:=xj w 71 #[.string ⟨#[]⟩,.slice none 0 0];rw[bg];have ap:Bl w W1.drew:=aW.below.drew;have br:Kz (W1.heap.size=w.heap.size+1):=aW.size;refine hK.out _ _ ap (fun _=>trivial) ?_;clear hK K bg;try refine zQ ?_
  repeat refine zT H0.o ?_
  refine xc fun K hK=>?_
  go_simp;obtain⟨W2,aF,bn,bg⟩:=zer N zd W1.drew;rw[aF];clear aF;have av:Bl w W2:=zu ap bg;refine hK.out _ _ av (fun _=>trivial) ?_;clear hK K;try refine zQ ?_
  repeat refine zT H0.o ?_
  refine xc fun K hK=>?_
  refine Xi 71 _ _ rfl w.heap.size 0 _ _ (zD.below aW.b0.drew bg) [.string p,.slice (some ⟨W1.heap.size,0,none⟩) N N] rfl rfl zp (zo) zt ?_;intro W3 ae;have au:Bl w W3:=ae.below av (zoZ _) (zoZ _);refine hK.out _ _ au (fun _=>trivial) ?_;clear hK K;try refine zQ ?_
  repeat refine zT H0.o ?_
  refine xu ?_;have aK:=br.o;have aA:Own Vl.cells 43 3 W3 (some ⟨W1.heap.size,0,none⟩) N (List.replicate N Vl.zero):=ae.own bn (xW (by show W1.heap.size≠_;omega));have ax:zD W3 w.heap.size 71 #[.string p,.slice (some ⟨W1.heap.size,0,none⟩) N N]:=ae.zG;have ar:w.heap.size≠W1.heap.size/\w.heap.size<=W1.heap.size/\w.heap.size<=w.heap.size:=⟨zd,zd,zoZ _⟩;obtain⟨ab,aF⟩:∃ab,W1.heap.size=ab:=⟨_,rfl⟩;rw[aF]at aA ax ar ⊢;clear aF ae av aK ap aW bn bg;have aT:Kz (Bl w W3):=au;have bk:Kz (Own Vl.cells 43 3 W3 (some ⟨ab,0,none⟩) N (List.replicate N Vl.zero)):=aA;have bj:Kz (zD W3 w.heap.size 71 #[.string p,.slice (some ⟨ab,0,none⟩) N N]):=ax;have U:Kz (w.heap.size≠ab/\w.heap.size<=ab/\w.heap.size<=w.heap.size):=ar;clear au aA ax ar;have a5:=(a2.o.below aT.o).cell 1;go_wp2;clear a5
  go_loopg[4,5,16] N (fun gk s4 s5 a4 wx=>∃(i:Nat) (ys:List Vl),i<=N/\gk=N-i/\a4=.int .i64 (i:Int)/\Ut ρ args N i ys/\Own Vl.cells 43 3 wx (some ⟨ab,0,none⟩) N ys/\zD wx w.heap.size 71 #[.string p,.slice (some ⟨ab,0,none⟩) N N]/\Bl w wx)
  case atStart=>exact⟨0,List.replicate N Vl.zero,zo5 _,rfl,rfl,⟨zqm,fun j _ h=>absurd h (zqR _)⟩,bk.o,bj.o,aT.o⟩
  case round=>
   obtain⟨i,ys,hi,rfl,rfl,aJ,aI,aM,hB⟩:=hrel;have HB:=zz hB;have ad:=zz aJ;have aq:=zz aI;have ag:=zz aM;clear hB aJ aI aM
   by_cases R:i<N
   ·have az:i<args.length:=by rw[HN.o];exact R
    obtain⟨b,o,rfl,bp,hr⟩:=(HL.o.below HB.o).at Tm.xF i az;have af:=Hz.o _ (zo3 az);have aw:=ad.o.put az R;obtain⟨t,ht⟩:∃t,args[i]=t:=⟨_,rfl⟩;rw[ht]at hr af aw;obtain⟨v,⟨k,m,s⟩⟩:=t;have aG:=zz aw;simp only[Tm.cells]at hr af
    replace hr:wr.rangeAt b (o+i*4) _:=hr
    obtain⟨d0,d1,d2,d3⟩:=four hr;have a7:=zz af;clear hr af ht aw;obtain⟨W4,aD,L⟩:=xj wr 45 #[.string v,.int .i8 k,.int .i64 m,.string s];have a8:=zz aD;have aj:=zz L;have bl:W4.cell? ⟨w.heap.size,1,none⟩=some (.slice (some ⟨ab,0,none⟩) N N):=(ag.o.below L.below).cell 1;have e0:=L.b0.cell 0;have e1:=L.b0.cell 1;have e2:=L.b0.cell 2;have e3:=L.b0.cell 3;have aC:i<ys.length:=by rw[ad.o.len];exact R
    clear aD L;go_upto_region 4 with fail
    rw[a8.o];clear d0 d1 d2 d3;have bs:Kz ((if v.toList=[]then(⟨k,m,s⟩:Vl)else(ρ v).getD Vl.zero)=(Tm.at ρ ⟨v,⟨k,m,s⟩⟩)):=rfl;go_upto_region 5 with(refine xy 43 _ _ rfl ?_;refine zfw zj 43 _ _ rfl (aq.o.below aj.o.below) (fun _=>rfl) i aC 0 [.int .i8 k,.int .i64 m,.string s] ⟨k,m,s⟩ zp (zp) rfl rfl zo (zt) ?_;intro W5 aB aP bd;have aH:=zz aB;have ay:=zz aP;clear aB aP bd)
    clear bl e0 e1 e2 e3;have bm:ab<wr.heap.size:=aq.o.YR;have aa:=zz ((ag.o.below aj.o.below).zC ay.o (fun e=>U.o.1 e));have ao:=zz (aj.o.b0.zC ay.o zd);have aR:Kz (Bl w W5):=ay.o.qq (zu HB.o aj.o.below) (zoZ _) (fun x q=>by have:=U.o.2.1;omega);have e0:=ao.o.cell 0
    by_cases hv:v.toList=[]
    ·have b2:v.toList.isEmpty=true:=by simp[hv]
     have b3:(v.toList==([]:List UInt8))=true:=by simp[hv]
     have b4:(v.toList !=([]:List UInt8))=false:=by simp[hv]
     have X:=zz (show Tm.at ρ ⟨v,⟨k,m,s⟩⟩=⟨k,m,s⟩from by unfold Tm.at;rw[if_pos hv]);clear hv;go_wp2
     go_roundg (N-(i+1))
     case measure=>omega
     case rel=>exact⟨i+1,_,R,rfl,ze,by have:=aG.o;rw[X.o]at this;exact this,aH.o,aa.o,aR.o⟩
    ·have b2:v.toList.isEmpty=false:=by simp[hv]
     have b3:(v.toList==([]:List UInt8))=false:=by simp[hv]
     have b4:(v.toList !=([]:List UInt8))=true:=by simp[hv]
     obtain⟨⟨xk,xn,xs⟩,q⟩:∃x,(ρ v).getD Vl.zero=x:=⟨_,rfl⟩;have X:=zz (show Tm.at ρ ⟨v,⟨k,m,s⟩⟩=⟨xk,xn,xs⟩from by unfold Tm.at;rw[if_neg hv];exact q);have am:=zz (fun W hW=>HG.o W hW v hv a7.o);rw[q]at am;have ai:=zz (fun W (hW:zh (·=ab) W5 W)=>hW.qq aR.o (zoZ _) (fun x q=>by have:=U.o.2.1;omega));have H6:=zz (show ∀W,zh (·=ab) W5 W->W.cell? ⟨w.heap.size,1,none⟩=some (.slice (some ⟨ab,0,none⟩) N N)/\W.cell? ⟨aY,0,none⟩=some (.pointer (some ⟨sb,0,none⟩))/\W.cell? ⟨sb,1,none⟩=some (.map (some kb))/\W.cell? ⟨wr.heap.size,0,none⟩=some (.string v)/\(Instr.lookup 140 (.map (some kb)) (.string v) false).run prog W=.ok (.agg #[.int .i8 xk,.int .i64 xn,.string xs]) W/\(i:Int)<(N:Int)/\i<N from fun W hW=>
      ⟨(aa.o.zC hW (fun e=>U.o.1 e)).cell 1,(aZ.o.below (ai.o W hW)).cell 0,(bo.o.below (ai.o W hW)).cell 1,(ao.o.zC hW zd).cell 0,am.o W (ai.o W hW),zd,R⟩)
     clear hv q;go_upto_region 6 with fail
     have aV:Kz (∀W:World,True->True):=fun _ _=>trivial
     refine XH [0,1,0,1,0,0,1,0,1,1,0,3] 11 (fun W=>zh (·=ab) W5 W) (fun _=>True) ?s0 ?s1 ?_
     case s1=>trivial
     case s0=>exact yj
     try refine zQ ?_
     repeat refine xK H6.o aV.o ?_
     refine y7 zj (fun K hK=>?_);refine JG 43 _ _ rfl (aH.o.same (w':=W5.drew) fun _ _=>rfl) (fun _=>rfl) i (by rw[zpG];exact aC) 0 [.int .i8 xk,.int .i64 xn,.string xs] ⟨xk,xn,xs⟩ zp (zp) rfl rfl zo (zt) ?_;intro W6 Z Y a6;have r:zh (·=ab) W5 W6:=(zh.refl _ W5).drew.trans Y (fun x q _=>q);refine hK.out _ _ r ?_;clear hK K;try refine zQ ?_
     repeat refine xK H6.o aV.o ?_
     refine xu ?_;have a3:=zz (aa.o.zC r (fun e=>U.o.1 e));have ba:=zz (ai.o W6 r);have ah:=zz Z;clear r Z Y a6;go_wp2
     go_roundg (N-(i+1))
     case measure=>omega
     case rel=>exact⟨i+1,_,R,rfl,ze,by have:=aG.o;rw[X.o]at this;exact this,by have:=ah.o;rw[List.set_set]at this;exact this,a3.o,ba.o⟩
   ·obtain rfl:i=N:=zd;have bi:=zz (ad.o.fin HN.o);have bh:=(V.o.below HB.o).cell 0;have f0:=ag.o.cell 0;have f1:=ag.o.cell 1;have be:=zz (HO.o.below HB.o)
    go_wp2_with (first
     |(at_builtin;refine zbz rfl _ _ rfl G6 (f:=Fa.cells) (xs:=fs) (be.o.alloc _) Hn.o ⟨p,some ⟨ab,0,none⟩,i,ys⟩ _ 0 1 rfl rfl rfl (by rw[show(Fa.cells ⟨p,some ⟨ab,0,none⟩,i,ys⟩)=[.string p,.slice (some ⟨ab,0,none⟩) i i]from by simp[Fa.cells,ad.o.len]];exact yp _ _ _ rfl) zt a1 zr ?_)
     |fail)
    intro g al w6 Z Y aL;have O:¬I∈zw B:=HO.o.yB V.o zr;have r:zh (·∈zw B) wr w6:=((zh.refl _ wr).alloc _).trans Y (fun x q _=>q);have bf:zD w6 I 26 #[.slice B n zM]:=(V.o.below HB.o).zC r O;have an:g∈zw B\/w.heap.size<=g:=aL.imp id (fun h=>by
     have h4:=HB.o.size;try simp at h
     omega)
    have bc:=zz r;have ah:=zz Z;have aN:=zz an;have aO:=zz O;clear r Z Y aL an O f0 f1 bh
    go_wp2_with (refine xy 26 _ _ rfl ?_;refine Xf zj 26 _ _ rfl I 0 _ _ bf (.slice (some ⟨g,0,none⟩) (n+1) al) rfl rfl zp (zo) rfl ?_;intro W9 aQ;have ak:=zz aQ;clear aQ)
    go_end0;have a9:∀x∈zw B,x<w.heap.size:=HO.o.lt;have aS:=U.o.2.1;have bq:=V.o.lt;have aU:g≠I:=fun e=>by
     rcases aN.o with h|h
     ·exact aO.o (e▸h)
     ·omega
    have aE:zh (fun x=>x=I\/x∈zw B) wr W9:=(bc.o.mono (S':=fun x=>x=I\/x∈zw B) fun x q _=>.inr q).trans ak.o.zC (fun x q _=>.inl q);have ac:Own Vl.cells 43 3 W9 (some ⟨ab,0,none⟩) i ys:=aq.o.zC aE (fun x q h=>by
     obtain rfl:x=ab:=by simpa[zw]using q
     rcases h with h|h
     ·omega
     ·have:=a9 _ h;omega)
    refine⟨rfl,g,al,⟨p,some ⟨ab,0,none⟩,i,ys⟩,rfl,bi.o,ak.o.own ah.o (xW aU),ac.xI,?_,?_,?_,aN.o⟩
    ·exact xW (Q:=fun x=>w.heap.size<=x/\x<W9.heap.size/\x≠g) ⟨aS,ac.YR,fun e=>ac.ZL (ak.o.own ah.o (xW aU)) zr ab (by simp[zw]) (by simp[zw,e])⟩
    ·have:=ak.o.zG;rw[zo1,Hn.o];simpa using this
    ·exact((zh.xi (fun x=>x=I\/x∈zw B) HB.o).trans aE (fun x q _=>q))
end
section
theorem zkv{hd:At}{R V L:Nat}(hO:c.Out=Ta hd R V L c.sb)(ac:c.gf=58)(ab:c.Uh=#[.pointer (some ⟨R,0,none⟩),.pointer (some ⟨V,0,none⟩),.pointer (some ⟨L,0,none⟩)])(hM:c.M<=2147483647)(ah:hd.args.length<=24)(hz:∀t∈hd.args,t.v.size<=maxLen)(K:List ByteArray):GN c K:=by
 refine⟨fun W=>by rw[ac,ab];kernel_rfl,fun O D ρ w q hv ak hb=>?_⟩;obtain⟨S,U,f,h⟩:=q;have q:=h.out;rw[hO]at q;obtain⟨A,ae,fs,k⟩:=q;have aj:fs.length=O.length:=by have:=congrArg List.length k.XB;simpa using this
 rw[ac,ab];refine(zhW w R V L c.sb c.kb hd.p hd.A hd.args.length hd.cap hd.args rfl ah ρ _ _ A ae fs.length fs rfl zd k.ZF k.Zj k.Y7 h.zG (Dm h.map h.YO.known) k.head k.own hz).mono ?_;rintro e w'⟨rfl,g,ad,F,hp,ha,xT,hl,hF,hk,Z,hg⟩;have N:∀x,(x=L\/x∈zw A)->U x:=fun x q=>by
  rcases q with rfl|q
  ·exact k.GQ
  ·exact k.uA x q
 have hs:=Z.size;have af:¬(R=L\/R∈zw A):=fun e=>by
  rcases e with e|e
  ·exact k.ZF.yD k.Y7 zr e
  ·exact k.own.yB k.ZF zr e
 have ai:¬(V=L\/V∈zw A):=fun e=>by
  rcases e with e|e
  ·exact k.Zj.yD k.Y7 zr e
  ·exact k.own.yB k.Zj zr e
 have aa:∀x,x∈zw (some (⟨g,0,none⟩:Addr))->x=g:=fun x q=>by simpa[zw]using q
 have Y:∀x,U x->(U x\/w.heap.size<=x)/\x<w'.heap.size:=fun x q=>⟨.inl q,zo0 (k.lt x q) hs⟩
 have ag:(U g\/w.heap.size<=g)/\g<w'.heap.size:=⟨hg.imp (k.uA g) id,xT.YR⟩;refine⟨rfl,fun x=>(D x\/w.heap.size<=x)/\x<w'.heap.size,⟨S,fun x=>(U x\/w.heap.size<=x)/\x<w'.heap.size,f,⟨h.Yv.zC Z fun x q X=>h.su x q (N x X),?_,h.map.zC Z fun X=>h.uk (N _ X),h.YO,h.zG.zC Z fun X=>h.YX (h.VS _ (N _ X)),
  h.tk.zC Z fun X=>h.XS (h.VS _ (N _ X)),fun x q=>⟨.inl (h.Zs x q),zo0 (h.lt x (h.Zs x q)) hs⟩,fun x q=>⟨q.1.imp (h.VS x) id,q.2⟩,⟨.inl h.XP,zo0 (h.lt _ h.XP) hs⟩,fun q=>?_,fun q=>?_,h.sk,fun q=>?_,fun x q hu=>?_,fun x q=>q.2⟩⟩,Z.mono fun x q _=>h.VS x (N x q),fun x q=>q.1⟩
 ·rw[hO];refine⟨some ⟨g,0,none⟩,ad,fs++[F],k.ZF.zC Z af,k.Zj.zC Z ai,hk,xT,?_,fun x q=>?_,k.head.kept Z fun x q X=>?_,Y _ k.DH,Y _ k.D6,Y _ k.GQ,fun x q=>by rw[aa x q];exact ag,fun x q y I=>?_,fun x q=>Y x (k.uH x q),fun x q y I=>?_,fun x q=>?_,fun x q=>q.2⟩
  ·rw[zpt,zpt,k.XB]
   congr 1
   simp only[zpM,zqG,yf,zcC,hp,ha]
  ·rcases zo7.1 q with q|q
   ·exact(k.args x q).kept Z fun y I X=>by
     rcases X with e|e
     ·exact(k.JC x q y I).1 e
     ·exact(k.JC x q y I).2 e
   ·rw[zo2.1 q];exact hl
  ·rcases X with e|e
   ·exact(k.J9 x q).1 e
   ·exact(k.J9 x q).2 e
  ·rcases zo7.1 q with q|q
   ·exact Y y (k.uF x q y I)
   ·rw[zo2.1 q]at I;exact⟨.inr (hF y I).1,(hF y I).2.1⟩
  ·rcases zo7.1 q with q|q
   ·refine⟨(k.JC x q y I).1,fun e=>?_⟩;have e:=aa y e;subst e
    rcases hg with r|r
    ·exact(k.JC x q y I).2 r
    ·have:=k.lt y (k.uF x q y I);omega
   ·rw[zo2.1 q]at I;refine⟨fun e=>?_,fun e=>(hF y I).2.2 (aa y e)⟩;have:=k.Y7.lt;have:=(hF y I).1;omega
  ·refine⟨(k.J9 x q).1,fun e=>?_⟩;have e:=aa x e;subst e
   rcases hg with r|r
   ·exact(k.J9 x q).2 r
   ·have:=k.lt x (k.uH x q);omega
 ·rcases q.1 with r|r
  ·exact h.YX r
  ·have:=h.zG.lt;omega
 ·rcases q.1 with r|r
  ·exact h.XS r
  ·have:=h.tk.lt;omega
 ·rcases q.1 with r|r
  ·exact h.uk r
  ·have:=h.map.lt;omega
 ·rcases hu.1 with r|r
  ·exact h.su x q r
  ·have:=h.lt x (h.Zs x q);omega
theorem zbJ{body:List Li}{a:At}(h:a∈Yq body):∃x,(x∈body/\x.k≠3)/\x.a=a:=by
 unfold Yq at h;obtain⟨x,q,rfl⟩:=zpA.1 h;exact⟨x,⟨(zqJ.1 q).1,by simpa using(zqJ.1 q).2⟩,rfl⟩
noncomputable def Vt(tk:Nat->Int)(G:yR):List St->Env->List Env:=C.solve (fun ρ e=>e.ev tk ρ) Z6 fun p=>((G p).map (·.2)).getD []
def zdJ(G:yR)(L N:Nat)(S:Nat->Prop)(p:ByteArray)(I:List Tm)(es:List Env)(w:World)(e:Ending)(w':World):Prop:=
 ∃A h q r,e=.returned (.tuple #[.slice A q.length h,.int .i64 0])/\Own Fa.cells 71 2 w' A h q/\q.map yf=es.map (fun ρ=>(p,I.map fun t=>t.at ρ))/\(∀f∈q,zY Vl.cells w' f.A f.args)/\
  (∀g∈zw A,¬r g/\g<w'.heap.size)/\(∀f∈q,∀g∈zw f.A,¬r g/\g<w'.heap.size)/\yd w' L G r N/\(∀g,r g->(S g\/w.heap.size<=g)/\g<w'.heap.size)/\zh S w w'
def zkM(G:yR)(O N:Nat)(S:Nat->Prop)(m I:Nat)(p:ByteArray)(L:List Tm)(es:List Env)(w:World)(e:Ending)(w':World):Prop:=
 e=.returned (.tuple #[])/\∃A h q r,zD w' I 26 #[.slice A q.length h]/\Own Fa.cells 71 2 w' A h q/\q.map yf=es.map (fun ρ=>(p,L.map fun t=>t.at ρ))/\(∀f∈q,zY Vl.cells w' f.A f.args)/\
  (∀g∈zw A,¬r g/\g<w'.heap.size)/\(∀f∈q,∀g∈zw f.A,¬r g/\g<w'.heap.size)/\yd w' O G r N/\(∀g,r g->(S g\/m<=g)/\g<w'.heap.size)/\zh (fun g=>S g\/m<=g) w w'
theorem zd0{body:List Li}:∀{K:List ByteArray}{left:List Nat}{q:List Sp},yu body K left q->∀s∈q,∃r i,∃h:i<body.length,stepOf r i body[i]=some s
 |_,_,_,.nil,s,q=>by cases q
 |_,_,_,.cons (K:=K) (i:=i) (s:=s0) hi hb hst hr,s,q=>by
  rcases zpp.1 q with rfl|q
  ·exact⟨K,i,hb,hst⟩
  ·exact zd0 hr s q
theorem zh0{K:List ByteArray}{x:Li}{s:Sp}(h:stepOf K i x=some s)(q:s.k=6):∃v,s.gives=[v]:=by
 unfold stepOf at h;split at h
 ·injection h with h
  subst h;simp only at q;split at q
  ·omega
  ·split at q<;>omega
 split at h
 ·split at h
  ·injection h with h;subst h;simp only at q;omega
  ·cases h
 split at h
 ·injection h with h;subst h;simp only at q;omega
 split at h
 ·rename_i r;injection h with h;subst h
  obtain⟨v,r,_⟩:=r;exact⟨v,r⟩
 ·cases h
theorem zc6{m:Nat}(h:yd w wb G S N)(hS:∀g,S g->g<m)(aI:m<=w.heap.size)(tk:Nat->Int)(hT:Tk w tk)(ar:¬S 2)(aJ:2<m)(p:Px)(hp:p.zO w)(hR:yu p.r.body [] (List.range p.r.body.length) (p.ss.map (·.s)))(aH:p.r.body.length<=16)(aq:∀x∈p.r.body,x.off fun g=>¬S g/\g<m)(ap:∀s∈p.ss,qU (fun g=>¬S g/\g<m) s.A)(F T:Option Addr)(aj ai:Nat)(X W:List Nat)(hF:zY y5 w F X)(aA:zY y5 w T W)(av:X.length=p.r.body.length)(aB:W.length=p.r.body.length)(hm:∀c:Cx,c.G=G->c.tk=tk->∀x∈p.r.body,Za c x)(hM:(Vt tk G (p.ss.map fun s=>madeOf p.r.body (fun i=>X.getD i 0) (fun i=>W.getD i 0) s.s) fun _=>none).length<=2147483647)(q:ByteArray)(Y:Option Addr)(aa:Nat)(I:List Tm)(al:I.length<=24)(az:∀t∈I,t.v.size<=maxLen)(ho:Own Tm.cells 45 4 w Y aa I)(au:∀g∈zw Y,m<=g)(kb sb R U O:Nat)(gk:m<=kb)(gs:m<=sb)(aw:m<=R)(aD:m<=U)(aG:m<=O)(V:xv prog 9 w kb fun _=>none)(ab:zD w R 38 #[.string q,.slice Y I.length aa])(ad:zD w U 139 #[.pointer (some ⟨sb,0,none⟩)])(Z:zD w O 26 #[.slice none 0 0])(ae:zD w sb 142 #[.pointer (some ⟨wb,0,none⟩),.map (some kb),.func (.func 58) #[] #[.pointer (some ⟨R,0,none⟩),.pointer (some ⟨U,0,none⟩),.pointer (some ⟨O,0,none⟩)]]):
 Calls prog 59 #[.pointer (some ⟨sb,0,none⟩),.agg p.cells.toArray,.slice F p.r.body.length aj,.slice T p.r.body.length ai] w
  (zkM G wb N S m O q I (Vt tk G (p.ss.map fun s=>madeOf p.r.body (fun i=>X.getD i 0) (fun i=>W.getD i 0) s.s) fun _=>none) w):=by
 obtain⟨rb,ax⟩:=h.zij;obtain⟨c,L⟩:∃c:Cx,c={ wb:=wb,sb:=sb,kb:=kb,gf:=58,Uh:=#[.pointer (some ⟨R,0,none⟩),.pointer (some ⟨U,0,none⟩),.pointer (some ⟨O,0,none⟩)],G:=G,rb:=rb,N:=N,tk:=tk,M:=2147483647,Out:=Ta ⟨q,Y,aa,I⟩ R U O sb }:=⟨_,rfl⟩;have hO:c.Out=Ta ⟨q,Y,aa,I⟩ R U O c.sb:=by rw[L]
 have hc:=znR hO;have aE:=JF hR;rw[zph,zqQ]at aE;obtain⟨K',aF,I⟩:=zbo hc (hm c (by rw[L]) (by rw[L])) (zkv hO (by rw[L]) (by rw[L]) (by rw[L];exact zoZ _) al az) (fun i=>X.getD i 0) (fun i=>W.getD i 0) p.ss [] _ hR;subst I;have ao:∀g,(g=R\/g=U\/g=O\/g∈zw Y)->m<=g:=fun g I=>by
  rcases I with rfl|rfl|rfl|I
  ·exact aw
  ·exact aD
  ·exact aG
  ·exact au g I
 have ak:∀g,(g=R\/g=U\/g=O\/g∈zw Y)->g<w.heap.size:=fun g I=>by
  rcases I with rfl|rfl|rfl|I
  ·exact ab.lt
  ·exact ad.lt
  ·exact Z.lt
  ·exact ho.lt g I
 have hD:∀g,(S g\/g=kb\/(g=R\/g=U\/g=O\/g∈zw Y))->S g\/m<=g:=fun g I=>by
  rcases I with I|rfl|I
  ·exact .inl I
  ·exact .inr gk
  ·exact .inr (ao g I)
 have hQ:∀g,(¬S g/\g<m)->¬(S g\/g=kb\/(g=R\/g=U\/g=O\/g∈zw Y))/\g<w.heap.size:=fun g I=>⟨fun hd=>by
  rcases hD g hd with h1|h1
  ·exact I.1 h1
  ·omega,zd⟩
 have hj:JS c [] (fun g=>S g\/g=kb\/(g=R\/g=U\/g=O\/g∈zw Y)) (fun _=>none) w:=by
  refine⟨S,fun g=>g=R\/g=U\/g=O\/g∈zw Y,fun _=>none,by rw[L];exact ax,?_,by rw[L];exact V,zkw,by rw[L];exact ae,by rw[L];exact hT,fun g I=>.inl I,fun g I=>.inr (.inr I),.inr (.inl (by rw[L])),?_,?_,?_,?_,fun g I hu=>?_,fun g I=>?_⟩
  ·rw[hO,L];exact⟨none,0,[],ab,ad,Z,Own.qC _,rfl,(fun f hf=>nomatch hf),ho.xI,.inl rfl,.inr (.inl rfl),.inr (.inr (.inl rfl)),(fun g I=>nomatch I),(fun f hf=>nomatch hf),fun g I=>.inr (.inr (.inr I)),(fun f hf=>nomatch hf),fun g I=>⟨fun e=>ho.yB Z zr (e▸I),fun hn=>nomatch hn⟩,ak⟩
  ·rw[L];rintro(I|I|I|I|I|I)
   ·have:=hS sb I;omega
   ·exact ae.qM V I
   ·exact ae.yD ab zr I
   ·exact ae.yD ad zr I
   ·exact ae.yD Z zr I
   ·exact ho.yB ae zr I
  ·intro I
   rcases hD _ I with h1|h1
   ·exact ar h1
   ·omega
  ·rw[L];intro I;have:=hS kb I;omega
  ·rw[L];rintro(I|I|I|I)
   ·exact ab.qM V I.symm
   ·exact ad.qM V I.symm
   ·exact Z.qM V I.symm
   ·exact ho.qM V I
  ·have h1:=hS g I;have h2:=ao g hu;omega
  ·rcases I with I|rfl|I
   ·have:=hS g I;omega
   ·exact V.lt
   ·exact ak g I
 have an:c.solve (p.ss.map fun s=>madeOf p.r.body (fun i=>X.getD i 0) (fun i=>W.getD i 0) s.s) (fun _=>none)=Vt tk G (p.ss.map fun s=>madeOf p.r.body (fun i=>X.getD i 0) (fun i=>W.getD i 0) s.s) fun _=>none:=by rw[L];rfl
 have ag:zda p:=⟨fun s hs=>by
  obtain⟨K',i,hi,ag⟩:=zd0 hR s.s (zpA.2 ⟨s,hs,rfl⟩);have hl:=(Y6 ag).1;exact⟨p.r.body[i],by rw[hl];exact zo6 hi,zh0 ag⟩,zd,zd⟩
 have am:∀s∈p.ss.map (Yr p.r.body (fun i=>X.getD i 0) (fun i=>W.getD i 0)),s.zO w/\s.off fun g=>¬(S g\/g=kb\/(g=R\/g=U\/g=O\/g∈zw Y))/\g<w.heap.size:=fun s hs=>by
  obtain⟨x,hx,rfl⟩:=zpA.1 hs;unfold Yr
  rcases hl:p.r.body[x.s.lit]? with _|y
  ·exact⟨⟨fun Y=>absurd rfl Y,zr⟩,fun g I=>nomatch I⟩
  ·have hy:=zp8 hl;have Y:=hp.r.body y hy;have ac:=aq y hy;have af:=ap x hx;simp only;split
   ·exact⟨Y.a,fun g I=>hQ g (ac.1 g I)⟩
   ·split
    ·exact⟨Y,ac.Yc hQ⟩
    ·split
     ·split
      ·exact⟨Y.r,ac.2.2.mono hQ⟩
      ·exact⟨Y.l,ac.2.1.mono hQ⟩
     ·exact⟨⟨Y.a,hp.ss x hx⟩,fun g I=>hQ g (ac.1 g I),fun g I=>hQ g (af g I)⟩
 have af:=zg8 hc p X W aF [] _ (fun _=>none) w hj (fun v x Y=>nomatch Y) (fun v=>zp) hp ag am F T aj ai hF aA av aB (by rw[an,L];simpa using hM);rw[an]at af;have ay:c.sb=sb:=by rw[L]
 rw[ay]at af;refine af.mono ?_;rintro e w'⟨rfl,D',⟨S',U',f',Y⟩,ac⟩;have ah:=Y.out;rw[hO]at ah;obtain⟨A,aC,fs,k⟩:=ah;refine⟨rfl,A,aC,fs,S',k.Y7,k.own,by rw[k.XB];rfl,k.args,fun g I=>⟨fun hs=>Y.su g hs (k.uA g I),k.lt g (k.uA g I)⟩,fun f hf g I=>⟨fun hs=>Y.su g hs (k.uF f hf g I),k.lt g (k.uF f hf g I)⟩,by have:=Y.Yv.Yv;rw[L]at this;exact this,fun g I=>⟨?_,Y.lt g (Y.Zs g I)⟩,ac.1.mono fun g I _=>hD g I⟩
 rcases ac.2 g (Y.Zs g I)with h1|h1
 ·exact hD g h1
 ·exact .inr zd
theorem zcu(w:World)(N:Value):∃W,((w.alloc (.map #[] 0)).alloc (.cells #[N,.map (some w.heap.size),.nilFunc] 142)).alloc (.cells #[.pointer (some ⟨w.heap.size+1,0,none⟩)] 139)=W/\Bl w W/\xv prog 9 W w.heap.size (fun _=>none)/\
 zD W (w.heap.size+1) 142 #[N,.map (some w.heap.size),.nilFunc]/\zD W (w.heap.size+1+1) 139 #[.pointer (some ⟨w.heap.size+1,0,none⟩)]:=by
 obtain⟨q,h⟩:∃q,w.alloc (.map #[] 0)=q:=⟨_,rfl⟩;have r:q.heap.size=w.heap.size+1:=by rw[<-h];simp
 have O:Bl w q:=by rw[<-h];exact xo w _
 have R:xv prog 9 q w.heap.size fun _=>none:=by rw[<-h];exact xv.new w 0
 obtain⟨U,L,I⟩:=ya q 142 139 #[N,.map (some w.heap.size),.nilFunc] #[.pointer (some ⟨w.heap.size+1,0,none⟩)];refine⟨U,by rw[h,L],zu O I.below,R.below I.below,?_,?_⟩
 ·rw[<-r];exact I.b0
 ·have:=I.b1;rw[r]at this;exact this
theorem zkH(h:yd w wb G S N)(hS:∀g,S g->g<w.heap.size)(tk:Nat->Int)(hT:Tk w tk)(bO:¬S 2)(p:Px)(hp:p.zO w)(bp:p.r.fits)(ht:p.r.zN.length<=1048576)(bu:p.r.ok)(hv:∀v∈p.r.vars,yl p.r.body v)(hR:yu p.r.body [] (List.range p.r.body.length) (p.ss.map (·.s)))(bq:∀x∈p.r.body,x.off fun g=>¬S g/\g<w.heap.size)(bo:∀s∈p.ss,qU (fun g=>¬S g/\g<w.heap.size) s.A)(h0:∀a∈p.r.head,a.g=0)(bn:p.r.head.length<=24)(bZ:∀a∈p.r.head,a.t.v.size<=maxLen)(bW:p.r.p.size<=maxLen)(ar:ByteArray->Nat)(hG:∀q a R,G q=some (a,R)->a=ar q)(b2:∀x∈p.r.body,x.k≠3->x.a.args.length=ar x.a.p)(b7:p.r.head.length=ar p.r.p)(ba:∀x∈p.r.body,x.a.p.size<=maxLen)(F T:Option Addr)(aX aW nb:Nat)(aD:p.r.body.length=nb)(av aj:List Nat)(hF:zY y5 w F av)(bE:zY y5 w T aj)(bw:av.length=nb)(bI:aj.length=nb)(b6:∀i (hb:i<p.r.body.length),av.getD i 0<=aj.getD i 0/\aj.getD i 0<=if p.r.body[i].k=1 then YW G p.r.body[i].a.p else 0)(hm:∀c:Cx,c.G=G->c.tk=tk->∀x∈p.r.body,Za c x)(hM:(Vt tk G (p.ss.map fun s=>madeOf p.r.body (fun i=>av.getD i 0) (fun i=>aj.getD i 0) s.s) fun _=>none).length<=2147483647):
 Calls prog 19 #[.pointer (some ⟨wb,0,none⟩),.agg p.cells.toArray,.slice F nb aX,.slice T nb aW] w (zdJ G wb N S p.r.p (p.r.head.map (·.t)) (Vt tk G (p.ss.map fun s=>madeOf p.r.body (fun i=>av.getD i 0) (fun i=>aj.getD i 0) s.s) fun _=>none) w):=by
 have X:=bu.Xz;have V:=JF hR;rw[zph,zqQ]at V;have b9:=zz (fun W (O:Bl w W)=>zd7 (h.below O));have aU:=zz (fun W (O:Bl w W)=>zfB W p (hp.below O) bp ht bu hv hR);have aR:=zz (fun W (O:Bl w W)=>zjM W p.r (hp.r.below O) zd h0);have aZ:=zz (fun W (O:Bl w W)=>zmL W p.r.B p.r.zM p.r.body.length p.r.body (hp.r.rd.below O) rfl zd);have bh:=zz (fun W (O:Bl w W) (A:Option Addr) (L n:Nat) (hA:Option Addr) (U:Nat) (l:List At) (Y:zY At.cells W A l) (hn:l.length=n) (cb:n<=1048576) (bX:l=Yq p.r.body++[⟨p.r.p,hA,U,p.r.head.map (·.t)⟩])=>zjW (h.below O) ar hG A L n l Y hn (fun a ha=>by
  rw[bX]at ha
  rcases zo7.1 ha with ha|ha
  ·obtain⟨x,hx,rfl⟩:=zbJ ha;exact b2 x hx.1 hx.2
  ·rw[zo2.1 ha];simp[b7]) (fun a ha=>by
  rw[bX]at ha
  rcases zo7.1 ha with ha|ha
  ·obtain⟨x,hx,rfl⟩:=zbJ ha;exact ba x hx.1
  ·rw[zo2.1 ha];exact bW) cb)
 have a1:=zz (fun W (O:Bl w W)=>zfX (h.below O) p.r.B F T p.r.zM aX aW nb p.r.body av aj (hp.r.rd.below O) (hF.below O) (bE.below O) aD bw bI zd ba b6);have bl:=zz hp;have Hw:=zz h;have L:=zz (zpf hS (zpf hT (zpf bO (zpf hR (zpf bq (zpf bo (zpf bn (zpf bZ (zpf hm hM)))))))));have aI:=zz (zpf hF (zpf bE (zpf bw bI)));have Hn:=zz (zpf aD V);have bv:=zz X;obtain⟨es,aq⟩:∃es,Vt tk G (p.ss.map fun s=>madeOf p.r.body (fun i=>av.getD i 0) (fun i=>aj.getD i 0) s.s) (fun _=>none)=es:=⟨_,rfl⟩;rw[aq];have bS:=zz aq;clear aq h hS hT bO hp bp ht bu hv hR bq bo h0 bn bZ bW hG b2 b7 ba hF bE bw bI b6 hm hM X V;obtain⟨⟨pp,pA,a3,Z,pB,ao,I⟩,sA,a5,ss⟩:=p;simp only[Px.cells,Ru.cells]at *;obtain⟨ak,X⟩:∃ak,Z.map (·.t)=ak:=⟨_,rfl⟩;rw[X]at aR bh ⊢;have aV:=zz X;clear X;obtain⟨nh,X⟩:∃n,Z.length=n:=⟨_,rfl⟩;obtain⟨ns,V⟩:∃n,ss.length=n:=⟨_,rfl⟩;rw[X,V,aD]at aU;rw[X,aD]at aR;rw[aD]at aZ;rw[X,V,aD];have ai:=zz (zpf aD (zpf X V));clear aD X V;have cf:=@run_makeMap prog;obtain⟨W0,X,V⟩:=xj w 57 #[.string pp,.slice pA nh a3,.slice pB nb ao,.slice sA ns a5];have ce:=zz X;have HX:=zz V;have p0:=V.b0.cell 0;have p1:=V.b0.cell 1;have p2:=V.b0.cell 2;have p3:=V.b0.cell 3;clear V X;go_enter func19,ntmps19;go_upto_region 1 with fail
 rw[ce.o];go_upto_region 6 with(first
  |(go_at_call 51;refine(b9.o _ HX.o.below).mono ?_;rintro e w1⟨rfl,rfl⟩)
  |(go_at_call 53;refine(aU.o _ HX.o.below).mono ?_;rintro e w2⟨rfl,bz⟩;have bx:=zz (zu HX.o.below bz);have hb:=HX.o.b0.below bz;have bL:=zz hb;clear p0 p1 p2 p3;have p0:=hb.cell 0;have p1:=hb.cell 1;have p2:=hb.cell 2;clear hb bz)
  |(go_at_call 54;refine(aR.o _ bx.o).mono ?_;rintro e w3⟨hA,U,hn,rfl,b3,bQ,bA,bM⟩;have bc:=zz (zu bx.o bA);have bV:=zz bQ;have bm:=zz b3;have b4:=zz (bL.o.below bA);have bP:Kz (∀g∈zw hA,w.heap.size<=g):=fun g hg=>zpd bx.o.size (bM g hg);clear bQ b3 bA bM p0 p1 p2)
  |(refine xy 38 _ _ rfl ?_;refine XE zj 38 _ _ rfl _ [.string pp,.slice hA hn U] rfl rfl zp (zo) zt ?_;intro W4 bR;have bg:=zz bR;clear bR))
 have al:Kz (Bl w W4):=zu bc.o bg.o.below;have aJ:=zz (b4.o.below bg.o.below);have aY:=zz bg.o.b0;have H8:Kz (∀W,Bl W4 W->W.cell? ⟨w.heap.size,2,none⟩=some (.slice pB nb ao)/\W.cell? ⟨w3.heap.size,0,none⟩=some (.string pp)/\W.cell? ⟨w3.heap.size,1,none⟩=some (.slice hA hn U)):=fun W O=>⟨(aJ.o.below O).cell 2,(aY.o.below O).cell 0,(aY.o.below O).cell 1⟩
 have am:Kz ((Yq I).length<=16):=zpd (zhU I) bv.o;go_upto_region 8 with fail
 refine JZ [(0,0),(1,0),(2,0),(3,0),(5,0)] [(6,2),(7,2),(8,2),(9,0),(10,0)] [(4,2),(7,2),(8,2),(9,0),(10,0)] 9999 4 6 (fun W=>Bl W4 W) (fun _=>True) zo (zo) zo ?s0 ?s1 ?_
 case s1=>trivial
 case s0=>exact yj
 simp only[xM,qa,qb,qc,qd,qe,qf];try refine zQ ?_
 repeat refine zT H8.o ?_
 refine JV ?_ ?_
 ·refine xc fun K hK=>?_
  go_simp;refine(aZ.o _ (zu al.o (Below.refl _ _).drew)).mono ?_;rintro e w5⟨aA,bN,an,rfl,a6,bJ,bT,bd⟩;have ap:Bl W4 w5:=zu (Below.refl _ _).drew bT;have aw:=zz a6;have bG:Kz (∀g∈zw aA,W4.heap.size<=g):=bd;refine hK.out _ _ ap (fun _=>trivial) ?_;clear hK K a6 bd;try refine zQ ?_
  repeat refine zT H8.o ?_
  refine xc fun K hK=>?_
  go_simp;refine hK.out _ _ (ap.alloc ap.size _) (fun _=>trivial) ?_;clear hK K;try refine zQ ?_
  repeat refine zT H8.o ?_
  refine xc fun K hK=>?_
  refine Zv _ _ rfl zaR (f:=At.cells) (xs:=Yq I) (bJ.alloc _) aw.o ⟨pp,hA,U,ak⟩ _ 0 1 rfl rfl rfl (by rw[show At.cells ⟨pp,hA,U,ak⟩=[.string pp,.slice hA hn U]from by simp only[At.cells];rw[bm.o]];exact yp _ _ _ rfl) zt (by have:=aw.o;have:=am.o;omega) zr ?_;intro g b5 w7 a9 a4 bC;have bf:zh (·∈zw aA) w5 w7:=((zh.refl _ w5).alloc _).trans a4 (fun x hx _=>hx);have au:Bl W4 w7:=bf.qq ap (zoZ _) (fun x hx=>bG.o x hx);have bF:Kz (zY At.cells w7 (some ⟨g,0,none⟩) (Yq I++[⟨pp,hA,U,ak⟩])):=a9.xI;refine hK.out _ _ au (fun _=>trivial) ?_;clear hK K;try refine zQ ?_
  repeat refine zT H8.o ?_
  refine xc fun K hK=>?_
  go_simp;refine(bh.o _ (zu al.o au) _ _ _ hA U _ bF.o (by rw[zo1,aw.o];rfl) (by have:=aw.o;have:=am.o;omega) rfl).mono ?_;rintro e w9⟨rfl,a8⟩;have aT:Bl W4 w9:=zu au a8;refine hK.out _ _ aT (fun _=>trivial) ?_;clear hK K;try refine zQ ?_
  repeat refine zT H8.o ?_
  refine xu ?_;have aO:=zz aT;clear a8 aT au bf a9 a4 bC;have p2:=(aJ.o.below aO.o).cell 2;go_upto_region 12 with(go_at_call 57;refine(a1.o _ (zu al.o aO.o)).mono ?_;rintro e aS⟨rfl,aG⟩;have aF:=zz (zu aO.o aG);clear aG)
  clear p2;obtain⟨aa,aE,aH⟩:=xj aS 26 #[.slice none 0 0];have be:=zz aE;have ad:=zz aH;clear aE aH;go_upto_region 13 with fail
  rw[be.o];go_upto_region 14 with fail
  obtain⟨ca,aK,aC,ax,ay,ac⟩:=zcu aa (.pointer (some ⟨wb,0,none⟩));rw[aK];have cc:=ac.cell 0;have az:=zz aC;have bj:=zz ax;have bi:=zz ay;have a7:=zz ac;clear aK aC ax ay ac;go_upto_region 15 with(refine xy 1 _ _ rfl ?_;refine Xf zj 1 _ _ rfl (aa.heap.size+1) 2 _ _ bi.o (.func (.func 58) #[] #[.pointer (some ⟨w3.heap.size,0,none⟩),.pointer (some ⟨aa.heap.size+1+1,0,none⟩),.pointer (some ⟨aS.heap.size,0,none⟩)]) rfl rfl zp (zo) rfl ?_;intro bk aB;have X:=zz aB;clear aB)
  have aL:=al.o.size;have O:Bl W4 aa:=zu aF.o ad.o.below;have Y:Bl W4 bk:=X.o.below (zu O az.o) (zoZ _) (by have:=O.size;omega);have V:Kz (Bl w bk):=zu al.o Y;have ab:=X.o.qj a7.o zd;have b1:=ab.cell 0;have af:=aJ.o.below Y;have p0:=af.cell 0;have p1:=af.cell 1;have p2:=af.cell 2;have p3:=af.cell 3;have aQ:=(X.o.zC).size;have ah:=zz (zc6 (Hw.o.below V.o) L.o.1 V.o.size tk (L.o.2.1.below V.o (zoZ _)) L.o.2.2.1 L.o.2.1.lt ⟨⟨pp,pA,a3,Z,pB,ao,I⟩,sA,a5,ss⟩ (bl.o.below V.o) L.o.2.2.2.1 bv.o L.o.2.2.2.2.1 L.o.2.2.2.2.2.1
   F T aX aW av aj (aI.o.1.below V.o) (aI.o.2.1.below V.o) (aI.o.2.2.1.trans ai.o.1.symm) (aI.o.2.2.2.trans ai.o.1.symm) L.o.2.2.2.2.2.2.2.2.1 L.o.2.2.2.2.2.2.2.2.2
   pp hA U ak (by rw[<-aV.o,zph];exact L.o.2.2.2.2.2.2.1) (fun t ht=>by
    rw[<-aV.o]at ht;obtain⟨a,ha,rfl⟩:=zpA.1 ht;exact L.o.2.2.2.2.2.2.2.1 a ha) ((bV.o.below bg.o.below).below Y) bP.o aa.heap.size (aa.heap.size+1) w3.heap.size (aa.heap.size+1+1) aS.heap.size
   (zpd aL O.size) (by have:=O.size;omega) bc.o.size (by have:=O.size;omega) (by have:=aF.o.size;omega)
   (bj.o.zC X.o.zC (fun e=>zd)) (by rw[bm.o];exact aY.o.below Y) ab (X.o.qj (ad.o.b0.below az.o) (by have:=ad.o.size;omega)) (by have:=X.o.zG;simpa using this))
  clear ab af O Y aL aQ;have aq:=bS.o;have bs:=ai.o.1;have bD:=ai.o.2.1;have bH:=ai.o.2.2;have ag:=ah.o;simp only[aq]at ag;have ah:=zz ag;clear aq ag;subst bs bD bH
  go_wp2_with (go_at_call 59;refine ah.o.mono ?_;rintro e cd⟨rfl,oA,a2,fs,S',hk,ae⟩;have Y7:=hk.cell 0;have aM:=zz ae;clear hk ae)
  go_returns;obtain⟨ho,aN,aP,bB,bt,br,bK,hC⟩:=aM.o;exact⟨oA,a2,fs,S',rfl,ho,aN,aP,bB,bt,br,bK,(zh.xi S V.o).trans hC (fun x hx b8=>hx.resolve_right zd)⟩
 ·refine xc fun K hK=>?_
  go_simp;obtain⟨W5,bT,bU⟩:=xj W4 38 #[.string pp,.slice hA hn U];rw[bT];have ap:Bl W4 W5.drew:=bU.below.drew;refine hK.out _ _ ap (fun _=>trivial) ?_;clear hK K bT;try refine zQ ?_
  repeat refine zT H8.o ?_
  refine xc fun K hK=>?_
  go_simp;refine(aZ.o _ (zu al.o ap)).mono ?_;rintro e w6⟨aA,bN,an,rfl,a6,bJ,bY,bd⟩;have bT:Bl W4 w6:=zu ap bY;have aw:=zz a6;have bG:Kz (∀g∈zw aA,W4.heap.size<=g):=fun g hg=>zpd ap.size (bd g hg)
  refine hK.out _ _ bT (fun _=>trivial) ?_;clear hK K a6 bd;try refine zQ ?_
  repeat refine zT H8.o ?_
  have a6:w6.rangeAt W4.heap.size 0 (At.cells ⟨pp,hA,U,ak⟩):=by
   have h1:=(zD.below bU.b0.drew bY).range;simp only[At.cells];rw[bm.o];simpa using h1
  refine xc fun K hK=>?_
  refine Zv _ _ rfl zaR (f:=At.cells) (xs:=Yq I) bJ aw.o ⟨pp,hA,U,ak⟩ _ 0 1 rfl rfl rfl a6 zt (by have:=aw.o;have:=am.o;omega) zr ?_;intro g b5 w7 a9 a4 bC;have bf:zh (·∈zw aA) w6 w7:=a4;have au:Bl W4 w7:=bf.qq bT (zoZ _) (fun x hx=>bG.o x hx);have bF:Kz (zY At.cells w7 (some ⟨g,0,none⟩) (Yq I++[⟨pp,hA,U,ak⟩])):=a9.xI;refine hK.out _ _ au (fun _=>trivial) ?_;clear hK K;try refine zQ ?_
  repeat refine zT H8.o ?_
  refine xc fun K hK=>?_
  go_simp;refine(bh.o _ (zu al.o au) _ _ _ hA U _ bF.o (by rw[zo1,aw.o];rfl) (by have:=aw.o;have:=am.o;omega) rfl).mono ?_;rintro e w9⟨rfl,a8⟩;have aT:Bl W4 w9:=zu au a8;refine hK.out _ _ aT (fun _=>trivial) ?_;clear hK K;try refine zQ ?_
  repeat refine zT H8.o ?_
  refine xu ?_;have aO:=zz aT;clear a8 aT au bf a9 a4 bC;have p2:=(aJ.o.below aO.o).cell 2;go_upto_region 12 with(go_at_call 57;refine(a1.o _ (zu al.o aO.o)).mono ?_;rintro e aS⟨rfl,aG⟩;have aF:=zz (zu aO.o aG);clear aG)
  clear p2;obtain⟨aa,aE,aH⟩:=xj aS 26 #[.slice none 0 0];have be:=zz aE;have ad:=zz aH;clear aE aH;go_upto_region 13 with fail
  rw[be.o];go_upto_region 14 with fail
  obtain⟨ca,aK,aC,ax,ay,ac⟩:=zcu aa (.pointer (some ⟨wb,0,none⟩));rw[aK];have cc:=ac.cell 0;have az:=zz aC;have bj:=zz ax;have bi:=zz ay;have a7:=zz ac;clear aK aC ax ay ac;go_upto_region 15 with(refine xy 1 _ _ rfl ?_;refine Xf zj 1 _ _ rfl (aa.heap.size+1) 2 _ _ bi.o (.func (.func 58) #[] #[.pointer (some ⟨w3.heap.size,0,none⟩),.pointer (some ⟨aa.heap.size+1+1,0,none⟩),.pointer (some ⟨aS.heap.size,0,none⟩)]) rfl rfl zp (zo) rfl ?_;intro bk aB;have X:=zz aB;clear aB)
  have aL:=al.o.size;have O:Bl W4 aa:=zu aF.o ad.o.below;have Y:Bl W4 bk:=X.o.below (zu O az.o) (zoZ _) (by have:=O.size;omega);have V:Kz (Bl w bk):=zu al.o Y;have ab:=X.o.qj a7.o zd;have b1:=ab.cell 0;have af:=aJ.o.below Y;have p0:=af.cell 0;have p1:=af.cell 1;have p2:=af.cell 2;have p3:=af.cell 3;have aQ:=(X.o.zC).size;have ah:=zz (zc6 (Hw.o.below V.o) L.o.1 V.o.size tk (L.o.2.1.below V.o (zoZ _)) L.o.2.2.1 L.o.2.1.lt ⟨⟨pp,pA,a3,Z,pB,ao,I⟩,sA,a5,ss⟩ (bl.o.below V.o) L.o.2.2.2.1 bv.o L.o.2.2.2.2.1 L.o.2.2.2.2.2.1
   F T aX aW av aj (aI.o.1.below V.o) (aI.o.2.1.below V.o) (aI.o.2.2.1.trans ai.o.1.symm) (aI.o.2.2.2.trans ai.o.1.symm) L.o.2.2.2.2.2.2.2.2.1 L.o.2.2.2.2.2.2.2.2.2
   pp hA U ak (by rw[<-aV.o,zph];exact L.o.2.2.2.2.2.2.1) (fun t ht=>by
    rw[<-aV.o]at ht;obtain⟨a,ha,rfl⟩:=zpA.1 ht;exact L.o.2.2.2.2.2.2.2.1 a ha) ((bV.o.below bg.o.below).below Y) bP.o aa.heap.size (aa.heap.size+1) w3.heap.size (aa.heap.size+1+1) aS.heap.size
   (zpd aL O.size) (by have:=O.size;omega) bc.o.size (by have:=O.size;omega) (by have:=aF.o.size;omega)
   (bj.o.zC X.o.zC (fun e=>zd)) (by rw[bm.o];exact aY.o.below Y) ab (X.o.qj (ad.o.b0.below az.o) (by have:=ad.o.size;omega)) (by have:=X.o.zG;simpa using this))
  clear ab af O Y aL aQ;have aq:=bS.o;have bs:=ai.o.1;have bD:=ai.o.2.1;have bH:=ai.o.2.2;have ag:=ah.o;simp only[aq]at ag;have ah:=zz ag;clear aq ag;subst bs bD bH
  go_wp2_with (go_at_call 59;refine ah.o.mono ?_;rintro e cd⟨rfl,oA,a2,fs,S',hk,ae⟩;have Y7:=hk.cell 0;have aM:=zz ae;clear hk ae)
  go_returns;obtain⟨ho,aN,aP,bB,bt,br,bK,hC⟩:=aM.o;exact⟨oA,a2,fs,S',rfl,ho,aN,aP,bB,bt,br,bK,(zh.xi S V.o).trans hC (fun x hx b8=>hx.resolve_right zd)⟩
structure Jm (r:Ru) (fs:List Fa):Prop where
 fits:r.fits
 zN:r.zN.length<=1048576
 X9:r.head.length<=1048576
 Xz:r.body.length<=1048575
 may:∀x∈r.body,x.l.may/\x.r.may/\x.a.args.length<=1048576/\x.a.p.size<=1048576/\∀t∈x.a.args,t.x.told
 args:YV r.body<=2097152
 nf:fs.length<=1048576
 facts:∀f∈fs,f.args.length<=1048576/\f.p.size<=1048576/\∀v∈f.args,v.told
structure Fit (r:Ru) (fs:List Fa):Prop where
 flat:∀a∈r.head,a.g=0
 ZZ:Dc [r] fs
theorem zdH{k:Int}(h0:-128<=k)(h:k<=127):(Lit.int .i8 k).wf=true:=by
 simp[Lit.wf,IntKind.min,IntKind.max,IntKind.signed,IntKind.bits];omega
theorem Tr{x:Vl}(h:x.told):x.val.wf:=⟨zdH h.k0 h.k1,JW h.n0 h.n1,zpd h.s zr⟩
mutual
theorem Ex.zaC:∀{e:Ex},e.may->e.Zc
 |.mk q t A I r,h=>by
  unfold Ex.may at h;unfold Ex.Zc;exact⟨Tr h.2.2.1,Ex.zei h.2.2.2.2⟩
theorem Ex.zei:∀{l:List Ex},Ex.Y8 l->Ex.Zu l
 |[],_=>by unfold Ex.Zu;trivial
 |e::r,h=>by
  unfold Ex.Y8 at h;unfold Ex.Zu;exact⟨Ex.zaC h.1,Ex.zei h.2⟩
end
mutual
theorem Ex.Gj:∀(e:Ex),e.bare.Zc↔e.Zc
 |.mk q t A r h=>by
  rw[Ex.bare,Ex.Zc,Ex.Zc,Ex.ze5]
theorem Ex.ze5:∀(l:List Ex),Ex.Zu (Ex.Y9 l)↔Ex.Zu l
 |[]=>by rw[Ex.Y9]
 |e::h=>by rw[Ex.Y9,Ex.Zu,Ex.Zu,Ex.Gj,Ex.ze5]
end
theorem za8{e:Ex}(h:e.empty):JP c e:=fun ρ x I r=>by
 obtain⟨q,t,A,U,R⟩:=e;unfold Ex.empty at h;obtain⟨rfl,L,-⟩:=h;unfold Ex.ev at r;rw[if_pos rfl,if_pos (by rw[L.1];simp)]at r
 cases r
 obtain⟨v,k,n,s⟩:=t;obtain⟨-,N,I,O⟩:=L;simp only at N I O;subst N I O;exact⟨zdH (k:=0) zr (zr),JW (n:=0) zr (zr),zo5 _⟩
noncomputable def UH(r:Ru)(fs:List Fa)(q:ByteArray):Nat:=(((qW r++fs.map qX).find? fun x=>tf (x.1=q)).map (·.2)).getD 0
theorem Dk(h:Cons (qW r++fs.map qX)){q:ByteArray}(L:(q,n)∈qW r++fs.map qX):UH r fs q=n:=by
 unfold UH;generalize I:((qW r++fs.map qX).find? fun x=>tf (x.1=q))=o
 rcases o with _|y
 ·rw[List.find?_eq_none]at I;exact absurd (Zf.2 rfl) (I _ L)
 ·have O:=List.find?_some I;have N:=List.mem_of_find?_eq_some I;show y.2=n;exact h _ N _ L (Zf.1 O)
theorem Fit.cons{r:Ru}{fs:List Fa}(h:Fit r fs):Cons (qW r++fs.map qX):=by
 have:=h.ZZ.cons;simpa only[zps,zqX,zpw]using this
theorem Fit.ok(h:Fit r fs):r.ok:=(h.ZZ.rules r zpi).1
theorem Fit.lim(h:Fit r fs):∀v∈r.vars,yl r.body v:=(h.ZZ.rules r zpi).2
theorem Fit.ar(h:Fit r fs):∀q a R,yL fs q=some (a,R)->a=UH r fs q:=fun q a R e=>by
 obtain⟨⟨x,I,rfl,rfl⟩,-⟩:=Dw fs q a R e;exact(Dk h.cons (zpk _ (zpA.2 ⟨x,I,rfl⟩))).symm
theorem Fit.zee(h:Fit r fs):∀x∈r.body,x.k≠3->x.a.args.length=UH r fs x.a.p:=fun x L N=>by
 have q:x.k=1\/x.k=2:=by
  rcases(h.ok.body x L)with⟨I,_⟩ |⟨I,_⟩
  ·exact I
  ·exact absurd I N
 refine(Dk h.cons (zpu _ (zpj _ (zqg.2 ⟨x,L,?_⟩)))).symm;unfold Ya;rw[if_pos q];exact zpi
theorem Fit.ziW(h:Fit r fs):r.head.length=UH r fs r.p:=(Dk h.cons (zpu _ zpi)).symm
theorem zdA(fs:List Fa)(p:ByteArray):(((yL fs p).map (·.2)).getD []).length<=Ye fs p:=by
 induction fs using List.zdv generalizing p with
 |nil=>exact zo5 _
 |snoc l x q=>
  rw[DV,zd5];unfold ZV
  by_cases e:p=x.p
  ·subst e;rw[if_pos rfl,if_pos rfl,zpK,zpT];exact zpd (zdC _ _) (Nat.succ_le_succ (q _))
  ·rw[if_neg e,if_neg (fun h=>e h.symm)];exact q p
theorem zes(fs:List Fa)(p:ByteArray):YW (yL fs) p<=fs.length:=zpd (zdA fs p) (DS fs p)
theorem Li.zhF(x:Li):x.vars.length<=x.zN.length:=YL _
theorem zmA{I:Ru}(g:Jm r fs)(h:Fit r fs)(Z:q8 r I)(c:Cx)(hG:c.G=yL fs):∀x∈I.body,Za c x:=fun x q=>by
 obtain⟨y,U,e⟩:=Z.mem q;have L:x.ok:=(Z.ok h.ok).body x q;have hf:=Z.fits g.fits;have hp:y.a.p=x.a.p:=show y.bare.a.p=x.bare.a.p from congrArg (fun z:Li=>z.a.p) e
 have ha:y.a.args=x.a.args:=show y.bare.a.args=x.bare.a.args from congrArg (fun z:Li=>z.a.args) e
 have hl:y.l.bare=x.l.bare:=congrArg (fun z:Li=>z.l) e;have hr:y.r.bare=x.r.bare:=congrArg (fun z:Li=>z.r) e;have hk:y.k=x.k:=show y.bare.k=x.bare.k from congrArg (fun z:Li=>z.k) e
 have W:=g.may y U;have O:x.l.Zc:=(Ex.Gj _).1 (hl▸(Ex.Gj _).2 (Ex.zaC W.1));have Y:x.r.Zc:=(Ex.Gj _).1 (hr▸(Ex.Gj _).2 (Ex.zaC W.2.1));have hT:x.zN.length<=1048576:=by
  rw[<-Li.zaS e];exact zpd (Li.zey U) g.zN
 have aa:x.zN.length=x.a.args.length+(x.l.zN.length+x.r.zN.length):=by unfold Li.zN;rw[zo1,zo1]
 have N:∀t∈x.zN,t.v.size<=maxLen:=fun t I=>hf.2.2 t (zpk _ (zqg.2 ⟨x,q,I⟩))
 refine⟨L,hf.2.1 x q,fun t I=>N t (zpu _ I),fun t I=>Tr (W.2.2.2.2 t (ha▸I)),fun V a R X=>?_,zd,zd,?_,?_,fun v hv=>?_,zpd (Li.zhF x) hT⟩
 ·rw[hG]at X;have q:=(Dw fs _ _ _ X).2;have h3:=g.nf;refine⟨?_,zd⟩;rw[h.ar _ _ _ X,<-ha,<-hp];exact(h.zee y U (by rw[hk];exact V)).symm
 ·rcases L with⟨_,_,q,_⟩ |⟨_,_,_,_,_,q,_⟩
  ·exact za8 q
  ·exact za3 q O
 ·rcases L with⟨_,_,_,q,_⟩ |⟨_,_,_,_,_,_,q⟩
  ·exact za8 q
  ·exact za3 q Y
 ·obtain⟨-,t,I,rfl⟩:=C.qJ.1 hv;exact N t I
theorem zlp{q:Ru}(O:q8 r q)(I:ByteArray->Nat):X1 q.body I=X1 r.body I:=by
 funext i
 unfold X1;have h:=congrArg (fun l:List Li=>l[i]?) O.body;simp only[zpX]at h
 rcases h1:q.body[i]? with _|x<;>rcases h2:r.body[i]? with _|y<;>rw[h1,h2]at h
 ·cases h
 ·cases h
 ·simp only[zpK,zpV]at h;have L:x.a.p=y.a.p:=show x.bare.a.p=y.bare.a.p from congrArg (fun z:Li=>z.a.p) h
  have N:x.k=y.k:=show x.bare.k=y.bare.k from congrArg (fun z:Li=>z.k) h
  simp only[L,N]
noncomputable def XL(r:Ru)(fs:List Fa)(i:Nat):Nat:=match r.body[i]? with
 |some x=>if x.k=1 then YW (yL fs) x.a.p else 0
 |none=>0
theorem Ju(h:i<r.body.length):XL r fs i=if r.body[i].k=1 then YW (yL fs) r.body[i].a.p else 0:=by
 unfold XL;rw[zo6 h]
noncomputable def Zz(tk:Nat->Int)(fs:List Fa)(p:Px)(lo hi:Nat->Nat):List Env:=Vt tk (yL fs) (p.ss.map fun s=>madeOf p.r.body lo hi s.s) fun _=>none
theorem zbT{tk:Nat->Int}{p:Px}(L:q8 r p.r)(I:yu p.r.body [] (List.range r.body.length) (p.ss.map (·.s)))(lo hi:Nat->Nat):(Zz tk fs p lo hi).length<=mulL (X1 r.body (Ye fs)) (List.range r.body.length):=by
 have h:=ziC (fun ρ e=>e.ev tk ρ) Z6 (fun q=>((yL fs q).map (·.2)).getD []) I (Ye fs) (zdA fs) lo hi fun _=>none
 rw[zlp L,List.map_map]at h;exact h
structure UL (r:Ru) (p:Px) (S:Nat->Prop) (w:World):Prop where
 copy:q8 r p.r
 zO:p.zO w
 right:yu p.r.body [] (List.range r.body.length) (p.ss.map (·.s))
 off:p.r.off fun g=>¬S g/\g<w.heap.size
 XD:∀s∈p.ss,qU (fun g=>¬S g/\g<w.heap.size) s.A
 DC:qU (fun g=>¬S g/\g<w.heap.size) p.A
theorem za6(h:yd w wb (yL fs) S N)(hS:∀g,S g->g<w.heap.size)(tk:Nat->Int)(hT:Tk w tk)(ah:¬S 2)(g:Jm r fs)(f:Fit r fs)(Z:mulL (X1 r.body (Ye fs)) (List.range r.body.length)<=2147483647)(p:Px)(hp:UL r p S w)(F T:Option Addr)(V R X:Nat)(ai:r.body.length=X)(O L:List Nat)(hF:zY y5 w F O)(af:zY y5 w T L)(ae:O.length=X)(ac:L.length=X)(ad:∀i,i<X->O.getD i 0<=L.getD i 0/\L.getD i 0<=XL r fs i):
 Calls prog 19 #[.pointer (some ⟨wb,0,none⟩),.agg p.cells.toArray,.slice F X V,.slice T X R] w (zdJ (yL fs) wb N S r.p (r.head.map (·.t)) (Zz tk fs p (fun i=>O.getD i 0) fun i=>L.getD i 0) w):=by
 have q:=hp.copy;have ab:=q.len;have I:=q.fits g.fits;have ag:=q.ok f.ok;have hr:=hp.right;rw[<-ab]at hr;have U:=zkH h hS tk hT ah p hp.zO I (by rw[q.zN];exact g.zN) ag (q.zn0 f.lim) hr hp.off.2.2 hp.XD (by rw[q.head];exact f.flat) (by rw[q.head];exact f.ok.X9)
  (fun a W=>I.2.2 a.t (zpu _ (zpA.2 ⟨a,W,rfl⟩))) I.1 (UH r fs) f.ar (fun x hx hk=>by
   obtain⟨y,hy,e⟩:=q.mem hx;have W:y.a.p=x.a.p:=show y.bare.a.p=x.bare.a.p from congrArg (fun z:Li=>z.a.p) e
   have aa:y.a.args=x.a.args:=show y.bare.a.args=x.bare.a.args from congrArg (fun z:Li=>z.a.args) e
   have Y:y.k=x.k:=show y.bare.k=x.bare.k from congrArg (fun z:Li=>z.k) e
   rw[<-W,<-aa];exact f.zee y hy (by rw[Y];exact hk)) (by rw[q.head,q.p];exact f.ziW) I.2.1
  F T V R X (by rw[ab];exact ai) O L hF af ae ac (fun i hb=>by
   have aa:i<r.body.length:=zd;have h1:=ad i zd;rw[Ju aa]at h1;have e:=congrArg (fun l:List Li=>l[i]?) q.body;simp only[zpX,zo6 hb,zo6 aa,zpK,zpV]at e;have W:p.r.body[i].a.p=r.body[i].a.p:=show(p.r.body[i]).bare.a.p=(r.body[i]).bare.a.p from congrArg (fun z:Li=>z.a.p) e
   have Y:p.r.body[i].k=r.body[i].k:=show(p.r.body[i]).bare.k=(r.body[i]).bare.k from congrArg (fun z:Li=>z.k) e
   rw[W,Y];exact h1) (fun c hG _ x hx=>zmA g f q c hG x hx) (zpd (zbT (tk:=tk) q hp.right _ _) Z)
 rw[q.p,q.head]at U;exact U
theorem Yf:qy prog 65 3 1 8:=qy.of (z:=.int .i64 0) underlying65 zo rfl zr
structure Yk (w:World) (m:Nat) (Z Y X:Option Addr) (cz cy cx:Nat) (zs ys xs:List Nat):Prop where
 z:Own y5 3 1 w Z cz zs
 y:Own y5 3 1 w Y cy ys
 x:Own y5 3 1 w X cx xs
 hz:∀g∈zw Z,m<=g
 hy:∀g∈zw Y,m<=g
 hx:∀g∈zw X,m<=g
 zy:∀g∈zw Z,g∉zw Y
 zx:∀g∈zw Z,g∉zw X
 yx:∀g∈zw Y,g∉zw X
section
variable {w W w':World}{m:Nat}{Z Y X:Option Addr}{cz cy cx:Nat}{zs ys xs:List Nat}
theorem Yk.nil(w:World)(m:Nat):Yk w m none none none 0 0 0 [] [] []:=
 ⟨Own.qC w,Own.qC w,Own.qC w,(fun g h=>nomatch h),(fun g h=>nomatch h),(fun g h=>nomatch h),(fun g h=>nomatch h),(fun g h=>nomatch h),(fun g h=>nomatch h)⟩
theorem Yk.TE(h:Yk w m Z Y X cz cy cx zs ys xs):Yk w m Y X Z cy cx cz ys xs zs:=
 ⟨h.y,h.x,h.z,h.hy,h.hx,h.hz,h.yx,fun g r q=>h.zy g q r,fun g r q=>h.zx g q r⟩
theorem Yk.below(h:Yk w m Z Y X cz cy cx zs ys xs)(q:Bl w w'):Yk w' m Z Y X cz cy cx zs ys xs:=
 ⟨h.z.below q,h.y.below q,h.x.below q,h.hz,h.hy,h.hx,h.zy,h.zx,h.yx⟩
theorem Yk.push(h:Yk w m Z Y X cz cy cx zs ys xs)(hm:m<=w.heap.size){a g cap':Nat}(V:Own y5 3 1 w' (some ⟨g,0,none⟩) cap' (zs++[a]))(U:zh (·∈zw Z) w w')(q:g∈zw Z\/w.heap.size<=g):
 Yk w' m (some ⟨g,0,none⟩) Y X cap' cy cx (zs++[a]) ys xs:=by
 have R:m<=g:=by
  rcases q with q|q
  ·exact h.hz g q
  ·omega
 have O:g∉zw Y:=fun r=>by
  rcases q with q|q
  ·exact h.zy g q r
  ·have:=h.y.lt g r;omega
 have N:g∉zw X:=fun r=>by
  rcases q with q|q
  ·exact h.zx g q r
  ·have:=h.x.lt g r;omega
 exact⟨V,h.y.same fun k I=>U.block k (h.y.lt k I) (fun L=>h.zy k L I),h.x.same fun k I=>U.block k (h.x.lt k I) (fun L=>h.zx k L I),xW R,h.hy,h.hx,xW O,xW N,h.yx⟩
end
theorem X6{N w:World}{Z Y X:Option Addr}{cz cy cx:Nat}{zs ys xs:List Nat}{ob:Obj}{t:TypeId}{P:Program}(HT:Kz (Yk w N.heap.size Z Y X cz cy cx zs ys xs))(V:Kz (Bl N w))(hn:zs.length=n)(x:Nat){s y:Operand}{ab U c:Nat}(E:qy P t 3 1 8)(hQ:∀g q w',Kz (Yk w' N.heap.size Y X (some ⟨g,0,none⟩) cy cx q ys xs (zs++[x]))->Kz (Bl N w')->Kz (zh (·∈zw Z) w w')->wpList P L Q rest (a.put o.dst (.slice (some ⟨g,0,none⟩) (n+1) q)) w')(O:o.guard=none:=by rfl)(ho:o.op=.call { callee:=.builtin .append,args:=#[s,y],argTypes:=#[t,t]}:=by rfl)(hs:a.eval s=.slice Z n cz:=by rfl)(hy:a.eval y=.slice (some ⟨ab,U,none⟩) 1 c:=by rfl)(I:(w.alloc ob).rangeAt ab U (y5 x):=by exact yp _ _ _ rfl)(hb:n<=4194304:=by omega):
 wpList P L Q (o::rest) a (w.alloc ob):=
 X0 O s y ho E (HT.o.z.alloc _) hn x ab U c hs hy rfl I (by simp[y5,Value.oneCell']) hb (by decide) fun g q w' aa hc hg=>by
  have r:zh (·∈zw Z) w w':=((zh.refl _ w).alloc _).trans hc fun x R _=>R
  have R:g∈zw Z\/w.heap.size<=g:=hg.imp id fun h=>by
   try simp at h
   omega
  exact hQ g q w' (HT.o.push V.o.size aa r R).TE (V.o.trans (r.below V.o.size HT.o.hz)) r
end
