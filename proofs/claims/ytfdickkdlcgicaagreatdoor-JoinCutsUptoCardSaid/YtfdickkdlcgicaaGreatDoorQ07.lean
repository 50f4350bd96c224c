/-
  Walks: the document's predicates of rules and facts; a job. 
-/
import Derived.Test.YtfdickkdlcgicaaGreatDoorQ06
import Derived.Test.YtfdickkdlcgicaaGreatDoorQ05
import Derived.Shelf.SlIter.Nil
import Derived.Shelf.SortM.Plain
import Derived.Shelf.SortM.SortNone
import Derived.Ground.GgzProg
import Derived.Ground.SlgmProg
import Derived.Shelf.SlicesE.Clone
import Derived.Shelf.SlGeneric
import Derived.Ground.SlgnProg
set_option maxRecDepth 100000
set_option maxHeartbeats 8000000
set_option linter.all false
namespace Go.Proofs.YtfdickkdlcgicaaGreatDoor.C
open Go.Proofs.Tryz Go Go.RowKit Go.Maps Go.WideMaps
variable {P:Program}{e:TypeId}{f:Value->Option Value}{size:Nat}{ρ:Go.Shelf.Ren}
section
theorem Ru.xG(r:Ru):r.cells.length=2+1:=rfl
theorem Fa.xG(f:Fa):f.cells.length=1+1:=rfl
theorem Vl.xG(v:Vl):v.cells.length=2+1:=rfl
abbrev yc(f:Fa):ByteArray×Nat:=(f.p,f.args.length)
def zha(P:Prop)(w:World)(e:Ending)(w':World):Prop:=
 ∃(A:Option Addr) (h n:Nat) (c:Int),e=.returned (.tuple #[.slice A n h,.int .i64 c])/\(c=0->P)/\Bl w w'
theorem Cons.qz:Cons []:=fun a h=>by cases h
theorem zng(w:World)(R:Option Addr)(aA:Nat)(N:List Ru)(hR:zZ Ru.cells w R N)(aL:∀r∈N,r.zN w)(nr:Nat)(aI:N.length=nr)(aM:∀r∈N,r.body.length<=1048576)(F:Option Addr)(aR:Nat)(fs:List Fa)(hF:zZ Fa.cells w F fs)(nf:Nat)(aO:fs.length=nf)(hT:(N.flatMap ya).length+nf<=2097152):
 Calls prog 87 #[.agg #[.slice R nr aA],.slice F nf aR] w (zha (Cons (N.flatMap ya++fs.map yc)) w):=by
 have HR:=zz hR;have aU:=zz aL;have aJ:=zz aI;have aT:=zz aM;have HF:=zz hF;have az:=zz aO;have HT:=zz hT;have a2:nf<=2097152:=zd;have a5:nr<=2097152:=by
  have:N.length<=(N.flatMap ya).length:=by
   clear hR aL aI aM hT HR aU aJ aT HT
   induction N with
   |nil=>simp
   |cons r N q=>
    rw[zpZ,zpA,zpV];have:0<(ya r).length:=by unfold ya;simp
    omega
  omega
 clear hR aL aI aM hF aO hT;obtain⟨W0,q,I⟩:=xi w 180 #[.slice R nr aA];have HX:=zz I;have aZ:=zz q;clear I q;go_enter func87,ntmps87;go_wp2;rw[aZ.o]
 go_loopg[6,7,8] nr (fun gk s6 s7 q wx=>∃(i:Nat) (Y:Option Addr) (I O:Nat) (ok:Bool),i<=nr/\gk=nr-i/\q=.int .i64 (i:Int)/\s6=.slice Y O I/\s7=.bool ok/\
  (ok=true->∃q,q.length=O/\Cons q/\(∀x∈(N.take i).flatMap ya,x∈q)/\zZ yF wx Y q/\O<=((N.take i).flatMap ya).length)/\Bl W0 wx)
 case atStart=>exact⟨0,none,0,0,true,zpD _,rfl,rfl,rfl,rfl,fun _=>⟨[],rfl,Cons.qz,fun x U=>by simp at U,fun h=>(h rfl).elim,zpD _⟩,Below.refl _ _⟩
 case round=>
  obtain⟨i,Y,I,O,ok,hi,rfl,rfl,rfl,rfl,hk,hB⟩:=hrel;have x0:wr.cell? ⟨w.heap.size,0,none⟩=some (.slice R nr aA):=(HX.o.b0.below hB).cell 0;have Hk:=zz hk;have V:=zz hB;clear hk hB
  rcases ok with _|_
  ·have ak:Kz ((false=true->∃q,q.length=O/\Cons q/\(∀x∈N.flatMap ya++(fs.take 0).map yc,x∈q)/\zZ yF wr Y q/\O<=(N.flatMap ya).length+0)):=fun h=>(by cases h)
   by_cases aN:i<nr
   ·go_wp2
    go_loopg[6,7,9] nf (fun gk s6 s7 s9 wx=>∃(j:Nat) (Y:Option Addr) (I O:Nat) (ok:Bool),j<=nf/\gk=nf-j/\s9=.int .i64 (j:Int)/\s6=.slice Y O I/\s7=.bool ok/\
     (ok=true->∃q,q.length=O/\Cons q/\(∀x∈N.flatMap ya++(fs.take j).map yc,x∈q)/\zZ yF wx Y q/\O<=(N.flatMap ya).length+j)/\Bl W0 wx)
    case atStart=>exact⟨0,Y,I,O,false,zpD _,rfl,rfl,rfl,rfl,(fun h=>by first|exact absurd h zr|exact ak.o zc),V.o⟩
    case round=>
     clear ak V Hk;obtain⟨j,Y,I,O,ok,hj,rfl,rfl,rfl,rfl,hk,hB⟩:=hrel;have Hk:=zz hk;have V:=zz hB;clear hk hB x0
     rcases ok with _|_
     ·go_wp2
      all_goals
       go_returns;exact⟨none,0,0,72,rfl,fun h=>(by cases h),HX.o.below.trans (V.o.mono (by have:=HX.o.size;omega))⟩
     ·by_cases au:j<nf
      ·have ao:j<fs.length:=by rw[az.o];exact au
       obtain⟨b,o,rfl,al,X⟩:=(HF.o.below (HX.o.below.trans (V.o.mono (by have:=HX.o.size;omega)))).at Fa.xG j ao;have L:(fs.take (j+1)).map yc=(fs.take j).map yc++[yc fs[j]]:=by rw[zpC ao,zp1];rfl
       generalize fs[j]=f at X L;obtain⟨p,A2,aH,an⟩:=f;obtain⟨Na,ar⟩:∃Na,an.length=Na:=⟨_,rfl⟩;simp only[yc,Fa.cells,ar]at X L
       replace X:wr.rangeAt b (o+j*2) _:=X
       have Hr:=zz X;have aC:=zz al;have ap:=zz L;clear X al L ar;obtain⟨q,aj,ab,aa,ag,ac⟩:=Hk.o zc;have Z:=zz aj;have aw:=zz ab;have ay:=zz aa;have av:=zz ag;have ad:=zz ac;clear aj ab aa ag ac;go_wp2;refine xX [0,0,0,0,0,0,0,0,0,0,0,0,0,2,2,0,0,0,0,0] (fun W=>Bl wr W) ?_;have H0:Kz (∀W,Bl wr W->_):=fun W hW=>two (yB Hr.o hW aC.o)
       try refine zQ ?_
       repeat refine zS H0.o ?_
       refine xf fun K hK=>?_
       go_simp;refine hK.out _ _ ((Below.refl _ _).drew.alloc (zpx _) _) (fun _=>trivial) ?_;clear hK K;try refine zQ ?_
       repeat refine zS H0.o ?_
       refine xf fun K hK=>?_
       go_simp;have ae:Bl wr (wr.drew.alloc (.cells #[.string p,.int .i64 (Na:Int)] 166)):=(Below.refl _ _).drew.alloc (zpx _) _;have aq:zZ yF (wr.drew.alloc (.cells #[.string p,.int .i64 (Na:Int)] 166)) (some ⟨wr.heap.size,0,none⟩) [(p,Na)]:=fun _=>⟨_,_,rfl,zp,ZK wr.drew [.string p,.int .i64 (Na:Int)] 166⟩
       refine(Db _ _ I q (av.o.below ae) O Z.o aw.o _ 1 [(p,Na)] aq 1 rfl (by have:=ad.o;have:=HT.o;omega)).mono ?_;rintro e w5⟨A5,af,n5,b5,rfl,am,ai⟩;have ah:=zz (zl ae ai);have aD:=zz am;refine hK.out _ _ ah.o (fun _=>trivial) ?_;clear hK K ae aq ai am;try refine zQ ?_
       repeat refine zS H0.o ?_
       refine xt ?_;go_wp2
       go_roundg (nf-(j+1))
       case measure=>omega
       case rel=>
        refine⟨j+1,A5,af,n5,b5,zd,rfl,ze,rfl,rfl,fun h=>?_,V.o.trans (ah.o.mono V.o.size)⟩;obtain⟨ax,h1,h2,h3,h4,h5,h6⟩:=aD.o h;refine⟨ax,h1,h2,fun x U=>?_,h5,by have:=ad.o;have:=Z.o;simp only[zqs]at h6;omega⟩;rw[ap.o,<-zpX]at U
        rcases zpE.1 U with U|U
        ·exact h3 x (ay.o x U)
        ·exact h4 x U
      ·obtain rfl:j=nf:=zd;go_wp2;go_returns;have ht:fs.take j=fs:=by rw[<-az.o];exact zp5
       refine⟨Y,I,O,0,rfl,fun _=>?_,HX.o.below.trans (V.o.mono (by have:=HX.o.size;omega))⟩;obtain⟨q,h1,h2,h3,h4,h5⟩:=Hk.o zc;rw[ht]at h3;exact fun a ha b hb e=>h2 a (h3 a ha) b (h3 b hb) e
   ·obtain rfl:i=nr:=zd;go_wp2
    go_loopg[6,7,9] nf (fun gk s6 s7 s9 wx=>∃(j:Nat) (Y:Option Addr) (I O:Nat) (ok:Bool),j<=nf/\gk=nf-j/\s9=.int .i64 (j:Int)/\s6=.slice Y O I/\s7=.bool ok/\
     (ok=true->∃q,q.length=O/\Cons q/\(∀x∈N.flatMap ya++(fs.take j).map yc,x∈q)/\zZ yF wx Y q/\O<=(N.flatMap ya).length+j)/\Bl W0 wx)
    case atStart=>exact⟨0,Y,I,O,false,zpD _,rfl,rfl,rfl,rfl,(fun h=>by first|exact absurd h zr|exact ak.o zc),V.o⟩
    case round=>
     clear ak V Hk;obtain⟨j,Y,I,O,ok,hj,rfl,rfl,rfl,rfl,hk,hB⟩:=hrel;have Hk:=zz hk;have V:=zz hB;clear hk hB x0
     rcases ok with _|_
     ·go_wp2
      all_goals
       go_returns;exact⟨none,0,0,72,rfl,fun h=>(by cases h),HX.o.below.trans (V.o.mono (by have:=HX.o.size;omega))⟩
     ·by_cases au:j<nf
      ·have ao:j<fs.length:=by rw[az.o];exact au
       obtain⟨b,o,rfl,al,X⟩:=(HF.o.below (HX.o.below.trans (V.o.mono (by have:=HX.o.size;omega)))).at Fa.xG j ao;have L:(fs.take (j+1)).map yc=(fs.take j).map yc++[yc fs[j]]:=by rw[zpC ao,zp1];rfl
       generalize fs[j]=f at X L;obtain⟨p,A2,aH,an⟩:=f;obtain⟨Na,ar⟩:∃Na,an.length=Na:=⟨_,rfl⟩;simp only[yc,Fa.cells,ar]at X L
       replace X:wr.rangeAt b (o+j*2) _:=X
       have Hr:=zz X;have aC:=zz al;have ap:=zz L;clear X al L ar;obtain⟨q,aj,ab,aa,ag,ac⟩:=Hk.o zc;have Z:=zz aj;have aw:=zz ab;have ay:=zz aa;have av:=zz ag;have ad:=zz ac;clear aj ab aa ag ac;go_wp2;refine xX [0,0,0,0,0,0,0,0,0,0,0,0,0,2,2,0,0,0,0,0] (fun W=>Bl wr W) ?_;have H0:Kz (∀W,Bl wr W->_):=fun W hW=>two (yB Hr.o hW aC.o)
       try refine zQ ?_
       repeat refine zS H0.o ?_
       refine xf fun K hK=>?_
       go_simp;refine hK.out _ _ ((Below.refl _ _).drew.alloc (zpx _) _) (fun _=>trivial) ?_;clear hK K;try refine zQ ?_
       repeat refine zS H0.o ?_
       refine xf fun K hK=>?_
       go_simp;have ae:Bl wr (wr.drew.alloc (.cells #[.string p,.int .i64 (Na:Int)] 166)):=(Below.refl _ _).drew.alloc (zpx _) _;have aq:zZ yF (wr.drew.alloc (.cells #[.string p,.int .i64 (Na:Int)] 166)) (some ⟨wr.heap.size,0,none⟩) [(p,Na)]:=fun _=>⟨_,_,rfl,zp,ZK wr.drew [.string p,.int .i64 (Na:Int)] 166⟩
       refine(Db _ _ I q (av.o.below ae) O Z.o aw.o _ 1 [(p,Na)] aq 1 rfl (by have:=ad.o;have:=HT.o;omega)).mono ?_;rintro e w5⟨A5,af,n5,b5,rfl,am,ai⟩;have ah:=zz (zl ae ai);have aD:=zz am;refine hK.out _ _ ah.o (fun _=>trivial) ?_;clear hK K ae aq ai am;try refine zQ ?_
       repeat refine zS H0.o ?_
       refine xt ?_;go_wp2
       go_roundg (nf-(j+1))
       case measure=>omega
       case rel=>
        refine⟨j+1,A5,af,n5,b5,zd,rfl,ze,rfl,rfl,fun h=>?_,V.o.trans (ah.o.mono V.o.size)⟩;obtain⟨ax,h1,h2,h3,h4,h5,h6⟩:=aD.o h;refine⟨ax,h1,h2,fun x U=>?_,h5,by have:=ad.o;have:=Z.o;simp only[zqs]at h6;omega⟩;rw[ap.o,<-zpX]at U
        rcases zpE.1 U with U|U
        ·exact h3 x (ay.o x U)
        ·exact h4 x U
      ·obtain rfl:j=nf:=zd;go_wp2;go_returns;have ht:fs.take j=fs:=by rw[<-az.o];exact zp5
       refine⟨Y,I,O,0,rfl,fun _=>?_,HX.o.below.trans (V.o.mono (by have:=HX.o.size;omega))⟩;obtain⟨q,h1,h2,h3,h4,h5⟩:=Hk.o zc;rw[ht]at h3;exact fun a ha b hb e=>h2 a (h3 a ha) b (h3 b hb) e
  ·by_cases aN:i<nr
   ·have aF:i<N.length:=by rw[aJ.o];exact aN
    have aK:Bl w wr:=HX.o.below.trans (V.o.mono (by have:=HX.o.size;omega));obtain⟨b,o,rfl,al,X⟩:=(HR.o.below aK).at Ru.xG i aF;have L:(N.take (i+1)).flatMap ya=(N.take i).flatMap ya++ya N[i]:=by rw[zpC aF,zp2];simp
    have aE:((N.take (i+1)).flatMap ya).length<=(N.flatMap ya).length:=by
     have:N=N.take (i+1)++N.drop (i+1):=(zqi _ _).symm;rw[congrArg (List.flatMap ya) this,zp2,zpA];omega
    have aB:=zmT wr N[i] ((aU.o _ (zpB aF)).below aK) (aT.o _ (zpB aF));generalize N[i]=r at X L aB;rw[L,zpA]at aE;obtain⟨st,aG⟩:∃st,ya r=st:=⟨_,rfl⟩;rw[aG]at aB L aE;clear aG;obtain⟨p,B,zM,a3,C,a4,aP⟩:=r;simp only[Ru.cells]at X aB
    replace X:wr.rangeAt b (o+i*3) _:=X
    obtain⟨d0,d1,d2⟩:=three X;have ak:=zz aB;have ap:=zz L;have aW:=zz aE;clear X aB L aE aK;obtain⟨q,aj,ab,aa,ag,ac⟩:=Hk.o zc;have Z:=zz aj;have aw:=zz ab;have ay:=zz aa;have av:=zz ag;have ad:=zz ac;clear aj ab aa ag ac
    go_wp2_with (first
     |(go_at_call 75;refine(Db w5 Y I q (av.o.below ah.o) O Z.o aw.o A5 af st aY.o n5 aS.o (by have:=ad.o;have:=HT.o;have:=aW.o;have:=aS.o;omega)).mono ?_;rintro e w6⟨A6,aB,n6,b6,rfl,aG,aQ⟩;have aV:=zz (zl ah.o aQ);have aX:=zz aG;clear aQ aG)
     |(go_at_call 76;refine ak.o.mono ?_;rintro e w5⟨A5,af,n5,rfl,aK,aE,ai,a1⟩;have ah:=zz ai;have aY:=zz aE.xI;have aS:=zz aK;clear aK aE ai a1))
    go_roundg (nr-(i+1))
    case measure=>omega
    case rel=>
     refine⟨i+1,A6,aB,n6,b6,zd,rfl,ze,rfl,rfl,fun h=>?_,V.o.trans (aV.o.mono V.o.size)⟩;obtain⟨ax,h1,h2,h3,h4,h5,h6⟩:=aX.o h;refine⟨ax,h1,h2,fun x U=>?_,h5,by rw[ap.o,zpA];have:=ad.o;have:=Z.o;omega⟩;rw[ap.o]at U
     rcases zpE.1 U with U|U
     ·exact h3 x (ay.o x U)
     ·exact h4 x U
   ·obtain rfl:i=nr:=zd;have ht:N.take i=N:=by rw[<-aJ.o];exact zp5
    have ak:=zz (show(true=true->∃q,q.length=O/\Cons q/\(∀x∈N.flatMap ya++(fs.take 0).map yc,x∈q)/\zZ yF wr Y q/\O<=(N.flatMap ya).length+0)from fun h=>(by
     have:=Hk.o h;rw[ht]at this;simpa using this))
    clear ht;go_wp2
    go_loopg[6,7,9] nf (fun gk s6 s7 s9 wx=>∃(j:Nat) (Y:Option Addr) (I O:Nat) (ok:Bool),j<=nf/\gk=nf-j/\s9=.int .i64 (j:Int)/\s6=.slice Y O I/\s7=.bool ok/\
     (ok=true->∃q,q.length=O/\Cons q/\(∀x∈N.flatMap ya++(fs.take j).map yc,x∈q)/\zZ yF wx Y q/\O<=(N.flatMap ya).length+j)/\Bl W0 wx)
    case atStart=>exact⟨0,Y,I,O,true,zpD _,rfl,rfl,rfl,rfl,(fun h=>by first|exact absurd h zr|exact ak.o zc),V.o⟩
    case round=>
     clear ak V Hk;obtain⟨j,Y,I,O,ok,hj,rfl,rfl,rfl,rfl,hk,hB⟩:=hrel;have Hk:=zz hk;have V:=zz hB;clear hk hB x0
     rcases ok with _|_
     ·go_wp2
      all_goals
       go_returns;exact⟨none,0,0,72,rfl,fun h=>(by cases h),HX.o.below.trans (V.o.mono (by have:=HX.o.size;omega))⟩
     ·by_cases au:j<nf
      ·have ao:j<fs.length:=by rw[az.o];exact au
       obtain⟨b,o,rfl,al,X⟩:=(HF.o.below (HX.o.below.trans (V.o.mono (by have:=HX.o.size;omega)))).at Fa.xG j ao;have L:(fs.take (j+1)).map yc=(fs.take j).map yc++[yc fs[j]]:=by rw[zpC ao,zp1];rfl
       generalize fs[j]=f at X L;obtain⟨p,A2,aH,an⟩:=f;obtain⟨Na,ar⟩:∃Na,an.length=Na:=⟨_,rfl⟩;simp only[yc,Fa.cells,ar]at X L
       replace X:wr.rangeAt b (o+j*2) _:=X
       have Hr:=zz X;have aC:=zz al;have ap:=zz L;clear X al L ar;obtain⟨q,aj,ab,aa,ag,ac⟩:=Hk.o zc;have Z:=zz aj;have aw:=zz ab;have ay:=zz aa;have av:=zz ag;have ad:=zz ac;clear aj ab aa ag ac;go_wp2;refine xX [0,0,0,0,0,0,0,0,0,0,0,0,0,2,2,0,0,0,0,0] (fun W=>Bl wr W) ?_;have H0:Kz (∀W,Bl wr W->_):=fun W hW=>two (yB Hr.o hW aC.o)
       try refine zQ ?_
       repeat refine zS H0.o ?_
       refine xf fun K hK=>?_
       go_simp;refine hK.out _ _ ((Below.refl _ _).drew.alloc (zpx _) _) (fun _=>trivial) ?_;clear hK K;try refine zQ ?_
       repeat refine zS H0.o ?_
       refine xf fun K hK=>?_
       go_simp;have ae:Bl wr (wr.drew.alloc (.cells #[.string p,.int .i64 (Na:Int)] 166)):=(Below.refl _ _).drew.alloc (zpx _) _;have aq:zZ yF (wr.drew.alloc (.cells #[.string p,.int .i64 (Na:Int)] 166)) (some ⟨wr.heap.size,0,none⟩) [(p,Na)]:=fun _=>⟨_,_,rfl,zp,ZK wr.drew [.string p,.int .i64 (Na:Int)] 166⟩
       refine(Db _ _ I q (av.o.below ae) O Z.o aw.o _ 1 [(p,Na)] aq 1 rfl (by have:=ad.o;have:=HT.o;omega)).mono ?_;rintro e w5⟨A5,af,n5,b5,rfl,am,ai⟩;have ah:=zz (zl ae ai);have aD:=zz am;refine hK.out _ _ ah.o (fun _=>trivial) ?_;clear hK K ae aq ai am;try refine zQ ?_
       repeat refine zS H0.o ?_
       refine xt ?_;go_wp2
       go_roundg (nf-(j+1))
       case measure=>omega
       case rel=>
        refine⟨j+1,A5,af,n5,b5,zd,rfl,ze,rfl,rfl,fun h=>?_,V.o.trans (ah.o.mono V.o.size)⟩;obtain⟨ax,h1,h2,h3,h4,h5,h6⟩:=aD.o h;refine⟨ax,h1,h2,fun x U=>?_,h5,by have:=ad.o;have:=Z.o;simp only[zqs]at h6;omega⟩;rw[ap.o,<-zpX]at U
        rcases zpE.1 U with U|U
        ·exact h3 x (ay.o x U)
        ·exact h4 x U
      ·obtain rfl:j=nf:=zd;go_wp2;go_returns;have ht:fs.take j=fs:=by rw[<-az.o];exact zp5
       refine⟨Y,I,O,0,rfl,fun _=>?_,HX.o.below.trans (V.o.mono (by have:=HX.o.size;omega))⟩;obtain⟨q,h1,h2,h3,h4,h5⟩:=Hk.o zc;rw[ht]at h3;exact fun a ha b hb e=>h2 a (h3 a ha) b (h3 b hb) e
def Fa.ok(f:Fa):Prop:=Nm f.p/\f.args.length<=24/\∀v∈f.args,v.ok
theorem zjP(w:World)(f:Fa)(hl:f.zN w)(hs:f.p.size<=maxLen):Calls prog 74 #[.agg f.cells.toArray] w (xZ f.ok w):=by
 obtain⟨p,A,X,q⟩:=f;obtain⟨L,O⟩:=hl;simp only at L O hs;have Hn:=zz (fun W=>zan W p hs);have Hr:=zz L;clear hs L;simp only[Fa.cells];obtain⟨N,I⟩:∃N,q.length=N:=⟨_,rfl⟩;rw[I]at O ⊢;have HN:=zz I;clear I;obtain⟨W0,I,R⟩:=xi w 71 #[.string p,.slice A N X];have V:=zz R;have ac:=zz I;clear R I;go_enter func74,ntmps74
 go_wp2_with (go_at_call 136;refine(Hn.o _).mono ?_;rintro e w1⟨q1,rfl,k1,I⟩;rw[ac.o]at I;have c1:=(V.o.b0.below I).cell 1)
 ·go_returns;exact xZ.no (zl V.o.below I)
 ·go_returns;exact xZ.no (zl V.o.below I)
 ·obtain rfl:=‹q1=true›;have K1:=zz (k1 rfl);have Y:N<=24:=zd;clear c1 k1
  go_loopg[3] N (fun gk U R=>∃i:Nat,i<=N/\gk=N-i/\U=.int .i64 (i:Int)/\Bl W0 R/\∀j (h:j<q.length),j<i->q[j].ok)
  case atStart=>exact⟨0,zpD _,rfl,rfl,I,fun j _ h=>zd⟩
  case round=>
   obtain⟨i,hi,rfl,rfl,Z,U⟩:=hrel;have R:=zz U;clear U I;have c1:wr.cell? ⟨w.heap.size,1,none⟩=some (.slice A N X):=(V.o.b0.below Z).cell 1
   by_cases aa:i<N
   ·have ad:i<q.length:=by rw[HN.o];exact aa
    obtain⟨b,o,rfl,hb,L⟩:=(Hr.o.below (zl V.o.below Z)).at Vl.xG i ad;have hk:=fun W=>zdx W q[i]
    generalize U:q[i]=t at L hk;have ab:=zz U;clear U;obtain⟨k,m,s⟩:=t;simp only[Vl.cells]at L hk
    replace L:wr.rangeAt b (o+i*3) _:=L
    obtain⟨d0,d1,d2⟩:=three L;have Hk:=zz hk;clear L hk
    go_wp2_with (go_at_call 79;refine(Hk.o _).mono ?_;rintro e w2⟨q2,rfl,k2,L⟩)
    ·go_returns;exact xZ.no (zl V.o.below (zl Z L))
    ·have ae:q2=0:=by simpa using ‹(q2 != 0)=false›
     go_roundg (N-(i+1))
     case measure=>omega
     case rel=>exact⟨i+1,zd,rfl,ze,zl Z L,fun j U af=>by
      by_cases e:j=i
      ·subst e;rw[ab.o];exact k2 ae
      ·exact R.o j U zd⟩
   ·obtain rfl:i=N:=zd;go_wp2;go_returns;exact xZ.yes ⟨K1.o,by rw[HN.o];exact Y,fun t L=>by
     obtain⟨j,U,rfl⟩:=zpS.1 L;exact R.o j U (by rw[<-HN.o];exact U)⟩ (zl V.o.below Z)
structure Dy (rs:List Ru) (fs:List Fa):Prop where
 rules:∀r∈rs,r.ok/\∀v∈r.vars,yo r.body v
 facts:∀f∈fs,f.ok
 cons:Cons (rs.flatMap ya++fs.map yc)
theorem zkX(w:World)(R:Option Addr)(ae:Nat)(L:List Ru)(hR:zZ Ru.cells w R L)(ad:∀r∈L,r.zN w)(nr:Nat)(ac:L.length=nr)(al:∀r∈L,r.fits)(ag:∀r∈L,r.zO.length<=1048576)(an:∀r∈L,r.body.length<=1048576)(F:Option Addr)(af:Nat)(fs:List Fa)(hF:zZ Fa.cells w F fs)(aq:∀f∈fs,f.zN w)(ap:∀f∈fs,f.p.size<=maxLen)(Y:Nat)(ai:fs.length=Y)(hT:(L.flatMap ya).length+Y<=2097152):
 Calls prog 40 #[.slice R nr ae,.slice F Y af] w (Yf (Dy L fs) w):=by
 have HP:=zz (fun W (I:Bl w W)=>zng W R ae L (hR.below I) (fun r N=>(ad r N).below I) nr ac an F af fs (hF.below I) Y ai hT);have ao:=zz (fun(r:Ru) (N:r∈L) W (I:Bl w W)=>zmQ W r ((ad r N).below I) (al r N) (ag r N));have au:=zz (fun(f:Fa) (hf:f∈fs) W (I:Bl w W)=>zjP W f ((aq f hf).below I) (ap f hf));have HR:=zz hR;have ah:=zz ac;have HF:=zz hF;have ar:=zz ai;have ay:Y<=2097152:=zd;have aA:nr<=2097152:=by
  have:L.length<=(L.flatMap ya).length:=by
   clear hR ad ac al ag an hT HP ao HR ah
   induction L with
   |nil=>simp
   |cons r L I=>
    rw[zpZ,zpA,zpV];have:0<(ya r).length:=by unfold ya;simp
    omega
  omega
 clear hR ad ac al ag an hF aq ap ai hT;go_enter func40,ntmps40;go_wp2
 go_loopg[5] nr (fun gk I wx=>∃i:Nat,i<=nr/\gk=nr-i/\I=.int .i64 (i:Int)/\Bl w wx/\∀j (h:j<L.length),j<i->(L[j].ok/\∀v∈L[j].vars,yo L[j].body v))
 case atStart=>exact⟨0,zpD _,rfl,rfl,Below.refl _ _,fun j _ h=>zd⟩
 case round=>
  obtain⟨i,hi,rfl,rfl,hB,O⟩:=hrel;have I:=zz O;have X:=zz hB;clear O hB
  by_cases aw:i<nr
  ·have aa:i<L.length:=by rw[ah.o];exact aw
   obtain⟨b,o,rfl,av,N⟩:=(HR.o.below X.o).at Ru.xG i aa;have Z:=ao.o L[i] (zpB aa) wr X.o;generalize ab:L[i]=r at N Z;have aj:=zz ab;clear ab;obtain⟨P,hP⟩:∃P:Prop,(r.ok/\∀v∈r.vars,yo r.body v)=P:=⟨_,rfl⟩;rw[hP]at Z;have am:=zz hP;clear hP;obtain⟨p,B,zM,ax,C,az,V⟩:=r;simp only[Ru.cells]at N Z
   replace N:wr.rangeAt b (o+i*3) _:=N
   obtain⟨d0,d1,d2⟩:=three N;have Hk:=zz Z;clear N Z
   go_wp2_with (go_at_call 73;refine Hk.o.mono ?_;rintro e w2⟨c2,rfl,k2,U⟩)
   ·go_returns;exact Yf.no (by simpa using ‹(c2 != 0)=true›) (zl X.o U)
   ·have ak:c2=0:=by simpa using ‹(c2 != 0)=false›
    go_roundg (nr-(i+1))
    case measure=>omega
    case rel=>exact⟨i+1,zd,rfl,ze,zl X.o U,fun j hj aB=>by
     by_cases e:j=i
     ·subst e;rw[aj.o];rw[am.o];exact k2 ak
     ·exact I.o j hj zd⟩
  ·obtain rfl:i=nr:=zd;have ax:=zz (show ∀r∈L,r.ok/\∀v∈r.vars,yo r.body v from fun r N=>by
    obtain⟨j,hj,rfl⟩:=zpS.1 N;exact I.o j hj (by rw[<-ah.o];exact hj))
   clear I;go_wp2
   go_loopg[7] Y (fun gk L wx=>∃j:Nat,j<=Y/\gk=Y-j/\L=.int .i64 (j:Int)/\Bl w wx/\∀q (h:q<fs.length),q<j->fs[q].ok)
   case atStart=>exact⟨0,zpD _,rfl,rfl,X.o,fun j _ h=>zd⟩
   case round=>
    clear X;obtain⟨j,hj,rfl,rfl,hB,O⟩:=hrel;have I:=zz O;have X:=zz hB;clear O hB
    by_cases O:j<Y
    ·have aa:j<fs.length:=by rw[ar.o];exact O
     obtain⟨b,o,rfl,av,N⟩:=(HF.o.below X.o).at Fa.xG j aa;have Z:=au.o fs[j] (zpB aa) wr X.o;generalize ab:fs[j]=f at N Z;have aj:=zz ab;clear ab;obtain⟨P,hP⟩:∃P:Prop,f.ok=P:=⟨_,rfl⟩;rw[hP]at Z;have am:=zz hP;clear hP;obtain⟨p,A2,L,ab⟩:=f;simp only[Fa.cells]at N Z
     replace N:wr.rangeAt b (o+j*2) _:=N
     obtain⟨d0,d1⟩:=two N;have Hk:=zz Z;clear N Z
     go_wp2_with (go_at_call 74;refine Hk.o.mono ?_;rintro e w2⟨c2,rfl,k2,U⟩)
     ·go_returns;exact Yf.no zr (zl X.o U)
     ·have ak:c2=true:=by simpa using ‹(!c2)=false›
      go_roundg (Y-(j+1))
      case measure=>omega
      case rel=>exact⟨j+1,zd,rfl,ze,zl X.o U,fun q N Z=>by
       by_cases e:q=j
       ·subst e;rw[aj.o,am.o];exact k2 ak
       ·exact I.o q N zd⟩
    ·obtain rfl:j=Y:=zd;have Z:=zz (show ∀f∈fs,f.ok from fun f hf=>by
      obtain⟨q,N,rfl⟩:=zpS.1 hf;exact I.o q N (by rw[<-ar.o];exact N))
     clear I
     go_wp2_with (go_at_call 87;refine(HP.o _ X.o).mono ?_;rintro e w2⟨A2,L,N,c2,rfl,k2,U⟩)
     go_returns;exact Yf.may (fun h=>⟨ax.o,Z.o,k2 h⟩) (zl X.o U)
def zhR(body:List Li)(w:World)(e:Ending)(w':World):Prop:=
 ∃q A h n,e=.returned (.slice A n h)/\q.length=n/\Own xD 9 1 w' A h q/\(∀v,yo body v->v∈q)/\n<=2097152/\Bl w w'/\(∀g∈zw A,w.heap.size<=g)
theorem zi4(w:World)(B:Option Addr)(zM O:Nat)(body:List Li)(Z:body.length=O)(h:Bd w B body)(Y:∀x∈body,∀t∈x.zO,t.v.size<=maxLen)(X:O<=1048576):
 Calls prog 97 #[.slice B O zM] w (zhR body w):=by
 have Hl:=zz (zhf w B zM O body Z h Y X);clear h Y Z X;go_enter func97,ntmps97
 go_wp2_with (go_at_call 61;refine Hl.o.mono ?_;rintro e w1⟨fb,vs,rfl,⟨mb,A,U,f,n,hF⟩,q,I,N⟩;have W:=zz (show n<=2097152 by rw[<-hF.len];exact I);have R:=zz hF;have c0:=hF.r.cell 0;have V:=zz N;have L:=zz q;clear hF N q I)
 go_returns;exact⟨vs,A,U,n,rfl,R.o.len,R.o.own,L.o,W.o,V.o,R.o.ge.2.2⟩
theorem zot(w:World)(f:Fa)(hl:f.zN w)(h:f.ok):Calls prog 88 #[.agg f.cells.toArray] w fun e q=>e=.returned (.int .i64 0)/\Bl w q:=by
 obtain⟨I,hn,L⟩:=h;have Hr:=zz hl.rd;have O:=hl.len;have Ha:=zz (fun W=>zdb W ⟨f.p,none,0,[]⟩ ⟨fun h=>(h rfl).elim,zp⟩ ⟨I,zp,fun t ht=>(by cases ht)⟩);have Hv:=zz (fun v (h:v∈f.args) W=>VP W v (L v h));clear hl I L;obtain⟨p,A,Z,q⟩:=f;simp only[Fa.cells]at *;obtain⟨N,I⟩:∃N,q.length=N:=⟨_,rfl⟩;rw[I]at O hn ⊢;have HN:=zz I;clear I;obtain⟨W0,I,L⟩:=xi w 71 #[.string p,.slice A N Z];have HX:=zz L;have V:=zz I;clear L I;go_enter func88,ntmps88
 go_wp2_with (go_at_call 149;rw[V.o];refine(Ha.o _).mono ?_;rintro e w1⟨rfl,I⟩;have X:=HX.o.b0.below I;have c0:=X.cell 0;have c1:=X.cell 1;have aa:=zz (zl HX.o.below I);clear I X)
 go_loopg[4,5,20] N (fun gk U Y L R=>∃i:Nat,i<=N/\gk=N-i/\L=.int .i64 (i:Int)/\Bl w R)
 case atStart=>exact⟨0,zpD _,rfl,rfl,aa.o⟩
 case round=>
  obtain⟨i,hi,rfl,rfl,L⟩:=hrel;have Y:=zz L;clear L
  by_cases U:i<N
  ·have R:i<q.length:=by rw[HN.o];exact U
   obtain⟨b,o,rfl,ab,L⟩:=(Hr.o.below Y.o).at (c:=2) (fun _=>rfl) i R;have Hk:=zz (Hv.o _ (zpB R));generalize q[i]=x at L Hk;obtain⟨k,m,s⟩:=x;simp only[Vl.cells]at L Hk
   replace L:wr.rangeAt b (o+i*3) _:=L
   obtain⟨d0,d1,d2⟩:=three L;clear L
   go_wp2_with (go_at_call 32;refine(Hk.o _).mono ?_;rintro e w2⟨rfl,L⟩)
   go_roundg (N-(i+1))
   case measure=>omega
   case rel=>exact⟨i+1,zd,rfl,ze,zl Y.o (yf L)⟩
  ·obtain rfl:i=N:=zd;go_wp2;go_returns;exact⟨rfl,Y.o⟩
structure Zj (ks:List (ByteArray×Nat)) (f:Value->Option Value):Prop where
 yes:∀x∈ks,f (.string x.1)=some (.int .i64 (x.2:Int))
 no:∀s,(∀x∈ks,x.1≠s)->f (.string s)=none
theorem Zj.qz:Zj [] fun _=>none:=⟨fun x h=>(by cases h),fun _ _=>rfl⟩
def GJ(h:Nat)(q:List (ByteArray×Nat))(w:World)(e:Ending)(w':World):Prop:=e=.returned (.bool true)/\∃f,xv prog 9 w' h f/\Zj q f/\zh (·=h) w w'
theorem ziG(w:World)(Y:Nat)(f:Value->Option Value)(X:xv prog 9 w Y f)(N:List (ByteArray×Nat))(I:Zj N f)(p:ByteArray)(n:Nat)(hp:p.size<=maxLen)(hc:∀x∈N,x.1=p->x.2=n):
 Calls prog 215 #[.map (some Y),.string p,.int .i64 (n:Int)] w (GJ Y (N++[(p,n)]) w):=by
 have q:=ye hp;have R:=X.look q8 underlying282 (z:=.int .i64 0) zo q true;simp only[if_true]at R
 by_cases h:∃x∈N,x.1=p
 ·obtain⟨x,W,rfl⟩:=h;have U:=I.yes x W;have L:=hc x W rfl;subst L;rw[U]at R;have L:GJ Y (N++[(x.1,x.2)]) w (.returned (.bool true)) w:=⟨rfl,f,X,⟨fun y O=>by
   rcases zpE.1 O with h|h
   ·exact I.yes y h
   ·rw[zpy.1 h];exact U,fun s Z=>I.no s fun y O=>Z y (zp0 _ O)⟩,zh.refl _ _⟩
  have V:=zz L;clear L X I hc U q W;go_enter func215,ntmps215;go_wp2;go_returns;exact V.o
 ·have V:∀x∈N,x.1≠p:=fun x W e=>h ⟨x,W,e⟩
  have U:=I.no p V;rw[U]at R;have Hm:=zz X;have L:=zz q;have W:=zz (show Zj (N++[(p,n)]) (yp f (.string p) (.int .i64 (n:Int)))from⟨fun y O=>by
   rcases zpE.1 O with h|h
   ·rw[XR (by have:=V y h;simpa using this)];exact I.yes y h
   ·rw[zpy.1 h,Yt],fun s Z=>by
   rw[XR (by have:=Z (p,n) (zpR _ zpP);simpa[eq_comm]using this)];exact I.no s fun y O=>Z y (zp0 _ O)⟩)
  clear X I hc U q h V;go_enter func215,ntmps215
  go_wp2_with (refine Us rfl _ _ _ rfl Hm.o q8 underlying282 rfl (.string p) (.int .i64 (n:Int)) _ rfl rfl L.o ?_)
  intro V O U;go_wp2;go_returns;exact⟨rfl,_,O,W.o,(zh.refl _ w).yu U (fun _=>rfl)⟩
theorem zgn(w:World)(L:Nat)(f:Value->Option Value)(W:xv prog 9 w L f)(I:List (ByteArray×Nat))(V:Zj I f)(x:Fa)(hp:x.p.size<=maxLen)(X:∀y∈I,y.1=x.p->y.2=x.args.length):
 Calls prog 153 #[.map (some L),.agg x.cells.toArray] w (GJ L (I++[yc x]) w):=by
 obtain⟨p,A,R,h⟩:=x;simp only[Fa.cells,yc]at *;generalize h.length=N at *;obtain⟨Y,q,O⟩:=xi w 71 #[.string p,.slice A N R];have Hm:=zz (ziG Y L f (W.below O.below) I V p N hp X);have HX:=zz O;have I:=zz q;clear O q W V X;go_enter func153,ntmps153
 go_wp2_with (go_at_call 215;rw[I.o];refine Hm.o.mono ?_;rintro e w1⟨rfl,Z,O,q,U⟩)
 go_returns;exact⟨rfl,Z,O,q,(zh.xj _ HX.o.below).trans U (fun x hx _=>hx)⟩
abbrev zgV(h:Nat):Value:=.func (.func 153) #[.map (some h)] #[]
theorem zn3(w:World)(O:Nat)(f:Value->Option Value)(V:xv prog 9 w O f)(I:Zj [] f)(F:Option Addr)(ab q:Nat)(fs:List Fa)(hF:zZ Fa.cells w F fs)(hn:fs.length=q)(hs:∀x∈fs,x.p.size<=maxLen)(hc:Cons (fs.map yc))(Y:∀g∈zw F,g≠O)(hl:q*40<=140737488351232):
 Calls prog 152 #[.slice F q ab,zgV O] w (GJ O (fs.map yc) w):=by
 have HF:=zz hF;have Hn:=zz hn;have Hs:=zz hs;have Hc:=zz hc;have Hm:=zz V;have Hk:=zz I;have ae:=zz Y;clear hF hn hs hc V I Y;go_enter func152,ntmps152;go_wp2
 go_loopg[6,9] q (fun gk R L h=>∃(i:Nat) (Z:Value->Option Value),i<=q/\gk=q-i/\L=.int .i64 (i:Int)/\xv prog 9 h O Z/\Zj ((fs.take i).map yc) Z/\zh (·=O) w h)
 case atStart=>exact⟨0,f,zpD _,rfl,rfl,Hm.o,Hk.o,zh.refl _ _⟩
 case round=>
  obtain⟨i,Z,hi,rfl,rfl,V,I,hC⟩:=hrel;have HC:=zz hC
  by_cases ac:i<q
  ·have h:i<fs.length:=by rw[Hn.o];exact ac
   obtain⟨b,o,rfl,ad,U⟩:=HF.o.at Fa.xG i h;have hr:wr.rangeAt b (o+i*2) fs[i].cells:=UE U ad hC (ae.o b (by simp[zw]));have X:(fs.take (i+1)).map yc=(fs.take i).map yc++[yc fs[i]]:=by rw[zpC h,zp1];rfl
   obtain⟨W3,aa,W⟩:=xi wr 71 fs[i].cells.toArray;have hf:=zgn W3 O Z (V.below W.below) _ I fs[i] (Hs.o _ (zpB h)) (fun y L e=>Hc.o y (by
    obtain⟨x,hx,rfl⟩:=zp8.1 L;exact zp8.2 ⟨x,zqW hx,rfl⟩) (yc fs[i]) (zp8.2 ⟨_,zpB h,rfl⟩) e)
   rw[<-X]at hf;have Hf:=zz hf;have R:=zz aa;have L:=zz W;clear hf aa W X V I hC;generalize fs[i]=x at hr U Hf R L;obtain⟨p,A2,af,W⟩:=x;simp only[Fa.cells]at hr Hf R L;generalize W.length=N at *;obtain⟨d0,d1⟩:=two hr;clear hr U
   go_wp2_with (go_at_call 153;rw[R.o];refine Hf.o.mono ?_;rintro e w4⟨rfl,f4,U,aa,X⟩)
   go_roundg (q-(i+1))
   case measure=>omega
   case rel=>exact⟨i+1,f4,zd,rfl,ze,U,aa,(HC.o.trans (zh.xj (fun _=>False) L.o.below) (fun x hx _=>hx.elim)).trans X (fun x hx _=>hx)⟩
  ·obtain rfl:i=q:=zd;have R:fs.take i=fs:=by rw[<-Hn.o,zp5]
   rw[R]at I;have L:=zz V;have h:=zz I;clear V I hC R;go_wp2;go_returns;exact⟨rfl,Z,L.o,h.o,HC.o⟩
theorem zjX(w:World)(v:Value):Calls prog 150 #[.slice none 0 0,v] w fun e h=>e=.returned (.bool true)/\h=w:=by
 go_enter func150,ntmps150;go_wp2
 go_loopg[9] 1 (fun gk h q=>gk=1/\h=.int .i64 0/\q=w)
 case atStart=>exact⟨rfl,rfl,rfl⟩
 case round=>
  obtain⟨rfl,rfl,rfl⟩:=hrel;go_wp2;go_returns;exact⟨rfl,rfl⟩
end
end Go.Proofs.YtfdickkdlcgicaaGreatDoor.C
namespace Go.Proofs
open Go.Proofs.Tryz Go Go.RowKit Go.Maps Go.WideMaps
section
open Go.Shelf
def Tryz.zdo:Go.Shelf.Ren:=⟨fun|7=>155|10=>218|n=>n,fun|23=>282|26=>9|3=>3|28=>287|0=>0|27=>286|33=>192|4=>4|n=>n,fun|n=>n⟩
theorem Tryz.zcx:Go.Proofs.SlLaysZ.n7 prog Tryz.zdo:={
 mixed:=by kernel_rfl
 f7:=⟨Tryz.f155.name,by decide,func155.trans (congrArg some (by kernel_rfl))⟩
 f10:=⟨Tryz.f218.name,by decide,func218.trans (congrArg some (by kernel_rfl))⟩
 t0:=underlying0
 a0:=isAgg0
 z0:=sizeOf0
 v0:=zeroValue0
 t4:=underlying4
 a4:=isAgg4
 z4:=sizeOf4
 v4:=zeroValue4
 t23:=underlying282
 a23:=isAgg282
 z23:=sizeOf282
 v23:=zeroValue282
 t26:=underlying9
 a26:=isAgg9
 z26:=sizeOf9
 v26:=zeroValue9
 t27:=underlying286
 a27:=isAgg286
 z27:=sizeOf286
 v27:=zeroValue286
 t28:=underlying287
 a28:=isAgg287
 z28:=sizeOf287
 v28:=zeroValue287
 t33:=underlying192
 a33:=isAgg192
 z33:=sizeOf192
 v33:=zeroValue192 }
def Tryz.zfQ:Go.Shelf.Ren:=⟨fun|6=>154|8=>216|9=>217|11=>251|13=>123|12=>252|23=>188|24=>189|14=>272|15=>273|16=>274|17=>275|18=>276|19=>277|20=>278|21=>279|22=>280|25=>291|26=>224|27=>225|28=>292|29=>293|30=>294|31=>299|n=>n,fun|26=>9|28=>287|24=>86|0=>0|3=>3|37=>246|48=>104|50=>333|4=>4|40=>327|39=>326|45=>220|5=>5|9=>9|51=>370|55=>374|57=>396|58=>174|33=>192|n=>n,fun|n=>n⟩
theorem Tryz.zmE:Go.Proofs.SlLaysZ.n6 prog Tryz.zfQ:={
 mixed:=by kernel_rfl
 f6:=⟨Tryz.f154.name,by decide,func154.trans (congrArg some (by kernel_rfl))⟩
 f8:=⟨Tryz.f216.name,by decide,func216.trans (congrArg some (by kernel_rfl))⟩
 f11:=⟨Tryz.f251.name,by decide,func251.trans (congrArg some (by kernel_rfl))⟩
 t0:=underlying0
 a0:=isAgg0
 z0:=sizeOf0
 v0:=zeroValue0
 t24:=underlying86
 a24:=isAgg86
 z24:=sizeOf86
 v24:=zeroValue86
 t26:=underlying9
 a26:=isAgg9
 z26:=sizeOf9
 v26:=zeroValue9
 t28:=underlying287
 a28:=isAgg287
 z28:=sizeOf287
 v28:=zeroValue287
 i26:=by kernel_rfl }
def Tryz.zhs:Go.Shelf.Ren:=⟨fun|6=>217|8=>123|9=>252|19=>188|20=>189|21=>272|22=>273|23=>274|24=>275|25=>276|26=>277|27=>278|28=>279|29=>280|36=>291|31=>224|32=>225|37=>292|38=>293|39=>294|41=>299|n=>n,fun|27=>86|29=>9|3=>3|32=>246|26=>86|0=>0|44=>104|46=>333|4=>4|36=>327|35=>326|41=>220|5=>5|9=>9|53=>370|57=>374|63=>396|64=>174|n=>n,fun|n=>n⟩
theorem Tryz.zck:Go.Proofs.SlLaysM.n6 prog Tryz.zhs:={
 mixed:=by kernel_rfl
 f6:=⟨Tryz.f217.name,by decide,func217.trans (congrArg some (by kernel_rfl))⟩
 f8:=func123.trans (congrArg some (by kernel_rfl))
 f9:=⟨Tryz.f252.name,by decide,func252.trans (congrArg some (by kernel_rfl))⟩
 f19:=func188.trans (congrArg some (by kernel_rfl))
 f20:=func189.trans (congrArg some (by kernel_rfl))
 f21:=⟨Tryz.f272.name,by decide,func272.trans (congrArg some (by kernel_rfl))⟩
 f22:=⟨Tryz.f273.name,by decide,func273.trans (congrArg some (by kernel_rfl))⟩
 f23:=⟨Tryz.f274.name,by decide,func274.trans (congrArg some (by kernel_rfl))⟩
 f24:=⟨Tryz.f275.name,by decide,func275.trans (congrArg some (by kernel_rfl))⟩
 f25:=⟨Tryz.f276.name,by decide,func276.trans (congrArg some (by kernel_rfl))⟩
 f26:=⟨Tryz.f277.name,by decide,func277.trans (congrArg some (by kernel_rfl))⟩
 f27:=⟨Tryz.f278.name,by decide,func278.trans (congrArg some (by kernel_rfl))⟩
 f28:=⟨Tryz.f279.name,by decide,func279.trans (congrArg some (by kernel_rfl))⟩
 f29:=⟨Tryz.f280.name,by decide,func280.trans (congrArg some (by kernel_rfl))⟩
 f31:=func224.trans (congrArg some (by kernel_rfl))
 f32:=func225.trans (congrArg some (by kernel_rfl))
 f36:=⟨Tryz.f291.name,by decide,func291.trans (congrArg some (by kernel_rfl))⟩
 f37:=⟨Tryz.f292.name,by decide,func292.trans (congrArg some (by kernel_rfl))⟩
 f38:=⟨Tryz.f293.name,by decide,func293.trans (congrArg some (by kernel_rfl))⟩
 f39:=⟨Tryz.f294.name,by decide,func294.trans (congrArg some (by kernel_rfl))⟩
 f41:=⟨Tryz.f299.name,by decide,func299.trans (congrArg some (by kernel_rfl))⟩
 t0:=underlying0
 a0:=isAgg0
 z0:=sizeOf0
 v0:=zeroValue0
 t3:=underlying3
 a3:=isAgg3
 z3:=sizeOf3
 v3:=zeroValue3
 t4:=underlying4
 a4:=isAgg4
 z4:=sizeOf4
 v4:=zeroValue4
 t5:=underlying5
 a5:=isAgg5
 z5:=sizeOf5
 v5:=zeroValue5
 t9:=underlying9
 a9:=isAgg9
 z9:=sizeOf9
 v9:=zeroValue9
 t26:=underlying86
 a26:=isAgg86
 z26:=sizeOf86
 v26:=zeroValue86
 t27:=underlying86
 a27:=isAgg86
 z27:=sizeOf86
 v27:=zeroValue86
 t29:=underlying9
 a29:=isAgg9
 z29:=sizeOf9
 v29:=zeroValue9
 t32:=underlying246
 a32:=isAgg246
 z32:=sizeOf246
 v32:=zeroValue246
 t35:=underlying326
 a35:=isAgg326
 z35:=sizeOf326
 v35:=zeroValue326
 t36:=underlying327
 a36:=isAgg327
 z36:=sizeOf327
 v36:=zeroValue327
 t41:=underlying220
 a41:=isAgg220
 z41:=sizeOf220
 v41:=zeroValue220
 t44:=underlying104
 a44:=isAgg104
 z44:=sizeOf104
 v44:=zeroValue104
 t46:=underlying333
 a46:=isAgg333
 z46:=sizeOf333
 v46:=zeroValue333
 t53:=underlying370
 a53:=isAgg370
 z53:=sizeOf370
 v53:=zeroValue370
 t57:=underlying374
 a57:=isAgg374
 z57:=sizeOf374
 v57:=zeroValue374
 t63:=underlying396
 a63:=isAgg396
 z63:=sizeOf396
 v63:=zeroValue396
 t64:=underlying174
 a64:=isAgg174
 z64:=sizeOf174
 v64:=zeroValue174 }
end
end Go.Proofs
namespace Go.Proofs.YtfdickkdlcgicaaGreatDoor.C
open Go.Proofs.Tryz Go Go.RowKit Go.Maps Go.WideMaps
variable {P:Program}{e:TypeId}{f:Value->Option Value}{size:Nat}{ρ:Go.Shelf.Ren}
section
theorem zkR(m:Nat):AnyZ.SortsIn prog Tryz.zfQ Fence.wide m:=
 ⟨fun zH I h N W O q L=>callsIn_wide.2 (AnyM.slices_Sort_string Tryz.zck zH I h N W O q L),
  fun p h W=>callsIn_wide.2 (AnyM.slices_Sort_string_none Tryz.zck p h W)⟩
theorem zg2{H:Type}(b V:Nat)(I:DataW H)(R:Value->Option (DataW H×List MemPlace))(w:World)(xV:w.ownsMap prog 9 R b V I)(O:Maps.size I<=maxLen)(h:Maps.size I*16<=140737488355328):
 CallsIn Fence.wide 5 prog 154 #[.func (.func 218) #[] #[.pointer (some ⟨w.heap.size,0,none⟩)]] (w.alloc (.cells #[.map (some b)] 282)) fun e q=>∃(v:Value) (L:List (List UInt8)),e=.returned v/\L.Perm (strKeys I)/\
  q.ownsRow (w.alloc (.cells #[.map (some b)] 282)).heap.size 9 1 v L.length ((L.mergeSort (fun x y=>decide (x<=y))).map encStr)/\(v=.slice none 0 0↔L=[])/\Below (w.alloc (.cells #[.map (some b)] 282)).heap.size (w.alloc (.cells #[.map (some b)] 282)) q:=by
 have U:=xV.lt;have N:SeqGives Fence.wide 2 prog 218 #[.pointer (some ⟨w.heap.size,0,none⟩)] encStr (fun L=>L.Perm (strKeys I)) (Maps.size I) (w.alloc (.cells #[.map (some b)] 282)):=
  AnyZ.keys_gives (ρ:=Tryz.zdo) { Tryz.zcx with } Fence.wide _ trivial rfl zd w.heap.size b V I _ zp (zp) (by
   obtain⟨Z,q,W,Y,hs,X⟩:=xV;exact⟨Z,q,(Below.heap_alloc _ _ b U).trans W,Y,hs,X⟩)
 exact AnyZ.sorted_in Tryz.zmE Fence.wide 5 trivial trivial trivial trivial rfl zd (zkR _) (enters_of func217 zo rfl) 218 #[.pointer (some ⟨w.heap.size,0,none⟩)] trivial (enters_of func218 zo rfl) _ _ O h _ N
abbrev ze7(g:Nat):Value:=.func (.func 218) #[] #[.pointer (some ⟨g,0,none⟩)]
theorem zjB(w:World)(h:Nat):Calls prog 155 #[.map (some h)] w fun e q=>e=.returned (ze7 w.heap.size)/\q=w.alloc (.cells #[.map (some h)] 282):=
 callsIn_wide.1 (AnyZ.keys_in Tryz.zcx Fence.wide 5 trivial rfl (some h) w)
def zh0(w:World)(e:Ending)(w':World):Prop:=∃A h n q,e=.returned (.slice A n h)/\q.length=n/\n<=1048576/\Own xD 9 1 w' A h q/\(∀x∈q,x.size<=maxLen)/\Bl w w'
theorem zmN{I:List (ByteArray×Nat)}(U:Zj I f){es:List MapEntry}(O:Yu prog 9 es f):es.length<=I.length:=by
 have h:∀e∈es,e.key∈I.map fun x=>Value.string x.1:=fun e L=>by
  obtain⟨l,V⟩:=O.keys e L;obtain⟨s,R,-,-⟩:=Maps.keyOf_str (P:=prog) (k:=9) underlying9 V;have q:=O.has e L;refine zql fun N=>?_
  rw[R,encStr]at q;rw[U.no _ fun x W e1=>N (zp8.2 ⟨x,W,by rw[R,encStr];simp[e1]⟩)]at q
  cases q
 have N:(es.map (·.key)).Nodup:=List.pairwise_map.2 O.apart;have:=GM (m:=I.map fun x=>Value.string x.1) N (fun v q=>by
  obtain⟨e,L,rfl⟩:=zp8.1 q;exact h e L)
 simpa using this
theorem ziT(w:World)(Z:Nat)(f:Value->Option Value)(ks:List (ByteArray×Nat))(hm:xv prog 9 w Z f)(hk:Zj ks f)(hb:ks.length<=1048576):
 Calls prog 154 #[ze7 w.heap.size] (w.alloc (.cells #[.map (some Z)] 282)) (zh0 w):=by
 obtain⟨es,U,hh,q,ab⟩:=hm;have ag:=zmN hk q;have xV:w.ownsMap (H:=Unit) prog 9 (fun _=>some (.lit (.bool true),[])) Z 1048576 (.map ((es.toList.map (WideElems.rg prog 9 fun _=>some (.lit (.bool true),[]))).foldr DataW.insert [])):=
  ⟨es,U,hh,⟨by rw[<-zrr];unfold maxLen;omega,ab,fun x Y=>by
   obtain⟨l,hl⟩:=q.keys x Y;exact⟨_,by unfold WideElems.rd;rw[hl];rfl⟩⟩,by rw[<-zrr];omega,rfl⟩
 have af:Maps.size (H:=Unit) (.map ((es.toList.map (WideElems.rg prog 9 fun _=>some (.lit (.bool true),[]))).foldr DataW.insert []))<=1048576:=by
  show List.length _<=_;rw[length_sorted,zpO];omega
 refine(callsIn_wide.1 (zg2 Z 1048576 _ _ w xV (by unfold maxLen;omega) zd)).mono ?_;rintro e w'⟨v,N,rfl,hp,h,-,hB⟩;obtain⟨ae,ac,R⟩:=xV.keysOf;have ad:∀s∈N,s.length<=maxLen:=fun s I=>by
  have V:=hp.mem_iff.1 I;rw[ac]at V;obtain⟨p,O,rfl⟩:=zp8.1 V;obtain⟨W,I⟩:=R p O;obtain⟨x,-,Y,L⟩:=Maps.keyOf_str (P:=prog) (k:=9) underlying9 I;rw[Y];exact L
 have hl:N.length<=1048576:=by
  have V:=hp.length_eq;have h2:(strKeys (H:=Unit) (.map ((es.toList.map (WideElems.rg prog 9 fun _=>some (.lit (.bool true),[]))).foldr DataW.insert []))).length<=1048576:=by
   show(List.map _ _).length<=_;rw[zpO,length_sorted,zpO];omega
  omega
 have q:=List.mergeSort_perm N (fun x y=>decide (x<=y));generalize N.mergeSort (fun x y=>decide (x<=y))=I at h q;have aa:I.map encStr=(I.map fun l=>(⟨l.toArray⟩:ByteArray)).flatMap xD:=by
  clear h q
  induction I with
  |nil=>rfl
  |cons a l L=>rw[zqb,zqb,zpZ,<-L];rfl
 have X:(I.map fun l=>(⟨l.toArray⟩:ByteArray)).length=N.length:=by rw[zpO];exact q.length_eq
 have O:∃A L,v=.slice A N.length L:=by
  rcases h.2 with⟨rfl,h0⟩ |⟨g,L,W,rfl,_⟩
  ·exact⟨none,0,by rw[h0]⟩
  ·exact⟨_,L,rfl⟩
 obtain⟨A,L,rfl⟩:=O;refine⟨A,L,N.length,I.map fun l=>(⟨l.toArray⟩:ByteArray),rfl,X,hl,?_,fun x Y=>?_,yf hB⟩
 ·unfold Own;rw[X,<-aa];exact⟨h.1,h.2.imp id fun⟨g,c,W,V,_,h2⟩=>⟨g,c,W,V,zpD _,h2⟩⟩
 ·obtain⟨l,O,rfl⟩:=zp8.1 Y;have:=ad l (q.mem_iff.1 O);simpa[ByteArray.size]using this
theorem Zj.some_{L:List (ByteArray×Nat)}(h:Zj L f)(s:ByteArray):∃z:Nat,(f (.string s)).getD (.int .i64 0)=.int .i64 (z:Int):=by
 by_cases q:∃x∈L,x.1=s
 ·obtain⟨x,q,rfl⟩:=q;exact⟨x.2,by rw[h.yes x q];rfl⟩
 ·exact⟨0,by rw[h.no s fun x I e=>q ⟨x,I,e⟩];rfl⟩
abbrev zl3(h:Nat):Value:=.func (.func 151) #[.map (some h)] #[]
def zmc(w:World)(e:Ending)(w':World):Prop:=∃v,e=.returned (.tuple #[v,.int .i64 0])/\Bl w w'
theorem zov(w:World)(F:Option Addr)(N nf:Nat)(fs:List Fa)(hF:zZ Fa.cells w F fs)(hn:fs.length=nf)(hs:∀x∈fs,x.p.size<=maxLen)(hc:Cons (fs.map yc))(hb:nf<=1048576)(W:∀g∈zw F,g<w.heap.size):
 Calls prog 89 #[.agg #[.slice none 0 0],.slice F nf N] w (zmc w):=by
 have aA:=@run_makeMap prog;obtain⟨L,q⟩:∃L,(w.alloc (.cells #[.slice none 0 0] 180)).alloc (.map #[] 0)=L:=⟨_,rfl⟩;have O:L.heap.size=w.heap.size+1+1:=by rw[<-q];simp
 have U:zD L w.heap.size 180 #[.slice none 0 0]:=q▸(zD.new w _ _).alloc _;have V:xv prog 9 L (w.heap.size+1) fun _=>none:=by
  have:=xv.new (P:=prog) (k:=9) (w.alloc (.cells #[.slice none 0 0] 180)) 0;rw[q]at this;simpa using this
 have I:Bl w L:=q▸yf (xq _ _);have Hf:=zz (zn3 L (w.heap.size+1) _ V Zj.qz F N nf fs (hF.below I) hn hs hc (fun g R=>by have:=W g R;omega) zd);have Hr:=zz (zjX L (zl3 (w.heap.size+1)));have ai:=zz q;have an:=zz I;have aj:=zz O;have HN:=zz hn;clear q V I O hF hn hs hc W;have c0:=U.cell 0;clear U;go_enter func89,ntmps89
 go_wp2_with (first
  |(go_at_call 150;rw[ai.o];refine Hr.o.mono ?_;rintro e w3⟨rfl,rfl⟩)
  |(go_at_call 152;refine Hf.o.mono ?_;rintro e w4⟨rfl,f4,V,ah,Y⟩;have ab:=zz V;have af:=zz ah;have au:=zz (an.o.trans (Y.below (by have:=aj.o;omega) (fun x hx=>zd)));clear V ah Y)
  |(go_at_call 155;refine(zjB w4 _).mono ?_;rintro e w5⟨rfl,rfl⟩)
  |(go_at_call 154;refine(ziT w4 _ f4 (fs.map yc) ab.o af.o (by rw[zpO,HN.o];exact hb)).mono ?_;rintro e w6⟨A6,ax,U,xs,rfl,ac,az,aa,ad,O⟩;have am:=zz ac;have ar:=zz aa;have ao:=zz ad;have al:=zz (zl au.o O);have aq:=zz (ab.o.below O);clear ac aa ad O))
 go_loopg[7,9,28] U (fun gk Z s9 I X=>∃(i:Nat) (A':Option Addr) (q:Nat) (ys:List (ByteArray×Nat)),i<=U/\gk=U-i/\I=.int .i64 (i:Int)/\Z=.slice A' i q/\ys.length=i/\Own yF 166 2 X A' q ys/\(∀g∈zw A',w6.heap.size<=g)/\Bl w6 X)
 case atStart=>exact⟨0,none,0,[],zpD _,rfl,rfl,rfl,rfl,Own.qz _,fun g R=>(by simp[zw]at R),Below.refl _ _⟩
 case round=>
  obtain⟨i,A',q,ys,hi,rfl,rfl,rfl,X,I,R,Z⟩:=hrel;have HY:=zz X;have HO:=zz I;have HG:=zz R;have HB:=zz Z;clear X I R Z
  by_cases ak:i<U
  ·have ag:i<xs.length:=by rw[am.o];exact ak
   obtain⟨b,o,rfl,ay,Z⟩:=(ar.o.below HB.o).xI.at (c:=0) (fun _=>rfl) i ag;have d0:=Z 0 _ rfl;have I:=ye (ao.o _ (zpB ag));generalize xs[i]=u at d0 I;simp only[zqI,zqk,zp6]at d0;have R:=(aq.o.below HB.o).look q8 underlying282 (z:=.int .i64 0) zo I false;simp only[zqw,if_false]at R;obtain⟨z,X⟩:=af.o.some_ u;rw[X]at R;clear X I Z
   go_wp2_with (at_builtin;refine X9 rfl _ _ rfl UN (f:=yF) (xs:=ys) (HO.o.alloc _) HY.o (u,z) _ 0 1 rfl rfl rfl (yt _ _ _ rfl) (JD _) zd (zr) ?_)
   intro g I w3 ae Z X;have av:=zz ae;have ap:=zz (show Bl w6 w3 from(((zh.refl (·∈zw A') wr).alloc _).trans Z (fun x hx _=>hx)).qt HB.o (zpx _) (fun x hx=>HG.o x hx));have aw:=zz (show w6.heap.size<=g by
    rcases X with h|h
    ·exact HG.o g h
    ·have:=HB.o.size;omega)
   clear ae Z X;go_wp2
   go_roundg (U-(i+1))
   case measure=>omega
   case rel=>exact⟨i+1,_,I,_,zd,rfl,ze,ze,by rw[zpA,HY.o];rfl,av.o,xY aw.o,ap.o⟩
  ·obtain rfl:i=U:=zd;go_wp2;go_returns;exact⟨_,rfl,zl al.o HB.o⟩
theorem zid(w:World)(F:Option Addr)(q h:Nat)(fs:List Fa)(hF:zZ Fa.cells w F fs)(Z:fs.length=h)(hl:∀x∈fs,x.zN w)(hs:∀x∈fs,x.p.size<=maxLen)(V:∀x∈fs,x.ok)(hc:Cons (fs.map yc))(hb:h<=1048576)(R:∀g∈zw F,g<w.heap.size):
 Calls prog 41 #[.slice none 0 0,.slice F h q] w fun e I=>e=.returned (.int .i64 0)/\Bl w I:=by
 have HP:=zz (fun W (L:Bl w W)=>zov W F q h fs (hF.below L) Z hs hc hb (fun g I=>by have:=R g I;have:=L.size;omega));have Hf:=zz (fun x (I:x∈fs) W (L:Bl w W)=>zot W x ((hl x I).below L) (V x I));have HF:=zz hF;have HN:=zz Z;clear hF Z hl hs V hc R;go_enter func41,ntmps41;go_wp2
 go_loopg[15] 1 (fun gk O I=>gk=1/\O=.int .i64 0/\w=I)
 case atStart=>exact⟨rfl,rfl,rfl⟩
 case round=>
  obtain⟨rfl,rfl,rfl⟩:=hrel;go_wp2
  go_loopg[9,10,27] h (fun gk X U O I=>∃i:Nat,i<=h/\gk=h-i/\O=.int .i64 (i:Int)/\Bl w I)
  case atStart=>exact⟨0,zpD _,rfl,rfl,Below.refl _ _⟩
  case round=>
   obtain⟨i,hi,rfl,rfl,I⟩:=hrel;have O:=zz I;clear I
   by_cases Y:i<h
   ·have U:i<fs.length:=by rw[HN.o];exact Y
    obtain⟨b,o,rfl,ab,I⟩:=(HF.o.below O.o).at Fa.xG i U;have X:=zz (fun W (L:Bl wr W)=>Hf.o _ (zpB U) W (zl O.o L));generalize fs[i]=x at I X;obtain⟨p,A2,aa,L⟩:=x;simp only[Fa.cells]at I X;generalize L.length=N at I X
    replace I:wr.rangeAt b (o+i*2) _:=I
    obtain⟨d0,d1⟩:=two I;clear I
    go_wp2_with (go_at_call 88;refine(X.o _ (xq _ _)).mono ?_;rintro e w2⟨rfl,I⟩)
    go_roundg (h-(i+1))
    case measure=>omega
    case rel=>exact⟨i+1,zd,rfl,ze,zl O.o (yf I)⟩
   ·obtain rfl:i=h:=zd
    go_wp2_with (go_at_call 89;refine(HP.o _ O.o).mono ?_;rintro e L⟨v,rfl,I⟩)
    go_returns;exact⟨rfl,zl O.o I⟩
end
end Go.Proofs.YtfdickkdlcgicaaGreatDoor.C
namespace Go.Proofs
open Go.Proofs.Tryz Go Go.RowKit Go.Maps Go.WideMaps
section
open Go.Shelf
def Tryz.zju:Go.Shelf.Ren:=⟨fun|41=>96|n=>n,fun|22=>23|23=>50|4=>4|n=>n,fun|n=>n⟩
theorem Tryz.zhJ:Go.Proofs.SlLaysE0.n41 prog Tryz.zju:={
 mixed:=by kernel_rfl
 f41:=⟨Tryz.f96.name,by decide,func96.trans (congrArg some (by kernel_rfl))⟩
 t4:=underlying4
 a4:=isAgg4
 z4:=sizeOf4
 v4:=zeroValue4
 t22:=underlying23
 a22:=isAgg23
 z22:=sizeOf23
 v22:=zeroValue23 }
def Tryz.zgk:Go.Shelf.Ren:=⟨fun|41=>98|n=>n,fun|22=>22|23=>102|4=>4|n=>n,fun|n=>n⟩
theorem Tryz.zor:Go.Proofs.SlLaysE0.n41 prog Tryz.zgk:={
 mixed:=by kernel_rfl
 f41:=⟨Tryz.f98.name,by decide,func98.trans (congrArg some (by kernel_rfl))⟩
 t4:=underlying4
 a4:=isAgg4
 z4:=sizeOf4
 v4:=zeroValue4
 t22:=underlying22
 a22:=isAgg22
 z22:=sizeOf22
 v22:=zeroValue22 }
def Tryz.zgu:Go.Shelf.Ren:=⟨fun|41=>99|n=>n,fun|22=>36|23=>45|4=>4|n=>n,fun|n=>n⟩
theorem Tryz.zh2:Go.Proofs.SlLaysE0.n41 prog Tryz.zgu:={
 mixed:=by kernel_rfl
 f41:=⟨Tryz.f99.name,by decide,func99.trans (congrArg some (by kernel_rfl))⟩
 t4:=underlying4
 a4:=isAgg4
 z4:=sizeOf4
 v4:=zeroValue4
 t22:=underlying36
 a22:=isAgg36
 z22:=sizeOf36
 v22:=zeroValue36 }
def Tryz.znh:Go.Shelf.Ren:=⟨fun|41=>165|n=>n,fun|22=>46|23=>48|4=>4|n=>n,fun|n=>n⟩
theorem Tryz.zoe:Go.Proofs.SlLaysE0.n41 prog Tryz.znh:={
 mixed:=by kernel_rfl
 f41:=⟨Tryz.f165.name,by decide,func165.trans (congrArg some (by kernel_rfl))⟩
 t4:=underlying4
 a4:=isAgg4
 z4:=sizeOf4
 v4:=zeroValue4
 t22:=underlying46
 a22:=isAgg46
 z22:=sizeOf46
 v22:=zeroValue46 }
def Tryz.zmJ:Go.Shelf.Ren:=⟨fun|41=>169|n=>n,fun|22=>86|23=>9|4=>4|n=>n,fun|n=>n⟩
theorem Tryz.zi1:Go.Proofs.SlLaysE0.n41 prog Tryz.zmJ:={
 mixed:=by kernel_rfl
 f41:=⟨Tryz.f169.name,by decide,func169.trans (congrArg some (by kernel_rfl))⟩
 t4:=underlying4
 a4:=isAgg4
 z4:=sizeOf4
 v4:=zeroValue4
 t22:=underlying86
 a22:=isAgg86
 z22:=sizeOf86
 v22:=zeroValue86 }
def Tryz.zli:Go.Shelf.Ren:=⟨fun|41=>127|n=>n,fun|22=>211|23=>155|4=>4|n=>n,fun|n=>n⟩
theorem Tryz.zmh:Go.Proofs.SlLaysE0.n41 prog Tryz.zli:={
 mixed:=by kernel_rfl
 f41:=⟨Tryz.f127.name,by decide,func127.trans (congrArg some (by kernel_rfl))⟩
 t4:=underlying4
 a4:=isAgg4
 z4:=sizeOf4
 v4:=zeroValue4
 t22:=underlying211
 a22:=isAgg211
 z22:=sizeOf211
 v22:=zeroValue211 }
def Tryz.zm4:Go.Shelf.Ren:=⟨fun|41=>333|n=>n,fun|22=>65|23=>3|4=>4|n=>n,fun|n=>n⟩
theorem Tryz.zi0:Go.Proofs.SlLaysE0.n41 prog Tryz.zm4:={
 mixed:=by kernel_rfl
 f41:=⟨Tryz.f333.name,by decide,func333.trans (congrArg some (by kernel_rfl))⟩
 t4:=underlying4
 a4:=isAgg4
 z4:=sizeOf4
 v4:=zeroValue4
 t22:=underlying65
 a22:=isAgg65
 z22:=sizeOf65
 v22:=zeroValue65 }
end
end Go.Proofs
namespace Go.Proofs.YtfdickkdlcgicaaGreatDoor.C
open Go.Proofs.Tryz Go Go.RowKit Go.Maps Go.WideMaps
variable {P:Program}{e:TypeId}{f:Value->Option Value}{size:Nat}{ρ:Go.Shelf.Ren}
section
theorem zgB:qB prog 23 50 16 216:=qB.of (z:=.agg #[.int .i8 0,.string ⟨#[]⟩,.slice none 0 0,.int .i8 0,.int .i8 0,.string ⟨#[]⟩,.int .i8 0,.int .i64 0,.string ⟨#[]⟩,.slice none 0 0,.int .i8 0,.string ⟨#[]⟩,.int .i8 0,.int .i64 0,.string ⟨#[]⟩,.slice none 0 0]) underlying23 zo rfl zr
theorem zcI{B:Nat}{n:Nat}{w:World}{v:Value}{I:List Value}(h:w.ownsRow B e size v n I):w.ownsRow 0 e size v n I:=
 ⟨h.1,h.2.imp id fun⟨g,c,q,N,_,L⟩=>⟨g,c,q,N,zpD _,L⟩⟩
theorem zkN(L:SlLaysE0.n41 P ρ)(N:TypeInfo)(z:Value)(size bytes:Nat)(hi:P.info? (ρ.t 23)=some N)(W:N.zero=some z)(X:N.size=size)(Z:N.bytes=bytes)(ab:z.cells.size=size)(Y:0<size)(af:∀w,(Go.sizeOf (ρ.t 23)).run P w=.ok size w)(a:Addr)(c:Nat)(w:World):
 Calls P (ρ.f 41) #[.slice (some a) 0 c] w fun e h=>∃O,e=.returned O/\h.ownsRow w.heap.size (ρ.t 23) size O 0 []/\Bl w h:=by
 have q:=L.mixed;have t4:=L.t4;have a4:=L.a4;have z4:=L.z4;have v4:=L.v4;have h:=L.t22;have ac:=L.a22;have U:=L.z22;have aa:=L.v22;have ae:∀(w:World)(a:Option Addr)(n c R V:Nat),(binOp .eql (ρ.t 22) (.slice a n c) (.slice none R V)).run P w=.ok (.bool a.isNone) w:=fun w a n c R V=>Lib.run_eql_slice_nil w _ _ a n c R V L.t22
 have ag:∀w,Sem.run P (underlying (ρ.t 22)) w=.ok (TypeDesc.slice (ρ.t 23)) w:=run_underlying h;obtain⟨_,_,FG⟩:=L.f41;go_enter FG,SlBodyN.n41_ntmps ρ
 go_wp2_with (at_builtin;refine wpList_append_own _ rfl _ _ (ρ.t 22) rfl w.heap.size (ρ.t 23) N z size bytes h hi W X Z ab Y _ _ _ rfl (World.ownsRow_made w #[] 0 (zpx _) (zpD _) zp) a 0 c [] rfl ?qc1 ?qc2 ?qc3 ?qc4 ?qc5 ?qc6 ?_)
 case qc1=>simp
 case qc2=>intro j u hj;simp at hj
 case qc3=>intro u hu;cases hu
 case qc4=>exact zpD _
 case qc5=>simp
 case qc6=>simp
 intro O w1 xV I ad;go_wp2
 go_ret
 exact⟨O,rfl,by simpa using xV,((Below.refl _ w).alloc (zpx _) _).grown I zp (by intro k hk;simp[Value.ownBlock]at hk;omega)⟩
theorem UL{α:Type}{f:α->List Value}(L:SlLaysE0.n41 P ρ){t:TypeId}{bytes:Nat}(E:qB P t e size bytes)(he:ρ.t 23=e)(R:∀w,(Go.sizeOf e).run P w=.ok size w)(hf:∀x,(f x).length=size)(h1:∀x,∀u∈f x,u.oneCell'=true)(w:World)(A:Option Addr)(cap n:Nat)(xs:List α)(I:xs.length=n)(hl:zZ f w A xs)(hb:n<=4194304)(X:bytes<=4096):Calls P (ρ.f 41) #[.slice A n cap] w (XA f e size xs w):=by
 subst he;have q:=E;obtain⟨ht,⟨i,z,hi,hz,h3,Z,h5⟩,hp⟩:=q
 cases hx:xs with
 |nil=>
  rw[hx]at I;simp only[zqd]at I;subst I
  cases A with
  |none=>
   refine(AnyE.slices_Clone_nil L 0 cap w).mono ?_;rintro e Y⟨rfl,rfl⟩;exact⟨none,0,0,rfl,rfl,Own.qz _,Below.refl _ _,fun g N=>by simp[zw]at N⟩
  |some a=>
   refine(zkN L i z size bytes hi hz h3 Z h5 hp R a cap w).mono ?_;rintro e Y⟨v',rfl,q,V⟩
   rcases q.2 with⟨rfl,-⟩ |⟨g,c,W,rfl,N,-⟩
   ·exact⟨none,0,0,rfl,rfl,Own.qz _,V,fun g N=>by simp[zw]at N⟩
   ·exact⟨some ⟨g,0,none⟩,c,0,rfl,rfl,zcI q,V,xY N⟩
 |cons x r=>
  have O:xs.flatMap f≠[]:=by
   rw[hx,zpZ];intro h;have U:=hf x;rw[(List.append_eq_nil_iff.1 h).1]at U;have:=E.pos;simp at U;omega
  obtain⟨b,o,rfl,aa,hr⟩:=hl O;rw[<-hx];have U:(xs.flatMap f).length=n*size:=by
   rw[<-I];clear hx O hl hr I
   induction xs with
   |nil=>simp
   |cons a l ih=>rw[zpZ,zpA,hf,ih,zpV,zrq,Nat.add_comm]
  have hm:n*bytes<=140737488355328:=by
   have:n*bytes<=4194304*4096:=zrx hb X;omega
  refine(AnyE.slices_Clone L i z size bytes hi hz h3 Z h5 hp R b o n cap (xs.flatMap f) w U (by unfold maxLen;omega) hm (fun j u hj=>hr j u hj) (fun u hu=>by
   obtain⟨y,_,hy⟩:=zqP.1 hu;exact h1 y u hy)).mono ?_
  rintro e Y⟨v',rfl,q,-,V⟩
  rcases q.2 with⟨rfl,h0⟩ |⟨g,c,W,rfl,N,-⟩
  ·rw[hx]at I;simp at I;omega
  ·refine⟨some ⟨g,0,none⟩,c,n,rfl,I,?_,V,xY N⟩;unfold Own;rw[I];exact zcI q
theorem zfY(w:World)(A:Option Addr)(cap n:Nat)(xs:List Li)(I:xs.length=n)(h:zZ Li.cells w A xs)(q:n<=4194304):Calls prog 96 #[.slice A n cap] w (XA Li.cells 50 16 xs w):=
 UL Tryz.zhJ zgB rfl (fun w=>sizeOf50 w) Li.xG (fun x=>x.Ys) w A cap n xs I h q zr
def zok(s:ByteArray)(xs:List ByteArray)(w:World)(e:Ending)(w':World):Prop:=∃i:Int,e=.returned (.int .i64 i)/\(0<=i↔s∈xs)/\w'=w
theorem zn5(w:World)(A:Option Addr)(cap n:Nat)(xs:List ByteArray)(Z:xs.length=n)(W:zZ xD w A xs)(hb:n<=4194304)(s:ByteArray):Calls prog 164 #[.slice A n cap,.string s] w (zok s xs w):=by
 have X:=zz Z;have HL:=zz W;clear Z W;go_enter func164,ntmps164;go_wp2
 go_loopg[5,8] n (fun gk L q I=>∃i:Nat,i<=n/\gk=n-i/\q=.int .i64 (i:Int)/\(∀u∈xs.take i,u≠s)/\w=I)
 case atStart=>exact⟨0,zpD _,rfl,rfl,fun u q=>(by simp at q),rfl⟩
 case round=>
  obtain⟨i,hi,rfl,rfl,q,rfl⟩:=hrel;have U:=zz q;clear q
  by_cases R:i<n
  ·have I:i<xs.length:=by rw[X.o];exact R
   obtain⟨b,o,rfl,aa,q⟩:=HL.o.at (c:=0) (fun _=>rfl) i I;have V:=q 0 _ rfl;have L:Kz (xs.take (i+1)=xs.take i++[xs[i]]):=zpC I;have Hm:=zz (zpB I);generalize xs[i]=u at V L Hm;simp only[zqI,zqk,zp6]at V;clear q;have N:=bytes_beq s u;have q:=bytes_beq u s
   by_cases O:u=s
   ·subst O;rw[qs rfl]at N q;go_wp2;go_returns;exact⟨_,rfl,⟨fun _=>Hm.o,fun _=>zp⟩,rfl⟩
   ·rw[qu (fun e=>O e.symm)]at N;rw[qu O]at q;go_wp2
    go_roundg (n-(i+1))
    case measure=>omega
    case rel=>exact⟨i+1,zd,rfl,ze,fun x Y=>by
     rw[L.o]at Y
     rcases zpE.1 Y with h|h
     ·exact U.o x h
     ·rw[zpy.1 h];exact O,rfl⟩
  ·obtain rfl:i=n:=zd;go_wp2;go_returns;exact⟨_,rfl,⟨fun h=>(by simp at h),fun h=>(U.o s (by rw[<-X.o,zp5];exact h) rfl).elim⟩,rfl⟩
theorem zeT(w:World)(A:Option Addr)(cap n:Nat)(xs:List ByteArray)(I:xs.length=n)(q:zZ xD w A xs)(O:n<=4194304)(s:ByteArray):Calls prog 95 #[.slice A n cap,.string s] w fun e L=>e=.returned (.bool (tf (s∈xs)))/\L=w:=by
 have R:=zz (zn5 w A cap n xs I q O s);clear I q;go_enter func95,ntmps95
 go_wp2_with (go_at_call 164;refine R.o.mono ?_;rintro e U⟨i,rfl,L,rfl⟩)
 go_returns;refine⟨Ym ?_,rfl⟩
 by_cases h:s∈xs
 ·rw[qs h];simpa using L.2 h
 ·rw[qu h];simpa using fun N=>h (L.1 N)
theorem DS(w:World)(r:Ru)(hl:r.zN w)(hf:r.fits)(hb:r.zO.length<=1048576)(h:r.ok)(hv:∀v∈r.vars,yo r.body v):Calls prog 44 #[.agg r.cells.toArray,.slice none 0 0] w fun e I=>e=.returned (.int .i64 0)/\Bl w I:=by
 have an:=h.y8;have L:=zz (fun W (O:Bl w W)=>zgH W r (hl.below O) hf hb h);have R:=zz (fun W (O:Bl w W) n (U:r.body.length=n)=>zfY W r.B r.zM n r.body U (hl.rd.below O) zd);have ac:=zz (fun W (O:Bl w W) (B:Option Addr) (zM n:Nat) (U:r.body.length=n) (hB:zZ Li.cells W B r.body)=>zi4 W B zM n r.body U ⟨hB,hl.y8,fun x I=>(hl.body x I).below O,by unfold Ru.zO at hb;rw[zpA]at hb;omega⟩ (fun x I t V=>(hf.2.2 t (zpR _ (zqP.2 ⟨x,I,V⟩)))) zd);have I:=zz (fun W (O:Bl w W)=>zdI W r (hl.below O) hb hf.2.2);have Hv:=zz hv;have O:r.vars.length<=24:=h.vars;have ad:=zz O;clear hl hf hb h hv O;generalize r.vars=rv at I Hv ad;obtain⟨p,B,zM,af,C,ao,q⟩:=r;simp only[Ru.cells]at *;generalize af.length=N at *;obtain⟨N2,O⟩:∃N,q.length=N:=⟨_,rfl⟩;rw[O]at an L I ⊢;have az:=zz O;clear O;obtain⟨W0,O,U⟩:=xi w 25 #[.string p,.slice B N zM,.slice C N2 ao];have HX:=zz U;have aK:=zz O;clear U O;go_enter func44,ntmps44
 go_wp2_with (go_at_call 60;rw[aK.o];refine(L.o _ HX.o.below).mono ?_;rintro e w1⟨rfl,Z⟩;have O:=HX.o.b0.below Z;have c0:=O.cell 0;have c1:=O.cell 1;have c2:=O.cell 2;have ax:=zz O;have am:=zz (zl HX.o.below Z);clear Z O)
 go_loopg[18] 1 (fun gk U wx=>gk=1/\U=.int .i64 0/\w1=wx)
 case atStart=>exact⟨rfl,rfl,rfl⟩
 case round=>
  obtain⟨rfl,rfl,rfl⟩:=hrel
  go_wp2_with (go_at_call 96;refine(R.o _ am.o _ az.o).mono ?_;rintro e w2⟨A2,ar,M2,rfl,av,ai,U,aM⟩;have aB:=zz ai;have aI:=zz av;have aF:=zz (ax.o.below U);have ah:=zz (zl am.o U);clear c0 c1 c2 av ai U aM)
  go_loopg[7,39] 1 (fun gk X V wx=>gk=1/\X=.slice A2 M2 ar/\V=.int .i64 0/\w2=wx)
  case atStart=>exact⟨rfl,rfl,rfl,rfl⟩
  case round=>
   obtain⟨rfl,rfl,rfl,rfl⟩:=hrel
   go_wp2_with (first
    |(go_at_call 97;refine(ac.o _ ah.o _ _ _ aI.o aB.o.xI).mono ?_;rintro e w3⟨vs,A3,ab,M3,rfl,ae,ap,ag,aC,V,aA⟩;have aD:=zz (show M3<=4194304 from zd);have aL:=zz ap;have aN:=zz ae;have aH:=zz ag;have O:=aF.o.below V;have c0:=O.cell 0;have c1:=O.cell 1;have c2:=O.cell 2;have ak:=zz (zl ah.o V);clear ae ap ag aC V aA O)
    |(go_at_call 63;refine(I.o _ ak.o).mono ?_;rintro e w4⟨A4,aP,X,rfl,aa,aq,Y,aJ⟩;have aE:=zz aq;have aj:=zz aa;have al:=zz (aL.o.below Y);have aG:=zz (zl ak.o Y);clear aa aq Y aJ c0 c1 c2))
   have aO:X<=24:=by rw[<-aj.o];exact ad.o
   go_loopg[12,57] X (fun gk aw au wx=>∃i:Nat,i<=X/\gk=X-i/\au=.int .i64 (i:Int)/\w4=wx)
   case atStart=>exact⟨0,zpD _,rfl,rfl,rfl⟩
   case round=>
    obtain⟨i,hi,rfl,rfl,rfl⟩:=hrel
    by_cases ay:i<X
    ·have au:i<rv.length:=by rw[aj.o];exact ay
     obtain⟨b,o,rfl,aQ,hr⟩:=aE.o.xI.at (c:=0) (fun _=>rfl) i au;have d0:=hr 0 _ rfl;have aw:=zz (aH.o _ (Hv.o _ (zpB au)));generalize rv[i]=u at d0 aw;simp only[zqI,zqk,zp6]at d0;clear hr;have Hc:=zz (zeT w4 A3 ab M3 vs aN.o al.o.xI aD.o u);rw[qs aw.o]at Hc
     go_wp2_with (go_at_call 95;refine Hc.o.mono ?_;rintro e w5⟨rfl,rfl⟩)
     go_roundg (X-(i+1))
     case measure=>omega
     case rel=>exact⟨i+1,zd,rfl,ze,rfl⟩
    ·obtain rfl:i=X:=zd;go_wp2;go_returns;exact⟨rfl,aG.o⟩
end
