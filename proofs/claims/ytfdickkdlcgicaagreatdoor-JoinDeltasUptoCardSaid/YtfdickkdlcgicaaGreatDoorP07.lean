/-
  Walks: the document's predicates of rules and facts; a job. 
-/
import Derived.Test.YtfdickkdlcgicaaGreatDoorP06
import Derived.Test.YtfdickkdlcgicaaGreatDoorP05
import Derived.Shelf.SlIter.Nil
import Derived.Shelf.SortM.Plain
import Derived.Shelf.SortM.SortNone
import Derived.Ground.GgzProg
import Derived.Ground.SlgmProg
import Derived.Shelf.SlicesE.Clone
import Derived.Shelf.SlGeneric
import Derived.Ground.SlgnProg
set_option maxRecDepth 100000
set_option maxHeartbeats 8000000
set_option linter.all false
namespace Go.Proofs.YtfdickkdlcgicaaGreatDoor.C
open Go.Proofs.Tryz Go Go.RowKit Go.Maps Go.WideMaps
variable {P:Program}{e:TypeId}{f:Value->Option Value}{size:Nat}{ρ:Go.Shelf.Ren}
section
theorem Ru.xF(r:Ru):r.cells.length=2+1:=rfl
theorem Fa.xF(f:Fa):f.cells.length=1+1:=rfl
theorem Vl.xF(v:Vl):v.cells.length=2+1:=rfl
abbrev qX(f:Fa):ByteArray×Nat:=(f.p,f.args.length)
def zgB(P:Prop)(w:World)(e:Ending)(w':World):Prop:=
 ∃(A:Option Addr) (h n:Nat) (c:Int),e=.returned (.tuple #[.slice A n h,.int .i64 c])/\(c=0->P)/\Bl w w'
theorem Cons.qC:Cons []:=fun a h=>by cases h
theorem zmH(w:World)(R:Option Addr)(aA:Nat)(N:List Ru)(hR:zY Ru.cells w R N)(aL:∀r∈N,r.zO w)(nr:Nat)(aI:N.length=nr)(aM:∀r∈N,r.body.length<=1048576)(F:Option Addr)(aR:Nat)(fs:List Fa)(hF:zY Fa.cells w F fs)(nf:Nat)(aO:fs.length=nf)(hT:(N.flatMap qW).length+nf<=2097152):
 Calls prog 87 #[.agg #[.slice R nr aA],.slice F nf aR] w (zgB (Cons (N.flatMap qW++fs.map qX)) w):=by
 have HR:=zz hR;have aU:=zz aL;have aJ:=zz aI;have aT:=zz aM;have HF:=zz hF;have az:=zz aO;have HT:=zz hT;have a2:nf<=2097152:=zd;have a5:nr<=2097152:=by
  have:N.length<=(N.flatMap qW).length:=by
   clear hR aL aI aM hT HR aU aJ aT HT
   induction N with
   |nil=>simp
   |cons r N q=>
    rw[zps,zo1,zpn];have:0<(qW r).length:=by unfold qW;simp
    omega
  omega
 clear hR aL aI aM hF aO hT;obtain⟨W0,q,I⟩:=xj w 180 #[.slice R nr aA];have HX:=zz I;have aZ:=zz q;clear I q;go_enter func87,ntmps87;go_wp2;rw[aZ.o]
 go_loopg[6,7,8] nr (fun gk s6 s7 q wx=>∃(i:Nat) (Y:Option Addr) (I O:Nat) (ok:Bool),i<=nr/\gk=nr-i/\q=.int .i64 (i:Int)/\s6=.slice Y O I/\s7=.bool ok/\
  (ok=true->∃q,q.length=O/\Cons q/\(∀x∈(N.take i).flatMap qW,x∈q)/\zY yw wx Y q/\O<=((N.take i).flatMap qW).length)/\Bl W0 wx)
 case atStart=>exact⟨0,none,0,0,true,zo5 _,rfl,rfl,rfl,rfl,fun _=>⟨[],rfl,Cons.qC,fun x U=>by simp at U,fun h=>(h rfl).elim,zo5 _⟩,Below.refl _ _⟩
 case round=>
  obtain⟨i,Y,I,O,ok,hi,rfl,rfl,rfl,rfl,hk,hB⟩:=hrel;have x0:wr.cell? ⟨w.heap.size,0,none⟩=some (.slice R nr aA):=(HX.o.b0.below hB).cell 0;have Hk:=zz hk;have V:=zz hB;clear hk hB
  rcases ok with _|_
  ·have ak:Kz ((false=true->∃q,q.length=O/\Cons q/\(∀x∈N.flatMap qW++(fs.take 0).map qX,x∈q)/\zY yw wr Y q/\O<=(N.flatMap qW).length+0)):=fun h=>(by cases h)
   by_cases aN:i<nr
   ·go_wp2
    go_loopg[6,7,9] nf (fun gk s6 s7 s9 wx=>∃(j:Nat) (Y:Option Addr) (I O:Nat) (ok:Bool),j<=nf/\gk=nf-j/\s9=.int .i64 (j:Int)/\s6=.slice Y O I/\s7=.bool ok/\
     (ok=true->∃q,q.length=O/\Cons q/\(∀x∈N.flatMap qW++(fs.take j).map qX,x∈q)/\zY yw wx Y q/\O<=(N.flatMap qW).length+j)/\Bl W0 wx)
    case atStart=>exact⟨0,Y,I,O,false,zo5 _,rfl,rfl,rfl,rfl,(fun h=>by first|exact absurd h zr|exact ak.o zc),V.o⟩
    case round=>
     clear ak V Hk;obtain⟨j,Y,I,O,ok,hj,rfl,rfl,rfl,rfl,hk,hB⟩:=hrel;have Hk:=zz hk;have V:=zz hB;clear hk hB x0
     rcases ok with _|_
     ·go_wp2
      all_goals
       go_returns;exact⟨none,0,0,72,rfl,fun h=>(by cases h),HX.o.below.trans (V.o.mono (by have:=HX.o.size;omega))⟩
     ·by_cases au:j<nf
      ·have ao:j<fs.length:=by rw[az.o];exact au
       obtain⟨b,o,rfl,al,X⟩:=(HF.o.below (HX.o.below.trans (V.o.mono (by have:=HX.o.size;omega)))).at Fa.xF j ao;have L:(fs.take (j+1)).map qX=(fs.take j).map qX++[qX fs[j]]:=by rw[zo4 ao,zpt];rfl
       generalize fs[j]=f at X L;obtain⟨p,A2,aH,an⟩:=f;obtain⟨Na,ar⟩:∃Na,an.length=Na:=⟨_,rfl⟩;simp only[qX,Fa.cells,ar]at X L
       replace X:wr.rangeAt b (o+j*2) _:=X
       have Hr:=zz X;have aC:=zz al;have ap:=zz L;clear X al L ar;obtain⟨q,aj,ab,aa,ag,ac⟩:=Hk.o zc;have Z:=zz aj;have aw:=zz ab;have ay:=zz aa;have av:=zz ag;have ad:=zz ac;clear aj ab aa ag ac;go_wp2;refine xX [0,0,0,0,0,0,0,0,0,0,0,0,0,2,2,0,0,0,0,0] (fun W=>Bl wr W) ?_;have H0:Kz (∀W,Bl wr W->_):=fun W hW=>two (yo Hr.o hW aC.o)
       try refine zQ ?_
       repeat refine zT H0.o ?_
       refine xc fun K hK=>?_
       go_simp;refine hK.out _ _ ((Below.refl _ _).drew.alloc (zoZ _) _) (fun _=>trivial) ?_;clear hK K;try refine zQ ?_
       repeat refine zT H0.o ?_
       refine xc fun K hK=>?_
       go_simp;have ae:Bl wr (wr.drew.alloc (.cells #[.string p,.int .i64 (Na:Int)] 166)):=(Below.refl _ _).drew.alloc (zoZ _) _;have aq:zY yw (wr.drew.alloc (.cells #[.string p,.int .i64 (Na:Int)] 166)) (some ⟨wr.heap.size,0,none⟩) [(p,Na)]:=fun _=>⟨_,_,rfl,zp,ZB wr.drew [.string p,.int .i64 (Na:Int)] 166⟩
       refine(TP _ _ I q (av.o.below ae) O Z.o aw.o _ 1 [(p,Na)] aq 1 rfl (by have:=ad.o;have:=HT.o;omega)).mono ?_;rintro e w5⟨A5,af,n5,b5,rfl,am,ai⟩;have ah:=zz (zu ae ai);have aD:=zz am;refine hK.out _ _ ah.o (fun _=>trivial) ?_;clear hK K ae aq ai am;try refine zQ ?_
       repeat refine zT H0.o ?_
       refine xu ?_;go_wp2
       go_roundg (nf-(j+1))
       case measure=>omega
       case rel=>
        refine⟨j+1,A5,af,n5,b5,zd,rfl,ze,rfl,rfl,fun h=>?_,V.o.trans (ah.o.mono V.o.size)⟩;obtain⟨ax,h1,h2,h3,h4,h5,h6⟩:=aD.o h;refine⟨ax,h1,h2,fun x U=>?_,h5,by have:=ad.o;have:=Z.o;simp only[zpD]at h6;omega⟩;rw[ap.o,<-zpo]at U
        rcases zo7.1 U with U|U
        ·exact h3 x (ay.o x U)
        ·exact h4 x U
      ·obtain rfl:j=nf:=zd;go_wp2;go_returns;have ht:fs.take j=fs:=by rw[<-az.o];exact zpz
       refine⟨Y,I,O,0,rfl,fun _=>?_,HX.o.below.trans (V.o.mono (by have:=HX.o.size;omega))⟩;obtain⟨q,h1,h2,h3,h4,h5⟩:=Hk.o zc;rw[ht]at h3;exact fun a ha b hb e=>h2 a (h3 a ha) b (h3 b hb) e
   ·obtain rfl:i=nr:=zd;go_wp2
    go_loopg[6,7,9] nf (fun gk s6 s7 s9 wx=>∃(j:Nat) (Y:Option Addr) (I O:Nat) (ok:Bool),j<=nf/\gk=nf-j/\s9=.int .i64 (j:Int)/\s6=.slice Y O I/\s7=.bool ok/\
     (ok=true->∃q,q.length=O/\Cons q/\(∀x∈N.flatMap qW++(fs.take j).map qX,x∈q)/\zY yw wx Y q/\O<=(N.flatMap qW).length+j)/\Bl W0 wx)
    case atStart=>exact⟨0,Y,I,O,false,zo5 _,rfl,rfl,rfl,rfl,(fun h=>by first|exact absurd h zr|exact ak.o zc),V.o⟩
    case round=>
     clear ak V Hk;obtain⟨j,Y,I,O,ok,hj,rfl,rfl,rfl,rfl,hk,hB⟩:=hrel;have Hk:=zz hk;have V:=zz hB;clear hk hB x0
     rcases ok with _|_
     ·go_wp2
      all_goals
       go_returns;exact⟨none,0,0,72,rfl,fun h=>(by cases h),HX.o.below.trans (V.o.mono (by have:=HX.o.size;omega))⟩
     ·by_cases au:j<nf
      ·have ao:j<fs.length:=by rw[az.o];exact au
       obtain⟨b,o,rfl,al,X⟩:=(HF.o.below (HX.o.below.trans (V.o.mono (by have:=HX.o.size;omega)))).at Fa.xF j ao;have L:(fs.take (j+1)).map qX=(fs.take j).map qX++[qX fs[j]]:=by rw[zo4 ao,zpt];rfl
       generalize fs[j]=f at X L;obtain⟨p,A2,aH,an⟩:=f;obtain⟨Na,ar⟩:∃Na,an.length=Na:=⟨_,rfl⟩;simp only[qX,Fa.cells,ar]at X L
       replace X:wr.rangeAt b (o+j*2) _:=X
       have Hr:=zz X;have aC:=zz al;have ap:=zz L;clear X al L ar;obtain⟨q,aj,ab,aa,ag,ac⟩:=Hk.o zc;have Z:=zz aj;have aw:=zz ab;have ay:=zz aa;have av:=zz ag;have ad:=zz ac;clear aj ab aa ag ac;go_wp2;refine xX [0,0,0,0,0,0,0,0,0,0,0,0,0,2,2,0,0,0,0,0] (fun W=>Bl wr W) ?_;have H0:Kz (∀W,Bl wr W->_):=fun W hW=>two (yo Hr.o hW aC.o)
       try refine zQ ?_
       repeat refine zT H0.o ?_
       refine xc fun K hK=>?_
       go_simp;refine hK.out _ _ ((Below.refl _ _).drew.alloc (zoZ _) _) (fun _=>trivial) ?_;clear hK K;try refine zQ ?_
       repeat refine zT H0.o ?_
       refine xc fun K hK=>?_
       go_simp;have ae:Bl wr (wr.drew.alloc (.cells #[.string p,.int .i64 (Na:Int)] 166)):=(Below.refl _ _).drew.alloc (zoZ _) _;have aq:zY yw (wr.drew.alloc (.cells #[.string p,.int .i64 (Na:Int)] 166)) (some ⟨wr.heap.size,0,none⟩) [(p,Na)]:=fun _=>⟨_,_,rfl,zp,ZB wr.drew [.string p,.int .i64 (Na:Int)] 166⟩
       refine(TP _ _ I q (av.o.below ae) O Z.o aw.o _ 1 [(p,Na)] aq 1 rfl (by have:=ad.o;have:=HT.o;omega)).mono ?_;rintro e w5⟨A5,af,n5,b5,rfl,am,ai⟩;have ah:=zz (zu ae ai);have aD:=zz am;refine hK.out _ _ ah.o (fun _=>trivial) ?_;clear hK K ae aq ai am;try refine zQ ?_
       repeat refine zT H0.o ?_
       refine xu ?_;go_wp2
       go_roundg (nf-(j+1))
       case measure=>omega
       case rel=>
        refine⟨j+1,A5,af,n5,b5,zd,rfl,ze,rfl,rfl,fun h=>?_,V.o.trans (ah.o.mono V.o.size)⟩;obtain⟨ax,h1,h2,h3,h4,h5,h6⟩:=aD.o h;refine⟨ax,h1,h2,fun x U=>?_,h5,by have:=ad.o;have:=Z.o;simp only[zpD]at h6;omega⟩;rw[ap.o,<-zpo]at U
        rcases zo7.1 U with U|U
        ·exact h3 x (ay.o x U)
        ·exact h4 x U
      ·obtain rfl:j=nf:=zd;go_wp2;go_returns;have ht:fs.take j=fs:=by rw[<-az.o];exact zpz
       refine⟨Y,I,O,0,rfl,fun _=>?_,HX.o.below.trans (V.o.mono (by have:=HX.o.size;omega))⟩;obtain⟨q,h1,h2,h3,h4,h5⟩:=Hk.o zc;rw[ht]at h3;exact fun a ha b hb e=>h2 a (h3 a ha) b (h3 b hb) e
  ·by_cases aN:i<nr
   ·have aF:i<N.length:=by rw[aJ.o];exact aN
    have aK:Bl w wr:=HX.o.below.trans (V.o.mono (by have:=HX.o.size;omega));obtain⟨b,o,rfl,al,X⟩:=(HR.o.below aK).at Ru.xF i aF;have L:(N.take (i+1)).flatMap qW=(N.take i).flatMap qW++qW N[i]:=by rw[zo4 aF,zpq];simp
    have aE:((N.take (i+1)).flatMap qW).length<=(N.flatMap qW).length:=by
     have:N=N.take (i+1)++N.drop (i+1):=(zpL _ _).symm;rw[congrArg (List.flatMap qW) this,zpq,zo1];omega
    have aB:=zml wr N[i] ((aU.o _ (zo3 aF)).below aK) (aT.o _ (zo3 aF));generalize N[i]=r at X L aB;rw[L,zo1]at aE;obtain⟨st,aG⟩:∃st,qW r=st:=⟨_,rfl⟩;rw[aG]at aB L aE;clear aG;obtain⟨p,B,zM,a3,C,a4,aP⟩:=r;simp only[Ru.cells]at X aB
    replace X:wr.rangeAt b (o+i*3) _:=X
    obtain⟨d0,d1,d2⟩:=three X;have ak:=zz aB;have ap:=zz L;have aW:=zz aE;clear X aB L aE aK;obtain⟨q,aj,ab,aa,ag,ac⟩:=Hk.o zc;have Z:=zz aj;have aw:=zz ab;have ay:=zz aa;have av:=zz ag;have ad:=zz ac;clear aj ab aa ag ac
    go_wp2_with (first
     |(go_at_call 75;refine(TP w5 Y I q (av.o.below ah.o) O Z.o aw.o A5 af st aY.o n5 aS.o (by have:=ad.o;have:=HT.o;have:=aW.o;have:=aS.o;omega)).mono ?_;rintro e w6⟨A6,aB,n6,b6,rfl,aG,aQ⟩;have aV:=zz (zu ah.o aQ);have aX:=zz aG;clear aQ aG)
     |(go_at_call 76;refine ak.o.mono ?_;rintro e w5⟨A5,af,n5,rfl,aK,aE,ai,a1⟩;have ah:=zz ai;have aY:=zz aE.xI;have aS:=zz aK;clear aK aE ai a1))
    go_roundg (nr-(i+1))
    case measure=>omega
    case rel=>
     refine⟨i+1,A6,aB,n6,b6,zd,rfl,ze,rfl,rfl,fun h=>?_,V.o.trans (aV.o.mono V.o.size)⟩;obtain⟨ax,h1,h2,h3,h4,h5,h6⟩:=aX.o h;refine⟨ax,h1,h2,fun x U=>?_,h5,by rw[ap.o,zo1];have:=ad.o;have:=Z.o;omega⟩;rw[ap.o]at U
     rcases zo7.1 U with U|U
     ·exact h3 x (ay.o x U)
     ·exact h4 x U
   ·obtain rfl:i=nr:=zd;have ht:N.take i=N:=by rw[<-aJ.o];exact zpz
    have ak:=zz (show(true=true->∃q,q.length=O/\Cons q/\(∀x∈N.flatMap qW++(fs.take 0).map qX,x∈q)/\zY yw wr Y q/\O<=(N.flatMap qW).length+0)from fun h=>(by
     have:=Hk.o h;rw[ht]at this;simpa using this))
    clear ht;go_wp2
    go_loopg[6,7,9] nf (fun gk s6 s7 s9 wx=>∃(j:Nat) (Y:Option Addr) (I O:Nat) (ok:Bool),j<=nf/\gk=nf-j/\s9=.int .i64 (j:Int)/\s6=.slice Y O I/\s7=.bool ok/\
     (ok=true->∃q,q.length=O/\Cons q/\(∀x∈N.flatMap qW++(fs.take j).map qX,x∈q)/\zY yw wx Y q/\O<=(N.flatMap qW).length+j)/\Bl W0 wx)
    case atStart=>exact⟨0,Y,I,O,true,zo5 _,rfl,rfl,rfl,rfl,(fun h=>by first|exact absurd h zr|exact ak.o zc),V.o⟩
    case round=>
     clear ak V Hk;obtain⟨j,Y,I,O,ok,hj,rfl,rfl,rfl,rfl,hk,hB⟩:=hrel;have Hk:=zz hk;have V:=zz hB;clear hk hB x0
     rcases ok with _|_
     ·go_wp2
      all_goals
       go_returns;exact⟨none,0,0,72,rfl,fun h=>(by cases h),HX.o.below.trans (V.o.mono (by have:=HX.o.size;omega))⟩
     ·by_cases au:j<nf
      ·have ao:j<fs.length:=by rw[az.o];exact au
       obtain⟨b,o,rfl,al,X⟩:=(HF.o.below (HX.o.below.trans (V.o.mono (by have:=HX.o.size;omega)))).at Fa.xF j ao;have L:(fs.take (j+1)).map qX=(fs.take j).map qX++[qX fs[j]]:=by rw[zo4 ao,zpt];rfl
       generalize fs[j]=f at X L;obtain⟨p,A2,aH,an⟩:=f;obtain⟨Na,ar⟩:∃Na,an.length=Na:=⟨_,rfl⟩;simp only[qX,Fa.cells,ar]at X L
       replace X:wr.rangeAt b (o+j*2) _:=X
       have Hr:=zz X;have aC:=zz al;have ap:=zz L;clear X al L ar;obtain⟨q,aj,ab,aa,ag,ac⟩:=Hk.o zc;have Z:=zz aj;have aw:=zz ab;have ay:=zz aa;have av:=zz ag;have ad:=zz ac;clear aj ab aa ag ac;go_wp2;refine xX [0,0,0,0,0,0,0,0,0,0,0,0,0,2,2,0,0,0,0,0] (fun W=>Bl wr W) ?_;have H0:Kz (∀W,Bl wr W->_):=fun W hW=>two (yo Hr.o hW aC.o)
       try refine zQ ?_
       repeat refine zT H0.o ?_
       refine xc fun K hK=>?_
       go_simp;refine hK.out _ _ ((Below.refl _ _).drew.alloc (zoZ _) _) (fun _=>trivial) ?_;clear hK K;try refine zQ ?_
       repeat refine zT H0.o ?_
       refine xc fun K hK=>?_
       go_simp;have ae:Bl wr (wr.drew.alloc (.cells #[.string p,.int .i64 (Na:Int)] 166)):=(Below.refl _ _).drew.alloc (zoZ _) _;have aq:zY yw (wr.drew.alloc (.cells #[.string p,.int .i64 (Na:Int)] 166)) (some ⟨wr.heap.size,0,none⟩) [(p,Na)]:=fun _=>⟨_,_,rfl,zp,ZB wr.drew [.string p,.int .i64 (Na:Int)] 166⟩
       refine(TP _ _ I q (av.o.below ae) O Z.o aw.o _ 1 [(p,Na)] aq 1 rfl (by have:=ad.o;have:=HT.o;omega)).mono ?_;rintro e w5⟨A5,af,n5,b5,rfl,am,ai⟩;have ah:=zz (zu ae ai);have aD:=zz am;refine hK.out _ _ ah.o (fun _=>trivial) ?_;clear hK K ae aq ai am;try refine zQ ?_
       repeat refine zT H0.o ?_
       refine xu ?_;go_wp2
       go_roundg (nf-(j+1))
       case measure=>omega
       case rel=>
        refine⟨j+1,A5,af,n5,b5,zd,rfl,ze,rfl,rfl,fun h=>?_,V.o.trans (ah.o.mono V.o.size)⟩;obtain⟨ax,h1,h2,h3,h4,h5,h6⟩:=aD.o h;refine⟨ax,h1,h2,fun x U=>?_,h5,by have:=ad.o;have:=Z.o;simp only[zpD]at h6;omega⟩;rw[ap.o,<-zpo]at U
        rcases zo7.1 U with U|U
        ·exact h3 x (ay.o x U)
        ·exact h4 x U
      ·obtain rfl:j=nf:=zd;go_wp2;go_returns;have ht:fs.take j=fs:=by rw[<-az.o];exact zpz
       refine⟨Y,I,O,0,rfl,fun _=>?_,HX.o.below.trans (V.o.mono (by have:=HX.o.size;omega))⟩;obtain⟨q,h1,h2,h3,h4,h5⟩:=Hk.o zc;rw[ht]at h3;exact fun a ha b hb e=>h2 a (h3 a ha) b (h3 b hb) e
def Fa.ok(f:Fa):Prop:=Nm f.p/\f.args.length<=24/\∀v∈f.args,v.ok
theorem zjj(w:World)(f:Fa)(hl:f.zO w)(hs:f.p.size<=maxLen):Calls prog 74 #[.agg f.cells.toArray] w (xY f.ok w):=by
 obtain⟨p,A,V,q⟩:=f;obtain⟨I,L⟩:=hl;simp only at I L hs;have Hn:=zz (fun W=>DU W p hs);have Hr:=zz I;clear hs I;simp only[Fa.cells];obtain⟨N,r⟩:∃N,q.length=N:=⟨_,rfl⟩;rw[r]at L ⊢;have HN:=zz r;clear r;obtain⟨W0,r,O⟩:=xj w 71 #[.string p,.slice A N V];have U:=zz O;have ac:=zz r;clear O r;go_enter func74,ntmps74
 go_wp2_with (go_at_call 136;refine(Hn.o _).mono ?_;rintro e w1⟨q1,rfl,k1,r⟩;rw[ac.o]at r;have c1:=(U.o.b0.below r).cell 1)
 ·go_returns;exact xY.no (zu U.o.below r)
 ·go_returns;exact xY.no (zu U.o.below r)
 ·obtain rfl:=‹q1=true›;have K1:=zz (k1 rfl);have X:N<=24:=zd;clear c1 k1
  go_loopg[3] N (fun gk R O=>∃i:Nat,i<=N/\gk=N-i/\R=.int .i64 (i:Int)/\Bl W0 O/\∀j (h:j<q.length),j<i->q[j].ok)
  case atStart=>exact⟨0,zo5 _,rfl,rfl,r,fun j _ h=>zd⟩
  case round=>
   obtain⟨i,hi,rfl,rfl,Y,R⟩:=hrel;have O:=zz R;clear R r;have c1:wr.cell? ⟨w.heap.size,1,none⟩=some (.slice A N V):=(U.o.b0.below Y).cell 1
   by_cases aa:i<N
   ·have ad:i<q.length:=by rw[HN.o];exact aa
    obtain⟨b,o,rfl,hb,I⟩:=(Hr.o.below (zu U.o.below Y)).at Vl.xF i ad;have Z:=fun W=>zcY W q[i]
    generalize R:q[i]=t at I Z;have ab:=zz R;clear R;obtain⟨k,m,s⟩:=t;simp only[Vl.cells]at I Z
    replace I:wr.rangeAt b (o+i*3) _:=I
    obtain⟨d0,d1,d2⟩:=three I;have Hk:=zz Z;clear I Z
    go_wp2_with (go_at_call 79;refine(Hk.o _).mono ?_;rintro e w2⟨q2,rfl,k2,I⟩)
    ·go_returns;exact xY.no (zu U.o.below (zu Y I))
    ·have Z:q2=0:=by simpa using ‹(q2 != 0)=false›
     go_roundg (N-(i+1))
     case measure=>omega
     case rel=>exact⟨i+1,zd,rfl,ze,zu Y I,fun j R ae=>by
      by_cases e:j=i
      ·subst e;rw[ab.o];exact k2 Z
      ·exact O.o j R zd⟩
   ·obtain rfl:i=N:=zd;go_wp2;go_returns;exact xY.yes ⟨K1.o,by rw[HN.o];exact X,fun t I=>by
     obtain⟨j,R,rfl⟩:=zpl.1 I;exact O.o j R (by rw[<-HN.o];exact R)⟩ (zu U.o.below Y)
structure Dc (rs:List Ru) (fs:List Fa):Prop where
 rules:∀r∈rs,r.ok/\∀v∈r.vars,yl r.body v
 facts:∀f∈fs,f.ok
 cons:Cons (rs.flatMap qW++fs.map qX)
theorem zko(w:World)(R:Option Addr)(ae:Nat)(L:List Ru)(hR:zY Ru.cells w R L)(ad:∀r∈L,r.zO w)(nr:Nat)(ac:L.length=nr)(al:∀r∈L,r.fits)(ag:∀r∈L,r.zN.length<=1048576)(an:∀r∈L,r.body.length<=1048576)(F:Option Addr)(af:Nat)(fs:List Fa)(hF:zY Fa.cells w F fs)(aq:∀f∈fs,f.zO w)(ap:∀f∈fs,f.p.size<=maxLen)(Y:Nat)(ai:fs.length=Y)(hT:(L.flatMap qW).length+Y<=2097152):
 Calls prog 40 #[.slice R nr ae,.slice F Y af] w (XY (Dc L fs) w):=by
 have HP:=zz (fun W (I:Bl w W)=>zmH W R ae L (hR.below I) (fun r N=>(ad r N).below I) nr ac an F af fs (hF.below I) Y ai hT);have ao:=zz (fun(r:Ru) (N:r∈L) W (I:Bl w W)=>zmi W r ((ad r N).below I) (al r N) (ag r N));have au:=zz (fun(f:Fa) (hf:f∈fs) W (I:Bl w W)=>zjj W f ((aq f hf).below I) (ap f hf));have HR:=zz hR;have ah:=zz ac;have HF:=zz hF;have ar:=zz ai;have ay:Y<=2097152:=zd;have aA:nr<=2097152:=by
  have:L.length<=(L.flatMap qW).length:=by
   clear hR ad ac al ag an hT HP ao HR ah
   induction L with
   |nil=>simp
   |cons r L I=>
    rw[zps,zo1,zpn];have:0<(qW r).length:=by unfold qW;simp
    omega
  omega
 clear hR ad ac al ag an hF aq ap ai hT;go_enter func40,ntmps40;go_wp2
 go_loopg[5] nr (fun gk I wx=>∃i:Nat,i<=nr/\gk=nr-i/\I=.int .i64 (i:Int)/\Bl w wx/\∀j (h:j<L.length),j<i->(L[j].ok/\∀v∈L[j].vars,yl L[j].body v))
 case atStart=>exact⟨0,zo5 _,rfl,rfl,Below.refl _ _,fun j _ h=>zd⟩
 case round=>
  obtain⟨i,hi,rfl,rfl,hB,O⟩:=hrel;have I:=zz O;have X:=zz hB;clear O hB
  by_cases aw:i<nr
  ·have aa:i<L.length:=by rw[ah.o];exact aw
   obtain⟨b,o,rfl,av,N⟩:=(HR.o.below X.o).at Ru.xF i aa;have Z:=ao.o L[i] (zo3 aa) wr X.o;generalize ab:L[i]=r at N Z;have aj:=zz ab;clear ab;obtain⟨P,hP⟩:∃P:Prop,(r.ok/\∀v∈r.vars,yl r.body v)=P:=⟨_,rfl⟩;rw[hP]at Z;have am:=zz hP;clear hP;obtain⟨p,B,zM,ax,C,az,V⟩:=r;simp only[Ru.cells]at N Z
   replace N:wr.rangeAt b (o+i*3) _:=N
   obtain⟨d0,d1,d2⟩:=three N;have Hk:=zz Z;clear N Z
   go_wp2_with (go_at_call 73;refine Hk.o.mono ?_;rintro e w2⟨c2,rfl,k2,U⟩)
   ·go_returns;exact XY.no (by simpa using ‹(c2 != 0)=true›) (zu X.o U)
   ·have ak:c2=0:=by simpa using ‹(c2 != 0)=false›
    go_roundg (nr-(i+1))
    case measure=>omega
    case rel=>exact⟨i+1,zd,rfl,ze,zu X.o U,fun j hj aB=>by
     by_cases e:j=i
     ·subst e;rw[aj.o];rw[am.o];exact k2 ak
     ·exact I.o j hj zd⟩
  ·obtain rfl:i=nr:=zd;have ax:=zz (show ∀r∈L,r.ok/\∀v∈r.vars,yl r.body v from fun r N=>by
    obtain⟨j,hj,rfl⟩:=zpl.1 N;exact I.o j hj (by rw[<-ah.o];exact hj))
   clear I;go_wp2
   go_loopg[7] Y (fun gk L wx=>∃j:Nat,j<=Y/\gk=Y-j/\L=.int .i64 (j:Int)/\Bl w wx/\∀q (h:q<fs.length),q<j->fs[q].ok)
   case atStart=>exact⟨0,zo5 _,rfl,rfl,X.o,fun j _ h=>zd⟩
   case round=>
    clear X;obtain⟨j,hj,rfl,rfl,hB,O⟩:=hrel;have I:=zz O;have X:=zz hB;clear O hB
    by_cases O:j<Y
    ·have aa:j<fs.length:=by rw[ar.o];exact O
     obtain⟨b,o,rfl,av,N⟩:=(HF.o.below X.o).at Fa.xF j aa;have Z:=au.o fs[j] (zo3 aa) wr X.o;generalize ab:fs[j]=f at N Z;have aj:=zz ab;clear ab;obtain⟨P,hP⟩:∃P:Prop,f.ok=P:=⟨_,rfl⟩;rw[hP]at Z;have am:=zz hP;clear hP;obtain⟨p,A2,L,ab⟩:=f;simp only[Fa.cells]at N Z
     replace N:wr.rangeAt b (o+j*2) _:=N
     obtain⟨d0,d1⟩:=two N;have Hk:=zz Z;clear N Z
     go_wp2_with (go_at_call 74;refine Hk.o.mono ?_;rintro e w2⟨c2,rfl,k2,U⟩)
     ·go_returns;exact XY.no zr (zu X.o U)
     ·have ak:c2=true:=by simpa using ‹(!c2)=false›
      go_roundg (Y-(j+1))
      case measure=>omega
      case rel=>exact⟨j+1,zd,rfl,ze,zu X.o U,fun q N Z=>by
       by_cases e:q=j
       ·subst e;rw[aj.o,am.o];exact k2 ak
       ·exact I.o q N zd⟩
    ·obtain rfl:j=Y:=zd;have Z:=zz (show ∀f∈fs,f.ok from fun f hf=>by
      obtain⟨q,N,rfl⟩:=zpl.1 hf;exact I.o q N (by rw[<-ar.o];exact N))
     clear I
     go_wp2_with (go_at_call 87;refine(HP.o _ X.o).mono ?_;rintro e w2⟨A2,L,N,c2,rfl,k2,U⟩)
     go_returns;exact XY.may (fun h=>⟨ax.o,Z.o,k2 h⟩) (zu X.o U)
def zhg(body:List Li)(w:World)(e:Ending)(w':World):Prop:=
 ∃q A h n,e=.returned (.slice A n h)/\q.length=n/\Own xC 9 1 w' A h q/\(∀v,yl body v->v∈q)/\n<=2097152/\Bl w w'/\(∀g∈zw A,w.heap.size<=g)
theorem ziy(w:World)(B:Option Addr)(zM O:Nat)(body:List Li)(Z:body.length=O)(h:Bd w B body)(Y:∀x∈body,∀t∈x.zN,t.v.size<=maxLen)(X:O<=1048576):
 Calls prog 97 #[.slice B O zM] w (zhg body w):=by
 have Hl:=zz (zgG w B zM O body Z h Y X);clear h Y Z X;go_enter func97,ntmps97
 go_wp2_with (go_at_call 61;refine Hl.o.mono ?_;rintro e w1⟨fb,vs,rfl,⟨mb,A,U,f,n,hF⟩,q,I,N⟩;have W:=zz (show n<=2097152 by rw[<-hF.len];exact I);have R:=zz hF;have c0:=hF.r.cell 0;have V:=zz N;have L:=zz q;clear hF N q I)
 go_returns;exact⟨vs,A,U,n,rfl,R.o.len,R.o.own,L.o,W.o,V.o,R.o.ge.2.2⟩
theorem znV(w:World)(f:Fa)(Z:f.zO w)(h:f.ok):Calls prog 88 #[.agg f.cells.toArray] w fun e q=>e=.returned (.int .i64 0)/\Bl w q:=by
 obtain⟨r,hn,I⟩:=h;have Hr:=zz Z.rd;have L:=Z.len;have Ha:=zz (fun W=>zcA W ⟨f.p,none,0,[]⟩ ⟨fun h=>(h rfl).elim,zp⟩ ⟨r,zp,fun t ht=>(by cases ht)⟩);have Hv:=zz (fun v (h:v∈f.args) W=>VD W v (I v h));clear Z r I;obtain⟨p,A,Y,q⟩:=f;simp only[Fa.cells]at *;obtain⟨N,r⟩:∃N,q.length=N:=⟨_,rfl⟩;rw[r]at L hn ⊢;have HN:=zz r;clear r;obtain⟨W0,r,I⟩:=xj w 71 #[.string p,.slice A N Y];have HX:=zz I;have U:=zz r;clear I r;go_enter func88,ntmps88
 go_wp2_with (go_at_call 149;rw[U.o];refine(Ha.o _).mono ?_;rintro e w1⟨rfl,r⟩;have V:=HX.o.b0.below r;have c0:=V.cell 0;have c1:=V.cell 1;have aa:=zz (zu HX.o.below r);clear r V)
 go_loopg[4,5,20] N (fun gk R X I O=>∃i:Nat,i<=N/\gk=N-i/\I=.int .i64 (i:Int)/\Bl w O)
 case atStart=>exact⟨0,zo5 _,rfl,rfl,aa.o⟩
 case round=>
  obtain⟨i,hi,rfl,rfl,I⟩:=hrel;have X:=zz I;clear I
  by_cases R:i<N
  ·have O:i<q.length:=by rw[HN.o];exact R
   obtain⟨b,o,rfl,ab,I⟩:=(Hr.o.below X.o).at (c:=2) (fun _=>rfl) i O;have Hk:=zz (Hv.o _ (zo3 O));generalize q[i]=x at I Hk;obtain⟨k,m,s⟩:=x;simp only[Vl.cells]at I Hk
   replace I:wr.rangeAt b (o+i*3) _:=I
   obtain⟨d0,d1,d2⟩:=three I;clear I
   go_wp2_with (go_at_call 32;refine(Hk.o _).mono ?_;rintro e w2⟨rfl,I⟩)
   go_roundg (N-(i+1))
   case measure=>omega
   case rel=>exact⟨i+1,zd,rfl,ze,zu X.o (q6 I)⟩
  ·obtain rfl:i=N:=zd;go_wp2;go_returns;exact⟨rfl,X.o⟩
structure Zb (ks:List (ByteArray×Nat)) (f:Value->Option Value):Prop where
 yes:∀x∈ks,f (.string x.1)=some (.int .i64 (x.2:Int))
 no:∀s,(∀x∈ks,x.1≠s)->f (.string s)=none
theorem Zb.qC:Zb [] fun _=>none:=⟨fun x h=>(by cases h),fun _ _=>rfl⟩
def Gr(h:Nat)(q:List (ByteArray×Nat))(w:World)(e:Ending)(w':World):Prop:=e=.returned (.bool true)/\∃f,xv prog 9 w' h f/\Zb q f/\zh (·=h) w w'
theorem zh8(w:World)(X:Nat)(f:Value->Option Value)(W:xv prog 9 w X f)(L:List (ByteArray×Nat))(r:Zb L f)(p:ByteArray)(n:Nat)(hp:p.size<=maxLen)(Z:∀x∈L,x.1=p->x.2=n):
 Calls prog 215 #[.map (some X),.string p,.int .i64 (n:Int)] w (Gr X (L++[(p,n)]) w):=by
 have q:=qY hp;have O:=W.look qT underlying282 (z:=.int .i64 0) zo q true;simp only[if_true]at O
 by_cases h:∃x∈L,x.1=p
 ·obtain⟨x,V,rfl⟩:=h;have R:=r.yes x V;have I:=Z x V rfl;subst I;rw[R]at O;have I:Gr X (L++[(x.1,x.2)]) w (.returned (.bool true)) w:=⟨rfl,f,W,⟨fun y N=>by
   rcases zo7.1 N with h|h
   ·exact r.yes y h
   ·rw[zo2.1 h];exact R,fun s Y=>r.no s fun y N=>Y y (zpu _ N)⟩,zh.refl _ _⟩
  have U:=zz I;clear I W r Z R q V;go_enter func215,ntmps215;go_wp2;go_returns;exact U.o
 ·have U:∀x∈L,x.1≠p:=fun x V e=>h ⟨x,V,e⟩
  have R:=r.no p U;rw[R]at O;have Hm:=zz W;have I:=zz q;have V:=zz (show Zb (L++[(p,n)]) (yg f (.string p) (.int .i64 (n:Int)))from⟨fun y N=>by
   rcases zo7.1 N with h|h
   ·rw[XG (by have:=U y h;simpa using this)];exact r.yes y h
   ·rw[zo2.1 h,Yi],fun s Y=>by
   rw[XG (by have:=Y (p,n) (zpk _ zpi);simpa[eq_comm]using this)];exact r.no s fun y N=>Y y (zpu _ N)⟩)
  clear W r Z R q h U;go_enter func215,ntmps215
  go_wp2_with (refine Ue rfl _ _ _ rfl Hm.o qT underlying282 rfl (.string p) (.int .i64 (n:Int)) _ rfl rfl I.o ?_)
  intro U N R;go_wp2;go_returns;exact⟨rfl,_,N,V.o,(zh.refl _ w).yi R (fun _=>rfl)⟩
theorem zfM(w:World)(I:Nat)(f:Value->Option Value)(V:xv prog 9 w I f)(r:List (ByteArray×Nat))(U:Zb r f)(x:Fa)(Z:x.p.size<=maxLen)(W:∀y∈r,y.1=x.p->y.2=x.args.length):
 Calls prog 153 #[.map (some I),.agg x.cells.toArray] w (Gr I (r++[qX x]) w):=by
 obtain⟨p,A,O,h⟩:=x;simp only[Fa.cells,qX]at *;generalize h.length=N at *;obtain⟨X,q,L⟩:=xj w 71 #[.string p,.slice A N O];have Hm:=zz (zh8 X I f (V.below L.below) r U p N Z W);have HX:=zz L;have r:=zz q;clear L q V U W;go_enter func153,ntmps153
 go_wp2_with (go_at_call 215;rw[r.o];refine Hm.o.mono ?_;rintro e w1⟨rfl,Y,L,q,R⟩)
 go_returns;exact⟨rfl,Y,L,q,(zh.xi _ HX.o.below).trans R (fun x hx _=>hx)⟩
abbrev zgl(h:Nat):Value:=.func (.func 153) #[.map (some h)] #[]
theorem znv(w:World)(L:Nat)(f:Value->Option Value)(U:xv prog 9 w L f)(r:Zb [] f)(F:Option Addr)(ab q:Nat)(fs:List Fa)(hF:zY Fa.cells w F fs)(hn:fs.length=q)(hs:∀x∈fs,x.p.size<=maxLen)(hc:Cons (fs.map qX))(X:∀g∈zw F,g≠L)(hl:q*40<=140737488351232):
 Calls prog 152 #[.slice F q ab,zgl L] w (Gr L (fs.map qX) w):=by
 have HF:=zz hF;have Hn:=zz hn;have Hs:=zz hs;have Hc:=zz hc;have Hm:=zz U;have Hk:=zz r;have ae:=zz X;clear hF hn hs hc U r X;go_enter func152,ntmps152;go_wp2
 go_loopg[6,9] q (fun gk O I h=>∃(i:Nat) (Y:Value->Option Value),i<=q/\gk=q-i/\I=.int .i64 (i:Int)/\xv prog 9 h L Y/\Zb ((fs.take i).map qX) Y/\zh (·=L) w h)
 case atStart=>exact⟨0,f,zo5 _,rfl,rfl,Hm.o,Hk.o,zh.refl _ _⟩
 case round=>
  obtain⟨i,Y,hi,rfl,rfl,U,r,hC⟩:=hrel;have HC:=zz hC
  by_cases ac:i<q
  ·have h:i<fs.length:=by rw[Hn.o];exact ac
   obtain⟨b,o,rfl,ad,R⟩:=HF.o.at Fa.xF i h;have hr:wr.rangeAt b (o+i*2) fs[i].cells:=Uq R ad hC (ae.o b (by simp[zw]));have W:(fs.take (i+1)).map qX=(fs.take i).map qX++[qX fs[i]]:=by rw[zo4 h,zpt];rfl
   obtain⟨W3,aa,V⟩:=xj wr 71 fs[i].cells.toArray;have hf:=zfM W3 L Y (U.below V.below) _ r fs[i] (Hs.o _ (zo3 h)) (fun y I e=>Hc.o y (by
    obtain⟨x,Z,rfl⟩:=zpA.1 I;exact zpA.2 ⟨x,zqr Z,rfl⟩) (qX fs[i]) (zpA.2 ⟨_,zo3 h,rfl⟩) e)
   rw[<-W]at hf;have Hf:=zz hf;have O:=zz aa;have I:=zz V;clear hf aa V W U r hC;generalize fs[i]=x at hr R Hf O I;obtain⟨p,A2,af,V⟩:=x;simp only[Fa.cells]at hr Hf O I;generalize V.length=N at *;obtain⟨d0,d1⟩:=two hr;clear hr R
   go_wp2_with (go_at_call 153;rw[O.o];refine Hf.o.mono ?_;rintro e w4⟨rfl,f4,R,aa,W⟩)
   go_roundg (q-(i+1))
   case measure=>omega
   case rel=>exact⟨i+1,f4,zd,rfl,ze,R,aa,(HC.o.trans (zh.xi (fun _=>False) I.o.below) (fun x Z _=>Z.elim)).trans W (fun x Z _=>Z)⟩
  ·obtain rfl:i=q:=zd;have O:fs.take i=fs:=by rw[<-Hn.o,zpz]
   rw[O]at r;have I:=zz U;have h:=zz r;clear U r hC O;go_wp2;go_returns;exact⟨rfl,Y,I.o,h.o,HC.o⟩
theorem zjr(w:World)(v:Value):Calls prog 150 #[.slice none 0 0,v] w fun e h=>e=.returned (.bool true)/\h=w:=by
 go_enter func150,ntmps150;go_wp2
 go_loopg[9] 1 (fun gk h q=>gk=1/\h=.int .i64 0/\q=w)
 case atStart=>exact⟨rfl,rfl,rfl⟩
 case round=>
  obtain⟨rfl,rfl,rfl⟩:=hrel;go_wp2;go_returns;exact⟨rfl,rfl⟩
end
end Go.Proofs.YtfdickkdlcgicaaGreatDoor.C
namespace Go.Proofs
open Go.Proofs.Tryz Go Go.RowKit Go.Maps Go.WideMaps
section
open Go.Shelf
def Tryz.zcN:Go.Shelf.Ren:=⟨fun|7=>155|10=>218|n=>n,fun|23=>282|26=>9|3=>3|28=>287|0=>0|27=>286|33=>192|4=>4|n=>n,fun|n=>n⟩
theorem Tryz.zbZ:Go.Proofs.SlLaysZ.n7 prog Tryz.zcN:={
 mixed:=by kernel_rfl
 f7:=⟨Tryz.f155.name,by decide,func155.trans (congrArg some (by kernel_rfl))⟩
 f10:=⟨Tryz.f218.name,by decide,func218.trans (congrArg some (by kernel_rfl))⟩
 t0:=underlying0
 a0:=isAgg0
 z0:=sizeOf0
 v0:=zeroValue0
 t4:=underlying4
 a4:=isAgg4
 z4:=sizeOf4
 v4:=zeroValue4
 t23:=underlying282
 a23:=isAgg282
 z23:=sizeOf282
 v23:=zeroValue282
 t26:=underlying9
 a26:=isAgg9
 z26:=sizeOf9
 v26:=zeroValue9
 t27:=underlying286
 a27:=isAgg286
 z27:=sizeOf286
 v27:=zeroValue286
 t28:=underlying287
 a28:=isAgg287
 z28:=sizeOf287
 v28:=zeroValue287
 t33:=underlying192
 a33:=isAgg192
 z33:=sizeOf192
 v33:=zeroValue192 }
def Tryz.zfe:Go.Shelf.Ren:=⟨fun|6=>154|8=>216|9=>217|11=>251|13=>123|12=>252|23=>188|24=>189|14=>272|15=>273|16=>274|17=>275|18=>276|19=>277|20=>278|21=>279|22=>280|25=>291|26=>224|27=>225|28=>292|29=>293|30=>294|31=>299|n=>n,fun|26=>9|28=>287|24=>86|0=>0|3=>3|37=>246|48=>104|50=>333|4=>4|40=>327|39=>326|45=>220|5=>5|9=>9|51=>370|55=>374|57=>396|58=>174|33=>192|n=>n,fun|n=>n⟩
theorem Tryz.zl6:Go.Proofs.SlLaysZ.n6 prog Tryz.zfe:={
 mixed:=by kernel_rfl
 f6:=⟨Tryz.f154.name,by decide,func154.trans (congrArg some (by kernel_rfl))⟩
 f8:=⟨Tryz.f216.name,by decide,func216.trans (congrArg some (by kernel_rfl))⟩
 f11:=⟨Tryz.f251.name,by decide,func251.trans (congrArg some (by kernel_rfl))⟩
 t0:=underlying0
 a0:=isAgg0
 z0:=sizeOf0
 v0:=zeroValue0
 t24:=underlying86
 a24:=isAgg86
 z24:=sizeOf86
 v24:=zeroValue86
 t26:=underlying9
 a26:=isAgg9
 z26:=sizeOf9
 v26:=zeroValue9
 t28:=underlying287
 a28:=isAgg287
 z28:=sizeOf287
 v28:=zeroValue287
 i26:=by kernel_rfl }
def Tryz.zgS:Go.Shelf.Ren:=⟨fun|6=>217|8=>123|9=>252|19=>188|20=>189|21=>272|22=>273|23=>274|24=>275|25=>276|26=>277|27=>278|28=>279|29=>280|36=>291|31=>224|32=>225|37=>292|38=>293|39=>294|41=>299|n=>n,fun|27=>86|29=>9|3=>3|32=>246|26=>86|0=>0|44=>104|46=>333|4=>4|36=>327|35=>326|41=>220|5=>5|9=>9|53=>370|57=>374|63=>396|64=>174|n=>n,fun|n=>n⟩
theorem Tryz.zbM:Go.Proofs.SlLaysM.n6 prog Tryz.zgS:={
 mixed:=by kernel_rfl
 f6:=⟨Tryz.f217.name,by decide,func217.trans (congrArg some (by kernel_rfl))⟩
 f8:=func123.trans (congrArg some (by kernel_rfl))
 f9:=⟨Tryz.f252.name,by decide,func252.trans (congrArg some (by kernel_rfl))⟩
 f19:=func188.trans (congrArg some (by kernel_rfl))
 f20:=func189.trans (congrArg some (by kernel_rfl))
 f21:=⟨Tryz.f272.name,by decide,func272.trans (congrArg some (by kernel_rfl))⟩
 f22:=⟨Tryz.f273.name,by decide,func273.trans (congrArg some (by kernel_rfl))⟩
 f23:=⟨Tryz.f274.name,by decide,func274.trans (congrArg some (by kernel_rfl))⟩
 f24:=⟨Tryz.f275.name,by decide,func275.trans (congrArg some (by kernel_rfl))⟩
 f25:=⟨Tryz.f276.name,by decide,func276.trans (congrArg some (by kernel_rfl))⟩
 f26:=⟨Tryz.f277.name,by decide,func277.trans (congrArg some (by kernel_rfl))⟩
 f27:=⟨Tryz.f278.name,by decide,func278.trans (congrArg some (by kernel_rfl))⟩
 f28:=⟨Tryz.f279.name,by decide,func279.trans (congrArg some (by kernel_rfl))⟩
 f29:=⟨Tryz.f280.name,by decide,func280.trans (congrArg some (by kernel_rfl))⟩
 f31:=func224.trans (congrArg some (by kernel_rfl))
 f32:=func225.trans (congrArg some (by kernel_rfl))
 f36:=⟨Tryz.f291.name,by decide,func291.trans (congrArg some (by kernel_rfl))⟩
 f37:=⟨Tryz.f292.name,by decide,func292.trans (congrArg some (by kernel_rfl))⟩
 f38:=⟨Tryz.f293.name,by decide,func293.trans (congrArg some (by kernel_rfl))⟩
 f39:=⟨Tryz.f294.name,by decide,func294.trans (congrArg some (by kernel_rfl))⟩
 f41:=⟨Tryz.f299.name,by decide,func299.trans (congrArg some (by kernel_rfl))⟩
 t0:=underlying0
 a0:=isAgg0
 z0:=sizeOf0
 v0:=zeroValue0
 t3:=underlying3
 a3:=isAgg3
 z3:=sizeOf3
 v3:=zeroValue3
 t4:=underlying4
 a4:=isAgg4
 z4:=sizeOf4
 v4:=zeroValue4
 t5:=underlying5
 a5:=isAgg5
 z5:=sizeOf5
 v5:=zeroValue5
 t9:=underlying9
 a9:=isAgg9
 z9:=sizeOf9
 v9:=zeroValue9
 t26:=underlying86
 a26:=isAgg86
 z26:=sizeOf86
 v26:=zeroValue86
 t27:=underlying86
 a27:=isAgg86
 z27:=sizeOf86
 v27:=zeroValue86
 t29:=underlying9
 a29:=isAgg9
 z29:=sizeOf9
 v29:=zeroValue9
 t32:=underlying246
 a32:=isAgg246
 z32:=sizeOf246
 v32:=zeroValue246
 t35:=underlying326
 a35:=isAgg326
 z35:=sizeOf326
 v35:=zeroValue326
 t36:=underlying327
 a36:=isAgg327
 z36:=sizeOf327
 v36:=zeroValue327
 t41:=underlying220
 a41:=isAgg220
 z41:=sizeOf220
 v41:=zeroValue220
 t44:=underlying104
 a44:=isAgg104
 z44:=sizeOf104
 v44:=zeroValue104
 t46:=underlying333
 a46:=isAgg333
 z46:=sizeOf333
 v46:=zeroValue333
 t53:=underlying370
 a53:=isAgg370
 z53:=sizeOf370
 v53:=zeroValue370
 t57:=underlying374
 a57:=isAgg374
 z57:=sizeOf374
 v57:=zeroValue374
 t63:=underlying396
 a63:=isAgg396
 z63:=sizeOf396
 v63:=zeroValue396
 t64:=underlying174
 a64:=isAgg174
 z64:=sizeOf174
 v64:=zeroValue174 }
end
end Go.Proofs
namespace Go.Proofs.YtfdickkdlcgicaaGreatDoor.C
open Go.Proofs.Tryz Go Go.RowKit Go.Maps Go.WideMaps
variable {P:Program}{e:TypeId}{f:Value->Option Value}{size:Nat}{ρ:Go.Shelf.Ren}
section
theorem zki(m:Nat):AnyZ.SortsIn prog Tryz.zfe Fence.wide m:=
 ⟨fun zG r h L W N q I=>callsIn_wide.2 (AnyM.slices_Sort_string Tryz.zbM zG r h L W N q I),
  fun p h W=>callsIn_wide.2 (AnyM.slices_Sort_string_none Tryz.zbM p h W)⟩
theorem zgs{H:Type}(b U:Nat)(r:DataW H)(R:Value->Option (DataW H×List MemPlace))(w:World)(xT:w.ownsMap prog 9 R b U r)(N:Maps.size r<=maxLen)(h:Maps.size r*16<=140737488355328):
 CallsIn Fence.wide 5 prog 154 #[.func (.func 218) #[] #[.pointer (some ⟨w.heap.size,0,none⟩)]] (w.alloc (.cells #[.map (some b)] 282)) fun e q=>∃(v:Value) (I:List (List UInt8)),e=.returned v/\I.Perm (strKeys r)/\
  q.ownsRow (w.alloc (.cells #[.map (some b)] 282)).heap.size 9 1 v I.length ((I.mergeSort (fun x y=>decide (x<=y))).map encStr)/\(v=.slice none 0 0↔I=[])/\Below (w.alloc (.cells #[.map (some b)] 282)).heap.size (w.alloc (.cells #[.map (some b)] 282)) q:=by
 have O:=xT.lt;have L:SeqGives Fence.wide 2 prog 218 #[.pointer (some ⟨w.heap.size,0,none⟩)] encStr (fun I=>I.Perm (strKeys r)) (Maps.size r) (w.alloc (.cells #[.map (some b)] 282)):=
  AnyZ.keys_gives (ρ:=Tryz.zcN) { Tryz.zbZ with } Fence.wide _ trivial rfl zd w.heap.size b U r _ zp (zp) (by
   obtain⟨Y,q,V,X,Z,W⟩:=xT;exact⟨Y,q,(Below.heap_alloc _ _ b O).trans V,X,Z,W⟩)
 exact AnyZ.sorted_in Tryz.zl6 Fence.wide 5 trivial trivial trivial trivial rfl zd (zki _) (enters_of func217 zo rfl) 218 #[.pointer (some ⟨w.heap.size,0,none⟩)] trivial (enters_of func218 zo rfl) _ _ N h _ L
abbrev zev(g:Nat):Value:=.func (.func 218) #[] #[.pointer (some ⟨g,0,none⟩)]
theorem zi6(w:World)(h:Nat):Calls prog 155 #[.map (some h)] w fun e q=>e=.returned (zev w.heap.size)/\q=w.alloc (.cells #[.map (some h)] 282):=
 callsIn_wide.1 (AnyZ.keys_in Tryz.zbZ Fence.wide 5 trivial rfl (some h) w)
def zhp(w:World)(e:Ending)(w':World):Prop:=∃A h n q,e=.returned (.slice A n h)/\q.length=n/\n<=1048576/\Own xC 9 1 w' A h q/\(∀x∈q,x.size<=maxLen)/\Bl w w'
theorem zmf{r:List (ByteArray×Nat)}(R:Zb r f){es:List MapEntry}(N:Yj prog 9 es f):es.length<=r.length:=by
 have h:∀e∈es,e.key∈r.map fun x=>Value.string x.1:=fun e I=>by
  obtain⟨l,U⟩:=N.keys e I;obtain⟨s,O,-,-⟩:=Maps.keyOf_str (P:=prog) (k:=9) underlying9 U;have q:=N.has e I;refine zpP fun L=>?_
  rw[O,encStr]at q;rw[R.no _ fun x V e1=>L (zpA.2 ⟨x,V,by rw[O,encStr];simp[e1]⟩)]at q
  cases q
 have L:(es.map (·.key)).Nodup:=List.pairwise_map.2 N.apart;have:=Gv (m:=r.map fun x=>Value.string x.1) L (fun v q=>by
  obtain⟨e,I,rfl⟩:=zpA.1 q;exact h e I)
 simpa using this
theorem zim(w:World)(Y:Nat)(f:Value->Option Value)(ks:List (ByteArray×Nat))(hm:xv prog 9 w Y f)(hk:Zb ks f)(hb:ks.length<=1048576):
 Calls prog 154 #[zev w.heap.size] (w.alloc (.cells #[.map (some Y)] 282)) (zhp w):=by
 obtain⟨Z,R,hh,q,ab⟩:=hm;have ag:=zmf hk q;have xT:w.ownsMap (H:=Unit) prog 9 (fun _=>some (.lit (.bool true),[])) Y 1048576 (.map ((Z.toList.map (WideElems.rg prog 9 fun _=>some (.lit (.bool true),[]))).foldr DataW.insert [])):=
  ⟨Z,R,hh,⟨by rw[<-zqT];unfold maxLen;omega,ab,fun x X=>by
   obtain⟨l,hl⟩:=q.keys x X;exact⟨_,by unfold WideElems.rd;rw[hl];rfl⟩⟩,by rw[<-zqT];omega,rfl⟩
 have af:Maps.size (H:=Unit) (.map ((Z.toList.map (WideElems.rg prog 9 fun _=>some (.lit (.bool true),[]))).foldr DataW.insert []))<=1048576:=by
  show List.length _<=_;rw[length_sorted,zph];omega
 refine(callsIn_wide.1 (zgs Y 1048576 _ _ w xT (by unfold maxLen;omega) zd)).mono ?_;rintro e w'⟨v,L,rfl,hp,h,-,hB⟩;obtain⟨ae,ac,O⟩:=xT.keysOf;have ad:∀s∈L,s.length<=maxLen:=fun s r=>by
  have U:=hp.mem_iff.1 r;rw[ac]at U;obtain⟨p,N,rfl⟩:=zpA.1 U;obtain⟨V,r⟩:=O p N;obtain⟨x,-,X,I⟩:=Maps.keyOf_str (P:=prog) (k:=9) underlying9 r;rw[X];exact I
 have hl:L.length<=1048576:=by
  have U:=hp.length_eq;have h2:(strKeys (H:=Unit) (.map ((Z.toList.map (WideElems.rg prog 9 fun _=>some (.lit (.bool true),[]))).foldr DataW.insert []))).length<=1048576:=by
   show(List.map _ _).length<=_;rw[zph,length_sorted,zph];omega
  omega
 have q:=List.mergeSort_perm L (fun x y=>decide (x<=y));generalize L.mergeSort (fun x y=>decide (x<=y))=r at h q;have aa:r.map encStr=(r.map fun l=>(⟨l.toArray⟩:ByteArray)).flatMap xC:=by
  clear h q
  induction r with
  |nil=>rfl
  |cons a l I=>rw[zpM,zpM,zps,<-I];rfl
 have W:(r.map fun l=>(⟨l.toArray⟩:ByteArray)).length=L.length:=by rw[zph];exact q.length_eq
 have N:∃A I,v=.slice A L.length I:=by
  rcases h.2 with⟨rfl,h0⟩ |⟨g,I,V,rfl,_⟩
  ·exact⟨none,0,by rw[h0]⟩
  ·exact⟨_,I,rfl⟩
 obtain⟨A,I,rfl⟩:=N;refine⟨A,I,L.length,r.map fun l=>(⟨l.toArray⟩:ByteArray),rfl,W,hl,?_,fun x X=>?_,q6 hB⟩
 ·unfold Own;rw[W,<-aa];exact⟨h.1,h.2.imp id fun⟨g,c,V,U,_,h2⟩=>⟨g,c,V,U,zo5 _,h2⟩⟩
 ·obtain⟨l,N,rfl⟩:=zpA.1 X;have:=ad l (q.mem_iff.1 N);simpa[ByteArray.size]using this
theorem Zb.some_{I:List (ByteArray×Nat)}(h:Zb I f)(s:ByteArray):∃z:Nat,(f (.string s)).getD (.int .i64 0)=.int .i64 (z:Int):=by
 by_cases q:∃x∈I,x.1=s
 ·obtain⟨x,q,rfl⟩:=q;exact⟨x.2,by rw[h.yes x q];rfl⟩
 ·exact⟨0,by rw[h.no s fun x r e=>q ⟨x,r,e⟩];rfl⟩
abbrev zlu(h:Nat):Value:=.func (.func 151) #[.map (some h)] #[]
def zlE(w:World)(e:Ending)(w':World):Prop:=∃v,e=.returned (.tuple #[v,.int .i64 0])/\Bl w w'
theorem znX(w:World)(F:Option Addr)(L nf:Nat)(fs:List Fa)(hF:zY Fa.cells w F fs)(hn:fs.length=nf)(hs:∀x∈fs,x.p.size<=maxLen)(hc:Cons (fs.map qX))(hb:nf<=1048576)(V:∀g∈zw F,g<w.heap.size):
 Calls prog 89 #[.agg #[.slice none 0 0],.slice F nf L] w (zlE w):=by
 have az:=@run_makeMap prog;obtain⟨I,q⟩:∃I,(w.alloc (.cells #[.slice none 0 0] 180)).alloc (.map #[] 0)=I:=⟨_,rfl⟩;have N:I.heap.size=w.heap.size+1+1:=by rw[<-q];simp
 have R:zD I w.heap.size 180 #[.slice none 0 0]:=q▸(zD.new w _ _).alloc _;have U:xv prog 9 I (w.heap.size+1) fun _=>none:=by
  have:=xv.new (P:=prog) (k:=9) (w.alloc (.cells #[.slice none 0 0] 180)) 0;rw[q]at this;simpa using this
 have r:Bl w I:=q▸q6 (xo _ _);have Hf:=zz (znv I (w.heap.size+1) _ U Zb.qC F L nf fs (hF.below r) hn hs hc (fun g O=>by have:=V g O;omega) zd);have Hr:=zz (zjr I (zlu (w.heap.size+1)));have ah:=zz q;have am:=zz r;have ai:=zz N;have HN:=zz hn;clear q U r N hF hn hs hc V;have c0:=R.cell 0;clear R;go_enter func89,ntmps89
 go_wp2_with (first
  |(go_at_call 150;rw[ah.o];refine Hr.o.mono ?_;rintro e w3⟨rfl,rfl⟩)
  |(go_at_call 152;refine Hf.o.mono ?_;rintro e w4⟨rfl,f4,U,ag,X⟩;have aa:=zz U;have ae:=zz ag;have ar:=zz (am.o.trans (X.below (by have:=ai.o;omega) (fun x hx=>zd)));clear U ag X)
  |(go_at_call 155;refine(zi6 w4 _).mono ?_;rintro e w5⟨rfl,rfl⟩)
  |(go_at_call 154;refine(zim w4 _ f4 (fs.map qX) aa.o ae.o (by rw[zph,HN.o];exact hb)).mono ?_;rintro e w6⟨A6,aw,R,xs,rfl,ab,ay,Z,ac,N⟩;have al:=zz ab;have aq:=zz Z;have an:=zz ac;have ak:=zz (zu ar.o N);have ap:=zz (aa.o.below N);clear ab Z ac N))
 go_loopg[7,9,28] R (fun gk Y s9 r W=>∃(i:Nat) (A':Option Addr) (q:Nat) (ys:List (ByteArray×Nat)),i<=R/\gk=R-i/\r=.int .i64 (i:Int)/\Y=.slice A' i q/\ys.length=i/\Own yw 166 2 W A' q ys/\(∀g∈zw A',w6.heap.size<=g)/\Bl w6 W)
 case atStart=>exact⟨0,none,0,[],zo5 _,rfl,rfl,rfl,rfl,Own.qC _,fun g O=>(by simp[zw]at O),Below.refl _ _⟩
 case round=>
  obtain⟨i,A',q,ys,hi,rfl,rfl,rfl,W,r,O,Y⟩:=hrel;have HY:=zz W;have HO:=zz r;have HG:=zz O;have HB:=zz Y;clear W r O Y
  by_cases aj:i<R
  ·have af:i<xs.length:=by rw[al.o];exact aj
   obtain⟨b,o,rfl,ax,Y⟩:=(aq.o.below HB.o).xI.at (c:=0) (fun _=>rfl) i af;have d0:=Y 0 _ rfl;have r:=qY (an.o _ (zo3 af));generalize xs[i]=u at d0 r;simp only[zqb,zpO,zpx]at d0;have O:=(ap.o.below HB.o).look qT underlying282 (z:=.int .i64 0) zo r false;simp only[zp1,if_false]at O;obtain⟨z,W⟩:=ae.o.some_ u;rw[W]at O;clear W r Y
   go_wp2_with (at_builtin;refine X0 rfl _ _ rfl Uz (f:=yw) (xs:=ys) (HO.o.alloc _) HY.o (u,z) _ 0 1 rfl rfl rfl (yp _ _ _ rfl) (Jn _) zd (zr) ?_)
   intro g r w3 ad Y W;have au:=zz ad;have ao:=zz (show Bl w6 w3 from(((zh.refl (·∈zw A') wr).alloc _).trans Y (fun x hx _=>hx)).qq HB.o (zoZ _) (fun x hx=>HG.o x hx));have av:=zz (show w6.heap.size<=g by
    rcases W with h|h
    ·exact HG.o g h
    ·have:=HB.o.size;omega)
   clear ad Y W;go_wp2
   go_roundg (R-(i+1))
   case measure=>omega
   case rel=>exact⟨i+1,_,r,_,zd,rfl,ze,ze,by rw[zo1,HY.o];rfl,au.o,xW av.o,ao.o⟩
  ·obtain rfl:i=R:=zd;go_wp2;go_returns;exact⟨_,rfl,zu ak.o HB.o⟩
theorem zhD(w:World)(F:Option Addr)(q h:Nat)(fs:List Fa)(hF:zY Fa.cells w F fs)(Y:fs.length=h)(hl:∀x∈fs,x.zO w)(hs:∀x∈fs,x.p.size<=maxLen)(U:∀x∈fs,x.ok)(hc:Cons (fs.map qX))(hb:h<=1048576)(O:∀g∈zw F,g<w.heap.size):
 Calls prog 41 #[.slice none 0 0,.slice F h q] w fun e r=>e=.returned (.int .i64 0)/\Bl w r:=by
 have HP:=zz (fun W (I:Bl w W)=>znX W F q h fs (hF.below I) Y hs hc hb (fun g r=>by have:=O g r;have:=I.size;omega));have Hf:=zz (fun x (r:x∈fs) W (I:Bl w W)=>znV W x ((hl x r).below I) (U x r));have HF:=zz hF;have HN:=zz Y;clear hF Y hl hs U hc O;go_enter func41,ntmps41;go_wp2
 go_loopg[15] 1 (fun gk L r=>gk=1/\L=.int .i64 0/\w=r)
 case atStart=>exact⟨rfl,rfl,rfl⟩
 case round=>
  obtain⟨rfl,rfl,rfl⟩:=hrel;go_wp2
  go_loopg[9,10,27] h (fun gk V R L r=>∃i:Nat,i<=h/\gk=h-i/\L=.int .i64 (i:Int)/\Bl w r)
  case atStart=>exact⟨0,zo5 _,rfl,rfl,Below.refl _ _⟩
  case round=>
   obtain⟨i,hi,rfl,rfl,r⟩:=hrel;have L:=zz r;clear r
   by_cases X:i<h
   ·have R:i<fs.length:=by rw[HN.o];exact X
    obtain⟨b,o,rfl,aa,r⟩:=(HF.o.below L.o).at Fa.xF i R;have V:=zz (fun W (I:Bl wr W)=>Hf.o _ (zo3 R) W (zu L.o I));generalize fs[i]=x at r V;obtain⟨p,A2,Z,I⟩:=x;simp only[Fa.cells]at r V;generalize I.length=N at r V
    replace r:wr.rangeAt b (o+i*2) _:=r
    obtain⟨d0,d1⟩:=two r;clear r
    go_wp2_with (go_at_call 88;refine(V.o _ (xo _ _)).mono ?_;rintro e w2⟨rfl,r⟩)
    go_roundg (h-(i+1))
    case measure=>omega
    case rel=>exact⟨i+1,zd,rfl,ze,zu L.o (q6 r)⟩
   ·obtain rfl:i=h:=zd
    go_wp2_with (go_at_call 89;refine(HP.o _ L.o).mono ?_;rintro e I⟨v,rfl,r⟩)
    go_returns;exact⟨rfl,zu L.o r⟩
end
end Go.Proofs.YtfdickkdlcgicaaGreatDoor.C
namespace Go.Proofs
open Go.Proofs.Tryz Go Go.RowKit Go.Maps Go.WideMaps
section
open Go.Shelf
def Tryz.ziZ:Go.Shelf.Ren:=⟨fun|41=>96|n=>n,fun|22=>23|23=>50|4=>4|n=>n,fun|n=>n⟩
theorem Tryz.zg9:Go.Proofs.SlLaysE0.n41 prog Tryz.ziZ:={
 mixed:=by kernel_rfl
 f41:=⟨Tryz.f96.name,by decide,func96.trans (congrArg some (by kernel_rfl))⟩
 t4:=underlying4
 a4:=isAgg4
 z4:=sizeOf4
 v4:=zeroValue4
 t22:=underlying23
 a22:=isAgg23
 z22:=sizeOf23
 v22:=zeroValue23 }
def Tryz.zfJ:Go.Shelf.Ren:=⟨fun|41=>98|n=>n,fun|22=>22|23=>102|4=>4|n=>n,fun|n=>n⟩
theorem Tryz.znT:Go.Proofs.SlLaysE0.n41 prog Tryz.zfJ:={
 mixed:=by kernel_rfl
 f41:=⟨Tryz.f98.name,by decide,func98.trans (congrArg some (by kernel_rfl))⟩
 t4:=underlying4
 a4:=isAgg4
 z4:=sizeOf4
 v4:=zeroValue4
 t22:=underlying22
 a22:=isAgg22
 z22:=sizeOf22
 v22:=zeroValue22 }
def Tryz.zfT:Go.Shelf.Ren:=⟨fun|41=>99|n=>n,fun|22=>36|23=>45|4=>4|n=>n,fun|n=>n⟩
theorem Tryz.zhr:Go.Proofs.SlLaysE0.n41 prog Tryz.zfT:={
 mixed:=by kernel_rfl
 f41:=⟨Tryz.f99.name,by decide,func99.trans (congrArg some (by kernel_rfl))⟩
 t4:=underlying4
 a4:=isAgg4
 z4:=sizeOf4
 v4:=zeroValue4
 t22:=underlying36
 a22:=isAgg36
 z22:=sizeOf36
 v22:=zeroValue36 }
def Tryz.zmI:Go.Shelf.Ren:=⟨fun|41=>165|n=>n,fun|22=>46|23=>48|4=>4|n=>n,fun|n=>n⟩
theorem Tryz.znG:Go.Proofs.SlLaysE0.n41 prog Tryz.zmI:={
 mixed:=by kernel_rfl
 f41:=⟨Tryz.f165.name,by decide,func165.trans (congrArg some (by kernel_rfl))⟩
 t4:=underlying4
 a4:=isAgg4
 z4:=sizeOf4
 v4:=zeroValue4
 t22:=underlying46
 a22:=isAgg46
 z22:=sizeOf46
 v22:=zeroValue46 }
def Tryz.zmb:Go.Shelf.Ren:=⟨fun|41=>169|n=>n,fun|22=>86|23=>9|4=>4|n=>n,fun|n=>n⟩
theorem Tryz.ziv:Go.Proofs.SlLaysE0.n41 prog Tryz.zmb:={
 mixed:=by kernel_rfl
 f41:=⟨Tryz.f169.name,by decide,func169.trans (congrArg some (by kernel_rfl))⟩
 t4:=underlying4
 a4:=isAgg4
 z4:=sizeOf4
 v4:=zeroValue4
 t22:=underlying86
 a22:=isAgg86
 z22:=sizeOf86
 v22:=zeroValue86 }
def Tryz.zkJ:Go.Shelf.Ren:=⟨fun|41=>127|n=>n,fun|22=>211|23=>155|4=>4|n=>n,fun|n=>n⟩
theorem Tryz.zlJ:Go.Proofs.SlLaysE0.n41 prog Tryz.zkJ:={
 mixed:=by kernel_rfl
 f41:=⟨Tryz.f127.name,by decide,func127.trans (congrArg some (by kernel_rfl))⟩
 t4:=underlying4
 a4:=isAgg4
 z4:=sizeOf4
 v4:=zeroValue4
 t22:=underlying211
 a22:=isAgg211
 z22:=sizeOf211
 v22:=zeroValue211 }
def Tryz.zmw:Go.Shelf.Ren:=⟨fun|41=>333|n=>n,fun|22=>65|23=>3|4=>4|n=>n,fun|n=>n⟩
theorem Tryz.ziu:Go.Proofs.SlLaysE0.n41 prog Tryz.zmw:={
 mixed:=by kernel_rfl
 f41:=⟨Tryz.f333.name,by decide,func333.trans (congrArg some (by kernel_rfl))⟩
 t4:=underlying4
 a4:=isAgg4
 z4:=sizeOf4
 v4:=zeroValue4
 t22:=underlying65
 a22:=isAgg65
 z22:=sizeOf65
 v22:=zeroValue65 }
end
end Go.Proofs
namespace Go.Proofs.YtfdickkdlcgicaaGreatDoor.C
open Go.Proofs.Tryz Go Go.RowKit Go.Maps Go.WideMaps
variable {P:Program}{e:TypeId}{f:Value->Option Value}{size:Nat}{ρ:Go.Shelf.Ren}
section
theorem zf0:qy prog 23 50 16 216:=qy.of (z:=.agg #[.int .i8 0,.string ⟨#[]⟩,.slice none 0 0,.int .i8 0,.int .i8 0,.string ⟨#[]⟩,.int .i8 0,.int .i64 0,.string ⟨#[]⟩,.slice none 0 0,.int .i8 0,.string ⟨#[]⟩,.int .i8 0,.int .i64 0,.string ⟨#[]⟩,.slice none 0 0]) underlying23 zo rfl zr
theorem zca{B:Nat}{n:Nat}{w:World}{v:Value}{r:List Value}(h:w.ownsRow B e size v n r):w.ownsRow 0 e size v n r:=
 ⟨h.1,h.2.imp id fun⟨g,c,q,L,_,I⟩=>⟨g,c,q,L,zo5 _,I⟩⟩
theorem zkf(L:SlLaysE0.n41 P ρ)(I:TypeInfo)(z:Value)(size bytes:Nat)(hi:P.info? (ρ.t 23)=some I)(V:I.zero=some z)(W:I.size=size)(Y:I.bytes=bytes)(aa:z.cells.size=size)(X:0<size)(ae:∀w,(Go.sizeOf (ρ.t 23)).run P w=.ok size w)(a:Addr)(c:Nat)(w:World):
 Calls P (ρ.f 41) #[.slice (some a) 0 c] w fun e h=>∃N,e=.returned N/\h.ownsRow w.heap.size (ρ.t 23) size N 0 []/\Bl w h:=by
 have q:=L.mixed;have t4:=L.t4;have a4:=L.a4;have z4:=L.z4;have v4:=L.v4;have h:=L.t22;have ab:=L.a22;have R:=L.z22;have Z:=L.v22;have ad:∀(w:World)(a:Option Addr)(n c O U:Nat),(binOp .eql (ρ.t 22) (.slice a n c) (.slice none O U)).run P w=.ok (.bool a.isNone) w:=fun w a n c O U=>Lib.run_eql_slice_nil w _ _ a n c O U L.t22
 have af:∀w,Sem.run P (underlying (ρ.t 22)) w=.ok (TypeDesc.slice (ρ.t 23)) w:=run_underlying h;obtain⟨_,_,FG⟩:=L.f41;go_enter FG,SlBodyN.n41_ntmps ρ
 go_wp2_with (at_builtin;refine wpList_append_own _ rfl _ _ (ρ.t 22) rfl w.heap.size (ρ.t 23) I z size bytes h hi V W Y aa X _ _ _ rfl (World.ownsRow_made w #[] 0 (zoZ _) (zo5 _) zp) a 0 c [] rfl ?qc1 ?qc2 ?qc3 ?qc4 ?qc5 ?qc6 ?_)
 case qc1=>simp
 case qc2=>intro j u hj;simp at hj
 case qc3=>intro u hu;cases hu
 case qc4=>exact zo5 _
 case qc5=>simp
 case qc6=>simp
 intro N w1 xT r ac;go_wp2
 go_ret
 exact⟨N,rfl,by simpa using xT,((Below.refl _ w).alloc (zoZ _) _).grown r zp (by intro k hk;simp[Value.ownBlock]at hk;omega)⟩
theorem Ux{α:Type}{f:α->List Value}(L:SlLaysE0.n41 P ρ){t:TypeId}{bytes:Nat}(E:qy P t e size bytes)(he:ρ.t 23=e)(R:∀w,(Go.sizeOf e).run P w=.ok size w)(hf:∀x,(f x).length=size)(h1:∀x,∀u∈f x,u.oneCell'=true)(w:World)(A:Option Addr)(cap n:Nat)(xs:List α)(I:xs.length=n)(hl:zY f w A xs)(hb:n<=4194304)(X:bytes<=4096):Calls P (ρ.f 41) #[.slice A n cap] w (Xo f e size xs w):=by
 subst he;have q:=E;obtain⟨ht,⟨i,z,hi,hz,h3,Z,h5⟩,hp⟩:=q
 cases hx:xs with
 |nil=>
  rw[hx]at I;simp only[zpF]at I;subst I
  cases A with
  |none=>
   refine(AnyE.slices_Clone_nil L 0 cap w).mono ?_;rintro e Y⟨rfl,rfl⟩;exact⟨none,0,0,rfl,rfl,Own.qC _,Below.refl _ _,fun g N=>by simp[zw]at N⟩
  |some a=>
   refine(zkf L i z size bytes hi hz h3 Z h5 hp R a cap w).mono ?_;rintro e Y⟨v',rfl,q,V⟩
   rcases q.2 with⟨rfl,-⟩ |⟨g,c,W,rfl,N,-⟩
   ·exact⟨none,0,0,rfl,rfl,Own.qC _,V,fun g N=>by simp[zw]at N⟩
   ·exact⟨some ⟨g,0,none⟩,c,0,rfl,rfl,zca q,V,xW N⟩
 |cons x r=>
  have O:xs.flatMap f≠[]:=by
   rw[hx,zps];intro h;have U:=hf x;rw[(List.append_eq_nil_iff.1 h).1]at U;have:=E.pos;simp at U;omega
  obtain⟨b,o,rfl,aa,hr⟩:=hl O;rw[<-hx];have U:(xs.flatMap f).length=n*size:=by
   rw[<-I];clear hx O hl hr I
   induction xs with
   |nil=>simp
   |cons a l ih=>rw[zps,zo1,hf,ih,zpn,zqS,Nat.add_comm]
  have hm:n*bytes<=140737488355328:=by
   have:n*bytes<=4194304*4096:=zq0 hb X;omega
  refine(AnyE.slices_Clone L i z size bytes hi hz h3 Z h5 hp R b o n cap (xs.flatMap f) w U (by unfold maxLen;omega) hm (fun j u hj=>hr j u hj) (fun u hu=>by
   obtain⟨y,_,hy⟩:=zqg.1 hu;exact h1 y u hy)).mono ?_
  rintro e Y⟨v',rfl,q,-,V⟩
  rcases q.2 with⟨rfl,h0⟩ |⟨g,c,W,rfl,N,-⟩
  ·rw[hx]at I;simp at I;omega
  ·refine⟨some ⟨g,0,none⟩,c,n,rfl,I,?_,V,xW N⟩;unfold Own;rw[I];exact zca q
theorem zfn(w:World)(A:Option Addr)(cap n:Nat)(xs:List Li)(r:xs.length=n)(h:zY Li.cells w A xs)(q:n<=4194304):Calls prog 96 #[.slice A n cap] w (Xo Li.cells 50 16 xs w):=
 Ux Tryz.zg9 zf0 rfl (fun w=>sizeOf50 w) Li.xF (fun x=>x.Yh) w A cap n xs r h q zr
def znM(s:ByteArray)(xs:List ByteArray)(w:World)(e:Ending)(w':World):Prop:=∃i:Int,e=.returned (.int .i64 i)/\(0<=i↔s∈xs)/\w'=w
theorem znx(w:World)(A:Option Addr)(cap n:Nat)(xs:List ByteArray)(Y:xs.length=n)(V:zY xC w A xs)(hb:n<=4194304)(s:ByteArray):Calls prog 164 #[.slice A n cap,.string s] w (znM s xs w):=by
 have W:=zz Y;have HL:=zz V;clear Y V;go_enter func164,ntmps164;go_wp2
 go_loopg[5,8] n (fun gk I q r=>∃i:Nat,i<=n/\gk=n-i/\q=.int .i64 (i:Int)/\(∀u∈xs.take i,u≠s)/\w=r)
 case atStart=>exact⟨0,zo5 _,rfl,rfl,fun u q=>(by simp at q),rfl⟩
 case round=>
  obtain⟨i,hi,rfl,rfl,q,rfl⟩:=hrel;have R:=zz q;clear q
  by_cases O:i<n
  ·have r:i<xs.length:=by rw[W.o];exact O
   obtain⟨b,o,rfl,aa,q⟩:=HL.o.at (c:=0) (fun _=>rfl) i r;have U:=q 0 _ rfl;have I:Kz (xs.take (i+1)=xs.take i++[xs[i]]):=zo4 r;have Z:=zz (zo3 r);generalize xs[i]=u at U I Z;simp only[zqb,zpO,zpx]at U;clear q;have L:=bytes_beq s u;have q:=bytes_beq u s
   by_cases N:u=s
   ·subst N;rw[qs rfl]at L q;go_wp2;go_returns;exact⟨_,rfl,⟨fun _=>Z.o,fun _=>zp⟩,rfl⟩
   ·rw[qt (fun e=>N e.symm)]at L;rw[qt N]at q;go_wp2
    go_roundg (n-(i+1))
    case measure=>omega
    case rel=>exact⟨i+1,zd,rfl,ze,fun x X=>by
     rw[I.o]at X
     rcases zo7.1 X with h|h
     ·exact R.o x h
     ·rw[zo2.1 h];exact N,rfl⟩
  ·obtain rfl:i=n:=zd;go_wp2;go_returns;exact⟨_,rfl,⟨fun h=>(by simp at h),fun h=>(R.o s (by rw[<-W.o,zpz];exact h) rfl).elim⟩,rfl⟩
theorem zeh(w:World)(A:Option Addr)(cap n:Nat)(xs:List ByteArray)(r:xs.length=n)(q:zY xC w A xs)(N:n<=4194304)(s:ByteArray):Calls prog 95 #[.slice A n cap,.string s] w fun e I=>e=.returned (.bool (tf (s∈xs)))/\I=w:=by
 have O:=zz (znx w A cap n xs r q N s);clear r q;go_enter func95,ntmps95
 go_wp2_with (go_at_call 164;refine O.o.mono ?_;rintro e R⟨i,rfl,I,rfl⟩)
 go_returns;refine⟨X8 ?_,rfl⟩
 by_cases h:s∈xs
 ·rw[qs h];simpa using I.2 h
 ·rw[qt h];simpa using fun L=>h (I.1 L)
theorem zcG(w:World)(r:Ru)(hl:r.zO w)(hf:r.fits)(hb:r.zN.length<=1048576)(h:r.ok)(hv:∀v∈r.vars,yl r.body v):Calls prog 44 #[.agg r.cells.toArray,.slice none 0 0] w fun e I=>e=.returned (.int .i64 0)/\Bl w I:=by
 have an:=h.Xz;have L:=zz (fun W (O:Bl w W)=>zf6 W r (hl.below O) hf hb h);have R:=zz (fun W (O:Bl w W) n (U:r.body.length=n)=>zfn W r.B r.zM n r.body U (hl.rd.below O) zd);have ac:=zz (fun W (O:Bl w W) (B:Option Addr) (zM n:Nat) (U:r.body.length=n) (hB:zY Li.cells W B r.body)=>ziy W B zM n r.body U ⟨hB,hl.Xz,fun x I=>(hl.body x I).below O,by unfold Ru.zN at hb;rw[zo1]at hb;omega⟩ (fun x I t V=>(hf.2.2 t (zpk _ (zqg.2 ⟨x,I,V⟩)))) zd);have I:=zz (fun W (O:Bl w W)=>zc8 W r (hl.below O) hb hf.2.2);have Hv:=zz hv;have O:r.vars.length<=24:=h.vars;have ad:=zz O;clear hl hf hb h hv O;generalize r.vars=rv at I Hv ad;obtain⟨p,B,zM,af,C,ao,q⟩:=r;simp only[Ru.cells]at *;generalize af.length=N at *;obtain⟨N2,O⟩:∃N,q.length=N:=⟨_,rfl⟩;rw[O]at an L I ⊢;have az:=zz O;clear O;obtain⟨W0,O,U⟩:=xj w 25 #[.string p,.slice B N zM,.slice C N2 ao];have HX:=zz U;have aK:=zz O;clear U O;go_enter func44,ntmps44
 go_wp2_with (go_at_call 60;rw[aK.o];refine(L.o _ HX.o.below).mono ?_;rintro e w1⟨rfl,Z⟩;have O:=HX.o.b0.below Z;have c0:=O.cell 0;have c1:=O.cell 1;have c2:=O.cell 2;have ax:=zz O;have am:=zz (zu HX.o.below Z);clear Z O)
 go_loopg[18] 1 (fun gk U wx=>gk=1/\U=.int .i64 0/\w1=wx)
 case atStart=>exact⟨rfl,rfl,rfl⟩
 case round=>
  obtain⟨rfl,rfl,rfl⟩:=hrel
  go_wp2_with (go_at_call 96;refine(R.o _ am.o _ az.o).mono ?_;rintro e w2⟨A2,ar,M2,rfl,av,ai,U,aM⟩;have aB:=zz ai;have aI:=zz av;have aF:=zz (ax.o.below U);have ah:=zz (zu am.o U);clear c0 c1 c2 av ai U aM)
  go_loopg[7,39] 1 (fun gk X V wx=>gk=1/\X=.slice A2 M2 ar/\V=.int .i64 0/\w2=wx)
  case atStart=>exact⟨rfl,rfl,rfl,rfl⟩
  case round=>
   obtain⟨rfl,rfl,rfl,rfl⟩:=hrel
   go_wp2_with (first
    |(go_at_call 97;refine(ac.o _ ah.o _ _ _ aI.o aB.o.xI).mono ?_;rintro e w3⟨vs,A3,ab,M3,rfl,ae,ap,ag,aC,V,aA⟩;have aD:=zz (show M3<=4194304 from zd);have aL:=zz ap;have aN:=zz ae;have aH:=zz ag;have O:=aF.o.below V;have c0:=O.cell 0;have c1:=O.cell 1;have c2:=O.cell 2;have ak:=zz (zu ah.o V);clear ae ap ag aC V aA O)
    |(go_at_call 63;refine(I.o _ ak.o).mono ?_;rintro e w4⟨A4,aP,X,rfl,aa,aq,Y,aJ⟩;have aE:=zz aq;have aj:=zz aa;have al:=zz (aL.o.below Y);have aG:=zz (zu ak.o Y);clear aa aq Y aJ c0 c1 c2))
   have aO:X<=24:=by rw[<-aj.o];exact ad.o
   go_loopg[12,57] X (fun gk aw au wx=>∃i:Nat,i<=X/\gk=X-i/\au=.int .i64 (i:Int)/\w4=wx)
   case atStart=>exact⟨0,zo5 _,rfl,rfl,rfl⟩
   case round=>
    obtain⟨i,hi,rfl,rfl,rfl⟩:=hrel
    by_cases ay:i<X
    ·have au:i<rv.length:=by rw[aj.o];exact ay
     obtain⟨b,o,rfl,aQ,hr⟩:=aE.o.xI.at (c:=0) (fun _=>rfl) i au;have d0:=hr 0 _ rfl;have aw:=zz (aH.o _ (Hv.o _ (zo3 au)));generalize rv[i]=u at d0 aw;simp only[zqb,zpO,zpx]at d0;clear hr;have Hc:=zz (zeh w4 A3 ab M3 vs aN.o al.o.xI aD.o u);rw[qs aw.o]at Hc
     go_wp2_with (go_at_call 95;refine Hc.o.mono ?_;rintro e w5⟨rfl,rfl⟩)
     go_roundg (X-(i+1))
     case measure=>omega
     case rel=>exact⟨i+1,zd,rfl,ze,rfl⟩
    ·obtain rfl:i=X:=zd;go_wp2;go_returns;exact⟨rfl,aG.o⟩
end
