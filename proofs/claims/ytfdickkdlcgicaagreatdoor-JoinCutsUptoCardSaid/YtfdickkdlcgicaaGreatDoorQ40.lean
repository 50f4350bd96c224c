/-
  law13's JoinDeltas: answers true.
-/
import Derived.Test.YtfdickkdlcgicaaGreatDoorQ39
set_option maxRecDepth 100000
set_option maxHeartbeats 8000000
set_option linter.all false
namespace Go.Proofs.YtfdickkdlcgicaaGreatDoor.C
open Go.Proofs.Tryz Go Go.RowKit Go.Maps Go.WideMaps
section
def TB(w:World)(e:Ending)(w':World):Prop:=e=.returned (.bool true)/\Bl w w'
structure UT (w:World) (r:Ru) (F:Option Addr) (fs:List Fa) (tk:Nat->Int):Prop where
 zN:r.zN w
 YV:qV (·<w.heap.size) r.B
 facts:Uv w F fs
 zam:qV (·<w.heap.size) F
 pw:Pw w
 tz:Tz w
 tk:Tk w tk
 ZI:2<w.heap.size
theorem UT.below{w w':World}{r:Ru}{F:Option Addr}{fs:List Fa}{tk:Nat->Int}(h:UT w r F fs tk)(q:Bl w w'):UT w' r F fs tk:=
 ⟨h.zN.below q,fun g I=>zpz (h.YV g I) q.size,h.facts.below q,fun g I=>zpz (h.zam g I) q.size,h.pw.below q,h.tz.below q (zpx _),h.tk.below q (zpx _),zpz h.ZI q.size⟩
theorem Jm{l:List Fa}{es:List Env}{p:ByteArray}{q:List Tm}{L:Env->ByteArray×List Vl}(I:(fun ρ:Env=>(p,q.map fun t=>t.at ρ))=L)(h:l.map qO=es.map L)(R:q.length<=1048576):∀f∈l,f.args.length<=140737488351232:=fun f O=>by
 have N:qO f∈l.map qO:=zp8.2 ⟨f,O,rfl⟩;rw[h,<-I]at N;obtain⟨ρ,_,e⟩:=zp8.1 N;have e2:(q.map fun t=>t.at ρ)=f.args:=congrArg Prod.snd e;rw[<-e2,zpO];omega
end
