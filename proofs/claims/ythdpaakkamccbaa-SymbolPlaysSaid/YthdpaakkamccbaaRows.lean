/-
  No cell of these rows narrows 'for every input' (looked for: loops, veiled, ifaces, maps, wideKeys, modest, calm, conditions, laid).
  DERIVED. THE GIVEN ROWS OF THIS SEAT. 6 by the template 'for every input the law returns true; each argument reads behind the call as it read before'; 0 by the template 'total and deterministic' (their statements: YthdpaakkamccbaaTotals.lean).
  GIVEN WITH THE SEED: the statements are not yours to turn. If you find one false, say at which input.
  Laid BY PROGRAM, IN A SANDBOX (cutbox-rows.mjs): the forced cells as the released guide's own fill.sh prints them over the translation 4ff7b41504fa7e7a… (all of the seat's roots in one cut). By AI agents, Wed Nov 11 2026. No macro, syntax, notation, axiom, sorry.
-/
import Derived.Test.YthdpaakkamccbaaChecked
import GoSem.Claim
import GoSem.ClaimJoined
import GoSem.ClaimMapViews
import Derived.JoinedTies
import Derived.KernelRfl
namespace Go.Proofs.Ythdpaakkamccbaa
/- THE CELL 'sum', in the pinned program and in every row, IS THE sha256 OF THE DUMP (.gsa) THAT YthdpaakkamccbaaProg.lean LOADS. Nothing in Lean hashes anything: it is a label: what it is worth is what the hold of that sum in a sandbox is worth. -/
noncomputable def Try.pinned : Pinned := { name := "ythdpaakkamccbaa", sum := "4ff7b41504fa7e7ac781496e795ca5231860e2049df383819bdd2f0fad776d39", checked := Try.checked }
namespace Rows
def none {H : Type} : Left H := { results := [], args := [] }

/-- 'pedigreelaw02.SymbolCuts': WHATEVER THE INPUT: true; the input reads as it did. -/
def symbolCutsSpec : ChangeSpec := { name := "symbolCuts", fn := fun _ => fun
  | [d1, d2] => { results := [.lit (.bool true)], args := [d1, d2] }
  | _ => none }
def symbolCutsRow : OpenClaim := { program := "ythdpaakkamccbaa", sum := "4ff7b41504fa7e7ac781496e795ca5231860e2049df383819bdd2f0fad776d39", func := "pedigree/pedigreelaw02.SymbolCuts", spec := "symbolCuts", plainKeys := false, apart := false }
def SymbolCutsSaid : Prop := symbolCutsRow.holds Try.pinned (OpenSpec.ofChange symbolCutsSpec)

/-- ITS FALSE NEIGHBOUR: 'it returns false'. Refute it at one input. -/
def symbolCutsWrong : ChangeSpec := { name := "symbolCuts", fn := fun _ => fun
  | [d1, d2] => { results := [.lit (.bool false)], args := [d1, d2] }
  | _ => none }
def SymbolCutsWrongFalsely : Prop := symbolCutsRow.holds Try.pinned (OpenSpec.ofChange symbolCutsWrong)

/-- 'pedigreelaw02.SymbolFull': WHATEVER THE INPUT: true; the input reads as it did. -/
def symbolFullSpec : ChangeSpec := { name := "symbolFull", fn := fun _ => fun
  | [d1, d2, d3] => { results := [.lit (.bool true)], args := [d1, d2, d3] }
  | _ => none }
def symbolFullRow : OpenClaim := { program := "ythdpaakkamccbaa", sum := "4ff7b41504fa7e7ac781496e795ca5231860e2049df383819bdd2f0fad776d39", func := "pedigree/pedigreelaw02.SymbolFull", spec := "symbolFull", unfollowed := true, recurses := true, plainKeys := false, apart := false }
def SymbolFullSaid : Prop := symbolFullRow.holds Try.pinned (OpenSpec.ofChange symbolFullSpec)

/-- ITS FALSE NEIGHBOUR: 'it returns false'. Refute it at one input. -/
def symbolFullWrong : ChangeSpec := { name := "symbolFull", fn := fun _ => fun
  | [d1, d2, d3] => { results := [.lit (.bool false)], args := [d1, d2, d3] }
  | _ => none }
def SymbolFullWrongFalsely : Prop := symbolFullRow.holds Try.pinned (OpenSpec.ofChange symbolFullWrong)

/-- 'pedigreelaw02.SymbolFresh': WHATEVER THE INPUT: true; the input reads as it did. -/
def symbolFreshSpec : ChangeSpec := { name := "symbolFresh", fn := fun _ => fun
  | [d1, d2] => { results := [.lit (.bool true)], args := [d1, d2] }
  | _ => none }
def symbolFreshRow : OpenClaim := { program := "ythdpaakkamccbaa", sum := "4ff7b41504fa7e7ac781496e795ca5231860e2049df383819bdd2f0fad776d39", func := "pedigree/pedigreelaw02.SymbolFresh", spec := "symbolFresh", unfollowed := true, recurses := true, plainKeys := false, apart := false }
def SymbolFreshSaid : Prop := symbolFreshRow.holds Try.pinned (OpenSpec.ofChange symbolFreshSpec)

/-- ITS FALSE NEIGHBOUR: 'it returns false'. Refute it at one input. -/
def symbolFreshWrong : ChangeSpec := { name := "symbolFresh", fn := fun _ => fun
  | [d1, d2] => { results := [.lit (.bool false)], args := [d1, d2] }
  | _ => none }
def SymbolFreshWrongFalsely : Prop := symbolFreshRow.holds Try.pinned (OpenSpec.ofChange symbolFreshWrong)

/-- 'pedigreelaw02.SymbolBack': WHATEVER THE INPUT: true; the input reads as it did. -/
def symbolBackSpec : ChangeSpec := { name := "symbolBack", fn := fun _ => fun
  | [d1, d2] => { results := [.lit (.bool true)], args := [d1, d2] }
  | _ => none }
def symbolBackRow : OpenClaim := { program := "ythdpaakkamccbaa", sum := "4ff7b41504fa7e7ac781496e795ca5231860e2049df383819bdd2f0fad776d39", func := "pedigree/pedigreelaw02.SymbolBack", spec := "symbolBack", unfollowed := true, recurses := true, plainKeys := false, apart := false }
def SymbolBackSaid : Prop := symbolBackRow.holds Try.pinned (OpenSpec.ofChange symbolBackSpec)

/-- ITS FALSE NEIGHBOUR: 'it returns false'. Refute it at one input. -/
def symbolBackWrong : ChangeSpec := { name := "symbolBack", fn := fun _ => fun
  | [d1, d2] => { results := [.lit (.bool false)], args := [d1, d2] }
  | _ => none }
def SymbolBackWrongFalsely : Prop := symbolBackRow.holds Try.pinned (OpenSpec.ofChange symbolBackWrong)

/-- 'pedigreelaw02.SymbolPlays': WHATEVER THE INPUT: true; the input reads as it did. -/
def symbolPlaysSpec : ChangeSpec := { name := "symbolPlays", fn := fun _ => fun
  | [d1, d2, d3] => { results := [.lit (.bool true)], args := [d1, d2, d3] }
  | _ => none }
def symbolPlaysRow : OpenClaim := { program := "ythdpaakkamccbaa", sum := "4ff7b41504fa7e7ac781496e795ca5231860e2049df383819bdd2f0fad776d39", func := "pedigree/pedigreelaw02.SymbolPlays", spec := "symbolPlays", unfollowed := true, recurses := true, plainKeys := false, apart := false }
def SymbolPlaysSaid : Prop := symbolPlaysRow.holds Try.pinned (OpenSpec.ofChange symbolPlaysSpec)

/-- ITS FALSE NEIGHBOUR: 'it returns false'. Refute it at one input. -/
def symbolPlaysWrong : ChangeSpec := { name := "symbolPlays", fn := fun _ => fun
  | [d1, d2, d3] => { results := [.lit (.bool false)], args := [d1, d2, d3] }
  | _ => none }
def SymbolPlaysWrongFalsely : Prop := symbolPlaysRow.holds Try.pinned (OpenSpec.ofChange symbolPlaysWrong)

/-- 'pedigreelaw02.SymbolNone': WHATEVER THE INPUT: true; the input reads as it did. -/
def symbolNoneSpec : ChangeSpec := { name := "symbolNone", fn := fun _ => fun
  | [d] => { results := [.lit (.bool true)], args := [d] }
  | _ => none }
def symbolNoneRow : OpenClaim := { program := "ythdpaakkamccbaa", sum := "4ff7b41504fa7e7ac781496e795ca5231860e2049df383819bdd2f0fad776d39", func := "pedigree/pedigreelaw02.SymbolNone", spec := "symbolNone", unfollowed := true, recurses := true, plainKeys := false, apart := false }
def SymbolNoneSaid : Prop := symbolNoneRow.holds Try.pinned (OpenSpec.ofChange symbolNoneSpec)

/-- ITS FALSE NEIGHBOUR: 'it returns false'. Refute it at one input. -/
def symbolNoneWrong : ChangeSpec := { name := "symbolNone", fn := fun _ => fun
  | [d] => { results := [.lit (.bool false)], args := [d] }
  | _ => none }
def SymbolNoneWrongFalsely : Prop := symbolNoneRow.holds Try.pinned (OpenSpec.ofChange symbolNoneWrong)

/- THE SECOND FORM. 'bulk': how many values and letters a reading holds, each counted each time it is reached (what is shared counts as often as it is met; a slice's spare places count too). A statement '..UptoSaid' is the law's where the arguments, and the package variables that the reading takes, are together of bulk at most 1048576: NARROWER than '..Said'. Prove '..Said' where nothing that the law and all that it calls make is longer than what came in: it says more and counts as full. Else prove '..UptoSaid'. A law counts once. -/
mutual
def uptoBulk {H : Type} : DataW H → Nat
  | .lit (.string bytes) => bytes.length + 1
  | .lit _ => 1
  | .nil => 1
  | .ptr d => uptoBulk d + 1
  | .slice elems spare => uptoBulkAll elems + uptoBulkAll spare + 1
  | .agg parts => uptoBulkAll parts + 1
  | .iface _ d => uptoBulk d + 1
  | .map entries => uptoBulkEntries entries + 1
  | .held _ => 1
def uptoBulkAll {H : Type} : List (DataW H) → Nat
  | [] => 0
  | d :: r => uptoBulk d + uptoBulkAll r
def uptoBulkEntries {H : Type} : List (Lit × DataW H) → Nat
  | [] => 0
  | x :: r => uptoBulkEntry x + uptoBulkEntries r
def uptoBulkEntry {H : Type} : Lit × DataW H → Nat
  | (.string bytes, d) => bytes.length + uptoBulk d + 1
  | (_, d) => uptoBulk d + 1
 end
def uptoSmall : (H : Type) → List (DataW H) → Bool := fun _ ds => decide (uptoBulkAll ds ≤ 1048576)
def OpenSpec.upto (s : _root_.Go.ChangeSpec) : _root_.Go.OpenSpec := { _root_.Go.OpenSpec.ofChange s with cond := some uptoSmall }

/-- 'pedigreelaw02.SymbolCuts', WHERE WHAT IT READS IS OF BULK AT MOST 1048576: true; the input reads as it did. -/
def symbolCutsUptoRow : OpenClaim := { program := "ythdpaakkamccbaa", sum := "4ff7b41504fa7e7ac781496e795ca5231860e2049df383819bdd2f0fad776d39", func := "pedigree/pedigreelaw02.SymbolCuts", spec := "symbolCuts", plainKeys := false, apart := false, narrowed := true }
def SymbolCutsUptoSaid : Prop := symbolCutsUptoRow.holds Try.pinned (OpenSpec.upto symbolCutsSpec)

/-- 'pedigreelaw02.SymbolFull', WHERE WHAT IT READS IS OF BULK AT MOST 1048576: true; the input reads as it did. -/
def symbolFullUptoRow : OpenClaim := { program := "ythdpaakkamccbaa", sum := "4ff7b41504fa7e7ac781496e795ca5231860e2049df383819bdd2f0fad776d39", func := "pedigree/pedigreelaw02.SymbolFull", spec := "symbolFull", unfollowed := true, recurses := true, plainKeys := false, apart := false, narrowed := true }
def SymbolFullUptoSaid : Prop := symbolFullUptoRow.holds Try.pinned (OpenSpec.upto symbolFullSpec)

/-- 'pedigreelaw02.SymbolFresh', WHERE WHAT IT READS IS OF BULK AT MOST 1048576: true; the input reads as it did. -/
def symbolFreshUptoRow : OpenClaim := { program := "ythdpaakkamccbaa", sum := "4ff7b41504fa7e7ac781496e795ca5231860e2049df383819bdd2f0fad776d39", func := "pedigree/pedigreelaw02.SymbolFresh", spec := "symbolFresh", unfollowed := true, recurses := true, plainKeys := false, apart := false, narrowed := true }
def SymbolFreshUptoSaid : Prop := symbolFreshUptoRow.holds Try.pinned (OpenSpec.upto symbolFreshSpec)

/-- 'pedigreelaw02.SymbolBack', WHERE WHAT IT READS IS OF BULK AT MOST 1048576: true; the input reads as it did. -/
def symbolBackUptoRow : OpenClaim := { program := "ythdpaakkamccbaa", sum := "4ff7b41504fa7e7ac781496e795ca5231860e2049df383819bdd2f0fad776d39", func := "pedigree/pedigreelaw02.SymbolBack", spec := "symbolBack", unfollowed := true, recurses := true, plainKeys := false, apart := false, narrowed := true }
def SymbolBackUptoSaid : Prop := symbolBackUptoRow.holds Try.pinned (OpenSpec.upto symbolBackSpec)

/-- 'pedigreelaw02.SymbolPlays', WHERE WHAT IT READS IS OF BULK AT MOST 1048576: true; the input reads as it did. -/
def symbolPlaysUptoRow : OpenClaim := { program := "ythdpaakkamccbaa", sum := "4ff7b41504fa7e7ac781496e795ca5231860e2049df383819bdd2f0fad776d39", func := "pedigree/pedigreelaw02.SymbolPlays", spec := "symbolPlays", unfollowed := true, recurses := true, plainKeys := false, apart := false, narrowed := true }
def SymbolPlaysUptoSaid : Prop := symbolPlaysUptoRow.holds Try.pinned (OpenSpec.upto symbolPlaysSpec)

/-- 'pedigreelaw02.SymbolNone', WHERE WHAT IT READS IS OF BULK AT MOST 1048576: true; the input reads as it did. -/
def symbolNoneUptoRow : OpenClaim := { program := "ythdpaakkamccbaa", sum := "4ff7b41504fa7e7ac781496e795ca5231860e2049df383819bdd2f0fad776d39", func := "pedigree/pedigreelaw02.SymbolNone", spec := "symbolNone", unfollowed := true, recurses := true, plainKeys := false, apart := false, narrowed := true }
def SymbolNoneUptoSaid : Prop := symbolNoneUptoRow.holds Try.pinned (OpenSpec.upto symbolNoneSpec)

end Rows
end Go.Proofs.Ythdpaakkamccbaa
