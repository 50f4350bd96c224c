/-
  JoinCuts, where the arguments hold at most 1048576 values and letters: a span of one atom cut in two gives what the whole gives; by the plan that takes that atom first in the same order; an empty span gives nothing. Conditions: the row's own (the bound on the arguments; the three listed library tables read as the program's text lays them: the card ties them). Of the table pedigree/value.takes, which the row does not list, nothing is asked but its type.
-/
import Derived.Test.YtfdickkdlcgicaaGreatDoorQ44
import Derived.Test.YtfdickkdlcgicaaGreatDoorCards
import Derived.Test.YtfdickkdlcgicaaGreatDoorTie
set_option maxRecDepth 100000
set_option maxHeartbeats 8000000
set_option linter.all false
namespace Go.Proofs.YtfdickkdlcgicaaGreatDoor.joinCuts
open Go Go.ChangeShapes Go.WideShapes Go.ChangeAt Go.WideMaps Go.WideElems Go.RowKit Go.Deep
theorem zmH (os:Os) (args:Array Value):laidMetH Tryz.prog Rows.joinCutsUptoRow.laid ((World.doorLaid Tryz.prog 29 os).forCall (fun _ _=>0) ⟨#[],args,[]⟩).memory:=
 laidMetH_of_parts3 (fuel:=8) (laidMet_of_run' 8 (by kernel_rfl) (by kernel_rfl)) (by kernel_rfl) (by kernel_rfl)
abbrev DL:Array Value:=#[.agg #[.string ⟨#[]⟩,.slice none 0 0,.slice none 0 0],.slice none 0 0,.agg #[.int .i64 0,.int .i64 0]]
theorem reads (os:Os) {H:Type} (enc:TypeId×Value→H):∃places,DataW.whole enc Tryz.prog ((World.doorLaid Tryz.prog 29 os).forCall (fun _ _=>0) ⟨#[],DL,[]⟩).memory Tryz.f3.params.toList Rows.joinCutsSpec.vars false DL.toList 8=some ([.agg [.lit (.string []),.nil,.nil],.nil,.agg [.lit (.int .i64 0),.lit (.int .i64 0)]],[],places):=
 ⟨[],by kernel_rfl⟩
theorem lifted (os:Os) (started:os.Started) (H:Type) (enc:TypeId×Value→H) (F:Stop.Interp) :
 ReturnsInHanded {} Tryz.checked os 3 .any ((Rows.OpenSpec.upto Rows.joinCutsSpec).preRow enc Tryz.prog Tryz.f3 Rows.joinCutsUptoRow.domain false Rows.joinCutsUptoRow.laid) (((Rows.OpenSpec.upto Rows.joinCutsSpec).at F).post enc Tryz.prog Tryz.f3 false true false false):=by
 obtain⟨places,hx⟩:=reads os enc
 refine returnsInHanded_of_row (C:=Tryz.checked) (s:=Rows.OpenSpec.upto Rows.joinCutsSpec) own started (by kernel_rfl) Tryz.func3
  (witness_row_atRef (enc:=enc) (C:=Tryz.checked) false (World.doorLaid Tryz.prog 29 os) DL rfl (by kernel_rfl) (by kernel_rfl) (by kernel_rfl)
   (OpenSpec.preRow_of_cond 8 hx (by kernel_rfl) (fun k hk=>by cases hk;kernel_rfl) (by kernel_rfl) (zmH os _))) ?_
 intro W base args ds gs before hval hW _ hk _ hL hS _
 exact zlH H enc W base args ds gs before hval hW (hk _ rfl) hL hS
theorem over:Rows.JoinCutsUptoSaid:=
 OpenClaim.holds_of_cond 3 Tryz.f3 rfl rfl rfl rfl rfl rfl rfl ⟨rfl,rfl,rfl,rfl,rfl⟩ rfl rfl rfl rfl rfl named Tryz.func3 closed inst wrap
  (fun os started H enc _ F=>by rw[OpenClaim.pre_eq_preRow];exact lifted os started H enc F)
theorem c2:Tryz.prog.mainIs=some (true,"3949af1c234ff44a055ef6b12d6444d79727a99a1cb618629ca14641290e0c6e".toList):=by kernel_rfl
theorem zgN:∀f fn,Tryz.pinned.checked.prog.funcNamed "pedigree/pedigreelaw13.JoinCuts"=some f→Tryz.pinned.checked.prog.funcs[f]? = some fn→true=Tryz.pinned.checked.prog.looks []∧∀(j:Nat) t,fn.params[j]? = some t→Tryz.pinned.checked.prog.wantsStandIn t=false:=by
 intro f fn hf hfn
 obtain rfl:f=3:=Option.some.inj (named.symm.trans hf) |>.symm
 obtain rfl:fn=Tryz.f3:=(Option.some.inj (Tryz.func3.symm.trans hfn)).symm
 refine⟨c3,fun j t ht=>?_⟩
 rw[Tryz.params3]at ht
 have hm:t∈[25,26,28]:=by simpa using Array.mem_of_getElem? ht
 exact(show Tryz.prog.wantsStandIn t=false by simpa using List.all_eq_true.1 c4 t hm)
theorem proved:Rows.JoinCutsUptoCardSaid:=
 Claim7.holds_tied_plain_at .later [] _ _ _ _ over (fun _ h=>by cases h) c1 (fun _ h=>by cases h) joinCutsUpto_row_tie rfl ⟨rfl,rfl⟩ c2 rfl zgN c5
#print axioms proved
end Go.Proofs.YtfdickkdlcgicaaGreatDoor.joinCuts
