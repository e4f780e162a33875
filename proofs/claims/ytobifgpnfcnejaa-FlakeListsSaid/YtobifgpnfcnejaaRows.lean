/-
  No cell of these rows narrows 'for every input' (looked for: loops, veiled, ifaces, maps, wideKeys, modest, calm, conditions, laid).
  DERIVED. THE GIVEN ROWS OF THIS SEAT. 5 by the template 'for every input the law returns true; each argument reads behind the call as it read before'; 0 by the template 'total and deterministic' (their statements: YtobifgpnfcnejaaTotals.lean).
  GIVEN WITH THE SEED: the statements are not yours to turn. If you find one false, say at which input.
  Laid BY PROGRAM, IN A SANDBOX (cutbox-rows.mjs): the forced cells as the released guide's own fill.sh prints them over the translation e79935f8a370ceb8… (all of the seat's roots in one cut). By AI agents, Wed Nov 11 2026. No macro, syntax, notation, axiom, sorry.
-/
import Derived.Test.YtobifgpnfcnejaaChecked
import GoSem.Claim
import GoSem.ClaimJoined
import GoSem.ClaimMapViews
import Derived.JoinedTies
import Derived.KernelRfl
namespace Go.Proofs.Ytobifgpnfcnejaa
/- THE CELL 'sum', in the pinned program and in every row, IS THE sha256 OF THE DUMP (.gsa) THAT YtobifgpnfcnejaaProg.lean LOADS. Nothing in Lean hashes anything: it is a label: what it is worth is what the hold of that sum in a sandbox is worth. -/
noncomputable def Try.pinned : Pinned := { name := "ytobifgpnfcnejaa", sum := "e79935f8a370ceb886a895352626ee056e6b09e18a836992b0ae9d4ae501fe99", checked := Try.checked }
namespace Rows
def none {H : Type} : Left H := { results := [], args := [] }

/-- 'pipelinelaw39.FlakeSteps': WHATEVER THE INPUT: true; the input reads as it did. -/
def flakeStepsSpec : ChangeSpec := { name := "flakeSteps", fn := fun _ => fun
  | [d1, d2, d3] => { results := [.lit (.bool true)], args := [d1, d2, d3] }
  | _ => none }
def flakeStepsRow : OpenClaim := { program := "ytobifgpnfcnejaa", sum := "e79935f8a370ceb886a895352626ee056e6b09e18a836992b0ae9d4ae501fe99", func := "pipeline/pipelinelaw39.FlakeSteps", spec := "flakeSteps", apart := false }
def FlakeStepsSaid : Prop := flakeStepsRow.holds Try.pinned (OpenSpec.ofChange flakeStepsSpec)

/-- ITS FALSE NEIGHBOUR: 'it returns false'. Refute it at one input. -/
def flakeStepsWrong : ChangeSpec := { name := "flakeSteps", fn := fun _ => fun
  | [d1, d2, d3] => { results := [.lit (.bool false)], args := [d1, d2, d3] }
  | _ => none }
def FlakeStepsWrongFalsely : Prop := flakeStepsRow.holds Try.pinned (OpenSpec.ofChange flakeStepsWrong)

/-- 'pipelinelaw39.FlakeObserves': WHATEVER THE INPUT: true; the input reads as it did. -/
def flakeObservesSpec : ChangeSpec := { name := "flakeObserves", fn := fun _ => fun
  | [d1, d2] => { results := [.lit (.bool true)], args := [d1, d2] }
  | _ => none }
def flakeObservesRow : OpenClaim := { program := "ytobifgpnfcnejaa", sum := "e79935f8a370ceb886a895352626ee056e6b09e18a836992b0ae9d4ae501fe99", func := "pipeline/pipelinelaw39.FlakeObserves", spec := "flakeObserves", apart := false }
def FlakeObservesSaid : Prop := flakeObservesRow.holds Try.pinned (OpenSpec.ofChange flakeObservesSpec)

/-- ITS FALSE NEIGHBOUR: 'it returns false'. Refute it at one input. -/
def flakeObservesWrong : ChangeSpec := { name := "flakeObserves", fn := fun _ => fun
  | [d1, d2] => { results := [.lit (.bool false)], args := [d1, d2] }
  | _ => none }
def FlakeObservesWrongFalsely : Prop := flakeObservesRow.holds Try.pinned (OpenSpec.ofChange flakeObservesWrong)

/-- 'pipelinelaw39.FlakeExact': WHATEVER THE INPUT: true; the input reads as it did. -/
def flakeExactSpec : ChangeSpec := { name := "flakeExact", fn := fun _ => fun
  | [d1, d2] => { results := [.lit (.bool true)], args := [d1, d2] }
  | _ => none }
def flakeExactRow : OpenClaim := { program := "ytobifgpnfcnejaa", sum := "e79935f8a370ceb886a895352626ee056e6b09e18a836992b0ae9d4ae501fe99", func := "pipeline/pipelinelaw39.FlakeExact", spec := "flakeExact", apart := false }
def FlakeExactSaid : Prop := flakeExactRow.holds Try.pinned (OpenSpec.ofChange flakeExactSpec)

/-- ITS FALSE NEIGHBOUR: 'it returns false'. Refute it at one input. -/
def flakeExactWrong : ChangeSpec := { name := "flakeExact", fn := fun _ => fun
  | [d1, d2] => { results := [.lit (.bool false)], args := [d1, d2] }
  | _ => none }
def FlakeExactWrongFalsely : Prop := flakeExactRow.holds Try.pinned (OpenSpec.ofChange flakeExactWrong)

/-- 'pipelinelaw39.FlakeThresholds': WHATEVER THE INPUT: true; the input reads as it did. -/
def flakeThresholdsSpec : ChangeSpec := { name := "flakeThresholds", fn := fun _ => fun
  | [d1, d2] => { results := [.lit (.bool true)], args := [d1, d2] }
  | _ => none }
def flakeThresholdsRow : OpenClaim := { program := "ytobifgpnfcnejaa", sum := "e79935f8a370ceb886a895352626ee056e6b09e18a836992b0ae9d4ae501fe99", func := "pipeline/pipelinelaw39.FlakeThresholds", spec := "flakeThresholds", apart := false }
def FlakeThresholdsSaid : Prop := flakeThresholdsRow.holds Try.pinned (OpenSpec.ofChange flakeThresholdsSpec)

/-- ITS FALSE NEIGHBOUR: 'it returns false'. Refute it at one input. -/
def flakeThresholdsWrong : ChangeSpec := { name := "flakeThresholds", fn := fun _ => fun
  | [d1, d2] => { results := [.lit (.bool false)], args := [d1, d2] }
  | _ => none }
def FlakeThresholdsWrongFalsely : Prop := flakeThresholdsRow.holds Try.pinned (OpenSpec.ofChange flakeThresholdsWrong)

/-- 'pipelinelaw39.FlakeLists': WHATEVER THE INPUT: true; the input reads as it did. -/
def flakeListsSpec : ChangeSpec := { name := "flakeLists", fn := fun _ => fun
  | [d1, d2] => { results := [.lit (.bool true)], args := [d1, d2] }
  | _ => none }
def flakeListsRow : OpenClaim := { program := "ytobifgpnfcnejaa", sum := "e79935f8a370ceb886a895352626ee056e6b09e18a836992b0ae9d4ae501fe99", func := "pipeline/pipelinelaw39.FlakeLists", spec := "flakeLists", unfollowed := true, recurses := true, apart := false }
def FlakeListsSaid : Prop := flakeListsRow.holds Try.pinned (OpenSpec.ofChange flakeListsSpec)

/-- ITS FALSE NEIGHBOUR: 'it returns false'. Refute it at one input. -/
def flakeListsWrong : ChangeSpec := { name := "flakeLists", fn := fun _ => fun
  | [d1, d2] => { results := [.lit (.bool false)], args := [d1, d2] }
  | _ => none }
def FlakeListsWrongFalsely : Prop := flakeListsRow.holds Try.pinned (OpenSpec.ofChange flakeListsWrong)

/- THE SECOND FORM. 'bulk': how many values and letters a reading holds, each counted each time it is reached (what is shared counts as often as it is met; a slice's spare places count too). A statement '..UptoSaid' is the law's where the arguments, and the package variables that the reading takes, are together of bulk at most 1048576: NARROWER than '..Said'. Prove '..Said' where nothing that the law and all that it calls make is longer than what came in: it says more and counts as full. Else prove '..UptoSaid'. A law counts once. -/
mutual
def uptoBulk {H : Type} : DataW H → Nat
  | .lit (.string bytes) => bytes.length + 1
  | .lit _ => 1
  | .nil => 1
  | .ptr d => uptoBulk d + 1
  | .slice elems spare => uptoBulkAll elems + uptoBulkAll spare + 1
  | .agg parts => uptoBulkAll parts + 1
  | .iface _ d => uptoBulk d + 1
  | .map entries => uptoBulkEntries entries + 1
  | .held _ => 1
def uptoBulkAll {H : Type} : List (DataW H) → Nat
  | [] => 0
  | d :: r => uptoBulk d + uptoBulkAll r
def uptoBulkEntries {H : Type} : List (Lit × DataW H) → Nat
  | [] => 0
  | x :: r => uptoBulkEntry x + uptoBulkEntries r
def uptoBulkEntry {H : Type} : Lit × DataW H → Nat
  | (.string bytes, d) => bytes.length + uptoBulk d + 1
  | (_, d) => uptoBulk d + 1
 end
def uptoSmall : (H : Type) → List (DataW H) → Bool := fun _ ds => decide (uptoBulkAll ds ≤ 1048576)
def OpenSpec.upto (s : _root_.Go.ChangeSpec) : _root_.Go.OpenSpec := { _root_.Go.OpenSpec.ofChange s with cond := some uptoSmall }

/-- 'pipelinelaw39.FlakeSteps', WHERE WHAT IT READS IS OF BULK AT MOST 1048576: true; the input reads as it did. -/
def flakeStepsUptoRow : OpenClaim := { program := "ytobifgpnfcnejaa", sum := "e79935f8a370ceb886a895352626ee056e6b09e18a836992b0ae9d4ae501fe99", func := "pipeline/pipelinelaw39.FlakeSteps", spec := "flakeSteps", apart := false, narrowed := true }
def FlakeStepsUptoSaid : Prop := flakeStepsUptoRow.holds Try.pinned (OpenSpec.upto flakeStepsSpec)

/-- 'pipelinelaw39.FlakeObserves', WHERE WHAT IT READS IS OF BULK AT MOST 1048576: true; the input reads as it did. -/
def flakeObservesUptoRow : OpenClaim := { program := "ytobifgpnfcnejaa", sum := "e79935f8a370ceb886a895352626ee056e6b09e18a836992b0ae9d4ae501fe99", func := "pipeline/pipelinelaw39.FlakeObserves", spec := "flakeObserves", apart := false, narrowed := true }
def FlakeObservesUptoSaid : Prop := flakeObservesUptoRow.holds Try.pinned (OpenSpec.upto flakeObservesSpec)

/-- 'pipelinelaw39.FlakeExact', WHERE WHAT IT READS IS OF BULK AT MOST 1048576: true; the input reads as it did. -/
def flakeExactUptoRow : OpenClaim := { program := "ytobifgpnfcnejaa", sum := "e79935f8a370ceb886a895352626ee056e6b09e18a836992b0ae9d4ae501fe99", func := "pipeline/pipelinelaw39.FlakeExact", spec := "flakeExact", apart := false, narrowed := true }
def FlakeExactUptoSaid : Prop := flakeExactUptoRow.holds Try.pinned (OpenSpec.upto flakeExactSpec)

/-- 'pipelinelaw39.FlakeThresholds', WHERE WHAT IT READS IS OF BULK AT MOST 1048576: true; the input reads as it did. -/
def flakeThresholdsUptoRow : OpenClaim := { program := "ytobifgpnfcnejaa", sum := "e79935f8a370ceb886a895352626ee056e6b09e18a836992b0ae9d4ae501fe99", func := "pipeline/pipelinelaw39.FlakeThresholds", spec := "flakeThresholds", apart := false, narrowed := true }
def FlakeThresholdsUptoSaid : Prop := flakeThresholdsUptoRow.holds Try.pinned (OpenSpec.upto flakeThresholdsSpec)

/-- 'pipelinelaw39.FlakeLists', WHERE WHAT IT READS IS OF BULK AT MOST 1048576: true; the input reads as it did. -/
def flakeListsUptoRow : OpenClaim := { program := "ytobifgpnfcnejaa", sum := "e79935f8a370ceb886a895352626ee056e6b09e18a836992b0ae9d4ae501fe99", func := "pipeline/pipelinelaw39.FlakeLists", spec := "flakeLists", unfollowed := true, recurses := true, apart := false, narrowed := true }
def FlakeListsUptoSaid : Prop := flakeListsUptoRow.holds Try.pinned (OpenSpec.upto flakeListsSpec)

end Rows
end Go.Proofs.Ytobifgpnfcnejaa
