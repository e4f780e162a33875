/-
  No cell of these rows narrows 'for every input' (looked for: loops, veiled, ifaces, maps, wideKeys, modest, calm, conditions, laid).
  DERIVED. THE GIVEN ROWS OF THIS SEAT. 5 by the template 'for every input the law returns true; each argument reads behind the call as it read before'; 0 by the template 'total and deterministic' (their statements: YtlmgobbidknpgaaTotals.lean).
  GIVEN WITH THE SEED: the statements are not yours to turn. If you find one false, say at which input.
  Laid BY PROGRAM, IN A SANDBOX (cutbox-rows.mjs): the forced cells as the released guide's own fill.sh prints them over the translation ec2358d0c88fd5e3… (all of the seat's roots in one cut). By AI agents, Wed Nov 11 2026. No macro, syntax, notation, axiom, sorry.
-/
import Derived.Test.YtlmgobbidknpgaaChecked
import GoSem.Claim
import GoSem.ClaimJoined
import GoSem.ClaimMapViews
import Derived.JoinedTies
import Derived.KernelRfl
namespace Go.Proofs.Ytlmgobbidknpgaa
/- THE CELL 'sum', in the pinned program and in every row, IS THE sha256 OF THE DUMP (.gsa) THAT YtlmgobbidknpgaaProg.lean LOADS. Nothing in Lean hashes anything: it is a label: what it is worth is what the hold of that sum in a sandbox is worth. -/
noncomputable def Try.pinned : Pinned := { name := "ytlmgobbidknpgaa", sum := "ec2358d0c88fd5e37c9192684a163cd89ff35ebe50c665761efdde335923923a", checked := Try.checked }
namespace Rows
def none {H : Type} : Left H := { results := [], args := [] }

/-- 'pipelinelaw51.EpochAcquires': WHATEVER THE INPUT: true; the input reads as it did. -/
def epochAcquiresSpec : ChangeSpec := { name := "epochAcquires", fn := fun _ => fun
  | [d1, d2, d3] => { results := [.lit (.bool true)], args := [d1, d2, d3] }
  | _ => none }
def epochAcquiresRow : OpenClaim := { program := "ytlmgobbidknpgaa", sum := "ec2358d0c88fd5e37c9192684a163cd89ff35ebe50c665761efdde335923923a", func := "pipeline/pipelinelaw51.EpochAcquires", spec := "epochAcquires", apart := false }
def EpochAcquiresSaid : Prop := epochAcquiresRow.holds Try.pinned (OpenSpec.ofChange epochAcquiresSpec)

/-- ITS FALSE NEIGHBOUR: 'it returns false'. Refute it at one input. -/
def epochAcquiresWrong : ChangeSpec := { name := "epochAcquires", fn := fun _ => fun
  | [d1, d2, d3] => { results := [.lit (.bool false)], args := [d1, d2, d3] }
  | _ => none }
def EpochAcquiresWrongFalsely : Prop := epochAcquiresRow.holds Try.pinned (OpenSpec.ofChange epochAcquiresWrong)

/-- 'pipelinelaw51.EpochAppends': WHATEVER THE INPUT: true; the input reads as it did. -/
def epochAppendsSpec : ChangeSpec := { name := "epochAppends", fn := fun _ => fun
  | [d1, d2, d3] => { results := [.lit (.bool true)], args := [d1, d2, d3] }
  | _ => none }
def epochAppendsRow : OpenClaim := { program := "ytlmgobbidknpgaa", sum := "ec2358d0c88fd5e37c9192684a163cd89ff35ebe50c665761efdde335923923a", func := "pipeline/pipelinelaw51.EpochAppends", spec := "epochAppends", apart := false }
def EpochAppendsSaid : Prop := epochAppendsRow.holds Try.pinned (OpenSpec.ofChange epochAppendsSpec)

/-- ITS FALSE NEIGHBOUR: 'it returns false'. Refute it at one input. -/
def epochAppendsWrong : ChangeSpec := { name := "epochAppends", fn := fun _ => fun
  | [d1, d2, d3] => { results := [.lit (.bool false)], args := [d1, d2, d3] }
  | _ => none }
def EpochAppendsWrongFalsely : Prop := epochAppendsRow.holds Try.pinned (OpenSpec.ofChange epochAppendsWrong)

/-- 'pipelinelaw51.EpochFences': WHATEVER THE INPUT: true; the input reads as it did. -/
def epochFencesSpec : ChangeSpec := { name := "epochFences", fn := fun _ => fun
  | [d] => { results := [.lit (.bool true)], args := [d] }
  | _ => none }
def epochFencesRow : OpenClaim := { program := "ytlmgobbidknpgaa", sum := "ec2358d0c88fd5e37c9192684a163cd89ff35ebe50c665761efdde335923923a", func := "pipeline/pipelinelaw51.EpochFences", spec := "epochFences", apart := false }
def EpochFencesSaid : Prop := epochFencesRow.holds Try.pinned (OpenSpec.ofChange epochFencesSpec)

/-- ITS FALSE NEIGHBOUR: 'it returns false'. Refute it at one input. -/
def epochFencesWrong : ChangeSpec := { name := "epochFences", fn := fun _ => fun
  | [d] => { results := [.lit (.bool false)], args := [d] }
  | _ => none }
def EpochFencesWrongFalsely : Prop := epochFencesRow.holds Try.pinned (OpenSpec.ofChange epochFencesWrong)

/-- 'pipelinelaw51.EpochLeads': WHATEVER THE INPUT: true; the input reads as it did. -/
def epochLeadsSpec : ChangeSpec := { name := "epochLeads", fn := fun _ => fun
  | [d1, d2, d3] => { results := [.lit (.bool true)], args := [d1, d2, d3] }
  | _ => none }
def epochLeadsRow : OpenClaim := { program := "ytlmgobbidknpgaa", sum := "ec2358d0c88fd5e37c9192684a163cd89ff35ebe50c665761efdde335923923a", func := "pipeline/pipelinelaw51.EpochLeads", spec := "epochLeads", apart := false }
def EpochLeadsSaid : Prop := epochLeadsRow.holds Try.pinned (OpenSpec.ofChange epochLeadsSpec)

/-- ITS FALSE NEIGHBOUR: 'it returns false'. Refute it at one input. -/
def epochLeadsWrong : ChangeSpec := { name := "epochLeads", fn := fun _ => fun
  | [d1, d2, d3] => { results := [.lit (.bool false)], args := [d1, d2, d3] }
  | _ => none }
def EpochLeadsWrongFalsely : Prop := epochLeadsRow.holds Try.pinned (OpenSpec.ofChange epochLeadsWrong)

/-- 'pipelinelaw51.EpochProgress': WHATEVER THE INPUT: true; the input reads as it did. -/
def epochProgressSpec : ChangeSpec := { name := "epochProgress", fn := fun _ => fun
  | [d1, d2] => { results := [.lit (.bool true)], args := [d1, d2] }
  | _ => none }
def epochProgressRow : OpenClaim := { program := "ytlmgobbidknpgaa", sum := "ec2358d0c88fd5e37c9192684a163cd89ff35ebe50c665761efdde335923923a", func := "pipeline/pipelinelaw51.EpochProgress", spec := "epochProgress", apart := false }
def EpochProgressSaid : Prop := epochProgressRow.holds Try.pinned (OpenSpec.ofChange epochProgressSpec)

/-- ITS FALSE NEIGHBOUR: 'it returns false'. Refute it at one input. -/
def epochProgressWrong : ChangeSpec := { name := "epochProgress", fn := fun _ => fun
  | [d1, d2] => { results := [.lit (.bool false)], args := [d1, d2] }
  | _ => none }
def EpochProgressWrongFalsely : Prop := epochProgressRow.holds Try.pinned (OpenSpec.ofChange epochProgressWrong)

/- THE SECOND FORM. 'bulk': how many values and letters a reading holds, each counted each time it is reached (what is shared counts as often as it is met; a slice's spare places count too). A statement '..UptoSaid' is the law's where the arguments, and the package variables that the reading takes, are together of bulk at most 1048576: NARROWER than '..Said'. Prove '..Said' where nothing that the law and all that it calls make is longer than what came in: it says more and counts as full. Else prove '..UptoSaid'. A law counts once. -/
mutual
def uptoBulk {H : Type} : DataW H → Nat
  | .lit (.string bytes) => bytes.length + 1
  | .lit _ => 1
  | .nil => 1
  | .ptr d => uptoBulk d + 1
  | .slice elems spare => uptoBulkAll elems + uptoBulkAll spare + 1
  | .agg parts => uptoBulkAll parts + 1
  | .iface _ d => uptoBulk d + 1
  | .map entries => uptoBulkEntries entries + 1
  | .held _ => 1
def uptoBulkAll {H : Type} : List (DataW H) → Nat
  | [] => 0
  | d :: r => uptoBulk d + uptoBulkAll r
def uptoBulkEntries {H : Type} : List (Lit × DataW H) → Nat
  | [] => 0
  | x :: r => uptoBulkEntry x + uptoBulkEntries r
def uptoBulkEntry {H : Type} : Lit × DataW H → Nat
  | (.string bytes, d) => bytes.length + uptoBulk d + 1
  | (_, d) => uptoBulk d + 1
 end
def uptoSmall : (H : Type) → List (DataW H) → Bool := fun _ ds => decide (uptoBulkAll ds ≤ 1048576)
def OpenSpec.upto (s : _root_.Go.ChangeSpec) : _root_.Go.OpenSpec := { _root_.Go.OpenSpec.ofChange s with cond := some uptoSmall }

/-- 'pipelinelaw51.EpochAcquires', WHERE WHAT IT READS IS OF BULK AT MOST 1048576: true; the input reads as it did. -/
def epochAcquiresUptoRow : OpenClaim := { program := "ytlmgobbidknpgaa", sum := "ec2358d0c88fd5e37c9192684a163cd89ff35ebe50c665761efdde335923923a", func := "pipeline/pipelinelaw51.EpochAcquires", spec := "epochAcquires", apart := false, narrowed := true }
def EpochAcquiresUptoSaid : Prop := epochAcquiresUptoRow.holds Try.pinned (OpenSpec.upto epochAcquiresSpec)

/-- 'pipelinelaw51.EpochAppends', WHERE WHAT IT READS IS OF BULK AT MOST 1048576: true; the input reads as it did. -/
def epochAppendsUptoRow : OpenClaim := { program := "ytlmgobbidknpgaa", sum := "ec2358d0c88fd5e37c9192684a163cd89ff35ebe50c665761efdde335923923a", func := "pipeline/pipelinelaw51.EpochAppends", spec := "epochAppends", apart := false, narrowed := true }
def EpochAppendsUptoSaid : Prop := epochAppendsUptoRow.holds Try.pinned (OpenSpec.upto epochAppendsSpec)

/-- 'pipelinelaw51.EpochFences', WHERE WHAT IT READS IS OF BULK AT MOST 1048576: true; the input reads as it did. -/
def epochFencesUptoRow : OpenClaim := { program := "ytlmgobbidknpgaa", sum := "ec2358d0c88fd5e37c9192684a163cd89ff35ebe50c665761efdde335923923a", func := "pipeline/pipelinelaw51.EpochFences", spec := "epochFences", apart := false, narrowed := true }
def EpochFencesUptoSaid : Prop := epochFencesUptoRow.holds Try.pinned (OpenSpec.upto epochFencesSpec)

/-- 'pipelinelaw51.EpochLeads', WHERE WHAT IT READS IS OF BULK AT MOST 1048576: true; the input reads as it did. -/
def epochLeadsUptoRow : OpenClaim := { program := "ytlmgobbidknpgaa", sum := "ec2358d0c88fd5e37c9192684a163cd89ff35ebe50c665761efdde335923923a", func := "pipeline/pipelinelaw51.EpochLeads", spec := "epochLeads", apart := false, narrowed := true }
def EpochLeadsUptoSaid : Prop := epochLeadsUptoRow.holds Try.pinned (OpenSpec.upto epochLeadsSpec)

/-- 'pipelinelaw51.EpochProgress', WHERE WHAT IT READS IS OF BULK AT MOST 1048576: true; the input reads as it did. -/
def epochProgressUptoRow : OpenClaim := { program := "ytlmgobbidknpgaa", sum := "ec2358d0c88fd5e37c9192684a163cd89ff35ebe50c665761efdde335923923a", func := "pipeline/pipelinelaw51.EpochProgress", spec := "epochProgress", apart := false, narrowed := true }
def EpochProgressUptoSaid : Prop := epochProgressUptoRow.holds Try.pinned (OpenSpec.upto epochProgressSpec)

end Rows
end Go.Proofs.Ytlmgobbidknpgaa
