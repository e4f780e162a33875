/-
  No cell of these rows narrows 'for every input' (looked for: loops, veiled, ifaces, maps, wideKeys, modest, calm, conditions, laid).
  DERIVED. THE GIVEN ROWS OF THIS SEAT. 6 by the template 'for every input the law returns true; each argument reads behind the call as it read before'; 0 by the template 'total and deterministic' (their statements: YtceijhngefpfdaaTotals.lean).
  GIVEN WITH THE SEED: the statements are not yours to turn. If you find one false, say at which input.
  Laid BY PROGRAM, IN A SANDBOX (cutbox-rows.mjs): the forced cells as the released guide's own fill.sh prints them over the translation 341007d2aa8f9378… (all of the seat's roots in one cut). By AI agents, Wed Nov 11 2026. No macro, syntax, notation, axiom, sorry.
-/
import Derived.Test.YtceijhngefpfdaaChecked
import GoSem.Claim
import GoSem.ClaimJoined
import GoSem.ClaimMapViews
import Derived.JoinedTies
import Derived.KernelRfl
namespace Go.Proofs.Ytceijhngefpfdaa
/- THE CELL 'sum', in the pinned program and in every row, IS THE sha256 OF THE DUMP (.gsa) THAT YtceijhngefpfdaaProg.lean LOADS. Nothing in Lean hashes anything: it is a label: what it is worth is what the hold of that sum in a sandbox is worth. -/
noncomputable def Try.pinned : Pinned := { name := "ytceijhngefpfdaa", sum := "341007d2aa8f9378ad22c7d214c63598838065e01e46f2b1f30ca4bab8a2613b", checked := Try.checked }
namespace Rows
def none {H : Type} : Left H := { results := [], args := [] }

/-- 'pipelinelaw29.RetryValid': WHATEVER THE INPUT: true; the input reads as it did. -/
def retryValidSpec : ChangeSpec := { name := "retryValid", fn := fun _ => fun
  | [d] => { results := [.lit (.bool true)], args := [d] }
  | _ => none }
def retryValidRow : OpenClaim := { program := "ytceijhngefpfdaa", sum := "341007d2aa8f9378ad22c7d214c63598838065e01e46f2b1f30ca4bab8a2613b", func := "pipeline/pipelinelaw29.RetryValid", spec := "retryValid", apart := false }
def RetryValidSaid : Prop := retryValidRow.holds Try.pinned (OpenSpec.ofChange retryValidSpec)

/-- ITS FALSE NEIGHBOUR: 'it returns false'. Refute it at one input. -/
def retryValidWrong : ChangeSpec := { name := "retryValid", fn := fun _ => fun
  | [d] => { results := [.lit (.bool false)], args := [d] }
  | _ => none }
def RetryValidWrongFalsely : Prop := retryValidRow.holds Try.pinned (OpenSpec.ofChange retryValidWrong)

/-- 'pipelinelaw29.RetryDelays': WHATEVER THE INPUT: true; the input reads as it did. -/
def retryDelaysSpec : ChangeSpec := { name := "retryDelays", fn := fun _ => fun
  | [d1, d2] => { results := [.lit (.bool true)], args := [d1, d2] }
  | _ => none }
def retryDelaysRow : OpenClaim := { program := "ytceijhngefpfdaa", sum := "341007d2aa8f9378ad22c7d214c63598838065e01e46f2b1f30ca4bab8a2613b", func := "pipeline/pipelinelaw29.RetryDelays", spec := "retryDelays", apart := false }
def RetryDelaysSaid : Prop := retryDelaysRow.holds Try.pinned (OpenSpec.ofChange retryDelaysSpec)

/-- ITS FALSE NEIGHBOUR: 'it returns false'. Refute it at one input. -/
def retryDelaysWrong : ChangeSpec := { name := "retryDelays", fn := fun _ => fun
  | [d1, d2] => { results := [.lit (.bool false)], args := [d1, d2] }
  | _ => none }
def RetryDelaysWrongFalsely : Prop := retryDelaysRow.holds Try.pinned (OpenSpec.ofChange retryDelaysWrong)

/-- 'pipelinelaw29.RetryGrows': WHATEVER THE INPUT: true; the input reads as it did. -/
def retryGrowsSpec : ChangeSpec := { name := "retryGrows", fn := fun _ => fun
  | [d1, d2] => { results := [.lit (.bool true)], args := [d1, d2] }
  | _ => none }
def retryGrowsRow : OpenClaim := { program := "ytceijhngefpfdaa", sum := "341007d2aa8f9378ad22c7d214c63598838065e01e46f2b1f30ca4bab8a2613b", func := "pipeline/pipelinelaw29.RetryGrows", spec := "retryGrows", apart := false }
def RetryGrowsSaid : Prop := retryGrowsRow.holds Try.pinned (OpenSpec.ofChange retryGrowsSpec)

/-- ITS FALSE NEIGHBOUR: 'it returns false'. Refute it at one input. -/
def retryGrowsWrong : ChangeSpec := { name := "retryGrows", fn := fun _ => fun
  | [d1, d2] => { results := [.lit (.bool false)], args := [d1, d2] }
  | _ => none }
def RetryGrowsWrongFalsely : Prop := retryGrowsRow.holds Try.pinned (OpenSpec.ofChange retryGrowsWrong)

/-- 'pipelinelaw29.RetryCounted': WHATEVER THE INPUT: true; the input reads as it did. -/
def retryCountedSpec : ChangeSpec := { name := "retryCounted", fn := fun _ => fun
  | [d] => { results := [.lit (.bool true)], args := [d] }
  | _ => none }
def retryCountedRow : OpenClaim := { program := "ytceijhngefpfdaa", sum := "341007d2aa8f9378ad22c7d214c63598838065e01e46f2b1f30ca4bab8a2613b", func := "pipeline/pipelinelaw29.RetryCounted", spec := "retryCounted", apart := false }
def RetryCountedSaid : Prop := retryCountedRow.holds Try.pinned (OpenSpec.ofChange retryCountedSpec)

/-- ITS FALSE NEIGHBOUR: 'it returns false'. Refute it at one input. -/
def retryCountedWrong : ChangeSpec := { name := "retryCounted", fn := fun _ => fun
  | [d] => { results := [.lit (.bool false)], args := [d] }
  | _ => none }
def RetryCountedWrongFalsely : Prop := retryCountedRow.holds Try.pinned (OpenSpec.ofChange retryCountedWrong)

/-- 'pipelinelaw29.RetryDecides': WHATEVER THE INPUT: true; the input reads as it did. -/
def retryDecidesSpec : ChangeSpec := { name := "retryDecides", fn := fun _ => fun
  | [d1, d2, d3] => { results := [.lit (.bool true)], args := [d1, d2, d3] }
  | _ => none }
def retryDecidesRow : OpenClaim := { program := "ytceijhngefpfdaa", sum := "341007d2aa8f9378ad22c7d214c63598838065e01e46f2b1f30ca4bab8a2613b", func := "pipeline/pipelinelaw29.RetryDecides", spec := "retryDecides", apart := false }
def RetryDecidesSaid : Prop := retryDecidesRow.holds Try.pinned (OpenSpec.ofChange retryDecidesSpec)

/-- ITS FALSE NEIGHBOUR: 'it returns false'. Refute it at one input. -/
def retryDecidesWrong : ChangeSpec := { name := "retryDecides", fn := fun _ => fun
  | [d1, d2, d3] => { results := [.lit (.bool false)], args := [d1, d2, d3] }
  | _ => none }
def RetryDecidesWrongFalsely : Prop := retryDecidesRow.holds Try.pinned (OpenSpec.ofChange retryDecidesWrong)

/-- 'pipelinelaw29.RetryEnds': WHATEVER THE INPUT: true; the input reads as it did. -/
def retryEndsSpec : ChangeSpec := { name := "retryEnds", fn := fun _ => fun
  | [d1, d2] => { results := [.lit (.bool true)], args := [d1, d2] }
  | _ => none }
def retryEndsRow : OpenClaim := { program := "ytceijhngefpfdaa", sum := "341007d2aa8f9378ad22c7d214c63598838065e01e46f2b1f30ca4bab8a2613b", func := "pipeline/pipelinelaw29.RetryEnds", spec := "retryEnds", apart := false }
def RetryEndsSaid : Prop := retryEndsRow.holds Try.pinned (OpenSpec.ofChange retryEndsSpec)

/-- ITS FALSE NEIGHBOUR: 'it returns false'. Refute it at one input. -/
def retryEndsWrong : ChangeSpec := { name := "retryEnds", fn := fun _ => fun
  | [d1, d2] => { results := [.lit (.bool false)], args := [d1, d2] }
  | _ => none }
def RetryEndsWrongFalsely : Prop := retryEndsRow.holds Try.pinned (OpenSpec.ofChange retryEndsWrong)

/- THE SECOND FORM. 'bulk': how many values and letters a reading holds, each counted each time it is reached (what is shared counts as often as it is met; a slice's spare places count too). A statement '..UptoSaid' is the law's where the arguments, and the package variables that the reading takes, are together of bulk at most 1048576: NARROWER than '..Said'. Prove '..Said' where nothing that the law and all that it calls make is longer than what came in: it says more and counts as full. Else prove '..UptoSaid'. A law counts once. -/
mutual
def uptoBulk {H : Type} : DataW H → Nat
  | .lit (.string bytes) => bytes.length + 1
  | .lit _ => 1
  | .nil => 1
  | .ptr d => uptoBulk d + 1
  | .slice elems spare => uptoBulkAll elems + uptoBulkAll spare + 1
  | .agg parts => uptoBulkAll parts + 1
  | .iface _ d => uptoBulk d + 1
  | .map entries => uptoBulkEntries entries + 1
  | .held _ => 1
def uptoBulkAll {H : Type} : List (DataW H) → Nat
  | [] => 0
  | d :: r => uptoBulk d + uptoBulkAll r
def uptoBulkEntries {H : Type} : List (Lit × DataW H) → Nat
  | [] => 0
  | x :: r => uptoBulkEntry x + uptoBulkEntries r
def uptoBulkEntry {H : Type} : Lit × DataW H → Nat
  | (.string bytes, d) => bytes.length + uptoBulk d + 1
  | (_, d) => uptoBulk d + 1
 end
def uptoSmall : (H : Type) → List (DataW H) → Bool := fun _ ds => decide (uptoBulkAll ds ≤ 1048576)
def OpenSpec.upto (s : _root_.Go.ChangeSpec) : _root_.Go.OpenSpec := { _root_.Go.OpenSpec.ofChange s with cond := some uptoSmall }

/-- 'pipelinelaw29.RetryValid', WHERE WHAT IT READS IS OF BULK AT MOST 1048576: true; the input reads as it did. -/
def retryValidUptoRow : OpenClaim := { program := "ytceijhngefpfdaa", sum := "341007d2aa8f9378ad22c7d214c63598838065e01e46f2b1f30ca4bab8a2613b", func := "pipeline/pipelinelaw29.RetryValid", spec := "retryValid", apart := false, narrowed := true }
def RetryValidUptoSaid : Prop := retryValidUptoRow.holds Try.pinned (OpenSpec.upto retryValidSpec)

/-- 'pipelinelaw29.RetryDelays', WHERE WHAT IT READS IS OF BULK AT MOST 1048576: true; the input reads as it did. -/
def retryDelaysUptoRow : OpenClaim := { program := "ytceijhngefpfdaa", sum := "341007d2aa8f9378ad22c7d214c63598838065e01e46f2b1f30ca4bab8a2613b", func := "pipeline/pipelinelaw29.RetryDelays", spec := "retryDelays", apart := false, narrowed := true }
def RetryDelaysUptoSaid : Prop := retryDelaysUptoRow.holds Try.pinned (OpenSpec.upto retryDelaysSpec)

/-- 'pipelinelaw29.RetryGrows', WHERE WHAT IT READS IS OF BULK AT MOST 1048576: true; the input reads as it did. -/
def retryGrowsUptoRow : OpenClaim := { program := "ytceijhngefpfdaa", sum := "341007d2aa8f9378ad22c7d214c63598838065e01e46f2b1f30ca4bab8a2613b", func := "pipeline/pipelinelaw29.RetryGrows", spec := "retryGrows", apart := false, narrowed := true }
def RetryGrowsUptoSaid : Prop := retryGrowsUptoRow.holds Try.pinned (OpenSpec.upto retryGrowsSpec)

/-- 'pipelinelaw29.RetryCounted', WHERE WHAT IT READS IS OF BULK AT MOST 1048576: true; the input reads as it did. -/
def retryCountedUptoRow : OpenClaim := { program := "ytceijhngefpfdaa", sum := "341007d2aa8f9378ad22c7d214c63598838065e01e46f2b1f30ca4bab8a2613b", func := "pipeline/pipelinelaw29.RetryCounted", spec := "retryCounted", apart := false, narrowed := true }
def RetryCountedUptoSaid : Prop := retryCountedUptoRow.holds Try.pinned (OpenSpec.upto retryCountedSpec)

/-- 'pipelinelaw29.RetryDecides', WHERE WHAT IT READS IS OF BULK AT MOST 1048576: true; the input reads as it did. -/
def retryDecidesUptoRow : OpenClaim := { program := "ytceijhngefpfdaa", sum := "341007d2aa8f9378ad22c7d214c63598838065e01e46f2b1f30ca4bab8a2613b", func := "pipeline/pipelinelaw29.RetryDecides", spec := "retryDecides", apart := false, narrowed := true }
def RetryDecidesUptoSaid : Prop := retryDecidesUptoRow.holds Try.pinned (OpenSpec.upto retryDecidesSpec)

/-- 'pipelinelaw29.RetryEnds', WHERE WHAT IT READS IS OF BULK AT MOST 1048576: true; the input reads as it did. -/
def retryEndsUptoRow : OpenClaim := { program := "ytceijhngefpfdaa", sum := "341007d2aa8f9378ad22c7d214c63598838065e01e46f2b1f30ca4bab8a2613b", func := "pipeline/pipelinelaw29.RetryEnds", spec := "retryEnds", apart := false, narrowed := true }
def RetryEndsUptoSaid : Prop := retryEndsUptoRow.holds Try.pinned (OpenSpec.upto retryEndsSpec)

end Rows
end Go.Proofs.Ytceijhngefpfdaa
