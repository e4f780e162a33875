/-
  No cell of these rows narrows 'for every input' (looked for: loops, veiled, ifaces, maps, wideKeys, modest, calm, conditions, laid).
  DERIVED. THE GIVEN ROWS OF THIS SEAT. 6 by the template 'for every input the law returns true; each argument reads behind the call as it read before'; 0 by the template 'total and deterministic' (their statements: YtlhgjjbkbeeagaaTotals.lean).
  GIVEN WITH THE SEED: the statements are not yours to turn. If you find one false, say at which input.
  Laid BY PROGRAM, IN A SANDBOX (cutbox-rows.mjs): the forced cells as the released guide's own fill.sh prints them over the translation 38e82413bd2dd532… (all of the seat's roots in one cut). By AI agents, Wed Nov 11 2026. No macro, syntax, notation, axiom, sorry.
-/
import Derived.Test.YtlhgjjbkbeeagaaChecked
import GoSem.Claim
import GoSem.ClaimJoined
import GoSem.ClaimMapViews
import Derived.JoinedTies
import Derived.KernelRfl
namespace Go.Proofs.Ytlhgjjbkbeeagaa
/- THE CELL 'sum', in the pinned program and in every row, IS THE sha256 OF THE DUMP (.gsa) THAT YtlhgjjbkbeeagaaProg.lean LOADS. Nothing in Lean hashes anything: it is a label: what it is worth is what the hold of that sum in a sandbox is worth. -/
noncomputable def Try.pinned : Pinned := { name := "ytlhgjjbkbeeagaa", sum := "38e82413bd2dd532cbdf20b5fa102a47b80904770afd00540b39d2cd07b206b0", checked := Try.checked }
namespace Rows
def none {H : Type} : Left H := { results := [], args := [] }

/-- 'pipelinelaw43.LogstoreOpens': WHATEVER THE INPUT: true; the input reads as it did. -/
def logstoreOpensSpec : ChangeSpec := { name := "logstoreOpens", fn := fun _ => fun
  | [d1, d2, d3] => { results := [.lit (.bool true)], args := [d1, d2, d3] }
  | _ => none }
def logstoreOpensRow : OpenClaim := { program := "ytlhgjjbkbeeagaa", sum := "38e82413bd2dd532cbdf20b5fa102a47b80904770afd00540b39d2cd07b206b0", func := "pipeline/pipelinelaw43.LogstoreOpens", spec := "logstoreOpens", unfollowed := true, recurses := true, apart := false }
def LogstoreOpensSaid : Prop := logstoreOpensRow.holds Try.pinned (OpenSpec.ofChange logstoreOpensSpec)

/-- ITS FALSE NEIGHBOUR: 'it returns false'. Refute it at one input. -/
def logstoreOpensWrong : ChangeSpec := { name := "logstoreOpens", fn := fun _ => fun
  | [d1, d2, d3] => { results := [.lit (.bool false)], args := [d1, d2, d3] }
  | _ => none }
def LogstoreOpensWrongFalsely : Prop := logstoreOpensRow.holds Try.pinned (OpenSpec.ofChange logstoreOpensWrong)

/-- 'pipelinelaw43.LogstoreAppends': WHATEVER THE INPUT: true; the input reads as it did. -/
def logstoreAppendsSpec : ChangeSpec := { name := "logstoreAppends", fn := fun _ => fun
  | [d1, d2] => { results := [.lit (.bool true)], args := [d1, d2] }
  | _ => none }
def logstoreAppendsRow : OpenClaim := { program := "ytlhgjjbkbeeagaa", sum := "38e82413bd2dd532cbdf20b5fa102a47b80904770afd00540b39d2cd07b206b0", func := "pipeline/pipelinelaw43.LogstoreAppends", spec := "logstoreAppends", unfollowed := true, recurses := true, apart := false }
def LogstoreAppendsSaid : Prop := logstoreAppendsRow.holds Try.pinned (OpenSpec.ofChange logstoreAppendsSpec)

/-- ITS FALSE NEIGHBOUR: 'it returns false'. Refute it at one input. -/
def logstoreAppendsWrong : ChangeSpec := { name := "logstoreAppends", fn := fun _ => fun
  | [d1, d2] => { results := [.lit (.bool false)], args := [d1, d2] }
  | _ => none }
def LogstoreAppendsWrongFalsely : Prop := logstoreAppendsRow.holds Try.pinned (OpenSpec.ofChange logstoreAppendsWrong)

/-- 'pipelinelaw43.LogstoreReads': WHATEVER THE INPUT: true; the input reads as it did. -/
def logstoreReadsSpec : ChangeSpec := { name := "logstoreReads", fn := fun _ => fun
  | [d1, d2, d3] => { results := [.lit (.bool true)], args := [d1, d2, d3] }
  | _ => none }
def logstoreReadsRow : OpenClaim := { program := "ytlhgjjbkbeeagaa", sum := "38e82413bd2dd532cbdf20b5fa102a47b80904770afd00540b39d2cd07b206b0", func := "pipeline/pipelinelaw43.LogstoreReads", spec := "logstoreReads", unfollowed := true, recurses := true, apart := false }
def LogstoreReadsSaid : Prop := logstoreReadsRow.holds Try.pinned (OpenSpec.ofChange logstoreReadsSpec)

/-- ITS FALSE NEIGHBOUR: 'it returns false'. Refute it at one input. -/
def logstoreReadsWrong : ChangeSpec := { name := "logstoreReads", fn := fun _ => fun
  | [d1, d2, d3] => { results := [.lit (.bool false)], args := [d1, d2, d3] }
  | _ => none }
def LogstoreReadsWrongFalsely : Prop := logstoreReadsRow.holds Try.pinned (OpenSpec.ofChange logstoreReadsWrong)

/-- 'pipelinelaw43.LogstoreOnce': WHATEVER THE INPUT: true; the input reads as it did. -/
def logstoreOnceSpec : ChangeSpec := { name := "logstoreOnce", fn := fun _ => fun
  | [d1, d2] => { results := [.lit (.bool true)], args := [d1, d2] }
  | _ => none }
def logstoreOnceRow : OpenClaim := { program := "ytlhgjjbkbeeagaa", sum := "38e82413bd2dd532cbdf20b5fa102a47b80904770afd00540b39d2cd07b206b0", func := "pipeline/pipelinelaw43.LogstoreOnce", spec := "logstoreOnce", unfollowed := true, recurses := true, apart := false }
def LogstoreOnceSaid : Prop := logstoreOnceRow.holds Try.pinned (OpenSpec.ofChange logstoreOnceSpec)

/-- ITS FALSE NEIGHBOUR: 'it returns false'. Refute it at one input. -/
def logstoreOnceWrong : ChangeSpec := { name := "logstoreOnce", fn := fun _ => fun
  | [d1, d2] => { results := [.lit (.bool false)], args := [d1, d2] }
  | _ => none }
def LogstoreOnceWrongFalsely : Prop := logstoreOnceRow.holds Try.pinned (OpenSpec.ofChange logstoreOnceWrong)

/-- 'pipelinelaw43.LogstoreSealed': WHATEVER THE INPUT: true; the input reads as it did. -/
def logstoreSealedSpec : ChangeSpec := { name := "logstoreSealed", fn := fun _ => fun
  | [d1, d2] => { results := [.lit (.bool true)], args := [d1, d2] }
  | _ => none }
def logstoreSealedRow : OpenClaim := { program := "ytlhgjjbkbeeagaa", sum := "38e82413bd2dd532cbdf20b5fa102a47b80904770afd00540b39d2cd07b206b0", func := "pipeline/pipelinelaw43.LogstoreSealed", spec := "logstoreSealed", unfollowed := true, recurses := true, apart := false }
def LogstoreSealedSaid : Prop := logstoreSealedRow.holds Try.pinned (OpenSpec.ofChange logstoreSealedSpec)

/-- ITS FALSE NEIGHBOUR: 'it returns false'. Refute it at one input. -/
def logstoreSealedWrong : ChangeSpec := { name := "logstoreSealed", fn := fun _ => fun
  | [d1, d2] => { results := [.lit (.bool false)], args := [d1, d2] }
  | _ => none }
def LogstoreSealedWrongFalsely : Prop := logstoreSealedRow.holds Try.pinned (OpenSpec.ofChange logstoreSealedWrong)

/-- 'pipelinelaw43.LogstoreFull': WHATEVER THE INPUT: true; the input reads as it did. -/
def logstoreFullSpec : ChangeSpec := { name := "logstoreFull", fn := fun _ => fun
  | [d1, d2] => { results := [.lit (.bool true)], args := [d1, d2] }
  | _ => none }
def logstoreFullRow : OpenClaim := { program := "ytlhgjjbkbeeagaa", sum := "38e82413bd2dd532cbdf20b5fa102a47b80904770afd00540b39d2cd07b206b0", func := "pipeline/pipelinelaw43.LogstoreFull", spec := "logstoreFull", unfollowed := true, recurses := true, apart := false }
def LogstoreFullSaid : Prop := logstoreFullRow.holds Try.pinned (OpenSpec.ofChange logstoreFullSpec)

/-- ITS FALSE NEIGHBOUR: 'it returns false'. Refute it at one input. -/
def logstoreFullWrong : ChangeSpec := { name := "logstoreFull", fn := fun _ => fun
  | [d1, d2] => { results := [.lit (.bool false)], args := [d1, d2] }
  | _ => none }
def LogstoreFullWrongFalsely : Prop := logstoreFullRow.holds Try.pinned (OpenSpec.ofChange logstoreFullWrong)

/- THE SECOND FORM. 'bulk': how many values and letters a reading holds, each counted each time it is reached (what is shared counts as often as it is met; a slice's spare places count too). A statement '..UptoSaid' is the law's where the arguments, and the package variables that the reading takes, are together of bulk at most 1048576: NARROWER than '..Said'. Prove '..Said' where nothing that the law and all that it calls make is longer than what came in: it says more and counts as full. Else prove '..UptoSaid'. A law counts once. -/
mutual
def uptoBulk {H : Type} : DataW H → Nat
  | .lit (.string bytes) => bytes.length + 1
  | .lit _ => 1
  | .nil => 1
  | .ptr d => uptoBulk d + 1
  | .slice elems spare => uptoBulkAll elems + uptoBulkAll spare + 1
  | .agg parts => uptoBulkAll parts + 1
  | .iface _ d => uptoBulk d + 1
  | .map entries => uptoBulkEntries entries + 1
  | .held _ => 1
def uptoBulkAll {H : Type} : List (DataW H) → Nat
  | [] => 0
  | d :: r => uptoBulk d + uptoBulkAll r
def uptoBulkEntries {H : Type} : List (Lit × DataW H) → Nat
  | [] => 0
  | x :: r => uptoBulkEntry x + uptoBulkEntries r
def uptoBulkEntry {H : Type} : Lit × DataW H → Nat
  | (.string bytes, d) => bytes.length + uptoBulk d + 1
  | (_, d) => uptoBulk d + 1
 end
def uptoSmall : (H : Type) → List (DataW H) → Bool := fun _ ds => decide (uptoBulkAll ds ≤ 1048576)
def OpenSpec.upto (s : _root_.Go.ChangeSpec) : _root_.Go.OpenSpec := { _root_.Go.OpenSpec.ofChange s with cond := some uptoSmall }

/-- 'pipelinelaw43.LogstoreOpens', WHERE WHAT IT READS IS OF BULK AT MOST 1048576: true; the input reads as it did. -/
def logstoreOpensUptoRow : OpenClaim := { program := "ytlhgjjbkbeeagaa", sum := "38e82413bd2dd532cbdf20b5fa102a47b80904770afd00540b39d2cd07b206b0", func := "pipeline/pipelinelaw43.LogstoreOpens", spec := "logstoreOpens", unfollowed := true, recurses := true, apart := false, narrowed := true }
def LogstoreOpensUptoSaid : Prop := logstoreOpensUptoRow.holds Try.pinned (OpenSpec.upto logstoreOpensSpec)

/-- 'pipelinelaw43.LogstoreAppends', WHERE WHAT IT READS IS OF BULK AT MOST 1048576: true; the input reads as it did. -/
def logstoreAppendsUptoRow : OpenClaim := { program := "ytlhgjjbkbeeagaa", sum := "38e82413bd2dd532cbdf20b5fa102a47b80904770afd00540b39d2cd07b206b0", func := "pipeline/pipelinelaw43.LogstoreAppends", spec := "logstoreAppends", unfollowed := true, recurses := true, apart := false, narrowed := true }
def LogstoreAppendsUptoSaid : Prop := logstoreAppendsUptoRow.holds Try.pinned (OpenSpec.upto logstoreAppendsSpec)

/-- 'pipelinelaw43.LogstoreReads', WHERE WHAT IT READS IS OF BULK AT MOST 1048576: true; the input reads as it did. -/
def logstoreReadsUptoRow : OpenClaim := { program := "ytlhgjjbkbeeagaa", sum := "38e82413bd2dd532cbdf20b5fa102a47b80904770afd00540b39d2cd07b206b0", func := "pipeline/pipelinelaw43.LogstoreReads", spec := "logstoreReads", unfollowed := true, recurses := true, apart := false, narrowed := true }
def LogstoreReadsUptoSaid : Prop := logstoreReadsUptoRow.holds Try.pinned (OpenSpec.upto logstoreReadsSpec)

/-- 'pipelinelaw43.LogstoreOnce', WHERE WHAT IT READS IS OF BULK AT MOST 1048576: true; the input reads as it did. -/
def logstoreOnceUptoRow : OpenClaim := { program := "ytlhgjjbkbeeagaa", sum := "38e82413bd2dd532cbdf20b5fa102a47b80904770afd00540b39d2cd07b206b0", func := "pipeline/pipelinelaw43.LogstoreOnce", spec := "logstoreOnce", unfollowed := true, recurses := true, apart := false, narrowed := true }
def LogstoreOnceUptoSaid : Prop := logstoreOnceUptoRow.holds Try.pinned (OpenSpec.upto logstoreOnceSpec)

/-- 'pipelinelaw43.LogstoreSealed', WHERE WHAT IT READS IS OF BULK AT MOST 1048576: true; the input reads as it did. -/
def logstoreSealedUptoRow : OpenClaim := { program := "ytlhgjjbkbeeagaa", sum := "38e82413bd2dd532cbdf20b5fa102a47b80904770afd00540b39d2cd07b206b0", func := "pipeline/pipelinelaw43.LogstoreSealed", spec := "logstoreSealed", unfollowed := true, recurses := true, apart := false, narrowed := true }
def LogstoreSealedUptoSaid : Prop := logstoreSealedUptoRow.holds Try.pinned (OpenSpec.upto logstoreSealedSpec)

/-- 'pipelinelaw43.LogstoreFull', WHERE WHAT IT READS IS OF BULK AT MOST 1048576: true; the input reads as it did. -/
def logstoreFullUptoRow : OpenClaim := { program := "ytlhgjjbkbeeagaa", sum := "38e82413bd2dd532cbdf20b5fa102a47b80904770afd00540b39d2cd07b206b0", func := "pipeline/pipelinelaw43.LogstoreFull", spec := "logstoreFull", unfollowed := true, recurses := true, apart := false, narrowed := true }
def LogstoreFullUptoSaid : Prop := logstoreFullUptoRow.holds Try.pinned (OpenSpec.upto logstoreFullSpec)

end Rows
end Go.Proofs.Ytlhgjjbkbeeagaa
