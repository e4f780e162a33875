/-
  No cell of these rows narrows 'for every input' (looked for: loops, veiled, ifaces, maps, wideKeys, modest, calm, conditions, laid).
  DERIVED. THE GIVEN ROWS OF THIS SEAT. 6 by the template 'for every input the law returns true; each argument reads behind the call as it read before'; 0 by the template 'total and deterministic' (their statements: YtdmabodhmkgimaaTotals.lean).
  GIVEN WITH THE SEED: the statements are not yours to turn. If you find one false, say at which input.
  Laid BY PROGRAM, IN A SANDBOX (cutbox-rows.mjs): the forced cells as the released guide's own fill.sh prints them over the translation a64813fe4456a5f5… (all of the seat's roots in one cut). By AI agents, Wed Nov 11 2026. No macro, syntax, notation, axiom, sorry.
-/
import Derived.Test.YtdmabodhmkgimaaChecked
import GoSem.Claim
import GoSem.ClaimJoined
import GoSem.ClaimMapViews
import Derived.JoinedTies
import Derived.KernelRfl
namespace Go.Proofs.Ytdmabodhmkgimaa
/- THE CELL 'sum', in the pinned program and in every row, IS THE sha256 OF THE DUMP (.gsa) THAT YtdmabodhmkgimaaProg.lean LOADS. Nothing in Lean hashes anything: it is a label: what it is worth is what the hold of that sum in a sandbox is worth. -/
noncomputable def Try.pinned : Pinned := { name := "ytdmabodhmkgimaa", sum := "a64813fe4456a5f5e34adf6e123430a277af77d56b5ff39f8d31535acd2fc803", checked := Try.checked }
namespace Rows
def none {H : Type} : Left H := { results := [], args := [] }

/-- 'pipelinelaw27.LeaseValid': WHATEVER THE INPUT: true; the input reads as it did. -/
def leaseValidSpec : ChangeSpec := { name := "leaseValid", fn := fun _ => fun
  | [d] => { results := [.lit (.bool true)], args := [d] }
  | _ => none }
def leaseValidRow : OpenClaim := { program := "ytdmabodhmkgimaa", sum := "a64813fe4456a5f5e34adf6e123430a277af77d56b5ff39f8d31535acd2fc803", func := "pipeline/pipelinelaw27.LeaseValid", spec := "leaseValid", unfollowed := true, recurses := true, apart := false }
def LeaseValidSaid : Prop := leaseValidRow.holds Try.pinned (OpenSpec.ofChange leaseValidSpec)

/-- ITS FALSE NEIGHBOUR: 'it returns false'. Refute it at one input. -/
def leaseValidWrong : ChangeSpec := { name := "leaseValid", fn := fun _ => fun
  | [d] => { results := [.lit (.bool false)], args := [d] }
  | _ => none }
def LeaseValidWrongFalsely : Prop := leaseValidRow.holds Try.pinned (OpenSpec.ofChange leaseValidWrong)

/-- 'pipelinelaw27.LeaseGrants': WHATEVER THE INPUT: true; the input reads as it did. -/
def leaseGrantsSpec : ChangeSpec := { name := "leaseGrants", fn := fun _ => fun
  | [d1, d2] => { results := [.lit (.bool true)], args := [d1, d2] }
  | _ => none }
def leaseGrantsRow : OpenClaim := { program := "ytdmabodhmkgimaa", sum := "a64813fe4456a5f5e34adf6e123430a277af77d56b5ff39f8d31535acd2fc803", func := "pipeline/pipelinelaw27.LeaseGrants", spec := "leaseGrants", unfollowed := true, recurses := true, apart := false }
def LeaseGrantsSaid : Prop := leaseGrantsRow.holds Try.pinned (OpenSpec.ofChange leaseGrantsSpec)

/-- ITS FALSE NEIGHBOUR: 'it returns false'. Refute it at one input. -/
def leaseGrantsWrong : ChangeSpec := { name := "leaseGrants", fn := fun _ => fun
  | [d1, d2] => { results := [.lit (.bool false)], args := [d1, d2] }
  | _ => none }
def LeaseGrantsWrongFalsely : Prop := leaseGrantsRow.holds Try.pinned (OpenSpec.ofChange leaseGrantsWrong)

/-- 'pipelinelaw27.LeaseChanges': WHATEVER THE INPUT: true; the input reads as it did. -/
def leaseChangesSpec : ChangeSpec := { name := "leaseChanges", fn := fun _ => fun
  | [d1, d2] => { results := [.lit (.bool true)], args := [d1, d2] }
  | _ => none }
def leaseChangesRow : OpenClaim := { program := "ytdmabodhmkgimaa", sum := "a64813fe4456a5f5e34adf6e123430a277af77d56b5ff39f8d31535acd2fc803", func := "pipeline/pipelinelaw27.LeaseChanges", spec := "leaseChanges", unfollowed := true, recurses := true, apart := false }
def LeaseChangesSaid : Prop := leaseChangesRow.holds Try.pinned (OpenSpec.ofChange leaseChangesSpec)

/-- ITS FALSE NEIGHBOUR: 'it returns false'. Refute it at one input. -/
def leaseChangesWrong : ChangeSpec := { name := "leaseChanges", fn := fun _ => fun
  | [d1, d2] => { results := [.lit (.bool false)], args := [d1, d2] }
  | _ => none }
def LeaseChangesWrongFalsely : Prop := leaseChangesRow.holds Try.pinned (OpenSpec.ofChange leaseChangesWrong)

/-- 'pipelinelaw27.LeasePlays': WHATEVER THE INPUT: true; the input reads as it did. -/
def leasePlaysSpec : ChangeSpec := { name := "leasePlays", fn := fun _ => fun
  | [d] => { results := [.lit (.bool true)], args := [d] }
  | _ => none }
def leasePlaysRow : OpenClaim := { program := "ytdmabodhmkgimaa", sum := "a64813fe4456a5f5e34adf6e123430a277af77d56b5ff39f8d31535acd2fc803", func := "pipeline/pipelinelaw27.LeasePlays", spec := "leasePlays", unfollowed := true, recurses := true, apart := false }
def LeasePlaysSaid : Prop := leasePlaysRow.holds Try.pinned (OpenSpec.ofChange leasePlaysSpec)

/-- ITS FALSE NEIGHBOUR: 'it returns false'. Refute it at one input. -/
def leasePlaysWrong : ChangeSpec := { name := "leasePlays", fn := fun _ => fun
  | [d] => { results := [.lit (.bool false)], args := [d] }
  | _ => none }
def LeasePlaysWrongFalsely : Prop := leasePlaysRow.holds Try.pinned (OpenSpec.ofChange leasePlaysWrong)

/-- 'pipelinelaw27.LeaseFences': WHATEVER THE INPUT: true; the input reads as it did. -/
def leaseFencesSpec : ChangeSpec := { name := "leaseFences", fn := fun _ => fun
  | [d] => { results := [.lit (.bool true)], args := [d] }
  | _ => none }
def leaseFencesRow : OpenClaim := { program := "ytdmabodhmkgimaa", sum := "a64813fe4456a5f5e34adf6e123430a277af77d56b5ff39f8d31535acd2fc803", func := "pipeline/pipelinelaw27.LeaseFences", spec := "leaseFences", unfollowed := true, recurses := true, apart := false }
def LeaseFencesSaid : Prop := leaseFencesRow.holds Try.pinned (OpenSpec.ofChange leaseFencesSpec)

/-- ITS FALSE NEIGHBOUR: 'it returns false'. Refute it at one input. -/
def leaseFencesWrong : ChangeSpec := { name := "leaseFences", fn := fun _ => fun
  | [d] => { results := [.lit (.bool false)], args := [d] }
  | _ => none }
def LeaseFencesWrongFalsely : Prop := leaseFencesRow.holds Try.pinned (OpenSpec.ofChange leaseFencesWrong)

/-- 'pipelinelaw27.LeaseLooks': WHATEVER THE INPUT: true; the input reads as it did. -/
def leaseLooksSpec : ChangeSpec := { name := "leaseLooks", fn := fun _ => fun
  | [d1, d2] => { results := [.lit (.bool true)], args := [d1, d2] }
  | _ => none }
def leaseLooksRow : OpenClaim := { program := "ytdmabodhmkgimaa", sum := "a64813fe4456a5f5e34adf6e123430a277af77d56b5ff39f8d31535acd2fc803", func := "pipeline/pipelinelaw27.LeaseLooks", spec := "leaseLooks", unfollowed := true, recurses := true, apart := false }
def LeaseLooksSaid : Prop := leaseLooksRow.holds Try.pinned (OpenSpec.ofChange leaseLooksSpec)

/-- ITS FALSE NEIGHBOUR: 'it returns false'. Refute it at one input. -/
def leaseLooksWrong : ChangeSpec := { name := "leaseLooks", fn := fun _ => fun
  | [d1, d2] => { results := [.lit (.bool false)], args := [d1, d2] }
  | _ => none }
def LeaseLooksWrongFalsely : Prop := leaseLooksRow.holds Try.pinned (OpenSpec.ofChange leaseLooksWrong)

/- THE SECOND FORM. 'bulk': how many values and letters a reading holds, each counted each time it is reached (what is shared counts as often as it is met; a slice's spare places count too). A statement '..UptoSaid' is the law's where the arguments, and the package variables that the reading takes, are together of bulk at most 1048576: NARROWER than '..Said'. Prove '..Said' where nothing that the law and all that it calls make is longer than what came in: it says more and counts as full. Else prove '..UptoSaid'. A law counts once. -/
mutual
def uptoBulk {H : Type} : DataW H → Nat
  | .lit (.string bytes) => bytes.length + 1
  | .lit _ => 1
  | .nil => 1
  | .ptr d => uptoBulk d + 1
  | .slice elems spare => uptoBulkAll elems + uptoBulkAll spare + 1
  | .agg parts => uptoBulkAll parts + 1
  | .iface _ d => uptoBulk d + 1
  | .map entries => uptoBulkEntries entries + 1
  | .held _ => 1
def uptoBulkAll {H : Type} : List (DataW H) → Nat
  | [] => 0
  | d :: r => uptoBulk d + uptoBulkAll r
def uptoBulkEntries {H : Type} : List (Lit × DataW H) → Nat
  | [] => 0
  | x :: r => uptoBulkEntry x + uptoBulkEntries r
def uptoBulkEntry {H : Type} : Lit × DataW H → Nat
  | (.string bytes, d) => bytes.length + uptoBulk d + 1
  | (_, d) => uptoBulk d + 1
 end
def uptoSmall : (H : Type) → List (DataW H) → Bool := fun _ ds => decide (uptoBulkAll ds ≤ 1048576)
def OpenSpec.upto (s : _root_.Go.ChangeSpec) : _root_.Go.OpenSpec := { _root_.Go.OpenSpec.ofChange s with cond := some uptoSmall }

/-- 'pipelinelaw27.LeaseValid', WHERE WHAT IT READS IS OF BULK AT MOST 1048576: true; the input reads as it did. -/
def leaseValidUptoRow : OpenClaim := { program := "ytdmabodhmkgimaa", sum := "a64813fe4456a5f5e34adf6e123430a277af77d56b5ff39f8d31535acd2fc803", func := "pipeline/pipelinelaw27.LeaseValid", spec := "leaseValid", unfollowed := true, recurses := true, apart := false, narrowed := true }
def LeaseValidUptoSaid : Prop := leaseValidUptoRow.holds Try.pinned (OpenSpec.upto leaseValidSpec)

/-- 'pipelinelaw27.LeaseGrants', WHERE WHAT IT READS IS OF BULK AT MOST 1048576: true; the input reads as it did. -/
def leaseGrantsUptoRow : OpenClaim := { program := "ytdmabodhmkgimaa", sum := "a64813fe4456a5f5e34adf6e123430a277af77d56b5ff39f8d31535acd2fc803", func := "pipeline/pipelinelaw27.LeaseGrants", spec := "leaseGrants", unfollowed := true, recurses := true, apart := false, narrowed := true }
def LeaseGrantsUptoSaid : Prop := leaseGrantsUptoRow.holds Try.pinned (OpenSpec.upto leaseGrantsSpec)

/-- 'pipelinelaw27.LeaseChanges', WHERE WHAT IT READS IS OF BULK AT MOST 1048576: true; the input reads as it did. -/
def leaseChangesUptoRow : OpenClaim := { program := "ytdmabodhmkgimaa", sum := "a64813fe4456a5f5e34adf6e123430a277af77d56b5ff39f8d31535acd2fc803", func := "pipeline/pipelinelaw27.LeaseChanges", spec := "leaseChanges", unfollowed := true, recurses := true, apart := false, narrowed := true }
def LeaseChangesUptoSaid : Prop := leaseChangesUptoRow.holds Try.pinned (OpenSpec.upto leaseChangesSpec)

/-- 'pipelinelaw27.LeasePlays', WHERE WHAT IT READS IS OF BULK AT MOST 1048576: true; the input reads as it did. -/
def leasePlaysUptoRow : OpenClaim := { program := "ytdmabodhmkgimaa", sum := "a64813fe4456a5f5e34adf6e123430a277af77d56b5ff39f8d31535acd2fc803", func := "pipeline/pipelinelaw27.LeasePlays", spec := "leasePlays", unfollowed := true, recurses := true, apart := false, narrowed := true }
def LeasePlaysUptoSaid : Prop := leasePlaysUptoRow.holds Try.pinned (OpenSpec.upto leasePlaysSpec)

/-- 'pipelinelaw27.LeaseFences', WHERE WHAT IT READS IS OF BULK AT MOST 1048576: true; the input reads as it did. -/
def leaseFencesUptoRow : OpenClaim := { program := "ytdmabodhmkgimaa", sum := "a64813fe4456a5f5e34adf6e123430a277af77d56b5ff39f8d31535acd2fc803", func := "pipeline/pipelinelaw27.LeaseFences", spec := "leaseFences", unfollowed := true, recurses := true, apart := false, narrowed := true }
def LeaseFencesUptoSaid : Prop := leaseFencesUptoRow.holds Try.pinned (OpenSpec.upto leaseFencesSpec)

/-- 'pipelinelaw27.LeaseLooks', WHERE WHAT IT READS IS OF BULK AT MOST 1048576: true; the input reads as it did. -/
def leaseLooksUptoRow : OpenClaim := { program := "ytdmabodhmkgimaa", sum := "a64813fe4456a5f5e34adf6e123430a277af77d56b5ff39f8d31535acd2fc803", func := "pipeline/pipelinelaw27.LeaseLooks", spec := "leaseLooks", unfollowed := true, recurses := true, apart := false, narrowed := true }
def LeaseLooksUptoSaid : Prop := leaseLooksUptoRow.holds Try.pinned (OpenSpec.upto leaseLooksSpec)

end Rows
end Go.Proofs.Ytdmabodhmkgimaa
