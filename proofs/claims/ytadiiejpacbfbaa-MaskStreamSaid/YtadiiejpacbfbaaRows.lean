/-
  No cell of these rows narrows 'for every input' (looked for: loops, veiled, ifaces, maps, wideKeys, modest, calm, conditions, laid).
  DERIVED. THE GIVEN ROWS OF THIS SEAT. 5 by the template 'for every input the law returns true; each argument reads behind the call as it read before'; 0 by the template 'total and deterministic' (their statements: YtadiiejpacbfbaaTotals.lean).
  GIVEN WITH THE SEED: the statements are not yours to turn. If you find one false, say at which input.
  Laid BY PROGRAM, IN A SANDBOX (cutbox-rows.mjs): the forced cells as the released guide's own fill.sh prints them over the translation b7e9f7768e3f5b8a… (all of the seat's roots in one cut). By AI agents, Wed Nov 11 2026. No macro, syntax, notation, axiom, sorry.
-/
import Derived.Test.YtadiiejpacbfbaaChecked
import GoSem.Claim
import GoSem.ClaimJoined
import GoSem.ClaimMapViews
import Derived.JoinedTies
import Derived.KernelRfl
namespace Go.Proofs.Ytadiiejpacbfbaa
/- THE CELL 'sum', in the pinned program and in every row, IS THE sha256 OF THE DUMP (.gsa) THAT YtadiiejpacbfbaaProg.lean LOADS. Nothing in Lean hashes anything: it is a label: what it is worth is what the hold of that sum in a sandbox is worth. -/
noncomputable def Try.pinned : Pinned := { name := "ytadiiejpacbfbaa", sum := "b7e9f7768e3f5b8a71b8223a958efa28ad2a473d5a7601e39cc107ef1ce6dcd8", checked := Try.checked }
namespace Rows
def none {H : Type} : Left H := { results := [], args := [] }

/-- 'pipelinelaw42.MaskHeld': WHATEVER THE INPUT: true; the input reads as it did. -/
def maskHeldSpec : ChangeSpec := { name := "maskHeld", fn := fun _ => fun
  | [d1, d2] => { results := [.lit (.bool true)], args := [d1, d2] }
  | _ => none }
def maskHeldRow : OpenClaim := { program := "ytadiiejpacbfbaa", sum := "b7e9f7768e3f5b8a71b8223a958efa28ad2a473d5a7601e39cc107ef1ce6dcd8", func := "pipeline/pipelinelaw42.MaskHeld", spec := "maskHeld", inPlace := ["internal/abi.NoEscape", "internal/bytealg.IndexByteString", "internal/bytealg.IndexString"], unfollowed := true, recurses := true, named := ["internal/bytealg.MaxLen"], apart := false }
def MaskHeldSaid : Prop := maskHeldRow.holds Try.pinned (OpenSpec.ofChange maskHeldSpec)

/-- ITS FALSE NEIGHBOUR: 'it returns false'. Refute it at one input. -/
def maskHeldWrong : ChangeSpec := { name := "maskHeld", fn := fun _ => fun
  | [d1, d2] => { results := [.lit (.bool false)], args := [d1, d2] }
  | _ => none }
def MaskHeldWrongFalsely : Prop := maskHeldRow.holds Try.pinned (OpenSpec.ofChange maskHeldWrong)

/-- 'pipelinelaw42.MaskOthers': WHATEVER THE INPUT: true; the input reads as it did. -/
def maskOthersSpec : ChangeSpec := { name := "maskOthers", fn := fun _ => fun
  | [d1, d2] => { results := [.lit (.bool true)], args := [d1, d2] }
  | _ => none }
def maskOthersRow : OpenClaim := { program := "ytadiiejpacbfbaa", sum := "b7e9f7768e3f5b8a71b8223a958efa28ad2a473d5a7601e39cc107ef1ce6dcd8", func := "pipeline/pipelinelaw42.MaskOthers", spec := "maskOthers", inPlace := ["internal/abi.NoEscape", "internal/bytealg.IndexByteString", "internal/bytealg.IndexString"], unfollowed := true, recurses := true, named := ["internal/bytealg.MaxLen"], apart := false }
def MaskOthersSaid : Prop := maskOthersRow.holds Try.pinned (OpenSpec.ofChange maskOthersSpec)

/-- ITS FALSE NEIGHBOUR: 'it returns false'. Refute it at one input. -/
def maskOthersWrong : ChangeSpec := { name := "maskOthers", fn := fun _ => fun
  | [d1, d2] => { results := [.lit (.bool false)], args := [d1, d2] }
  | _ => none }
def MaskOthersWrongFalsely : Prop := maskOthersRow.holds Try.pinned (OpenSpec.ofChange maskOthersWrong)

/-- 'pipelinelaw42.MaskAll': WHATEVER THE INPUT: true; the input reads as it did. -/
def maskAllSpec : ChangeSpec := { name := "maskAll", fn := fun _ => fun
  | [d1, d2] => { results := [.lit (.bool true)], args := [d1, d2] }
  | _ => none }
def maskAllRow : OpenClaim := { program := "ytadiiejpacbfbaa", sum := "b7e9f7768e3f5b8a71b8223a958efa28ad2a473d5a7601e39cc107ef1ce6dcd8", func := "pipeline/pipelinelaw42.MaskAll", spec := "maskAll", inPlace := ["internal/abi.NoEscape", "internal/bytealg.IndexByteString", "internal/bytealg.IndexString"], unfollowed := true, recurses := true, named := ["internal/bytealg.MaxLen"], apart := false }
def MaskAllSaid : Prop := maskAllRow.holds Try.pinned (OpenSpec.ofChange maskAllSpec)

/-- ITS FALSE NEIGHBOUR: 'it returns false'. Refute it at one input. -/
def maskAllWrong : ChangeSpec := { name := "maskAll", fn := fun _ => fun
  | [d1, d2] => { results := [.lit (.bool false)], args := [d1, d2] }
  | _ => none }
def MaskAllWrongFalsely : Prop := maskAllRow.holds Try.pinned (OpenSpec.ofChange maskAllWrong)

/-- 'pipelinelaw42.MaskFeeds': WHATEVER THE INPUT: true; the input reads as it did. -/
def maskFeedsSpec : ChangeSpec := { name := "maskFeeds", fn := fun _ => fun
  | [d1, d2] => { results := [.lit (.bool true)], args := [d1, d2] }
  | _ => none }
def maskFeedsRow : OpenClaim := { program := "ytadiiejpacbfbaa", sum := "b7e9f7768e3f5b8a71b8223a958efa28ad2a473d5a7601e39cc107ef1ce6dcd8", func := "pipeline/pipelinelaw42.MaskFeeds", spec := "maskFeeds", inPlace := ["internal/abi.NoEscape", "internal/bytealg.IndexByteString", "internal/bytealg.IndexString"], unfollowed := true, recurses := true, named := ["internal/bytealg.MaxLen"], apart := false }
def MaskFeedsSaid : Prop := maskFeedsRow.holds Try.pinned (OpenSpec.ofChange maskFeedsSpec)

/-- ITS FALSE NEIGHBOUR: 'it returns false'. Refute it at one input. -/
def maskFeedsWrong : ChangeSpec := { name := "maskFeeds", fn := fun _ => fun
  | [d1, d2] => { results := [.lit (.bool false)], args := [d1, d2] }
  | _ => none }
def MaskFeedsWrongFalsely : Prop := maskFeedsRow.holds Try.pinned (OpenSpec.ofChange maskFeedsWrong)

/-- 'pipelinelaw42.MaskStream': WHATEVER THE INPUT: true; the input reads as it did. -/
def maskStreamSpec : ChangeSpec := { name := "maskStream", fn := fun _ => fun
  | [d1, d2] => { results := [.lit (.bool true)], args := [d1, d2] }
  | _ => none }
def maskStreamRow : OpenClaim := { program := "ytadiiejpacbfbaa", sum := "b7e9f7768e3f5b8a71b8223a958efa28ad2a473d5a7601e39cc107ef1ce6dcd8", func := "pipeline/pipelinelaw42.MaskStream", spec := "maskStream", inPlace := ["internal/abi.NoEscape", "internal/bytealg.IndexByteString", "internal/bytealg.IndexString"], unfollowed := true, recurses := true, named := ["internal/bytealg.MaxLen"], apart := false }
def MaskStreamSaid : Prop := maskStreamRow.holds Try.pinned (OpenSpec.ofChange maskStreamSpec)

/-- ITS FALSE NEIGHBOUR: 'it returns false'. Refute it at one input. -/
def maskStreamWrong : ChangeSpec := { name := "maskStream", fn := fun _ => fun
  | [d1, d2] => { results := [.lit (.bool false)], args := [d1, d2] }
  | _ => none }
def MaskStreamWrongFalsely : Prop := maskStreamRow.holds Try.pinned (OpenSpec.ofChange maskStreamWrong)

/- THE SECOND FORM. 'bulk': how many values and letters a reading holds, each counted each time it is reached (what is shared counts as often as it is met; a slice's spare places count too). A statement '..UptoSaid' is the law's where the arguments, and the package variables that the reading takes, are together of bulk at most 1048576: NARROWER than '..Said'. Prove '..Said' where nothing that the law and all that it calls make is longer than what came in: it says more and counts as full. Else prove '..UptoSaid'. A law counts once. -/
mutual
def uptoBulk {H : Type} : DataW H → Nat
  | .lit (.string bytes) => bytes.length + 1
  | .lit _ => 1
  | .nil => 1
  | .ptr d => uptoBulk d + 1
  | .slice elems spare => uptoBulkAll elems + uptoBulkAll spare + 1
  | .agg parts => uptoBulkAll parts + 1
  | .iface _ d => uptoBulk d + 1
  | .map entries => uptoBulkEntries entries + 1
  | .held _ => 1
def uptoBulkAll {H : Type} : List (DataW H) → Nat
  | [] => 0
  | d :: r => uptoBulk d + uptoBulkAll r
def uptoBulkEntries {H : Type} : List (Lit × DataW H) → Nat
  | [] => 0
  | x :: r => uptoBulkEntry x + uptoBulkEntries r
def uptoBulkEntry {H : Type} : Lit × DataW H → Nat
  | (.string bytes, d) => bytes.length + uptoBulk d + 1
  | (_, d) => uptoBulk d + 1
 end
def uptoSmall : (H : Type) → List (DataW H) → Bool := fun _ ds => decide (uptoBulkAll ds ≤ 1048576)
def OpenSpec.upto (s : _root_.Go.ChangeSpec) : _root_.Go.OpenSpec := { _root_.Go.OpenSpec.ofChange s with cond := some uptoSmall }

/-- 'pipelinelaw42.MaskHeld', WHERE WHAT IT READS IS OF BULK AT MOST 1048576: true; the input reads as it did. -/
def maskHeldUptoRow : OpenClaim := { program := "ytadiiejpacbfbaa", sum := "b7e9f7768e3f5b8a71b8223a958efa28ad2a473d5a7601e39cc107ef1ce6dcd8", func := "pipeline/pipelinelaw42.MaskHeld", spec := "maskHeld", inPlace := ["internal/abi.NoEscape", "internal/bytealg.IndexByteString", "internal/bytealg.IndexString"], unfollowed := true, recurses := true, named := ["internal/bytealg.MaxLen"], apart := false, narrowed := true }
def MaskHeldUptoSaid : Prop := maskHeldUptoRow.holds Try.pinned (OpenSpec.upto maskHeldSpec)

/-- 'pipelinelaw42.MaskOthers', WHERE WHAT IT READS IS OF BULK AT MOST 1048576: true; the input reads as it did. -/
def maskOthersUptoRow : OpenClaim := { program := "ytadiiejpacbfbaa", sum := "b7e9f7768e3f5b8a71b8223a958efa28ad2a473d5a7601e39cc107ef1ce6dcd8", func := "pipeline/pipelinelaw42.MaskOthers", spec := "maskOthers", inPlace := ["internal/abi.NoEscape", "internal/bytealg.IndexByteString", "internal/bytealg.IndexString"], unfollowed := true, recurses := true, named := ["internal/bytealg.MaxLen"], apart := false, narrowed := true }
def MaskOthersUptoSaid : Prop := maskOthersUptoRow.holds Try.pinned (OpenSpec.upto maskOthersSpec)

/-- 'pipelinelaw42.MaskAll', WHERE WHAT IT READS IS OF BULK AT MOST 1048576: true; the input reads as it did. -/
def maskAllUptoRow : OpenClaim := { program := "ytadiiejpacbfbaa", sum := "b7e9f7768e3f5b8a71b8223a958efa28ad2a473d5a7601e39cc107ef1ce6dcd8", func := "pipeline/pipelinelaw42.MaskAll", spec := "maskAll", inPlace := ["internal/abi.NoEscape", "internal/bytealg.IndexByteString", "internal/bytealg.IndexString"], unfollowed := true, recurses := true, named := ["internal/bytealg.MaxLen"], apart := false, narrowed := true }
def MaskAllUptoSaid : Prop := maskAllUptoRow.holds Try.pinned (OpenSpec.upto maskAllSpec)

/-- 'pipelinelaw42.MaskFeeds', WHERE WHAT IT READS IS OF BULK AT MOST 1048576: true; the input reads as it did. -/
def maskFeedsUptoRow : OpenClaim := { program := "ytadiiejpacbfbaa", sum := "b7e9f7768e3f5b8a71b8223a958efa28ad2a473d5a7601e39cc107ef1ce6dcd8", func := "pipeline/pipelinelaw42.MaskFeeds", spec := "maskFeeds", inPlace := ["internal/abi.NoEscape", "internal/bytealg.IndexByteString", "internal/bytealg.IndexString"], unfollowed := true, recurses := true, named := ["internal/bytealg.MaxLen"], apart := false, narrowed := true }
def MaskFeedsUptoSaid : Prop := maskFeedsUptoRow.holds Try.pinned (OpenSpec.upto maskFeedsSpec)

/-- 'pipelinelaw42.MaskStream', WHERE WHAT IT READS IS OF BULK AT MOST 1048576: true; the input reads as it did. -/
def maskStreamUptoRow : OpenClaim := { program := "ytadiiejpacbfbaa", sum := "b7e9f7768e3f5b8a71b8223a958efa28ad2a473d5a7601e39cc107ef1ce6dcd8", func := "pipeline/pipelinelaw42.MaskStream", spec := "maskStream", inPlace := ["internal/abi.NoEscape", "internal/bytealg.IndexByteString", "internal/bytealg.IndexString"], unfollowed := true, recurses := true, named := ["internal/bytealg.MaxLen"], apart := false, narrowed := true }
def MaskStreamUptoSaid : Prop := maskStreamUptoRow.holds Try.pinned (OpenSpec.upto maskStreamSpec)

end Rows
end Go.Proofs.Ytadiiejpacbfbaa
