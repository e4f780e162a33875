/-
  No cell of these rows narrows 'for every input' (looked for: loops, veiled, ifaces, maps, wideKeys, modest, calm, conditions, laid).
  DERIVED. THE GIVEN ROWS OF THIS SEAT. 5 by the template 'for every input the law returns true; each argument reads behind the call as it read before'; 0 by the template 'total and deterministic' (their statements: YtnlmpgnjhdeejaaTotals.lean).
  GIVEN WITH THE SEED: the statements are not yours to turn. If you find one false, say at which input.
  Laid BY PROGRAM, IN A SANDBOX (cutbox-rows.mjs): the forced cells as the released guide's own fill.sh prints them over the translation 05487d28427c36da… (all of the seat's roots in one cut). By AI agents, Wed Nov 11 2026. No macro, syntax, notation, axiom, sorry.
-/
import Derived.Test.YtnlmpgnjhdeejaaChecked
import GoSem.Claim
import GoSem.ClaimJoined
import GoSem.ClaimMapViews
import Derived.JoinedTies
import Derived.KernelRfl
namespace Go.Proofs.Ytnlmpgnjhdeejaa
/- THE CELL 'sum', in the pinned program and in every row, IS THE sha256 OF THE DUMP (.gsa) THAT YtnlmpgnjhdeejaaProg.lean LOADS. Nothing in Lean hashes anything: it is a label: what it is worth is what the hold of that sum in a sandbox is worth. -/
noncomputable def Try.pinned : Pinned := { name := "ytnlmpgnjhdeejaa", sum := "05487d28427c36daf99f2a092a5034f209f2fad0163e9e1f09063866ebf7b5c2", checked := Try.checked }
namespace Rows
def none {H : Type} : Left H := { results := [], args := [] }

/-- 'pipelinelaw30.AttemptValid': WHATEVER THE INPUT: true; the input reads as it did. -/
def attemptValidSpec : ChangeSpec := { name := "attemptValid", fn := fun _ => fun
  | [d] => { results := [.lit (.bool true)], args := [d] }
  | _ => none }
def attemptValidRow : OpenClaim := { program := "ytnlmpgnjhdeejaa", sum := "05487d28427c36daf99f2a092a5034f209f2fad0163e9e1f09063866ebf7b5c2", func := "pipeline/pipelinelaw30.AttemptValid", spec := "attemptValid", apart := false }
def AttemptValidSaid : Prop := attemptValidRow.holds Try.pinned (OpenSpec.ofChange attemptValidSpec)

/-- ITS FALSE NEIGHBOUR: 'it returns false'. Refute it at one input. -/
def attemptValidWrong : ChangeSpec := { name := "attemptValid", fn := fun _ => fun
  | [d] => { results := [.lit (.bool false)], args := [d] }
  | _ => none }
def AttemptValidWrongFalsely : Prop := attemptValidRow.holds Try.pinned (OpenSpec.ofChange attemptValidWrong)

/-- 'pipelinelaw30.AttemptBegins': WHATEVER THE INPUT: true; the input reads as it did. -/
def attemptBeginsSpec : ChangeSpec := { name := "attemptBegins", fn := fun _ => fun
  | [d1, d2] => { results := [.lit (.bool true)], args := [d1, d2] }
  | _ => none }
def attemptBeginsRow : OpenClaim := { program := "ytnlmpgnjhdeejaa", sum := "05487d28427c36daf99f2a092a5034f209f2fad0163e9e1f09063866ebf7b5c2", func := "pipeline/pipelinelaw30.AttemptBegins", spec := "attemptBegins", apart := false }
def AttemptBeginsSaid : Prop := attemptBeginsRow.holds Try.pinned (OpenSpec.ofChange attemptBeginsSpec)

/-- ITS FALSE NEIGHBOUR: 'it returns false'. Refute it at one input. -/
def attemptBeginsWrong : ChangeSpec := { name := "attemptBegins", fn := fun _ => fun
  | [d1, d2] => { results := [.lit (.bool false)], args := [d1, d2] }
  | _ => none }
def AttemptBeginsWrongFalsely : Prop := attemptBeginsRow.holds Try.pinned (OpenSpec.ofChange attemptBeginsWrong)

/-- 'pipelinelaw30.AttemptEnds': WHATEVER THE INPUT: true; the input reads as it did. -/
def attemptEndsSpec : ChangeSpec := { name := "attemptEnds", fn := fun _ => fun
  | [d1, d2] => { results := [.lit (.bool true)], args := [d1, d2] }
  | _ => none }
def attemptEndsRow : OpenClaim := { program := "ytnlmpgnjhdeejaa", sum := "05487d28427c36daf99f2a092a5034f209f2fad0163e9e1f09063866ebf7b5c2", func := "pipeline/pipelinelaw30.AttemptEnds", spec := "attemptEnds", apart := false }
def AttemptEndsSaid : Prop := attemptEndsRow.holds Try.pinned (OpenSpec.ofChange attemptEndsSpec)

/-- ITS FALSE NEIGHBOUR: 'it returns false'. Refute it at one input. -/
def attemptEndsWrong : ChangeSpec := { name := "attemptEnds", fn := fun _ => fun
  | [d1, d2] => { results := [.lit (.bool false)], args := [d1, d2] }
  | _ => none }
def AttemptEndsWrongFalsely : Prop := attemptEndsRow.holds Try.pinned (OpenSpec.ofChange attemptEndsWrong)

/-- 'pipelinelaw30.AttemptKeeps': WHATEVER THE INPUT: true; the input reads as it did. -/
def attemptKeepsSpec : ChangeSpec := { name := "attemptKeeps", fn := fun _ => fun
  | [d] => { results := [.lit (.bool true)], args := [d] }
  | _ => none }
def attemptKeepsRow : OpenClaim := { program := "ytnlmpgnjhdeejaa", sum := "05487d28427c36daf99f2a092a5034f209f2fad0163e9e1f09063866ebf7b5c2", func := "pipeline/pipelinelaw30.AttemptKeeps", spec := "attemptKeeps", apart := false }
def AttemptKeepsSaid : Prop := attemptKeepsRow.holds Try.pinned (OpenSpec.ofChange attemptKeepsSpec)

/-- ITS FALSE NEIGHBOUR: 'it returns false'. Refute it at one input. -/
def attemptKeepsWrong : ChangeSpec := { name := "attemptKeeps", fn := fun _ => fun
  | [d] => { results := [.lit (.bool false)], args := [d] }
  | _ => none }
def AttemptKeepsWrongFalsely : Prop := attemptKeepsRow.holds Try.pinned (OpenSpec.ofChange attemptKeepsWrong)

/-- 'pipelinelaw30.AttemptOnce': WHATEVER THE INPUT: true; the input reads as it did. -/
def attemptOnceSpec : ChangeSpec := { name := "attemptOnce", fn := fun _ => fun
  | [d1, d2] => { results := [.lit (.bool true)], args := [d1, d2] }
  | _ => none }
def attemptOnceRow : OpenClaim := { program := "ytnlmpgnjhdeejaa", sum := "05487d28427c36daf99f2a092a5034f209f2fad0163e9e1f09063866ebf7b5c2", func := "pipeline/pipelinelaw30.AttemptOnce", spec := "attemptOnce", apart := false }
def AttemptOnceSaid : Prop := attemptOnceRow.holds Try.pinned (OpenSpec.ofChange attemptOnceSpec)

/-- ITS FALSE NEIGHBOUR: 'it returns false'. Refute it at one input. -/
def attemptOnceWrong : ChangeSpec := { name := "attemptOnce", fn := fun _ => fun
  | [d1, d2] => { results := [.lit (.bool false)], args := [d1, d2] }
  | _ => none }
def AttemptOnceWrongFalsely : Prop := attemptOnceRow.holds Try.pinned (OpenSpec.ofChange attemptOnceWrong)

/- THE SECOND FORM. 'bulk': how many values and letters a reading holds, each counted each time it is reached (what is shared counts as often as it is met; a slice's spare places count too). A statement '..UptoSaid' is the law's where the arguments, and the package variables that the reading takes, are together of bulk at most 1048576: NARROWER than '..Said'. Prove '..Said' where nothing that the law and all that it calls make is longer than what came in: it says more and counts as full. Else prove '..UptoSaid'. A law counts once. -/
mutual
def uptoBulk {H : Type} : DataW H → Nat
  | .lit (.string bytes) => bytes.length + 1
  | .lit _ => 1
  | .nil => 1
  | .ptr d => uptoBulk d + 1
  | .slice elems spare => uptoBulkAll elems + uptoBulkAll spare + 1
  | .agg parts => uptoBulkAll parts + 1
  | .iface _ d => uptoBulk d + 1
  | .map entries => uptoBulkEntries entries + 1
  | .held _ => 1
def uptoBulkAll {H : Type} : List (DataW H) → Nat
  | [] => 0
  | d :: r => uptoBulk d + uptoBulkAll r
def uptoBulkEntries {H : Type} : List (Lit × DataW H) → Nat
  | [] => 0
  | x :: r => uptoBulkEntry x + uptoBulkEntries r
def uptoBulkEntry {H : Type} : Lit × DataW H → Nat
  | (.string bytes, d) => bytes.length + uptoBulk d + 1
  | (_, d) => uptoBulk d + 1
 end
def uptoSmall : (H : Type) → List (DataW H) → Bool := fun _ ds => decide (uptoBulkAll ds ≤ 1048576)
def OpenSpec.upto (s : _root_.Go.ChangeSpec) : _root_.Go.OpenSpec := { _root_.Go.OpenSpec.ofChange s with cond := some uptoSmall }

/-- 'pipelinelaw30.AttemptValid', WHERE WHAT IT READS IS OF BULK AT MOST 1048576: true; the input reads as it did. -/
def attemptValidUptoRow : OpenClaim := { program := "ytnlmpgnjhdeejaa", sum := "05487d28427c36daf99f2a092a5034f209f2fad0163e9e1f09063866ebf7b5c2", func := "pipeline/pipelinelaw30.AttemptValid", spec := "attemptValid", apart := false, narrowed := true }
def AttemptValidUptoSaid : Prop := attemptValidUptoRow.holds Try.pinned (OpenSpec.upto attemptValidSpec)

/-- 'pipelinelaw30.AttemptBegins', WHERE WHAT IT READS IS OF BULK AT MOST 1048576: true; the input reads as it did. -/
def attemptBeginsUptoRow : OpenClaim := { program := "ytnlmpgnjhdeejaa", sum := "05487d28427c36daf99f2a092a5034f209f2fad0163e9e1f09063866ebf7b5c2", func := "pipeline/pipelinelaw30.AttemptBegins", spec := "attemptBegins", apart := false, narrowed := true }
def AttemptBeginsUptoSaid : Prop := attemptBeginsUptoRow.holds Try.pinned (OpenSpec.upto attemptBeginsSpec)

/-- 'pipelinelaw30.AttemptEnds', WHERE WHAT IT READS IS OF BULK AT MOST 1048576: true; the input reads as it did. -/
def attemptEndsUptoRow : OpenClaim := { program := "ytnlmpgnjhdeejaa", sum := "05487d28427c36daf99f2a092a5034f209f2fad0163e9e1f09063866ebf7b5c2", func := "pipeline/pipelinelaw30.AttemptEnds", spec := "attemptEnds", apart := false, narrowed := true }
def AttemptEndsUptoSaid : Prop := attemptEndsUptoRow.holds Try.pinned (OpenSpec.upto attemptEndsSpec)

/-- 'pipelinelaw30.AttemptKeeps', WHERE WHAT IT READS IS OF BULK AT MOST 1048576: true; the input reads as it did. -/
def attemptKeepsUptoRow : OpenClaim := { program := "ytnlmpgnjhdeejaa", sum := "05487d28427c36daf99f2a092a5034f209f2fad0163e9e1f09063866ebf7b5c2", func := "pipeline/pipelinelaw30.AttemptKeeps", spec := "attemptKeeps", apart := false, narrowed := true }
def AttemptKeepsUptoSaid : Prop := attemptKeepsUptoRow.holds Try.pinned (OpenSpec.upto attemptKeepsSpec)

/-- 'pipelinelaw30.AttemptOnce', WHERE WHAT IT READS IS OF BULK AT MOST 1048576: true; the input reads as it did. -/
def attemptOnceUptoRow : OpenClaim := { program := "ytnlmpgnjhdeejaa", sum := "05487d28427c36daf99f2a092a5034f209f2fad0163e9e1f09063866ebf7b5c2", func := "pipeline/pipelinelaw30.AttemptOnce", spec := "attemptOnce", apart := false, narrowed := true }
def AttemptOnceUptoSaid : Prop := attemptOnceUptoRow.holds Try.pinned (OpenSpec.upto attemptOnceSpec)

end Rows
end Go.Proofs.Ytnlmpgnjhdeejaa
