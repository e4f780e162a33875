/- FlakeSteps: any evidence after any result is the document's: true of all evidence, statuses and codes. -/
import Derived.Test.YtobifgpnfcnejaaD
import Derived.Test.YtobifgpnfcnejaaRows
namespace Go.Proofs.Ytobifgpnfcnejaa
open Go Go.Sym

set_option maxRecDepth 100000 in
theorem lifted3 (os : Os) (started : os.Started) (H : Type) (enc : TypeId × Value → H) :
    ReturnsInHanded {} Try.checked os 3 .any (Rows.flakeStepsSpec.pre6 enc Try.prog Try.f3 Rows.flakeStepsRow.domain false) (Rows.flakeStepsSpec.post enc Try.prog Try.f3 false true false false) := by
  refine lift_law (C := Try.checked) (P := Try.prog) rfl (by kernel_rfl) started (by kernel_rfl) Try.func3
    (ChangeSpec.witness6 (enc := enc) (C := Try.checked) false ⟨#[], #[.agg #[.string ByteArray.empty, .int .i64 0, .int .i64 0, .int .i64 0, .int .u64 0, .int .i64 0], .int .i64 0, .int .u64 0], []⟩ 8 (by kernel_rfl) (by kernel_rfl) (by kernel_rfl) (by kernel_rfl)) (by kernel_rfl) rfl (ts := [25, 3, 23]) (by kernel_rfl) (by kernel_rfl) (tb := 4) (by kernel_rfl) Try.underlying4
    (fun ds hl => by match ds, hl with | [_, _, _], _ => rfl) ?_
  rintro ⟨e, s, c⟩ ok
  exact ⟨_, _, _, FSpec.pre (law3 e s c ⟨ok.1.2.1, ok.1.2.2.1⟩) (Ents.nil _)⟩
theorem over3 : Rows.flakeStepsRow.holds Try.pinned (OpenSpec.ofChange Rows.flakeStepsSpec) :=
  OpenClaim.holds_of_wide 3 Try.f3 rfl rfl rfl rfl rfl rfl rfl ⟨rfl, rfl, rfl, rfl, rfl⟩ rfl rfl rfl rfl rfl (by kernel_rfl) Try.func3 (by kernel_rfl)
    (of_decide_eq_true (by kernel_rfl)) (by unfold Func.isWrapper; first | (rw [if_pos (by decide +kernel)]; kernel_rfl) | (rw [if_neg (by decide +kernel)]; exact ⟨rfl, rfl⟩))
    (fun os started H enc _ => lifted3 os started H enc)
theorem proved : Rows.FlakeStepsSaid := over3
end Go.Proofs.Ytobifgpnfcnejaa
