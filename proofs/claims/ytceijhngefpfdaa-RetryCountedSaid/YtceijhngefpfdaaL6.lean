/- RetryCounted: which classes count: true of every number. -/
import Derived.Test.YtceijhngefpfdaaE
import Derived.Test.YtceijhngefpfdaaRows
namespace Go.Proofs.Ytceijhngefpfdaa
open Go Go.Sym

set_option maxRecDepth 100000 in
theorem lifted6 (os : Os) (started : os.Started) (H : Type) (enc : TypeId × Value → H) :
    ReturnsInHanded {} Try.checked os 6 .any (Rows.retryCountedSpec.pre6 enc Try.prog Try.f6 Rows.retryCountedRow.domain false) (Rows.retryCountedSpec.post enc Try.prog Try.f6 false true false false) := by
  refine lift_law (C := Try.checked) (P := Try.prog) rfl (by kernel_rfl) started (by kernel_rfl) Try.func6
    (ChangeSpec.witness6 (enc := enc) (C := Try.checked) false ⟨#[], #[.int .i64 0], []⟩ 8 (by kernel_rfl) (by kernel_rfl) (by kernel_rfl) (by kernel_rfl)) (by kernel_rfl) rfl (ts := [3]) (by kernel_rfl) (by kernel_rfl) (tb := 4) (by kernel_rfl) Try.underlying4
    (fun ds hl => by match ds, hl with | [_], _ => rfl) ?_
  rintro n _
  exact ⟨_, _, _, law6 n⟩
theorem over6 : Rows.retryCountedRow.holds Try.pinned (OpenSpec.ofChange Rows.retryCountedSpec) :=
  OpenClaim.holds_of_wide 6 Try.f6 rfl rfl rfl rfl rfl rfl rfl ⟨rfl, rfl, rfl, rfl, rfl⟩ rfl rfl rfl rfl rfl (by kernel_rfl) Try.func6 (by kernel_rfl)
    (of_decide_eq_true (by kernel_rfl)) (by unfold Func.isWrapper; first | (rw [if_pos (by decide +kernel)]; kernel_rfl) | (rw [if_neg (by decide +kernel)]; exact ⟨rfl, rfl⟩))
    (fun os started H enc _ => lifted6 os started H enc)
theorem proved : Rows.RetryCountedSaid := over6
end Go.Proofs.Ytceijhngefpfdaa
