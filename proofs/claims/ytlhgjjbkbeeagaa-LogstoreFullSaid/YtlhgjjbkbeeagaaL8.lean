/- LogstoreFull: a log has at most MaxLog bytes: true of all numbers. -/
import Derived.Test.YtlhgjjbkbeeagaaH
import Derived.Test.YtlhgjjbkbeeagaaRows
namespace Go.Proofs.Ytlhgjjbkbeeagaa
open Go Go.Sym

set_option maxRecDepth 100000 in
theorem lifted8 (os : Os) (started : os.Started) (H : Type) (enc : TypeId × Value → H) :
    ReturnsInHanded {} Try.checked os 8 .any (Rows.logstoreFullSpec.pre6 enc Try.prog Try.f8 Rows.logstoreFullRow.domain false) (Rows.logstoreFullSpec.post enc Try.prog Try.f8 false true false false) := by
  refine lift_law (C := Try.checked) (P := Try.prog) rfl (by kernel_rfl) started (by kernel_rfl) Try.func8
    (ChangeSpec.witness6 (enc := enc) (C := Try.checked) false ⟨#[], #[.int .u8 0, .int .u8 0], []⟩ 8 (by kernel_rfl) (by kernel_rfl) (by kernel_rfl) (by kernel_rfl)) (by kernel_rfl) rfl (ts := [5, 5]) (by kernel_rfl) (by kernel_rfl) (tb := 4) (by kernel_rfl) Try.underlying4
    (fun ds hl => by match ds, hl with | [_, _], _ => rfl) ?_
  rintro ⟨a, b⟩ ⟨h1, h2⟩
  exact ⟨_, _, _, law8 a b h1 h2⟩
theorem over8 : Rows.logstoreFullRow.holds Try.pinned (OpenSpec.ofChange Rows.logstoreFullSpec) :=
  OpenClaim.holds_of_wide 8 Try.f8 rfl rfl rfl rfl rfl rfl rfl ⟨rfl, rfl, rfl, rfl, rfl⟩ rfl rfl rfl rfl rfl (by kernel_rfl) Try.func8 (by kernel_rfl)
    (of_decide_eq_true (by kernel_rfl)) (by unfold Func.isWrapper; first | (rw [if_pos (by decide +kernel)]; kernel_rfl) | (rw [if_neg (by decide +kernel)]; exact ⟨rfl, rfl⟩))
    (fun os started H enc _ => lifted8 os started H enc)
theorem proved : Rows.LogstoreFullSaid := over8
end Go.Proofs.Ytlhgjjbkbeeagaa
