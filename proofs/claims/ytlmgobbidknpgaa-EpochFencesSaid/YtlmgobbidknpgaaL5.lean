/- EpochFences: whatever controllers do, each epoch is returned to one controller only, the epochs of the records never decrease, each record was appended by the controller that acquired its epoch, and no record is changed: true of every list of deeds. -/
import Derived.Test.YtlmgobbidknpgaaO
import Derived.Test.YtlmgobbidknpgaaRows
namespace Go.Proofs.Ytlmgobbidknpgaa
open Go Go.Sym

set_option maxRecDepth 100000 in
theorem lifted5 (os : Os) (started : os.Started) (H : Type) (enc : TypeId × Value → H) :
    ReturnsInHanded {} Try.checked os 5 .any (Rows.epochFencesSpec.pre6 enc Try.prog Try.f5 Rows.epochFencesRow.domain false) (Rows.epochFencesSpec.post enc Try.prog Try.f5 false true false false) := by
  refine lift_law (C := Try.checked) (P := Try.prog) rfl (by kernel_rfl) started (by kernel_rfl) Try.func5
    (ChangeSpec.witness6 (enc := enc) (C := Try.checked) false ⟨#[], #[.slice none 0 0], []⟩ 8 (by kernel_rfl) (by kernel_rfl) (by kernel_rfl) (by kernel_rfl)) (by kernel_rfl) rfl (ts := [44]) (by kernel_rfl) (by kernel_rfl) (tb := 4) (by kernel_rfl) Try.underlying4
    (fun ds hl => by match ds, hl with | [_], _ => rfl) ?_
  rintro l ok
  exact ⟨_, _, _, FSpec.pre (law5 l.1 l.2 (fun u hu => (ok.2 u hu).2.2.2)) (Ents.cons (Ent1.mem (by repeat (first | exact List.mem_cons_self .. | refine List.mem_cons_of_mem _ ?_))) (Ents.nil _))⟩
theorem over5 : Rows.epochFencesRow.holds Try.pinned (OpenSpec.ofChange Rows.epochFencesSpec) :=
  OpenClaim.holds_of_wide 5 Try.f5 rfl rfl rfl rfl rfl rfl rfl ⟨rfl, rfl, rfl, rfl, rfl⟩ rfl rfl rfl rfl rfl (by kernel_rfl) Try.func5 (by kernel_rfl)
    (of_decide_eq_true (by kernel_rfl)) (by unfold Func.isWrapper; first | (rw [if_pos (by decide +kernel)]; kernel_rfl) | (rw [if_neg (by decide +kernel)]; exact ⟨rfl, rfl⟩))
    (fun os started H enc _ => lifted5 os started H enc)
theorem proved : Rows.EpochFencesSaid := over5
end Go.Proofs.Ytlmgobbidknpgaa
