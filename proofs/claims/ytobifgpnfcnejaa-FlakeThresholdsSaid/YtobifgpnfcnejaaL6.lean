/- FlakeThresholds: a test without evidence is found to be flaky only after three flips, and stable only after 50 pairs that are no flips; a verdict never changes: true of all statuses and codes. -/
import Derived.Test.YtobifgpnfcnejaaE
import Derived.Test.YtobifgpnfcnejaaRows
namespace Go.Proofs.Ytobifgpnfcnejaa
open Go Go.Sym

set_option maxRecDepth 100000 in
theorem lifted6 (os : Os) (started : os.Started) (H : Type) (enc : TypeId × Value → H) :
    ReturnsInHanded {} Try.checked os 6 .any (Rows.flakeThresholdsSpec.pre6 enc Try.prog Try.f6 Rows.flakeThresholdsRow.domain false) (Rows.flakeThresholdsSpec.post enc Try.prog Try.f6 false true false false) := by
  refine lift_law (C := Try.checked) (P := Try.prog) rfl (by kernel_rfl) started (by kernel_rfl) Try.func6
    (ChangeSpec.witness6 (enc := enc) (C := Try.checked) false ⟨#[], #[.slice none 0 0, .slice none 0 0], []⟩ 8 (by kernel_rfl) (by kernel_rfl) (by kernel_rfl) (by kernel_rfl)) (by kernel_rfl) rfl (ts := [48, 48]) (by kernel_rfl) (by kernel_rfl) (tb := 4) (by kernel_rfl) Try.underlying4
    (fun ds hl => by match ds, hl with | [_, _], _ => rfl) ?_
  rintro ⟨l, m⟩ ok
  exact ⟨_, _, _, FSpec.pre (law6 l.1 m.1 l.2 m.2 (fun n hn => ok.1.2 n hn) (fun n hn => ok.2.2 n hn)) (Ents.cons (Ent1.mem (by repeat (first | exact List.mem_cons_self .. | refine List.mem_cons_of_mem _ ?_))) (Ents.cons (Ent1.mem (by repeat (first | exact List.mem_cons_self .. | refine List.mem_cons_of_mem _ ?_))) (Ents.nil _)))⟩
theorem over6 : Rows.flakeThresholdsRow.holds Try.pinned (OpenSpec.ofChange Rows.flakeThresholdsSpec) :=
  OpenClaim.holds_of_wide 6 Try.f6 rfl rfl rfl rfl rfl rfl rfl ⟨rfl, rfl, rfl, rfl, rfl⟩ rfl rfl rfl rfl rfl (by kernel_rfl) Try.func6 (by kernel_rfl)
    (of_decide_eq_true (by kernel_rfl)) (by unfold Func.isWrapper; first | (rw [if_pos (by decide +kernel)]; kernel_rfl) | (rw [if_neg (by decide +kernel)]; exact ⟨rfl, rfl⟩))
    (fun os started H enc _ => lifted6 os started H enc)
theorem proved : Rows.FlakeThresholdsSaid := over6
end Go.Proofs.Ytobifgpnfcnejaa
