/- FlakeLists: the flaky tests of any evidences, and what remains after a reset, are the document's: true of all evidences and names. -/
import Derived.Test.YtobifgpnfcnejaaI
import Derived.Test.YtobifgpnfcnejaaRows
namespace Go.Proofs.Ytobifgpnfcnejaa
open Go Go.Sym

set_option maxRecDepth 100000 in
theorem lifted7 (os : Os) (started : os.Started) (H : Type) (enc : TypeId × Value → H) :
    ReturnsInHanded {} Try.checked os 7 .any (Rows.flakeListsSpec.pre6 enc Try.prog Try.f7 Rows.flakeListsRow.domain false) (Rows.flakeListsSpec.post enc Try.prog Try.f7 false true false false) := by
  refine lift_law (C := Try.checked) (P := Try.prog) rfl (by kernel_rfl) started (by kernel_rfl) Try.func7
    (ChangeSpec.witness6 (enc := enc) (C := Try.checked) false ⟨#[], #[.slice none 0 0, .string ByteArray.empty], []⟩ 8 (by kernel_rfl) (by kernel_rfl) (by kernel_rfl) (by kernel_rfl)) (by kernel_rfl) rfl (ts := [30, 9]) (by kernel_rfl) (by kernel_rfl) (tb := 4) (by kernel_rfl) Try.underlying4
    (fun ds hl => by match ds, hl with | [_, _], _ => rfl) ?_
  rintro ⟨l, s⟩ ok
  exact ⟨_, _, _, FSpec.pre (law7 l.1 l.2 s) (Ents.cons (Ent1.mem (by repeat (first | exact List.mem_cons_self .. | refine List.mem_cons_of_mem _ ?_))) (Ents.nil _))⟩
theorem over7 : Rows.flakeListsRow.holds Try.pinned (OpenSpec.ofChange Rows.flakeListsSpec) :=
  OpenClaim.holds_of_wide 7 Try.f7 rfl rfl rfl rfl rfl rfl rfl ⟨rfl, rfl, rfl, rfl, rfl⟩ rfl rfl rfl rfl rfl (by kernel_rfl) Try.func7 (by kernel_rfl)
    (of_decide_eq_true (by kernel_rfl)) (by unfold Func.isWrapper; first | (rw [if_pos (by decide +kernel)]; kernel_rfl) | (rw [if_neg (by decide +kernel)]; exact ⟨rfl, rfl⟩))
    (fun os started H enc _ => lifted7 os started H enc)
theorem proved : Rows.FlakeListsSaid := over7
end Go.Proofs.Ytobifgpnfcnejaa
