/- LeaseValid: Valid accepts exactly the valid leases, and New returns some: true of all leases. -/
import Derived.Test.YtdmabodhmkgimaaI
import Derived.Test.YtdmabodhmkgimaaRows
namespace Go.Proofs.Ytdmabodhmkgimaa
open Go Go.Sym

set_option maxRecDepth 100000 in
theorem lifted3 (os : Os) (started : os.Started) (H : Type) (enc : TypeId × Value → H) :
    ReturnsInHanded {} Try.checked os 3 .any (Rows.leaseValidSpec.pre6 enc Try.prog Try.f3 Rows.leaseValidRow.domain false) (Rows.leaseValidSpec.post enc Try.prog Try.f3 false true false false) := by
  refine lift_law (C := Try.checked) (P := Try.prog) rfl (by kernel_rfl) started (by kernel_rfl) Try.func3
    (ChangeSpec.witness6 (enc := enc) (C := Try.checked) false ⟨#[], #[.agg #[.int .i64 0, .slice none 0 0]], []⟩ 8 (by kernel_rfl) (by kernel_rfl) (by kernel_rfl) (by kernel_rfl)) (by kernel_rfl) rfl (ts := [24]) (by kernel_rfl) (by kernel_rfl) (tb := 4) (by kernel_rfl) Try.underlying4
    (fun ds hl => by match ds, hl with | [_], _ => rfl) ?_
  rintro l ok
  exact ⟨_, _, _, FSpec.pre (law3 l.1 l.2.1 l.2.2) (Ents.cons (Ent1.mem (by repeat (first | exact List.mem_cons_self .. | refine List.mem_cons_of_mem _ ?_))) (Ents.nil _))⟩
theorem over3 : Rows.leaseValidRow.holds Try.pinned (OpenSpec.ofChange Rows.leaseValidSpec) :=
  OpenClaim.holds_of_wide 3 Try.f3 rfl rfl rfl rfl rfl rfl rfl ⟨rfl, rfl, rfl, rfl, rfl⟩ rfl rfl rfl rfl rfl (by kernel_rfl) Try.func3 (by kernel_rfl)
    (of_decide_eq_true (by kernel_rfl)) (by unfold Func.isWrapper; first | (rw [if_pos (by decide +kernel)]; kernel_rfl) | (rw [if_neg (by decide +kernel)]; exact ⟨rfl, rfl⟩))
    (fun os started H enc _ => lifted3 os started H enc)
theorem proved : Rows.LeaseValidSaid := over3
end Go.Proofs.Ytdmabodhmkgimaa
