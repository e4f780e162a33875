/- LeaseGrants: a lease that is granted has the next token, with the errors in their order: true of all leases and asks. -/
import Derived.Test.YtdmabodhmkgimaaI
import Derived.Test.YtdmabodhmkgimaaRows
namespace Go.Proofs.Ytdmabodhmkgimaa
open Go Go.Sym

set_option maxRecDepth 100000 in
theorem lifted4 (os : Os) (started : os.Started) (H : Type) (enc : TypeId × Value → H) :
    ReturnsInHanded {} Try.checked os 4 .any (Rows.leaseGrantsSpec.pre6 enc Try.prog Try.f4 Rows.leaseGrantsRow.domain false) (Rows.leaseGrantsSpec.post enc Try.prog Try.f4 false true false false) := by
  refine lift_law (C := Try.checked) (P := Try.prog) rfl (by kernel_rfl) started (by kernel_rfl) Try.func4
    (ChangeSpec.witness6 (enc := enc) (C := Try.checked) false ⟨#[], #[.agg #[.int .i64 0, .slice none 0 0], .agg #[.string ByteArray.empty, .string ByteArray.empty, .int .i64 0, .string ByteArray.empty, .int .i64 0, .int .i64 0]], []⟩ 8 (by kernel_rfl) (by kernel_rfl) (by kernel_rfl) (by kernel_rfl)) (by kernel_rfl) rfl (ts := [24, 35]) (by kernel_rfl) (by kernel_rfl) (tb := 4) (by kernel_rfl) Try.underlying4
    (fun ds hl => by match ds, hl with | [_, _], _ => rfl) ?_
  rintro ⟨l, a⟩ ok
  exact ⟨_, _, _, FSpec.pre (law4 l.1 l.2.1 l.2.2 a.1.1 a.1.2 a.2.1 a.2.2.1 a.2.2.2.1 a.2.2.2.2) (Ents.cons (Ent1.mem (by repeat (first | exact List.mem_cons_self .. | refine List.mem_cons_of_mem _ ?_))) (Ents.nil _))⟩
theorem over4 : Rows.leaseGrantsRow.holds Try.pinned (OpenSpec.ofChange Rows.leaseGrantsSpec) :=
  OpenClaim.holds_of_wide 4 Try.f4 rfl rfl rfl rfl rfl rfl rfl ⟨rfl, rfl, rfl, rfl, rfl⟩ rfl rfl rfl rfl rfl (by kernel_rfl) Try.func4 (by kernel_rfl)
    (of_decide_eq_true (by kernel_rfl)) (by unfold Func.isWrapper; first | (rw [if_pos (by decide +kernel)]; kernel_rfl) | (rw [if_neg (by decide +kernel)]; exact ⟨rfl, rfl⟩))
    (fun os started H enc _ => lifted4 os started H enc)
theorem proved : Rows.LeaseGrantsSaid := over4
end Go.Proofs.Ytdmabodhmkgimaa
