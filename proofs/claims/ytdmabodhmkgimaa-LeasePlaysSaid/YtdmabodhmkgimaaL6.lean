/- LeasePlays: every sequence of calls leads to valid leases, which are those of the model: true of all sequences. -/
import Derived.Test.YtdmabodhmkgimaaJ
import Derived.Test.YtdmabodhmkgimaaRows
namespace Go.Proofs.Ytdmabodhmkgimaa
open Go Go.Sym

set_option maxRecDepth 100000 in
theorem lifted6 (os : Os) (started : os.Started) (H : Type) (enc : TypeId × Value → H) :
    ReturnsInHanded {} Try.checked os 6 .any (Rows.leasePlaysSpec.pre6 enc Try.prog Try.f6 Rows.leasePlaysRow.domain false) (Rows.leasePlaysSpec.post enc Try.prog Try.f6 false true false false) := by
  refine lift_law (C := Try.checked) (P := Try.prog) rfl (by kernel_rfl) started (by kernel_rfl) Try.func6
    (ChangeSpec.witness6 (enc := enc) (C := Try.checked) false ⟨#[], #[.slice none 0 0], []⟩ 8 (by kernel_rfl) (by kernel_rfl) (by kernel_rfl) (by kernel_rfl)) (by kernel_rfl) rfl (ts := [49]) (by kernel_rfl) (by kernel_rfl) (tb := 4) (by kernel_rfl) Try.underlying4
    (fun ds hl => by match ds, hl with | [_], _ => rfl) ?_
  rintro l ok
  exact ⟨_, _, _, FSpec.pre (law6 l.1 l.2) (Ents.cons (Ent1.mem (by repeat (first | exact List.mem_cons_self .. | refine List.mem_cons_of_mem _ ?_))) (Ents.nil _))⟩
theorem over6 : Rows.leasePlaysRow.holds Try.pinned (OpenSpec.ofChange Rows.leasePlaysSpec) :=
  OpenClaim.holds_of_wide 6 Try.f6 rfl rfl rfl rfl rfl rfl rfl ⟨rfl, rfl, rfl, rfl, rfl⟩ rfl rfl rfl rfl rfl (by kernel_rfl) Try.func6 (by kernel_rfl)
    (of_decide_eq_true (by kernel_rfl)) (by unfold Func.isWrapper; first | (rw [if_pos (by decide +kernel)]; kernel_rfl) | (rw [if_neg (by decide +kernel)]; exact ⟨rfl, rfl⟩))
    (fun os started H enc _ => lifted6 os started H enc)
theorem proved : Rows.LeasePlaysSaid := over6
end Go.Proofs.Ytdmabodhmkgimaa
