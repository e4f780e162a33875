/- MaskHeld: what is held back is the end of what arrived and the beginning of a longer secret: true of all secrets and strings. -/
import Derived.Test.YtadiiejpacbfbaaI
import Derived.Test.YtadiiejpacbfbaaRows
import Derived.Shelf.Vars
namespace Go.Proofs.Ytadiiejpacbfbaa
open Go Go.Sym

theorem maxLenCell (w : World) (h : w.ShapedOpen Try.prog) : ∃ m, w.cell? ⟨0, 0, none⟩ = some (.int .i64 m) :=
  Go.Proofs.cell_of_shapedOpen_int (zero := #[.int .i64 0]) (t := 3) h (of_decide_eq_true (by kernel_rfl)) (by kernel_rfl) rfl (by kernel_rfl) (by kernel_rfl) Try.underlying3
set_option maxRecDepth 100000 in
theorem lifted3 (os : Os) (started : os.Started) (H : Type) (enc : TypeId × Value → H) :
    ReturnsInHanded {} Try.checked os 3 .any (Rows.maskHeldSpec.pre6 enc Try.prog Try.f3 Rows.maskHeldRow.domain false) (Rows.maskHeldSpec.post enc Try.prog Try.f3 false true false false) := by
  refine lift_lawG (C := Try.checked) (P := Try.prog) rfl (by kernel_rfl) started (by kernel_rfl) Try.func3
    (ChangeSpec.witness6 (enc := enc) (C := Try.checked) false ⟨#[], #[.slice none 0 0, .string ByteArray.empty], []⟩ 8 (by kernel_rfl) (by kernel_rfl) (by kernel_rfl) (by kernel_rfl)) (by kernel_rfl) rfl (ts := [22, 9]) (by kernel_rfl) (by kernel_rfl) (tb := 4) (by kernel_rfl) Try.underlying4
    (fun ds hl => by match ds, hl with | [_, _], _ => rfl) [Fact.num 0] (fun W hW => AllF.cons ⟨fun h => h, maxLenCell W hW⟩ (AllF.nil _ _)) ?_
  rintro ⟨l, s⟩ ok
  exact ⟨_, _, _, FSpec.pre (law3 l.1 l.2 s) (Ents.cons (Ent1.mem (by repeat (first | exact List.mem_cons_self .. | refine List.mem_cons_of_mem _ ?_))) (Ents.cons (Ent1.mem (by repeat (first | exact List.mem_cons_self .. | refine List.mem_cons_of_mem _ ?_))) (Ents.nil _)))⟩
theorem over3 : Rows.maskHeldRow.holds Try.pinned (OpenSpec.ofChange Rows.maskHeldSpec) :=
  OpenClaim.holds_of_wide 3 Try.f3 rfl rfl rfl rfl rfl rfl rfl ⟨rfl, rfl, rfl, rfl, rfl⟩ rfl rfl rfl rfl rfl (by kernel_rfl) Try.func3 (by kernel_rfl)
    (of_decide_eq_true (by kernel_rfl)) (by unfold Func.isWrapper; first | (rw [if_pos (by decide +kernel)]; kernel_rfl) | (rw [if_neg (by decide +kernel)]; exact ⟨rfl, rfl⟩))
    (fun os started H enc _ => lifted3 os started H enc)
theorem proved : Rows.MaskHeldSaid := over3
end Go.Proofs.Ytadiiejpacbfbaa
