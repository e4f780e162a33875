/- MaskFeeds: any masking after any string, and what is written, are the document's: true of all maskings and strings. -/
import Derived.Test.YtadiiejpacbfbaaH
import Derived.Test.YtadiiejpacbfbaaRows
import Derived.Shelf.Vars
namespace Go.Proofs.Ytadiiejpacbfbaa
open Go Go.Sym

theorem maxLenCell (w : World) (h : w.ShapedOpen Try.prog) : ∃ m, w.cell? ⟨0, 0, none⟩ = some (.int .i64 m) :=
  Go.Proofs.cell_of_shapedOpen_int (zero := #[.int .i64 0]) (t := 3) h (of_decide_eq_true (by kernel_rfl)) (by kernel_rfl) rfl (by kernel_rfl) (by kernel_rfl) Try.underlying3
set_option maxRecDepth 100000 in
theorem lifted6 (os : Os) (started : os.Started) (H : Type) (enc : TypeId × Value → H) :
    ReturnsInHanded {} Try.checked os 6 .any (Rows.maskFeedsSpec.pre6 enc Try.prog Try.f6 Rows.maskFeedsRow.domain false) (Rows.maskFeedsSpec.post enc Try.prog Try.f6 false true false false) := by
  refine lift_lawG (C := Try.checked) (P := Try.prog) rfl (by kernel_rfl) started (by kernel_rfl) Try.func6
    (ChangeSpec.witness6 (enc := enc) (C := Try.checked) false ⟨#[], #[.agg #[.slice none 0 0, .string ByteArray.empty], .string ByteArray.empty], []⟩ 8 (by kernel_rfl) (by kernel_rfl) (by kernel_rfl) (by kernel_rfl)) (by kernel_rfl) rfl (ts := [30, 9]) (by kernel_rfl) (by kernel_rfl) (tb := 4) (by kernel_rfl) Try.underlying4
    (fun ds hl => by match ds, hl with | [_, _], _ => rfl) [Fact.num 0] (fun W hW => AllF.cons ⟨fun h => h, maxLenCell W hW⟩ (AllF.nil _ _)) ?_
  rintro ⟨m, s⟩ ok
  exact ⟨_, _, _, FSpec.pre (law6 m.1.1 m.1.2 m.2 s) (Ents.cons (Ent1.mem (by repeat (first | exact List.mem_cons_self .. | refine List.mem_cons_of_mem _ ?_))) (Ents.cons (Ent1.mem (by repeat (first | exact List.mem_cons_self .. | refine List.mem_cons_of_mem _ ?_))) (Ents.nil _)))⟩
theorem over6 : Rows.maskFeedsRow.holds Try.pinned (OpenSpec.ofChange Rows.maskFeedsSpec) :=
  OpenClaim.holds_of_wide 6 Try.f6 rfl rfl rfl rfl rfl rfl rfl ⟨rfl, rfl, rfl, rfl, rfl⟩ rfl rfl rfl rfl rfl (by kernel_rfl) Try.func6 (by kernel_rfl)
    (of_decide_eq_true (by kernel_rfl)) (by unfold Func.isWrapper; first | (rw [if_pos (by decide +kernel)]; kernel_rfl) | (rw [if_neg (by decide +kernel)]; exact ⟨rfl, rfl⟩))
    (fun os started H enc _ => lifted6 os started H enc)
theorem proved : Rows.MaskFeedsSaid := over6
end Go.Proofs.Ytadiiejpacbfbaa
