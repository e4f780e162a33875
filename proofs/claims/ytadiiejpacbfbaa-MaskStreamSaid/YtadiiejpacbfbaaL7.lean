/- MaskStream: a log that arrives in any parts is masked like the whole log: true of all secrets and parts. -/
import Derived.Test.YtadiiejpacbfbaaJ
import Derived.Test.YtadiiejpacbfbaaRows
import Derived.Shelf.Vars
namespace Go.Proofs.Ytadiiejpacbfbaa
open Go Go.Sym

theorem maxLenCell (w : World) (h : w.ShapedOpen Try.prog) : ∃ m, w.cell? ⟨0, 0, none⟩ = some (.int .i64 m) :=
  Go.Proofs.cell_of_shapedOpen_int (zero := #[.int .i64 0]) (t := 3) h (of_decide_eq_true (by kernel_rfl)) (by kernel_rfl) rfl (by kernel_rfl) (by kernel_rfl) Try.underlying3
set_option maxRecDepth 100000 in
theorem lifted7 (os : Os) (started : os.Started) (H : Type) (enc : TypeId × Value → H) :
    ReturnsInHanded {} Try.checked os 7 .any (Rows.maskStreamSpec.pre6 enc Try.prog Try.f7 Rows.maskStreamRow.domain false) (Rows.maskStreamSpec.post enc Try.prog Try.f7 false true false false) := by
  refine lift_lawG (C := Try.checked) (P := Try.prog) rfl (by kernel_rfl) started (by kernel_rfl) Try.func7
    (ChangeSpec.witness6 (enc := enc) (C := Try.checked) false ⟨#[], #[.slice none 0 0, .slice none 0 0], []⟩ 8 (by kernel_rfl) (by kernel_rfl) (by kernel_rfl) (by kernel_rfl)) (by kernel_rfl) rfl (ts := [22, 26]) (by kernel_rfl) (by kernel_rfl) (tb := 4) (by kernel_rfl) Try.underlying4
    (fun ds hl => by match ds, hl with | [_, _], _ => rfl) [Fact.num 0] (fun W hW => AllF.cons ⟨fun h => h, maxLenCell W hW⟩ (AllF.nil _ _)) ?_
  rintro ⟨l, p⟩ ok
  exact ⟨_, _, _, FSpec.pre (law7 l.1 l.2 p.1 p.2) (Ents.cons (Ent1.mem (by repeat (first | exact List.mem_cons_self .. | refine List.mem_cons_of_mem _ ?_))) (Ents.cons (Ent1.mem (by repeat (first | exact List.mem_cons_self .. | refine List.mem_cons_of_mem _ ?_))) (Ents.cons (Ent1.mem (by repeat (first | exact List.mem_cons_self .. | refine List.mem_cons_of_mem _ ?_))) (Ents.nil _))))⟩
theorem over7 : Rows.maskStreamRow.holds Try.pinned (OpenSpec.ofChange Rows.maskStreamSpec) :=
  OpenClaim.holds_of_wide 7 Try.f7 rfl rfl rfl rfl rfl rfl rfl ⟨rfl, rfl, rfl, rfl, rfl⟩ rfl rfl rfl rfl rfl (by kernel_rfl) Try.func7 (by kernel_rfl)
    (of_decide_eq_true (by kernel_rfl)) (by unfold Func.isWrapper; first | (rw [if_pos (by decide +kernel)]; kernel_rfl) | (rw [if_neg (by decide +kernel)]; exact ⟨rfl, rfl⟩))
    (fun os started H enc _ => lifted7 os started H enc)
theorem proved : Rows.MaskStreamSaid := over7
end Go.Proofs.Ytadiiejpacbfbaa
