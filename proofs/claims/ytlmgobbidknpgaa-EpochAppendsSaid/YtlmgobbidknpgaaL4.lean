/- EpochAppends: what appending to any store, and reading it, returns is the document's: true of every store, record and number. -/
import Derived.Test.YtlmgobbidknpgaaI
import Derived.Test.YtlmgobbidknpgaaJ
import Derived.Test.YtlmgobbidknpgaaRows
namespace Go.Proofs.Ytlmgobbidknpgaa
open Go Go.Sym

set_option maxRecDepth 100000 in
theorem lifted4 (os : Os) (started : os.Started) (H : Type) (enc : TypeId × Value → H) :
    ReturnsInHanded {} Try.checked os 4 .any (Rows.epochAppendsSpec.pre6 enc Try.prog Try.f4 Rows.epochAppendsRow.domain false) (Rows.epochAppendsSpec.post enc Try.prog Try.f4 false true false false) := by
  refine lift_law (C := Try.checked) (P := Try.prog) rfl (by kernel_rfl) started (by kernel_rfl) Try.func4
    (ChangeSpec.witness6 (enc := enc) (C := Try.checked) false ⟨#[], #[.agg #[.int .i64 0, .string ByteArray.empty, .int .i64 0, .slice none 0 0, .slice none 0 0], .agg #[.int .i64 0, .int .i64 0, .slice none 0 0], .int .i64 0], []⟩ 8 (by kernel_rfl) (by kernel_rfl) (by kernel_rfl) (by kernel_rfl)) (by kernel_rfl) rfl (ts := [25, 37, 3]) (by kernel_rfl) (by kernel_rfl) (tb := 4) (by kernel_rfl) Try.underlying4
    (fun ds hl => by match ds, hl with | [_, _, _], _ => rfl) ?_
  rintro ⟨s, w, frm⟩ _
  exact ⟨_, _, _, FSpec.pre (law4 (stoOf s) s.2.2.2.1.1 s.2.2.2.2.1 w.2.2.1 w.1 w.2.1 frm w.2.2.2) (Ents.cons (rows_of (Ent1.mem (by repeat (first | exact List.mem_cons_self .. | refine List.mem_cons_of_mem _ ?_))) (Ent1.mem (by repeat (first | exact List.mem_cons_self .. | refine List.mem_cons_of_mem _ ?_)))) (Ents.cons (Ent1.mem (by repeat (first | exact List.mem_cons_self .. | refine List.mem_cons_of_mem _ ?_))) (Ents.cons (Ent1.mem (by repeat (first | exact List.mem_cons_self .. | refine List.mem_cons_of_mem _ ?_))) (Ents.nil _))))⟩
theorem over4 : Rows.epochAppendsRow.holds Try.pinned (OpenSpec.ofChange Rows.epochAppendsSpec) :=
  OpenClaim.holds_of_wide 4 Try.f4 rfl rfl rfl rfl rfl rfl rfl ⟨rfl, rfl, rfl, rfl, rfl⟩ rfl rfl rfl rfl rfl (by kernel_rfl) Try.func4 (by kernel_rfl)
    (of_decide_eq_true (by kernel_rfl)) (by unfold Func.isWrapper; first | (rw [if_pos (by decide +kernel)]; kernel_rfl) | (rw [if_neg (by decide +kernel)]; exact ⟨rfl, rfl⟩))
    (fun os started H enc _ => lifted4 os started H enc)
theorem proved : Rows.EpochAppendsSaid := over4
end Go.Proofs.Ytlmgobbidknpgaa
