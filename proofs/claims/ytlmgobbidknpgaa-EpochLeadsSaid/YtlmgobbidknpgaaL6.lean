/- EpochLeads: whether any controller leads in any store is the document's, and two that lead are the same: true of every store, names and numbers. -/
import Derived.Test.YtlmgobbidknpgaaG
import Derived.Test.YtlmgobbidknpgaaRows
namespace Go.Proofs.Ytlmgobbidknpgaa
open Go Go.Sym

def stoOf (s : Int × ByteArray × Int × (Value × List (Value × List Int)) × Value × List Int) : Sto := ⟨s.1, s.2.1, s.2.2.1, s.2.2.2.1.2.map (·.2), s.2.2.2.2.2⟩
theorem rows_of {F : List Fact} {v : Value} {l : List (Value × List Int)} (h1 : Ent1 F (Fact.arr v 1 encH l)) (h2 : Ent1 F (Fact.all l fun p => [Fact.arr p.1 1 encB p.2, Fact.all p.2 fun _ => []])) : Ent1 F (Fact.nest v 1 encV (l.map (·.2)) relB) :=
  Ent1.nestOf (enc' := encV) (rel := relB) (fun p => p.1) (fun p => p.2) (fun _ => rfl) (fun p => Ents.cons (Ent1.mem (by repeat (first | exact List.mem_cons_self .. | refine List.mem_cons_of_mem _ ?_))) (Ents.nil _)) h1 h2

set_option maxRecDepth 100000 in
theorem lifted6 (os : Os) (started : os.Started) (H : Type) (enc : TypeId × Value → H) :
    ReturnsInHanded {} Try.checked os 6 .any (Rows.epochLeadsSpec.pre6 enc Try.prog Try.f6 Rows.epochLeadsRow.domain false) (Rows.epochLeadsSpec.post enc Try.prog Try.f6 false true false false) := by
  refine lift_law (C := Try.checked) (P := Try.prog) rfl (by kernel_rfl) started (by kernel_rfl) Try.func6
    (ChangeSpec.witness6 (enc := enc) (C := Try.checked) false ⟨#[], #[.agg #[.int .i64 0, .string ByteArray.empty, .int .i64 0, .slice none 0 0, .slice none 0 0], .agg #[.string ByteArray.empty, .string ByteArray.empty], .agg #[.int .i64 0, .int .i64 0, .int .i64 0]], []⟩ 8 (by kernel_rfl) (by kernel_rfl) (by kernel_rfl) (by kernel_rfl)) (by kernel_rfl) rfl (ts := [25, 55, 56]) (by kernel_rfl) (by kernel_rfl) (tb := 4) (by kernel_rfl) Try.underlying4
    (fun ds hl => by match ds, hl with | [_, _, _], _ => rfl) ?_
  rintro ⟨s, ids, x⟩ _
  exact ⟨_, _, _, FSpec.pre (law6 (stoOf s) s.2.2.2.1.1 s.2.2.2.2.1 ids.1 ids.2 x.1 x.2.1 x.2.2) (Ents.cons (rows_of (Ent1.mem (by repeat (first | exact List.mem_cons_self .. | refine List.mem_cons_of_mem _ ?_))) (Ent1.mem (by repeat (first | exact List.mem_cons_self .. | refine List.mem_cons_of_mem _ ?_)))) (Ents.cons (Ent1.mem (by repeat (first | exact List.mem_cons_self .. | refine List.mem_cons_of_mem _ ?_))) (Ents.nil _)))⟩
theorem over6 : Rows.epochLeadsRow.holds Try.pinned (OpenSpec.ofChange Rows.epochLeadsSpec) :=
  OpenClaim.holds_of_wide 6 Try.f6 rfl rfl rfl rfl rfl rfl rfl ⟨rfl, rfl, rfl, rfl, rfl⟩ rfl rfl rfl rfl rfl (by kernel_rfl) Try.func6 (by kernel_rfl)
    (of_decide_eq_true (by kernel_rfl)) (by unfold Func.isWrapper; first | (rw [if_pos (by decide +kernel)]; kernel_rfl) | (rw [if_neg (by decide +kernel)]; exact ⟨rfl, rfl⟩))
    (fun os started H enc _ => lifted6 os started H enc)
theorem proved : Rows.EpochLeadsSaid := over6
end Go.Proofs.Ytlmgobbidknpgaa
