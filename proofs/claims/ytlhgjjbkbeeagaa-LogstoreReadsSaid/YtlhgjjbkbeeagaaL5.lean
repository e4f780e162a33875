/- LogstoreReads: what is found and read of any logs is the document's: true of all logs, references and numbers. -/
import Derived.Test.YtlhgjjbkbeeagaaF
import Derived.Test.YtlhgjjbkbeeagaaRows
namespace Go.Proofs.Ytlhgjjbkbeeagaa
open Go Go.Sym

set_option maxRecDepth 100000 in
theorem lifted5 (os : Os) (started : os.Started) (H : Type) (enc : TypeId × Value → H) :
    ReturnsInHanded {} Try.checked os 5 .any (Rows.logstoreReadsSpec.pre6 enc Try.prog Try.f5 Rows.logstoreReadsRow.domain false) (Rows.logstoreReadsSpec.post enc Try.prog Try.f5 false true false false) := by
  refine lift_law (C := Try.checked) (P := Try.prog) rfl (by kernel_rfl) started (by kernel_rfl) Try.func5
    (ChangeSpec.witness6 (enc := enc) (C := Try.checked) false ⟨#[], #[.slice none 0 0, .agg #[.string ByteArray.empty, .string ByteArray.empty], .agg #[.int .i64 0, .int .i64 0, .int .i64 0]], []⟩ 8 (by kernel_rfl) (by kernel_rfl) (by kernel_rfl) (by kernel_rfl)) (by kernel_rfl) rfl (ts := [22, 24, 44]) (by kernel_rfl) (by kernel_rfl) (tb := 4) (by kernel_rfl) Try.underlying4
    (fun ds hl => by match ds, hl with | [_, _, _], _ => rfl) ?_
  rintro ⟨l, r, n⟩ _
  exact ⟨_, _, _, FSpec.pre (law5 l.1 l.2 r.1 r.2 n.1 n.2.1 n.2.2) (Ents.cons (Ent1.mem (by repeat (first | exact List.mem_cons_self .. | refine List.mem_cons_of_mem _ ?_))) (Ents.nil _))⟩
theorem over5 : Rows.logstoreReadsRow.holds Try.pinned (OpenSpec.ofChange Rows.logstoreReadsSpec) :=
  OpenClaim.holds_of_wide 5 Try.f5 rfl rfl rfl rfl rfl rfl rfl ⟨rfl, rfl, rfl, rfl, rfl⟩ rfl rfl rfl rfl rfl (by kernel_rfl) Try.func5 (by kernel_rfl)
    (of_decide_eq_true (by kernel_rfl)) (by unfold Func.isWrapper; first | (rw [if_pos (by decide +kernel)]; kernel_rfl) | (rw [if_neg (by decide +kernel)]; exact ⟨rfl, rfl⟩))
    (fun os started H enc _ => lifted5 os started H enc)
theorem proved : Rows.LogstoreReadsSaid := over5
end Go.Proofs.Ytlhgjjbkbeeagaa
