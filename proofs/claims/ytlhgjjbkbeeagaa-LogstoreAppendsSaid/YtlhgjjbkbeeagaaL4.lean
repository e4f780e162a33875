/- LogstoreAppends: any logs after a part has arrived, or the error, are the document's: true of all logs and parts. -/
import Derived.Test.YtlhgjjbkbeeagaaG
import Derived.Test.YtlhgjjbkbeeagaaRows
namespace Go.Proofs.Ytlhgjjbkbeeagaa
open Go Go.Sym

set_option maxRecDepth 100000 in
theorem lifted4 (os : Os) (started : os.Started) (H : Type) (enc : TypeId × Value → H) :
    ReturnsInHanded {} Try.checked os 4 .any (Rows.logstoreAppendsSpec.pre6 enc Try.prog Try.f4 Rows.logstoreAppendsRow.domain false) (Rows.logstoreAppendsSpec.post enc Try.prog Try.f4 false true false false) := by
  refine lift_law (C := Try.checked) (P := Try.prog) rfl (by kernel_rfl) started (by kernel_rfl) Try.func4
    (ChangeSpec.witness6 (enc := enc) (C := Try.checked) false ⟨#[], #[.slice none 0 0, .agg #[.int .i64 0, .int .i64 0, .string ByteArray.empty]], []⟩ 8 (by kernel_rfl) (by kernel_rfl) (by kernel_rfl) (by kernel_rfl)) (by kernel_rfl) rfl (ts := [22, 38]) (by kernel_rfl) (by kernel_rfl) (tb := 4) (by kernel_rfl) Try.underlying4
    (fun ds hl => by match ds, hl with | [_, _], _ => rfl) ?_
  rintro ⟨l, p⟩ _
  exact ⟨_, _, _, FSpec.pre (law4 l.1 l.2 p.1 p.2.1 p.2.2) (Ents.cons (Ent1.mem (by repeat (first | exact List.mem_cons_self .. | refine List.mem_cons_of_mem _ ?_))) (Ents.nil _))⟩
theorem over4 : Rows.logstoreAppendsRow.holds Try.pinned (OpenSpec.ofChange Rows.logstoreAppendsSpec) :=
  OpenClaim.holds_of_wide 4 Try.f4 rfl rfl rfl rfl rfl rfl rfl ⟨rfl, rfl, rfl, rfl, rfl⟩ rfl rfl rfl rfl rfl (by kernel_rfl) Try.func4 (by kernel_rfl)
    (of_decide_eq_true (by kernel_rfl)) (by unfold Func.isWrapper; first | (rw [if_pos (by decide +kernel)]; kernel_rfl) | (rw [if_neg (by decide +kernel)]; exact ⟨rfl, rfl⟩))
    (fun os started H enc _ => lifted4 os started H enc)
theorem proved : Rows.LogstoreAppendsSaid := over4
end Go.Proofs.Ytlhgjjbkbeeagaa
