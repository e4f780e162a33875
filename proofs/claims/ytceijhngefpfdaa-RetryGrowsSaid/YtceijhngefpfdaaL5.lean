/- RetryGrows: delays do not decrease, each is at most twice the one before, and none exceeds the limit: true of every rule and number. -/
import Derived.Test.YtceijhngefpfdaaF
import Derived.Test.YtceijhngefpfdaaRows
namespace Go.Proofs.Ytceijhngefpfdaa
open Go Go.Sym

set_option maxRecDepth 100000 in
theorem lifted5 (os : Os) (started : os.Started) (H : Type) (enc : TypeId × Value → H) :
    ReturnsInHanded {} Try.checked os 5 .any (Rows.retryGrowsSpec.pre6 enc Try.prog Try.f5 Rows.retryGrowsRow.domain false) (Rows.retryGrowsSpec.post enc Try.prog Try.f5 false true false false) := by
  refine lift_law (C := Try.checked) (P := Try.prog) rfl (by kernel_rfl) started (by kernel_rfl) Try.func5
    (ChangeSpec.witness6 (enc := enc) (C := Try.checked) false ⟨#[], #[.agg #[.int .i64 0, .slice none 0 0, .int .i64 0, .int .i64 0], .int .i64 0], []⟩ 8 (by kernel_rfl) (by kernel_rfl) (by kernel_rfl) (by kernel_rfl)) (by kernel_rfl) rfl (ts := [24, 3]) (by kernel_rfl) (by kernel_rfl) (tb := 4) (by kernel_rfl) Try.underlying4
    (fun ds hl => by match ds, hl with | [_, _], _ => rfl) ?_
  rintro ⟨s, n⟩ ⟨_, hn⟩
  exact ⟨_, _, _, FSpec.pre (law5 ⟨s.1, s.2.1.2, s.2.2.1, s.2.2.2⟩ s.2.1.1 n hn) (Ents.cons (Ent1.mem (by repeat (first | exact List.mem_cons_self .. | refine List.mem_cons_of_mem _ ?_))) (Ents.nil _))⟩
theorem over5 : Rows.retryGrowsRow.holds Try.pinned (OpenSpec.ofChange Rows.retryGrowsSpec) :=
  OpenClaim.holds_of_wide 5 Try.f5 rfl rfl rfl rfl rfl rfl rfl ⟨rfl, rfl, rfl, rfl, rfl⟩ rfl rfl rfl rfl rfl (by kernel_rfl) Try.func5 (by kernel_rfl)
    (of_decide_eq_true (by kernel_rfl)) (by unfold Func.isWrapper; first | (rw [if_pos (by decide +kernel)]; kernel_rfl) | (rw [if_neg (by decide +kernel)]; exact ⟨rfl, rfl⟩))
    (fun os started H enc _ => lifted5 os started H enc)
theorem proved : Rows.RetryGrowsSaid := over5
end Go.Proofs.Ytceijhngefpfdaa
