/- FlakeExact: the evidence about a test depends only on its own results, and a test whose results do not change while the code stays the same is never flaky: true of all batches and names. -/
import Derived.Test.YtobifgpnfcnejaaH
import Derived.Test.YtobifgpnfcnejaaRows
namespace Go.Proofs.Ytobifgpnfcnejaa
open Go Go.Sym

theorem all_ba {F : List Fact} {l : List Ba} {q2 : Tr → List Fact} (h : Ent1 F (Fact.all l fun p => [Fact.arr p.1.1 3 trC p.1.2, Fact.all p.1.2 q2] ++ [])) : Ent1 F (Fact.all l baF) := fun D w hF x hx f hf => h D w hF x hx f (by
  rw [List.mem_singleton.1 hf]
  exact List.mem_cons_self ..)
set_option maxRecDepth 100000 in
theorem lifted5 (os : Os) (started : os.Started) (H : Type) (enc : TypeId × Value → H) :
    ReturnsInHanded {} Try.checked os 5 .any (Rows.flakeExactSpec.pre6 enc Try.prog Try.f5 Rows.flakeExactRow.domain false) (Rows.flakeExactSpec.post enc Try.prog Try.f5 false true false false) := by
  refine lift_law (C := Try.checked) (P := Try.prog) rfl (by kernel_rfl) started (by kernel_rfl) Try.func5
    (ChangeSpec.witness6 (enc := enc) (C := Try.checked) false ⟨#[], #[.slice none 0 0, .string ByteArray.empty], []⟩ 8 (by kernel_rfl) (by kernel_rfl) (by kernel_rfl) (by kernel_rfl)) (by kernel_rfl) rfl (ts := [31, 9]) (by kernel_rfl) (by kernel_rfl) (tb := 4) (by kernel_rfl) Try.underlying4
    (fun ds hl => by match ds, hl with | [_, _], _ => rfl) ?_
  rintro ⟨l, s⟩ ok
  exact ⟨_, _, _, FSpec.pre (law5 l.1 l.2 s) (Ents.cons (Ent1.mem (by repeat (first | exact List.mem_cons_self .. | refine List.mem_cons_of_mem _ ?_))) (Ents.cons (all_ba (q2 := fun _ => [] ++ ([] ++ [])) (Ent1.mem (by repeat (first | exact List.mem_cons_self .. | refine List.mem_cons_of_mem _ ?_)))) (Ents.nil _)))⟩
theorem over5 : Rows.flakeExactRow.holds Try.pinned (OpenSpec.ofChange Rows.flakeExactSpec) :=
  OpenClaim.holds_of_wide 5 Try.f5 rfl rfl rfl rfl rfl rfl rfl ⟨rfl, rfl, rfl, rfl, rfl⟩ rfl rfl rfl rfl rfl (by kernel_rfl) Try.func5 (by kernel_rfl)
    (of_decide_eq_true (by kernel_rfl)) (by unfold Func.isWrapper; first | (rw [if_pos (by decide +kernel)]; kernel_rfl) | (rw [if_neg (by decide +kernel)]; exact ⟨rfl, rfl⟩))
    (fun os started H enc _ => lifted5 os started H enc)
theorem proved : Rows.FlakeExactSaid := over5
end Go.Proofs.Ytobifgpnfcnejaa
