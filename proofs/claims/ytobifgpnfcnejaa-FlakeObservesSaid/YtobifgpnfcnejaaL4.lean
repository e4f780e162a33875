/- FlakeObserves: any evidences after any results are the document's: true of all evidences and batches. -/
import Derived.Test.YtobifgpnfcnejaaF
import Derived.Test.YtobifgpnfcnejaaRows
namespace Go.Proofs.Ytobifgpnfcnejaa
open Go Go.Sym

theorem all_ba {F : List Fact} {l : List Ba} {q2 : Tr → List Fact} (h : Ent1 F (Fact.all l fun p => [Fact.arr p.1.1 3 trC p.1.2, Fact.all p.1.2 q2] ++ [])) : Ent1 F (Fact.all l baF) := fun D w hF x hx f hf => h D w hF x hx f (by
  rw [List.mem_singleton.1 hf]
  exact List.mem_cons_self ..)
set_option maxRecDepth 100000 in
theorem lifted4 (os : Os) (started : os.Started) (H : Type) (enc : TypeId × Value → H) :
    ReturnsInHanded {} Try.checked os 4 .any (Rows.flakeObservesSpec.pre6 enc Try.prog Try.f4 Rows.flakeObservesRow.domain false) (Rows.flakeObservesSpec.post enc Try.prog Try.f4 false true false false) := by
  refine lift_law (C := Try.checked) (P := Try.prog) rfl (by kernel_rfl) started (by kernel_rfl) Try.func4
    (ChangeSpec.witness6 (enc := enc) (C := Try.checked) false ⟨#[], #[.slice none 0 0, .slice none 0 0], []⟩ 8 (by kernel_rfl) (by kernel_rfl) (by kernel_rfl) (by kernel_rfl)) (by kernel_rfl) rfl (ts := [30, 31]) (by kernel_rfl) (by kernel_rfl) (tb := 4) (by kernel_rfl) Try.underlying4
    (fun ds hl => by match ds, hl with | [_, _], _ => rfl) ?_
  rintro ⟨l, m⟩ ok
  exact ⟨_, _, _, FSpec.pre (law4 l.1 m.1 l.2 m.2 (fun e he => ⟨(ok.1.2 e he).2.1, (ok.1.2 e he).2.2.1⟩)) (Ents.cons (Ent1.mem (by repeat (first | exact List.mem_cons_self .. | refine List.mem_cons_of_mem _ ?_))) (Ents.cons (Ent1.mem (by repeat (first | exact List.mem_cons_self .. | refine List.mem_cons_of_mem _ ?_))) (Ents.cons (all_ba (q2 := fun _ => [] ++ ([] ++ [])) (Ent1.mem (by repeat (first | exact List.mem_cons_self .. | refine List.mem_cons_of_mem _ ?_)))) (Ents.nil _))))⟩
theorem over4 : Rows.flakeObservesRow.holds Try.pinned (OpenSpec.ofChange Rows.flakeObservesSpec) :=
  OpenClaim.holds_of_wide 4 Try.f4 rfl rfl rfl rfl rfl rfl rfl ⟨rfl, rfl, rfl, rfl, rfl⟩ rfl rfl rfl rfl rfl (by kernel_rfl) Try.func4 (by kernel_rfl)
    (of_decide_eq_true (by kernel_rfl)) (by unfold Func.isWrapper; first | (rw [if_pos (by decide +kernel)]; kernel_rfl) | (rw [if_neg (by decide +kernel)]; exact ⟨rfl, rfl⟩))
    (fun os started H enc _ => lifted4 os started H enc)
theorem proved : Rows.FlakeObservesSaid := over4
end Go.Proofs.Ytobifgpnfcnejaa
