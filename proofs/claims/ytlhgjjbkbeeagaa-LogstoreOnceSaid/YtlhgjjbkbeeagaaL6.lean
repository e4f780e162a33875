/- LogstoreOnce: however often and in whatever order parts of a text are sent, the log is a beginning of the text and contains each byte once; the other logs do not change: true of all texts and parts. -/
import Derived.Test.YtlhgjjbkbeeagaaI
import Derived.Test.YtlhgjjbkbeeagaaRows
namespace Go.Proofs.Ytlhgjjbkbeeagaa
open Go Go.Sym

set_option maxRecDepth 100000 in
theorem lifted6 (os : Os) (started : os.Started) (H : Type) (enc : TypeId × Value → H) :
    ReturnsInHanded {} Try.checked os 6 .any (Rows.logstoreOnceSpec.pre6 enc Try.prog Try.f6 Rows.logstoreOnceRow.domain false) (Rows.logstoreOnceSpec.post enc Try.prog Try.f6 false true false false) := by
  refine lift_law (C := Try.checked) (P := Try.prog) rfl (by kernel_rfl) started (by kernel_rfl) Try.func6
    (ChangeSpec.witness6 (enc := enc) (C := Try.checked) false ⟨#[], #[.string ByteArray.empty, .slice none 0 0], []⟩ 8 (by kernel_rfl) (by kernel_rfl) (by kernel_rfl) (by kernel_rfl)) (by kernel_rfl) rfl (ts := [9, 54]) (by kernel_rfl) (by kernel_rfl) (tb := 4) (by kernel_rfl) Try.underlying4
    (fun ds hl => by match ds, hl with | [_, _], _ => rfl) ?_
  rintro ⟨t, l⟩ ok
  refine ⟨_, _, _, FSpec.pre (law6 t l.1 l.2 (fun p hp => ?_)) (Ents.cons (Ent1.mem (by repeat (first | exact List.mem_cons_self .. | refine List.mem_cons_of_mem _ ?_))) (Ents.nil _))⟩
  obtain ⟨h1, h2⟩ := ok.2.2 p hp
  simp [Lit.wf, IntKind.min, IntKind.max, IntKind.signed, IntKind.bits] at h1 h2
  omega
theorem over6 : Rows.logstoreOnceRow.holds Try.pinned (OpenSpec.ofChange Rows.logstoreOnceSpec) :=
  OpenClaim.holds_of_wide 6 Try.f6 rfl rfl rfl rfl rfl rfl rfl ⟨rfl, rfl, rfl, rfl, rfl⟩ rfl rfl rfl rfl rfl (by kernel_rfl) Try.func6 (by kernel_rfl)
    (of_decide_eq_true (by kernel_rfl)) (by unfold Func.isWrapper; first | (rw [if_pos (by decide +kernel)]; kernel_rfl) | (rw [if_neg (by decide +kernel)]; exact ⟨rfl, rfl⟩))
    (fun os started H enc _ => lifted6 os started H enc)
theorem proved : Rows.LogstoreOnceSaid := over6
end Go.Proofs.Ytlhgjjbkbeeagaa
