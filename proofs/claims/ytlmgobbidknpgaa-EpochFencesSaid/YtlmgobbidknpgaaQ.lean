/- Epoch: the deeds. -/
import Derived.Test.YtlmgobbidknpgaaE
namespace Go.Proofs.Ytlmgobbidknpgaa
open Go Go.Sym

abbrev Deed := Int × Int × Int × Int
abbrev aft (u : Deed) : Int := max 0 (min 30000 u.2.2.1)
abbrev who (u : Deed) : Nat := (max 0 (min 3 u.2.1)).toNat
theorem who_lt (u : Deed) : who u < 4 := by unfold who; omega
theorem who_eq (u : Deed) : max 0 (min 3 u.2.1) = ((who u : Nat) : Int) := by unfold who; omega
theorem acq_R (s : Sto) (id : ByteArray) (now : Int) : (acq s id now).1.R = s.R ∧ (acq s id now).1.Ep = s.Ep := by
  unfold acq
  split
  · exact ⟨rfl, rfl⟩
  split
  · exact ⟨rfl, rfl⟩
  split
  · exact ⟨rfl, rfl⟩
  split
  · exact ⟨rfl, rfl⟩
  split <;> exact ⟨rfl, rfl⟩
end Go.Proofs.Ytlmgobbidknpgaa
