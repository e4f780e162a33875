/- Attempt: what Begin and End keep. -/
import Derived.Test.YtnlmpgnjhdeejaaE
namespace Go.Proofs.Ytnlmpgnjhdeejaa
open Go Go.Sym
set_option maxHeartbeats 4000000
attribute [local irreducible] wpList Code.wp wpAnyH Yld Eff SP SA SO SAK Stays FSpec eptr Ret Exit.then Exit.inBlock bodyPost

theorem good_all {l : List Att} (h : valOf l = 0) {i : Nat} {p u : Att} (hp : l[i - 1]? = some p) (hu : l[i]? = some u) : goodP l.length i p u :=
  (good_of hp hu).1 ((val_zero h).2 i (List.getElem?_eq_some_iff.1 hu).1)
theorem get_some {l : List Att} {i : Nat} (h : i < l.length) : ∃ u, l[i]? = some u := ⟨_, List.getElem?_eq_getElem h⟩

theorem beg_valid (l : List Att) (tok : Int) (wrk : ByteArray) (now : Int) (h : valOf l = 0) : valOf (begOf l tok wrk now).1 = 0 := by
  unfold begOf
  simp only [emp_iff]
  split
  · exact h
  split
  · exact h
  split
  · exact h
  split
  · exact h
  split
  · exact h
  split
  · exact h
  rename_i h1 h2 h3 h4 h5 h6
  dsimp only
  refine val_ok (by simp; omega) fun i hi => ?_
  have hi' : i < l.length + 1 := by simpa using hi
  by_cases hil : i < l.length
  · obtain ⟨u, hu⟩ := get_some hil
    obtain ⟨p, hp⟩ := get_some (l := l) (i := i - 1) (by omega)
    have hg := good_all h hp hu
    have hS : ¬ u.2.2.2.2.2.1 = 0 := by
      intro h0
      have : (i : Int) = (l.length : Int) - 1 := by omega
      have hl := last_of (l := l) (u := u) (by rw [show l.length - 1 = i from by omega]; exact hu)
      rw [hl] at h3
      omega
    rw [good_of (p := p) (u := u) (by rw [List.getElem?_append_left (by omega)]; exact hp) (by rw [List.getElem?_append_left hil]; exact hu)]
    obtain ⟨hg1, hg2⟩ := hg
    exact ⟨by omega, hg2⟩
  · have e : i = l.length := by omega
    subst e
    by_cases hz : l.length = 0
    · have hnil : l = [] := List.eq_nil_of_length_eq_zero hz
      subst hnil
      rw [good_of (p := (0 + 1, tok, wrk, now, 0, 0, 0)) (u := (0 + 1, tok, wrk, now, 0, 0, 0)) rfl rfl]
      refine ⟨?_, fun h0 => absurd h0 (by simp)⟩
      have hl1 : (([] : List Att) ++ [((([] : List Att).length : Int) + 1, tok, wrk, now, 0, 0, 0)]).length = 1 := rfl
      rw [hl1]
      simp only [aloneP, List.length_nil, true_and, not_true_eq_false, false_and, or_false, and_true]
      omega
    · obtain ⟨p, hp⟩ := get_some (l := l) (i := l.length - 1) (by omega)
      rw [last_of hp] at h3 h5 h6
      rw [good_of (p := p) (u := ((l.length : Int) + 1, tok, wrk, now, 0, 0, 0)) (by rw [List.getElem?_append_left (by omega)]; exact hp) (by rw [List.getElem?_append_right (Nat.le_refl _), Nat.sub_self]; rfl)]
      have hl1 : (l ++ [((l.length : Int) + 1, tok, wrk, now, 0, 0, 0)]).length = l.length + 1 := by simp
      rw [hl1]
      refine ⟨?_, fun _ => ⟨by omega, by dsimp only; omega, by dsimp only; omega⟩⟩
      simp only [aloneP, true_and, not_true_eq_false, false_and, or_false, and_true]
      omega

theorem end_valid (l : List Att) (tok st cl now : Int) (h : valOf l = 0) : valOf (endOf l tok st cl now).1 = 0 := by
  unfold endOf
  split
  · exact h
  split
  · exact h
  split
  · exact h
  split
  · exact h
  split
  · exact h
  rename_i h1 h2 h3 h4 h5
  dsimp only
  have hne : ¬ l.length = 0 := fun e => by rw [last_nil (by omega)] at h2; exact h2 (by decide)
  obtain ⟨q, hq⟩ := get_some (l := l) (i := l.length - 1) (by omega)
  rw [last_of hq] at h2 h3 h5 ⊢
  have hlen : (l.take (l.length - 1) ++ [endU q now st cl]).length = l.length := by simp; omega
  have hleft : ∀ i, i < l.length - 1 → (l.take (l.length - 1) ++ [endU q now st cl])[i]? = l[i]? := fun i hi => by
    rw [List.getElem?_append_left (by simp; omega), List.getElem?_take, if_pos hi]
  have hv := val_zero h
  refine val_ok (by rw [hlen]; omega) fun i hi => ?_
  rw [hlen] at hi
  obtain ⟨u, hu⟩ := get_some hi
  obtain ⟨p, hp⟩ := get_some (l := l) (i := i - 1) (by omega)
  have hg := good_all h hp hu
  by_cases hil : i < l.length - 1
  · rw [good_of (p := p) (u := u) (by rw [hleft _ (by omega)]; exact hp) (by rw [hleft _ hil]; exact hu), hlen]
    exact hg
  · have e : i = l.length - 1 := by omega
    subst e
    rw [hq] at hu
    injection hu with hu
    subst hu
    obtain ⟨hg1, hg2⟩ := hg
    by_cases hz : l.length - 1 = 0
    · rw [good_of (p := endU q now st cl) (u := endU q now st cl) (by rw [hz] <;> simp) (by rw [hz] <;> simp), hlen]
      refine ⟨by simp only [aloneP]; omega, fun h0 => absurd h0 (by omega)⟩
    · rw [good_of (p := p) (u := endU q now st cl) (by rw [hleft _ (by omega)]; exact hp) (by rw [List.getElem?_append_right (by simp)] <;> simp), hlen]
      refine ⟨by simp only [aloneP]; omega, fun h0 => ?_⟩
      have := hg2 h0
      exact ⟨this.1, this.2.1, this.2.2⟩

end Go.Proofs.Ytnlmpgnjhdeejaa
