/- Epoch: what acquiring and appending keep, in plain Lean. -/
import Derived.Test.YtlmgobbidknpgaaM
namespace Go.Proofs.Ytlmgobbidknpgaa
open Go Go.Sym

/-- what the statement EpochFences keeps -/
structure FI (s : Sto) (log : List Ent) (hol : List Nat) (ps : Nat → Int × Int) (j : Nat) : Prop where
  R : s.R = log.map recOf
  Ep : s.Ep = log.map fun x => x.2.2
  E : s.E = (hol.length : Int)
  U0 : hol = [] → s.U ≤ 0
  H : ∀ k, hol[hol.length - 1]? = some k → s.H = nm k
  h4 : ∀ k ∈ hol, k < 4
  hl : hol.length ≤ j
  ll : log.length ≤ j
  li : LI log hol
  ps : ∀ k, k < 4 → (ps k).1 = 0 ∨ (1 ≤ (ps k).1 ∧ (ps k).1 ≤ hol.length ∧ hol[((ps k).1 - 1).toNat]? = some k)
theorem FI.ok {s : Sto} {log : List Ent} {hol : List Nat} {ps : Nat → Int × Int} {j : Nat} (h : FI s log hol ps j) (hj : j ≤ 1000) : OkS s := by
  have e1 : s.R.length = log.length := by rw [h.R]; simp
  have e2 : s.Ep.length = log.length := by rw [h.Ep]; simp
  have := h.ll
  refine ⟨by omega, fun r hr => ?_, by omega⟩
  rw [h.R] at hr
  obtain ⟨x, _, rfl⟩ := List.mem_map.1 hr
  simp
theorem FI.up {s : Sto} {log : List Ent} {hol : List Nat} {ps : Nat → Int × Int} {j : Nat} (h : FI s log hol ps j) : FI s log hol ps (j + 1) :=
  ⟨h.R, h.Ep, h.E, h.U0, h.H, h.h4, by have := h.hl; omega, by have := h.ll; omega, h.li, h.ps⟩
abbrev updE (ps : Nat → Int × Int) (k : Nat) (n : Int) : Nat → Int × Int := fun i => if i = k then (n, (ps i).2) else ps i
abbrev updK (ps : Nat → Int × Int) (k : Nat) (n : Int) : Nat → Int × Int := fun i => if i = k then ((ps i).1, n) else ps i
theorem FI.known {s : Sto} {log : List Ent} {hol : List Nat} {ps : Nat → Int × Int} {j : Nat} (h : FI s log hol ps j) (k : Nat) (n : Int) : FI s log hol (updK ps k n) j :=
  ⟨h.R, h.Ep, h.E, h.U0, h.H, h.h4, h.hl, h.ll, h.li, fun i hi => by
    have := h.ps i hi
    unfold updK
    split <;> exact this⟩
theorem hol_snoc {hol : List Nat} {k i : Nat} {w : Nat} (h : hol[i]? = some w) : (hol ++ [k])[i]? = some w := by
  rw [List.getElem?_append_left (List.getElem?_eq_some_iff.1 h).1]; exact h
theorem LI.snoc {log : List Ent} {hol : List Nat} (h : LI log hol) (k : Nat) : LI log (hol ++ [k]) :=
  ⟨fun x hx => by
    obtain ⟨h1, h2, h3, h4⟩ := h.ent x hx
    exact ⟨h1, by rw [List.length_append]; simp; omega, hol_snoc h3, h4⟩, h.asc⟩
theorem FI.acq {s s' : Sto} {log : List Ent} {hol : List Nat} {ps : Nat → Int × Int} {j k : Nat} {now n er : Int} (h : FI s log hol ps j) (hk : k < 4) (h0 : 0 ≤ now) (ha : acq s (nm k) now = (s', n, er)) (he : er = 0) :
    s'.R = s.R ∧ s'.Ep = s.Ep ∧ ((n = hol.length ∧ 1 ≤ n ∧ hol[(n - 1).toNat]? = some k ∧ FI s' log hol (updE ps k n) (j + 1)) ∨ (n = hol.length + 1 ∧ FI s' log (hol ++ [k]) (updE ps k n) (j + 1))) := by
  subst he
  have hE := h.E
  unfold Go.Proofs.Ytlmgobbidknpgaa.acq at ha
  split at ha
  · injection ha with e1 e2; injection e2 with e2 e3; cases e3
  split at ha
  · injection ha with e1 e2; injection e2 with e2 e3; cases e3
  split at ha
  · rename_i hrn
    injection ha with e1 e2
    injection e2 with e2 e3
    subst e1 e2
    have hne : hol ≠ [] := fun h1 => by have := h.U0 h1; omega
    have hpos : 0 < hol.length := List.length_pos_iff.2 hne
    obtain ⟨w, hw⟩ : ∃ w, hol[hol.length - 1]? = some w := ⟨_, List.getElem?_eq_getElem (by omega)⟩
    have hwk : w = k := nm_inj (h.h4 w (List.mem_of_getElem? hw)) hk ((h.H w hw).symm.trans hrn.2)
    subst hwk
    have hidx : (s.E - 1).toNat = hol.length - 1 := by omega
    refine ⟨rfl, rfl, .inl ⟨hE, by omega, by rw [hidx]; exact hw, ?_⟩⟩
    refine ⟨h.R, h.Ep, h.E, fun h1 => absurd h1 hne, h.H, h.h4, by have := h.hl; omega, by have := h.ll; omega, h.li, fun i hi => ?_⟩
    by_cases e : i = w
    · subst e
      simp only [updE, if_true]
      exact .inr ⟨by omega, by omega, by rw [hidx]; exact hw⟩
    · simp only [updE, if_neg e]
      exact h.ps i hi
  split at ha
  · injection ha with e1 e2; injection e2 with e2 e3; cases e3
  split at ha
  · injection ha with e1 e2; injection e2 with e2 e3; cases e3
  · injection ha with e1 e2
    injection e2 with e2 e3
    subst e1 e2
    refine ⟨rfl, rfl, .inr ⟨by omega, ?_⟩⟩
    have hlen : (hol ++ [k]).length = hol.length + 1 := by simp
    have hlast : (hol ++ [k])[hol.length]? = some k := by simp
    refine ⟨h.R, h.Ep, by show s.E + 1 = _; rw [hlen]; omega, fun h1 => by simp at h1, fun i hi => ?_, fun i hi => ?_, by rw [hlen]; have := h.hl; omega, by have := h.ll; omega, h.li.snoc k, fun i hi => ?_⟩
    · rw [hlen, Nat.add_sub_cancel, hlast] at hi
      injection hi with hi
      subst hi
      rfl
    · rcases List.mem_append.1 hi with h1 | h1
      · exact h.h4 i h1
      · rw [List.mem_singleton.1 h1]; exact hk
    · by_cases e : i = k
      · subst e
        simp only [updE, if_true]
        refine .inr ⟨by omega, by rw [hlen]; omega, ?_⟩
        rw [show (s.E + 1 - 1).toNat = hol.length from by omega]
        exact hlast
      · simp only [updE, if_neg e]
        rcases h.ps i hi with h1 | ⟨h1, h2, h3⟩
        · exact .inl h1
        · exact .inr ⟨h1, by rw [hlen]; omega, hol_snoc h3⟩
theorem FI.app {s s' : Sto} {log : List Ent} {hol : List Nat} {ps : Nat → Int × Int} {j k : Nat} {d er : Int} (h : FI s log hol ps j) (hk : k < 4) (ha : app s (ps k).1 (ps k).2 [d, (k : Int)] = (s', er)) (he : er = 0) :
    (ps k).1 = hol.length ∧ (ps k).2 = log.length ∧ FI s' (log ++ [(d, k, (ps k).1)]) hol (updK ps k (log.length + 1)) (j + 1) := by
  subst he
  have hE := h.E
  have e1 : s.R.length = log.length := by rw [h.R]; simp
  unfold Go.Proofs.Ytlmgobbidknpgaa.app at ha
  split at ha
  · injection ha with _ e2; cases e2
  split at ha
  · injection ha with _ e2; cases e2
  rename_i h1 h2
  injection ha with e3 e4
  subst e3
  have hep : epsOf s = s.Ep := by
    have hl : s.Ep.length = s.R.length := by rw [h.R, h.Ep]; simp
    apply List.ext_getElem?
    intro i
    by_cases hi : i < s.R.length
    · rw [epsOf_get s hi, List.getD_eq_getElem?_getD, List.getElem?_eq_getElem (by omega)]; rfl
    · rw [List.getElem?_eq_none (by rw [epsOf_len]; omega), List.getElem?_eq_none (by omega)]
  have hpk : 1 ≤ (ps k).1 ∧ (ps k).1 ≤ hol.length ∧ hol[((ps k).1 - 1).toNat]? = some k := by
    rcases h.ps k hk with h3 | h3
    · omega
    · exact h3
  refine ⟨by omega, by omega, ?_⟩
  have hup : FI s log hol (updK ps k (log.length + 1)) (j + 1) := (h.known k _).up
  refine ⟨by show s.R ++ [[d, (k : Int)]] = _; rw [List.map_append, h.R]; rfl, by show epsOf s ++ [(ps k).1] = _; rw [hep, List.map_append, h.Ep]; rfl, h.E, h.U0, h.H, h.h4, hup.hl, by rw [List.length_append]; have := h.ll; simp; omega, ⟨fun x hx => ?_, ?_⟩, hup.ps⟩
  · rcases List.mem_append.1 hx with hx | hx
    · exact h.li.ent x hx
    · rw [List.mem_singleton.1 hx]
      exact ⟨hpk.1, hpk.2.1, hpk.2.2, hk⟩
  · refine List.pairwise_append.2 ⟨h.li.asc, List.pairwise_singleton .., fun x hx y hy => ?_⟩
    rw [List.mem_singleton.1 hy]
    have := (h.li.ent x hx).2.1
    show x.2.2 ≤ (ps k).1
    omega
theorem fi0 : FI sto0 [] [] (fun _ => (0, 0)) 0 :=
  ⟨rfl, rfl, rfl, fun _ => by decide, fun _ h => by simp at h, fun _ h => absurd h List.not_mem_nil, Nat.le_refl _, Nat.le_refl _, ⟨fun _ h => absurd h List.not_mem_nil, List.Pairwise.nil⟩, fun _ _ => .inl rfl⟩

/-! the players' cells -/
def psC (ps : Nat → Int × Int) : List Value := [.int .i64 (ps 0).1, .int .i64 (ps 0).2, .int .i64 (ps 1).1, .int .i64 (ps 1).2, .int .i64 (ps 2).1, .int .i64 (ps 2).2, .int .i64 (ps 3).1, .int .i64 (ps 3).2]
theorem k4 {k : Nat} (h : k < 4) : k = 0 ∨ k = 1 ∨ k = 2 ∨ k = 3 := by omega
theorem ps_get (ps : Nat → Int × Int) {k : Nat} (h : k < 4) : (psC ps)[0 + k * 2 + 0]? = some (.int .i64 (ps k).1) := by
  rcases k4 h with rfl | rfl | rfl | rfl <;> rfl
theorem ps_get1 (ps : Nat → Int × Int) {k : Nat} (h : k < 4) : (psC ps)[0 + k * 2 + 1]? = some (.int .i64 (ps k).2) := by
  rcases k4 h with rfl | rfl | rfl | rfl <;> rfl
theorem ps_set (ps : Nat → Int × Int) {k : Nat} (h : k < 4) (n : Int) : SetAt (psC ps) (0 + k * 2 + 0) (.int .i64 n) (psC (updE ps k n)) := ⟨by
  rcases k4 h with rfl | rfl | rfl | rfl <;> rfl⟩
theorem ps_set1 (ps : Nat → Int × Int) {k : Nat} (h : k < 4) (n : Int) : SetAt (psC ps) (0 + k * 2 + 1) (.int .i64 n) (psC (updK ps k n)) := ⟨by
  rcases k4 h with rfl | rfl | rfl | rfl <;> rfl⟩
theorem ps_fit (ps : Nat → Int × Int) {k : Nat} (h : k < 4) : Nat.blt (0 + k * 2 + 0) (psC ps).length = true := by
  rcases k4 h with rfl | rfl | rfl | rfl <;> rfl
theorem ps_fit1 (ps : Nat → Int × Int) {k : Nat} (h : k < 4) : Nat.blt (0 + k * 2 + 1) (psC ps).length = true := by
  rcases k4 h with rfl | rfl | rfl | rfl <;> rfl
theorem k_blt {k : Nat} (h : k < 4) : Nat.blt k 4 = true := by
  rcases k4 h with rfl | rfl | rfl | rfl <;> rfl
end Go.Proofs.Ytlmgobbidknpgaa
