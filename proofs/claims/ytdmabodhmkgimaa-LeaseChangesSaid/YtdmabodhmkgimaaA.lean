/- Lease: what the texts compute, in plain Lean. -/
import Derived.Test.YtdmabodhmkgimaaTy
namespace Go.Proofs.Ytdmabodhmkgimaa
open Go Go.Sym

abbrev Lse := Int × (ByteArray × ByteArray) × Int × ByteArray × Int × Int
abbrev lsC (u : Lse) : List Value := [.int .i64 u.1, .string u.2.1.1, .string u.2.1.2, .int .i64 u.2.2.1, .string u.2.2.2.1, .int .i64 u.2.2.2.2.1, .int .i64 u.2.2.2.2.2]
abbrev lsV (u : Lse) : Value := .agg (lsC u).toArray
instance lsE : EncOk lsC 7 := ⟨fun _ => rfl, fun x u hu => by
  simp only [lsC, List.mem_cons, List.not_mem_nil, or_false] at hu
  rcases hu with rfl | rfl | rfl | rfl | rfl | rfl | rfl <;> rfl⟩
theorem lsC_ok (l : List Lse) : ∀ x ∈ l, (lsC x).length = 7 ∧ ∀ u ∈ lsC x, u.oneCell' = true := lsE.all l
abbrev emp : ByteArray := ⟨#[]⟩
abbrev ls0 : Lse := (0, (ByteArray.empty, ByteArray.empty), 0, ByteArray.empty, 0, 0)
theorem emp_iff (s : ByteArray) : s = ⟨#[]⟩ ↔ (s.size : Int) = 0 := by
  constructor
  · rintro rfl; rfl
  · intro h
    have : s.data.size = 0 := by
      have h2 : s.size = 0 := by omega
      exact h2
    cases s with
    | mk d => congr 1; exact Array.eq_empty_of_size_eq_zero this

def idxOf (p : Lse → Bool) (l : List Lse) : Int := match l.findIdx? p with
  | some k => (k : Int)
  | none => -1
theorem idx_hit {p : Lse → Bool} {l : List Lse} {j : Nat} {x : Lse} (h : ∀ i < j, ∀ y, l[i]? = some y → p y = false) (hx : l[j]? = some x) (hp : p x = true) : idxOf p l = (j : Int) := by
  obtain ⟨hlt, rfl⟩ := List.getElem?_eq_some_iff.1 hx
  have : l.findIdx? p = some j := List.findIdx?_eq_some_iff_getElem.2 ⟨hlt, hp, fun i hi => by
    have := h i hi l[i] (List.getElem?_eq_getElem (by omega))
    simp [this]⟩
  unfold idxOf
  rw [this]
theorem idx_none {p : Lse → Bool} {l : List Lse} {j : Nat} (h : ∀ i < j, ∀ y, l[i]? = some y → p y = false) (hj : l.length ≤ j) : idxOf p l = -1 := by
  have : l.findIdx? p = none := List.findIdx?_eq_none_iff.2 fun x hx => by
    obtain ⟨i, hi⟩ := List.getElem?_of_mem hx
    exact h i (by have := (List.getElem?_eq_some_iff.1 hi).1; omega) x hi
  unfold idxOf
  rw [this]
theorem idx_step {p : Lse → Bool} {l : List Lse} {j : Nat} {x : Lse} (h : ∀ i < j, ∀ y, l[i]? = some y → p y = false) (hx : l[j]? = some x) (hp : p x = false) : ∀ i < j + 1, ∀ y, l[i]? = some y → p y = false := fun i hi y hy => by
  by_cases e : i = j
  · subst e; rw [hx] at hy; injection hy with hy; subst hy; exact hp
  · exact h i (by omega) y hy
/-- what is found -/
theorem idx_cases (p : Lse → Bool) (l : List Lse) : (idxOf p l = -1 ∧ ∀ u ∈ l, p u = false) ∨ ∃ (k : Nat) (u : Lse), idxOf p l = (k : Int) ∧ l[k]? = some u ∧ k < l.length ∧ p u = true ∧ ∀ i < k, ∀ y, l[i]? = some y → p y = false := by
  unfold idxOf
  split
  · rename_i k hk
    obtain ⟨hlt, h1, h2⟩ := List.findIdx?_eq_some_iff_getElem.1 hk
    refine .inr ⟨k, l[k], rfl, List.getElem?_eq_getElem hlt, hlt, h1, fun i hi y hy => ?_⟩
    obtain ⟨hl, rfl⟩ := List.getElem?_eq_some_iff.1 hy
    have := h2 i hi
    simpa using this
  · rename_i hk
    exact .inl ⟨rfl, fun u hu => by simpa using List.findIdx?_eq_none_iff.1 hk u hu⟩
theorem idx_no {p : Lse → Bool} {l : List Lse} : idxOf p l < 0 ↔ ∀ u ∈ l, p u = false := by
  rcases idx_cases p l with ⟨h, h2⟩ | ⟨k, u, h, hu, _, hp, _⟩
  · exact ⟨fun _ => h2, fun _ => by omega⟩
  · refine ⟨fun h0 => by omega, fun h0 => ?_⟩
    have := h0 u (List.mem_of_getElem? hu)
    rw [hp] at this
    cases this

def isTok (tok : Int) (u : Lse) : Bool := decide (u.1 = tok)
def isRef (run job : ByteArray) (u : Lse) : Bool := decide (u.2.1.1 = run ∧ u.2.1.2 = job)

abbrev okT (n : Int) : Prop := 0 ≤ n ∧ n ≤ 1125899906842624
abbrev aloneP (next : Int) (u : Lse) : Prop := 1 ≤ u.1 ∧ u.1 < next ∧ ¬ (u.2.1.1.size : Int) = 0 ∧ ¬ (u.2.1.2.size : Int) = 0 ∧ ¬ (u.2.2.2.1.size : Int) = 0 ∧
  1 ≤ u.2.2.1 ∧ u.2.2.1 ≤ 16 ∧ okT u.2.2.2.2.1 ∧ u.2.2.2.2.1 + 30000 ≤ u.2.2.2.2.2 ∧ u.2.2.2.2.2 ≤ 1125899906872624
abbrev goodP (next : Int) (i : Nat) (p u : Lse) (b : Int) : Prop := aloneP next u ∧ (0 < (i : Int) → p.1 < u.1) ∧ b < 0
def goodAt (next : Int) (l : List Lse) (i : Nat) : Prop := goodP next i (l.getD (i - 1) ls0) (l.getD i ls0) (idxOf (isRef (l.getD i ls0).2.1.1 (l.getD i ls0).2.1.2) (l.take i))
instance (next : Int) (l : List Lse) (i : Nat) : Decidable (goodAt next l i) := by unfold goodAt; infer_instance
def valOf (next : Int) (l : List Lse) : Int := if next < 1 ∨ 1125899906842624 < next then 1 else if ∀ i, i < l.length → goodAt next l i then 0 else 1
theorem getD_of {l : List Lse} {j : Nat} {x : Lse} (h : l[j]? = some x) : l.getD j ls0 = x := by rw [List.getD_eq_getElem?_getD, h]; rfl
theorem good_of {next : Int} {l : List Lse} {i : Nat} {p u : Lse} (hp : l[i - 1]? = some p) (hu : l[i]? = some u) : goodAt next l i ↔ goodP next i p u (idxOf (isRef u.2.1.1 u.2.1.2) (l.take i)) := by unfold goodAt; rw [getD_of hp, getD_of hu]
theorem val_bad {next : Int} {l : List Lse} {i : Nat} (hi : i < l.length) (h : ¬ goodAt next l i) : valOf next l = 1 := by
  unfold valOf
  split
  · rfl
  · rw [if_neg (fun h0 => h (h0 i hi))]
theorem val_good {next : Int} {l : List Lse} {i : Nat} (hn : ¬ next < 1) (hn2 : ¬ 1125899906842624 < next) (h : ∀ j < i, goodAt next l j) (hi : l.length ≤ i) : valOf next l = 0 := by
  unfold valOf
  rw [if_neg (by omega), if_pos (fun j hj => h j (by omega))]
theorem good_step {next : Int} {l : List Lse} {i : Nat} (h : ∀ j < i, goodAt next l j) (h2 : goodAt next l i) : ∀ j < i + 1, goodAt next l j := fun j hj => by
  by_cases e : j = i
  · subst e; exact h2
  · exact h j (by omega)
theorem val_or (next : Int) (l : List Lse) : valOf next l = 0 ∨ valOf next l = 1 := by
  unfold valOf; (repeat' split) <;> simp
/-- the first of its job -/
theorem job_iff {l : List Lse} {i : Nat} {u : Lse} (hu : l[i]? = some u) : idxOf (isRef u.2.1.1 u.2.1.2) l = (i : Int) ↔ idxOf (isRef u.2.1.1 u.2.1.2) (l.take i) < 0 := by
  have hi := (List.getElem?_eq_some_iff.1 hu).1
  have hs : isRef u.2.1.1 u.2.1.2 u = true := by simp [isRef]
  constructor
  · intro h
    rw [idx_no]
    intro y hy
    obtain ⟨j, hj⟩ := List.getElem?_of_mem hy
    have hji : j < i := by have := (List.getElem?_eq_some_iff.1 hj).1; simp at this; omega
    rw [List.getElem?_take, if_pos hji] at hj
    rcases idx_cases (isRef u.2.1.1 u.2.1.2) l with ⟨h0, _⟩ | ⟨k, x, h0, hx, _, _, hk⟩
    · omega
    · exact hk j (by omega) y hj
  · intro h
    rw [idx_no] at h
    exact idx_hit (fun j hj y hy => h y (List.mem_of_getElem? (i := j) (by rw [List.getElem?_take, if_pos hj]; exact hy))) hu hs

/-- valid -/
abbrev sameRef (a b : Lse) : Prop := a.2.1.1 = b.2.1.1 ∧ a.2.1.2 = b.2.1.2
def Good (next : Int) (l : List Lse) : Prop := 1 ≤ next ∧ next ≤ 1125899906842624 ∧ (∀ u ∈ l, aloneP next u) ∧ l.Pairwise (fun a b => a.1 < b.1 ∧ ¬ sameRef a b)
theorem val_iff (next : Int) (l : List Lse) : valOf next l = 0 ↔ Good next l := by
  constructor
  · intro h
    unfold valOf at h
    split at h
    · cases h
    rename_i hn
    have hg : ∀ i, i < l.length → goodAt next l i := Classical.byContradiction fun hg => by rw [if_neg hg] at h; cases h
    have hg' : ∀ i (hi : i < l.length), goodP next i (l.getD (i - 1) ls0) l[i] (idxOf (isRef l[i].2.1.1 l[i].2.1.2) (l.take i)) := fun i hi => by
      have := hg i hi
      unfold goodAt at this
      rwa [getD_of (List.getElem?_eq_getElem hi)] at this
    refine ⟨by omega, by omega, fun u hu => ?_, ?_⟩
    · obtain ⟨i, hi, rfl⟩ := List.getElem_of_mem hu
      exact (hg' i hi).1
    · rw [List.pairwise_iff_getElem]
      intro i j hi hj hij
      constructor
      · clear h
        induction j with
        | zero => omega
        | succ j ih =>
          have h1 := (hg' (j + 1) hj).2.1 (by omega)
          rw [show j + 1 - 1 = j from rfl, getD_of (List.getElem?_eq_getElem (by omega : j < l.length))] at h1
          by_cases e : i = j
          · subst e; exact h1
          · have := ih (by omega) (by omega); omega
      · intro hs
        have h2 := (hg' j hj).2.2
        rw [idx_no] at h2
        have := h2 l[i] (List.mem_of_getElem? (i := i) (by rw [List.getElem?_take, if_pos hij]; exact List.getElem?_eq_getElem hi))
        simp [isRef, hs.1, hs.2] at this
  · rintro ⟨h1, h2, h3, h4⟩
    rw [List.pairwise_iff_getElem] at h4
    refine val_good (i := l.length) (by omega) (by omega) (fun i hi => ?_) (Nat.le_refl _)
    unfold goodAt
    rw [getD_of (List.getElem?_eq_getElem hi)]
    refine ⟨h3 _ (List.getElem_mem hi), fun h0 => ?_, ?_⟩
    · rw [getD_of (List.getElem?_eq_getElem (by omega : i - 1 < l.length))]
      exact (h4 (i - 1) i (by omega) hi (by omega)).1
    · rw [idx_no]
      intro y hy
      obtain ⟨j, hj⟩ := List.getElem?_of_mem hy
      have hji : j < i := by have := (List.getElem?_eq_some_iff.1 hj).1; simp at this; omega
      rw [List.getElem?_take, if_pos hji] at hj
      obtain ⟨hl, rfl⟩ := List.getElem?_eq_some_iff.1 hj
      have := (h4 j i hl hi hji).2
      simp only [isRef, decide_eq_false_iff_not]
      exact this

/-- the errors -/
def refOf (next : Int) (l : List Lse) (run job : ByteArray) (att : Int) (w : ByteArray) (now : Int) : Int :=
  if ¬ valOf next l = 0 ∨ (run.size : Int) = 0 ∨ (job.size : Int) = 0 ∨ (w.size : Int) = 0 then 1
  else if att < 1 ∨ 16 < att ∨ ¬ okT now then 2
  else if 0 ≤ idxOf (isRef run job) l then 7
  else if next = 1125899906842624 then 15
  else 0
def grtOf (next : Int) (l : List Lse) (run job : ByteArray) (att : Int) (w : ByteArray) (now : Int) : (Int × List Lse) × Lse × Int :=
  if refOf next l run job att w now = 0 then ((next + 1, l ++ [(next, (run, job), att, w, now, now + 30000)]), (next, (run, job), att, w, now, now + 30000), 0)
  else ((next, l), ls0, refOf next l run job att w now)
theorem grt_err {next : Int} {l : List Lse} {run job : ByteArray} {att : Int} {w : ByteArray} {now : Int} (h : ¬ refOf next l run job att w now = 0) : grtOf next l run job att w now = ((next, l), ls0, refOf next l run job att w now) := by
  unfold grtOf
  rw [if_neg h]
theorem grt_ok {next : Int} {l : List Lse} {run job : ByteArray} {att : Int} {w : ByteArray} {now : Int} (h : refOf next l run job att w now = 0) : grtOf next l run job att w now = ((next + 1, l ++ [(next, (run, job), att, w, now, now + 30000)]), (next, (run, job), att, w, now, now + 30000), 0) := by
  unfold grtOf
  rw [if_pos h]
theorem ref_ok {next : Int} {l : List Lse} {run job : ByteArray} {att : Int} {w : ByteArray} {now : Int} (h : refOf next l run job att w now = 0) : Good next l ∧ ¬ (run.size : Int) = 0 ∧ ¬ (job.size : Int) = 0 ∧ ¬ (w.size : Int) = 0 ∧ 1 ≤ att ∧ att ≤ 16 ∧ okT now ∧ (∀ u ∈ l, isRef run job u = false) ∧ next < 1125899906842624 := by
  unfold refOf at h
  split at h
  · cases h
  split at h
  · cases h
  split at h
  · cases h
  split at h
  · cases h
  rename_i h1 h2 h3 h4
  have hg : Good next l := (val_iff _ _).1 (by omega)
  refine ⟨hg, by omega, by omega, by omega, by omega, by omega, by omega, idx_no.1 (by omega), ?_⟩
  have := hg.2.1
  omega

abbrev rnU (w : ByteArray) (now : Int) (u : Lse) : Lse := if u.2.2.2.1 = w ∧ now < u.2.2.2.2.2 then (u.1, u.2.1, u.2.2.1, u.2.2.2.1, u.2.2.2.2.1, max u.2.2.2.2.2 (now + 30000)) else u
def renOf (next : Int) (l : List Lse) (w : ByteArray) (now : Int) : List Lse := if ¬ valOf next l = 0 ∨ ¬ okT now then l else l.map (rnU w now)
def relOf (next : Int) (l : List Lse) (tok : Int) : List Lse × Int :=
  if ¬ valOf next l = 0 then (l, 1)
  else if idxOf (isTok tok) l < 0 then (l, 17)
  else (l.take (idxOf (isTok tok) l).toNat ++ l.drop ((idxOf (isTok tok) l).toNat + 1), 0)
def fndOf (l : List Lse) (tok : Int) : Lse × Bool := if idxOf (isTok tok) l < 0 then (ls0, false) else (l.getD (idxOf (isTok tok) l).toNat ls0, true)
theorem fnd_none {l : List Lse} {tok : Int} (h : idxOf (isTok tok) l = -1) : fndOf l tok = (ls0, false) := by unfold fndOf; rw [h]; rfl
theorem fnd_some {l : List Lse} {tok : Int} {k : Nat} {u : Lse} (h : idxOf (isTok tok) l = (k : Int)) (hu : l[k]? = some u) : fndOf l tok = (u, true) := by
  unfold fndOf
  rw [h, if_neg (by omega), Int.toNat_natCast, getD_of hu]
def holOf (l : List Lse) (tok : Int) (w : ByteArray) (now : Int) : Int :=
  if (fndOf l tok).2 = false ∨ ¬ (fndOf l tok).1.2.2.2.1 = w then 17 else if (fndOf l tok).1.2.2.2.2.2 ≤ now then 20 else 0
def expOf (l : List Lse) (now : Int) : List Lse := l.filter fun u => decide (u.2.2.2.2.2 ≤ now)

/-- what is left without a token -/
theorem rel_filter {next : Int} {l : List Lse} {tok : Int} {k : Nat} (hg : Good next l) (h : idxOf (isTok tok) l = (k : Int)) : l.filter (fun u => !decide (u.1 = tok)) = l.take k ++ l.drop (k + 1) := by
  rcases idx_cases (isTok tok) l with ⟨h0, _⟩ | ⟨k', u, h0, hu, hk, hp, hbe⟩
  · omega
  have : k' = k := by omega
  subst this
  have hpw := hg.2.2.2
  rw [List.pairwise_iff_getElem] at hpw
  obtain ⟨hlt, rfl⟩ := List.getElem?_eq_some_iff.1 hu
  have hp' : l[k'].1 = tok := by simpa [isTok] using hp
  have e : l = l.take k' ++ l[k'] :: l.drop (k' + 1) := by
    conv => lhs; rw [← List.take_append_drop k' l, List.drop_eq_getElem_cons hlt]
  conv => lhs; rw [e]
  rw [List.filter_append, List.filter_cons]
  rw [if_neg (by simp [hp'])]
  congr 1
  · rw [List.filter_eq_self]
    intro y hy
    obtain ⟨j, hj⟩ := List.getElem?_of_mem hy
    have hji : j < k' := by have := (List.getElem?_eq_some_iff.1 hj).1; simp at this; omega
    rw [List.getElem?_take, if_pos hji] at hj
    have := hbe j hji y hj
    simp only [isTok, decide_eq_false_iff_not] at this
    simp [this]
  · rw [List.filter_eq_self]
    intro y hy
    obtain ⟨j, hj⟩ := List.getElem?_of_mem hy
    rw [List.getElem?_drop] at hj
    obtain ⟨hl, rfl⟩ := List.getElem?_eq_some_iff.1 hj
    have := (hpw k' (k' + 1 + j) hlt hl (by omega)).1
    have hne : ¬ l[k' + 1 + j].1 = tok := by omega
    simp [hne]

/-! what stays valid -/
theorem good_grant {next : Int} {l : List Lse} {run job : ByteArray} {att : Int} {w : ByteArray} {now : Int} (h : refOf next l run job att w now = 0) : Good (next + 1) (l ++ [(next, (run, job), att, w, now, now + 30000)]) := by
  obtain ⟨⟨g1, g2, g3, g4⟩, h1, h2, h3, h4, h5, h6, h7, h8⟩ := ref_ok h
  refine ⟨by omega, by omega, fun u hu => ?_, ?_⟩
  · rcases List.mem_append.1 hu with hu | hu
    · obtain ⟨a1, a2, a3⟩ := g3 u hu
      exact ⟨a1, by omega, a3⟩
    · simp only [List.mem_cons, List.not_mem_nil, or_false] at hu
      subst hu
      exact ⟨g1, by show next < next + 1; omega, h1, h2, h3, h4, h5, h6, Int.le_refl _, by show now + 30000 ≤ _; have := h6.2; omega⟩
  · refine List.pairwise_append.2 ⟨g4, List.pairwise_singleton .., fun a ha b hb => ?_⟩
    simp only [List.mem_cons, List.not_mem_nil, or_false] at hb
    subst hb
    refine ⟨(g3 a ha).2.1, fun hs => ?_⟩
    have := h7 a ha
    simp only [isRef, decide_eq_false_iff_not] at this
    exact this hs
theorem good_renew {next : Int} {l : List Lse} (w : ByteArray) {now : Int} (hn : okT now) (h : Good next l) : Good next (l.map (rnU w now)) := by
  obtain ⟨g1, g2, g3, g4⟩ := h
  refine ⟨g1, g2, fun u hu => ?_, ?_⟩
  · obtain ⟨y, hy, rfl⟩ := List.mem_map.1 hu
    have := g3 y hy
    unfold rnU
    split
    · obtain ⟨a1, a2, a3, a4, a5, a6, a7, a8, a9, a10⟩ := this
      refine ⟨a1, a2, a3, a4, a5, a6, a7, a8, ?_, ?_⟩
      · show y.2.2.2.2.1 + 30000 ≤ max y.2.2.2.2.2 (now + 30000); omega
      · show max y.2.2.2.2.2 (now + 30000) ≤ _; have := hn.2; omega
    · exact this
  · rw [List.pairwise_map]
    refine g4.imp fun {a b} hab => ?_
    have e1 : (rnU w now a).1 = a.1 := by unfold rnU; split <;> rfl
    have e2 : (rnU w now b).1 = b.1 := by unfold rnU; split <;> rfl
    have e3 : (rnU w now a).2.1 = a.2.1 := by unfold rnU; split <;> rfl
    have e4 : (rnU w now b).2.1 = b.2.1 := by unfold rnU; split <;> rfl
    rw [e1, e2]
    exact ⟨hab.1, fun hs => hab.2 (by unfold sameRef at *; rwa [e3, e4] at hs)⟩
theorem good_sub {next : Int} {l l' : List Lse} (hs : l'.Sublist l) (h : Good next l) : Good next l' := ⟨h.1, h.2.1, fun u hu => h.2.2.1 u (hs.subset hu), h.2.2.2.sublist hs⟩
theorem cut_sub (l : List Lse) (k : Nat) : (l.take k ++ l.drop (k + 1)).Sublist l := by
  conv => rhs; rw [← List.take_append_drop k l]
  exact List.Sublist.append (List.Sublist.refl _) (by rw [← List.drop_drop]; exact List.drop_sublist _ _)
theorem good_rel {next : Int} {l : List Lse} (tok : Int) (h : Good next l) : Good next (relOf next l tok).1 := by
  unfold relOf
  split
  · exact h
  split
  · exact h
  · exact good_sub (cut_sub _ _) h
theorem good_ren {next : Int} {l : List Lse} (w : ByteArray) (now : Int) (h : Good next l) : Good next (renOf next l w now) := by
  unfold renOf
  split
  · exact h
  · rename_i h0
    exact good_renew w (by omega) h
theorem good_grt {next : Int} {l : List Lse} (run job : ByteArray) (att : Int) (w : ByteArray) (now : Int) (h : Good next l) : Good (grtOf next l run job att w now).1.1 (grtOf next l run job att w now).1.2 := by
  by_cases h0 : refOf next l run job att w now = 0
  · rw [grt_ok h0]; exact good_grant h0
  · rw [grt_err h0]; exact h
end Go.Proofs.Ytdmabodhmkgimaa
