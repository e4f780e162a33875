/- Mask: what the texts compute, in plain Lean. -/
import Derived.Test.YtadiiejpacbfbaaTy
import Derived.Shelf.Strings.Search3
namespace Go.Proofs.Ytadiiejpacbfbaa
open Go Go.Sym

abbrev Bs := List UInt8
abbrev lst (s : ByteArray) : Bs := s.data.toList
abbrev mk (l : Bs) : ByteArray := ⟨l.toArray⟩
theorem mk_lst (s : ByteArray) : mk (lst s) = s := by cases s; simp [mk, lst]
theorem lst_inj {s t : ByteArray} (h : lst s = lst t) : s = t := by rw [← mk_lst s, h, mk_lst]
theorem lst_len (s : ByteArray) : (lst s).length = s.size := Array.length_toList
theorem lst_add (s t : ByteArray) : lst (s ++ t) = lst s ++ lst t := by simp [lst, ByteArray.data_append]
theorem lst_ext (s : ByteArray) (i j : Nat) : lst (s.extract i j) = ((lst s).drop i).take (j - i) := by
  simp [lst, ByteArray.data_extract, List.extract_eq_take_drop]
theorem lst_suf (s : ByteArray) (i : Nat) : lst (s.extract i s.size) = (lst s).drop i := by
  rw [lst_ext, List.take_of_length_le (by rw [List.length_drop, lst_len]; omega)]
theorem lst_get (s : ByteArray) (j : Nat) (u : UInt8) (h : (lst s)[j]? = some u) : s[j]? = some u := by
  obtain ⟨hlt, he⟩ := List.getElem?_eq_some_iff.1 h
  have hlt' : j < s.size := by rw [← lst_len]; exact hlt
  rw [getElem?_pos s j hlt']
  congr 1

theorem pre_cut {s r : Bs} : s.isPrefixOf r = true ↔ s.length ≤ r.length ∧ r.take s.length = s := by
  rw [List.isPrefixOf_iff_prefix, List.prefix_iff_eq_take]
  constructor
  · intro h
    exact ⟨by rw [h]; simp; omega, h.symm⟩
  · rintro ⟨_, h⟩; exact h.symm
theorem pre_get {s r : Bs} (hl : s.length ≤ r.length) : s.isPrefixOf r = true ↔ ∀ i < s.length, s[i]? = r[i]? := by
  rw [pre_cut]
  constructor
  · rintro ⟨_, h⟩ i hi
    have h2 : (r.take s.length)[i]? = s[i]? := by rw [h]
    rw [← h2, List.getElem?_take, if_pos hi]
  · intro h
    refine ⟨hl, List.ext_getElem? fun i => ?_⟩
    rw [List.getElem?_take]
    split
    · exact (h i (by assumption)).symm
    · rw [List.getElem?_eq_none (by omega)]

def und (l : List Bs) (r : Bs) : Bool := l.any fun s => decide (r.length < s.length) && r.isPrefixOf s
def stp (r : Bs) (n : Nat) (s : Bs) : Nat := if n < s.length ∧ s.isPrefixOf r = true then s.length else n
def lng (l : List Bs) (r : Bs) : Nat := l.foldl (stp r) 0
abbrev stars : Bs := [42, 42, 42]
def covN (l : List Bs) (h : Bool) : Nat → Bs → Bs × Bs
  | 0, r => ([], r)
  | n + 1, r => match r with
    | [] => ([], [])
    | b :: r' => if (h && und l (b :: r')) = true then ([], b :: r')
      else if lng l (b :: r') = 0 then (b :: (covN l h n r').1, (covN l h n r').2)
      else (stars ++ (covN l h n ((b :: r').drop (lng l (b :: r')))).1, (covN l h n ((b :: r').drop (lng l (b :: r')))).2)
def cov (l : List Bs) (h : Bool) (r : Bs) : Bs × Bs := covN l h r.length r
theorem covN_same (l : List Bs) (h : Bool) : ∀ (n m : Nat) (r : Bs), r.length ≤ n → r.length ≤ m → covN l h n r = covN l h m r
  | 0, 0, _, _, _ => rfl
  | 0, m + 1, r, h1, _ => by
    have : r = [] := List.length_eq_zero_iff.1 (by omega)
    subst this; rfl
  | n + 1, 0, r, _, h2 => by
    have : r = [] := List.length_eq_zero_iff.1 (by omega)
    subst this; rfl
  | n + 1, m + 1, [], _, _ => rfl
  | n + 1, m + 1, b :: r, h1, h2 => by
    simp only [List.length_cons] at h1 h2
    unfold covN
    dsimp only
    split
    · rfl
    · split
      · rw [covN_same l h n m r (by omega) (by omega)]
      · rename_i h0
        have hd : ((b :: r).drop (lng l (b :: r))).length ≤ r.length := by rw [List.length_drop, List.length_cons]; omega
        rw [covN_same l h n m _ (by omega) (by omega)]
theorem cov_nil (l : List Bs) (h : Bool) : cov l h [] = ([], []) := rfl
theorem cov_stop {l : List Bs} {h : Bool} {r : Bs} (hu : (h && und l r) = true) : cov l h r = ([], r) := by
  cases r with
  | nil => rfl
  | cons b r => unfold cov; rw [List.length_cons]; unfold covN; dsimp only; rw [if_pos hu]
theorem cov_byte {l : List Bs} {h : Bool} {b : UInt8} {r : Bs} (hu : ¬ (h && und l (b :: r)) = true) (hl : lng l (b :: r) = 0) : cov l h (b :: r) = (b :: (cov l h r).1, (cov l h r).2) := by
  unfold cov
  rw [List.length_cons]
  conv => lhs; unfold covN
  dsimp only
  rw [if_neg hu, if_pos hl]
theorem cov_hit {l : List Bs} {h : Bool} {b : UInt8} {r : Bs} (hu : ¬ (h && und l (b :: r)) = true) (hl : ¬ lng l (b :: r) = 0) :
    cov l h (b :: r) = (stars ++ (cov l h ((b :: r).drop (lng l (b :: r)))).1, (cov l h ((b :: r).drop (lng l (b :: r)))).2) := by
  unfold cov
  have hd : ((b :: r).drop (lng l (b :: r))).length ≤ r.length := by rw [List.length_drop, List.length_cons]; omega
  rw [covN_same l h _ r.length _ (Nat.le_refl _) hd, List.length_cons]
  conv => lhs; unfold covN
  dsimp only
  rw [if_neg hu, if_neg hl]

/-! ### the longest -/

theorem stp_le {r : Bs} {n : Nat} {s : Bs} (h : n ≤ r.length) : stp r n s ≤ r.length := by
  unfold stp
  split
  · rename_i h2; exact (pre_cut.1 h2.2).1
  · exact h
theorem stp_ge (r : Bs) (n : Nat) (s : Bs) : n ≤ stp r n s := by
  unfold stp
  split
  · omega
  · exact Nat.le_refl _
theorem fold_le (r : Bs) : ∀ (l : List Bs) (n : Nat), n ≤ r.length → l.foldl (stp r) n ≤ r.length
  | [], _, h => h
  | s :: l, n, h => fold_le r l _ (stp_le h)
theorem fold_ge (r : Bs) : ∀ (l : List Bs) (n : Nat), n ≤ l.foldl (stp r) n
  | [], _ => Nat.le_refl _
  | s :: l, n => Nat.le_trans (stp_ge r n s) (fold_ge r l _)
theorem lng_le (l : List Bs) (r : Bs) : lng l r ≤ r.length := fold_le r l 0 (Nat.zero_le _)
theorem fold_zero (r : Bs) : ∀ (l : List Bs), l.foldl (stp r) 0 = 0 ↔ ∀ s ∈ l, s = [] ∨ s.isPrefixOf r = false
  | [] => by simp
  | s :: l => by
    rw [List.foldl_cons]
    by_cases h : 0 < s.length ∧ s.isPrefixOf r = true
    · have h1 : stp r 0 s = s.length := by unfold stp; rw [if_pos h]
      have h2 := fold_ge r l (stp r 0 s)
      constructor
      · intro h0; omega
      · intro h0
        rcases h0 s (List.mem_cons_self ..) with h3 | h3
        · subst h3; simp at h
        · rw [h3] at h; exact absurd h.2 (by decide)
    · have h1 : stp r 0 s = 0 := by unfold stp; rw [if_neg h]
      rw [h1, fold_zero r l]
      constructor
      · intro h0 x hx
        rcases List.mem_cons.1 hx with rfl | hx
        · by_cases he : x = []
          · exact .inl he
          · refine .inr ?_
            cases hb : x.isPrefixOf r with
            | false => rfl
            | true => exact absurd ⟨List.length_pos_iff.2 he, hb⟩ h
        · exact h0 x hx
      · exact fun h0 x hx => h0 x (List.mem_cons_of_mem _ hx)
theorem lng_zero (l : List Bs) (r : Bs) : lng l r = 0 ↔ ∀ s ∈ l, s = [] ∨ s.isPrefixOf r = false := fold_zero r l
theorem lng_step {l : List Bs} {j : Nat} {s : Bs} (h : l[j]? = some s) (r : Bs) : lng (l.take (j + 1)) r = stp r (lng (l.take j) r) s := by
  obtain ⟨h1, rfl⟩ := List.getElem?_eq_some_iff.1 h
  rw [List.take_succ_eq_append_getElem h1]
  unfold lng
  rw [List.foldl_append]
  rfl
theorem und_iff (l : List Bs) (r : Bs) : und l r = true ↔ ∃ s ∈ l, r.length < s.length ∧ r.isPrefixOf s = true := by
  simp only [und, List.any_eq_true, Bool.and_eq_true, decide_eq_true_eq]
theorem cov_suf (l : List Bs) (h : Bool) : ∀ (n : Nat) (r : Bs), r.length ≤ n → ∃ p, r = p ++ (cov l h r).2
  | _, [], _ => ⟨[], rfl⟩
  | 0, b :: r, hn => by simp at hn
  | n + 1, b :: r, hn => by
    simp only [List.length_cons] at hn
    by_cases hu : (h && und l (b :: r)) = true
    · exact ⟨[], by rw [cov_stop hu]; rfl⟩
    · by_cases hl : lng l (b :: r) = 0
      · obtain ⟨p, hp⟩ := cov_suf l h n r (by omega)
        exact ⟨b :: p, by rw [cov_byte hu hl, List.cons_append, ← hp]⟩
      · have hd : ((b :: r).drop (lng l (b :: r))).length ≤ r.length := by rw [List.length_drop, List.length_cons]; omega
        obtain ⟨p, hp⟩ := cov_suf l h n ((b :: r).drop (lng l (b :: r))) (by omega)
        exact ⟨(b :: r).take (lng l (b :: r)) ++ p, by rw [cov_hit hu hl, List.append_assoc, ← hp, List.take_append_drop]⟩
theorem cov_rest (l : List Bs) (h : Bool) (r : Bs) : r.drop (r.length - (cov l h r).2.length) = (cov l h r).2 ∧ (cov l h r).2.length ≤ r.length := by
  obtain ⟨p, hp⟩ := cov_suf l h r.length r (Nat.le_refl _)
  have hlen : r.length = p.length + (cov l h r).2.length := by conv => lhs; rw [hp]; simp
  refine ⟨?_, by omega⟩
  rw [hlen, Nat.add_sub_cancel]
  conv => lhs; rw [hp]
  exact List.drop_left
theorem cov_held (l : List Bs) (h : Bool) : ∀ (n : Nat) (r : Bs), r.length ≤ n → (cov l h r).2 = [] ∨ (h && und l (cov l h r).2) = true
  | _, [], _ => .inl rfl
  | 0, b :: r, hn => by simp at hn
  | n + 1, b :: r, hn => by
    simp only [List.length_cons] at hn
    by_cases hu : (h && und l (b :: r)) = true
    · rw [cov_stop hu]; exact .inr hu
    · by_cases hl : lng l (b :: r) = 0
      · rw [cov_byte hu hl]; exact cov_held l h n r (by omega)
      · have hd : ((b :: r).drop (lng l (b :: r))).length ≤ r.length := by rw [List.length_drop, List.length_cons]; omega
        rw [cov_hit hu hl]; exact cov_held l h n _ (by omega)

/-! ### what was written contains no secret -/

def lks (l : List Bs) (s : Bs) : Prop := ∃ t ∈ l, ∃ i, t.isPrefixOf (s.drop i) = true
/-- no secret is empty or holds an asterisk -/
def Fine (l : List Bs) : Prop := ∀ t ∈ l, t ≠ [] ∧ (42 : UInt8) ∉ t
theorem pre_out {l : List Bs} {h : Bool} {t : Bs} (ht : (42 : UInt8) ∉ t) : ∀ (n : Nat) (r : Bs), r.length ≤ n → t.isPrefixOf (cov l h r).1 = true → t.isPrefixOf r = true := by
  intro n
  induction n generalizing t with
  | zero =>
    intro r hn hp
    have : r = [] := List.length_eq_zero_iff.1 (by omega)
    subst this; exact hp
  | succ n ih =>
    intro r hn hp
    cases r with
    | nil => exact hp
    | cons b r =>
      simp only [List.length_cons] at hn
      cases t with
      | nil => rfl
      | cons x t =>
        simp only [List.mem_cons, not_or] at ht
        by_cases hu : (h && und l (b :: r)) = true
        · rw [cov_stop hu] at hp; exact absurd hp (by simp)
        · by_cases hl : lng l (b :: r) = 0
          · rw [cov_byte hu hl] at hp
            simp only [List.isPrefixOf, Bool.and_eq_true, beq_iff_eq] at hp ⊢
            exact ⟨hp.1, ih ht.2 r (by omega) hp.2⟩
          · rw [cov_hit hu hl] at hp
            simp only [stars, List.cons_append, List.isPrefixOf, Bool.and_eq_true, beq_iff_eq] at hp
            exact absurd hp.1.symm ht.1
theorem not_lks_cov {l : List Bs} (hl : Fine l) (h : Bool) : ∀ (n : Nat) (r : Bs), r.length ≤ n → ¬ lks l (cov l h r).1 := by
  intro n
  induction n with
  | zero =>
    rintro r hn ⟨t, ht, i, hp⟩
    have : r = [] := List.length_eq_zero_iff.1 (by omega)
    subst this
    rw [cov_nil, List.drop_nil] at hp
    cases t with
    | nil => exact (hl _ ht).1 rfl
    | cons x t => cases hp
  | succ n ih =>
    rintro r hn ⟨t, ht, i, hp⟩
    have hne := (hl t ht).1
    have hst := (hl t ht).2
    cases r with
    | nil =>
      rw [cov_nil, List.drop_nil] at hp
      cases t with
      | nil => exact hne rfl
      | cons x t => cases hp
    | cons b r =>
      simp only [List.length_cons] at hn
      by_cases hu : (h && und l (b :: r)) = true
      · rw [cov_stop hu, List.drop_nil] at hp
        cases t with
        | nil => exact hne rfl
        | cons x t => cases hp
      · by_cases hz : lng l (b :: r) = 0
        · cases i with
          | zero =>
            have := pre_out hst (r.length + 1) (b :: r) (by simp) hp
            rcases (lng_zero l (b :: r)).1 hz t ht with h0 | h0
            · exact hne h0
            · rw [h0] at this; cases this
          | succ i =>
            rw [cov_byte hu hz] at hp
            exact ih r (by omega) ⟨t, ht, i, hp⟩
        · rw [cov_hit hu hz] at hp
          have hd : ((b :: r).drop (lng l (b :: r))).length ≤ r.length := by rw [List.length_drop, List.length_cons]; omega
          have star : ∀ y, ¬ t.isPrefixOf (42 :: y) = true := fun y hy => by
            cases t with
            | nil => exact hne rfl
            | cons x t =>
              simp only [List.isPrefixOf, Bool.and_eq_true, beq_iff_eq] at hy
              exact hst (hy.1 ▸ List.mem_cons_self ..)
          match i with
          | 0 => exact star _ hp
          | 1 => exact star _ hp
          | 2 => exact star _ hp
          | i + 3 => exact ih _ (by omega) ⟨t, ht, i, hp⟩
/-- a string is changed exactly if it contains a secret -/
theorem cov_same {l : List Bs} (hl : Fine l) : ∀ (n : Nat) (r : Bs), r.length ≤ n → ((cov l false r).1 ≠ r ↔ lks l r) := by
  intro n
  induction n with
  | zero =>
    intro r hn
    have : r = [] := List.length_eq_zero_iff.1 (by omega)
    subst this
    refine ⟨fun h => absurd rfl h, ?_⟩
    rintro ⟨t, ht, i, hp⟩
    rw [List.drop_nil] at hp
    cases t with
    | nil => exact absurd rfl (hl _ ht).1
    | cons x t => cases hp
  | succ n ih =>
    intro r hn
    cases r with
    | nil =>
      refine ⟨fun h => absurd rfl h, ?_⟩
      rintro ⟨t, ht, i, hp⟩
      rw [List.drop_nil] at hp
      cases t with
      | nil => exact absurd rfl (hl _ ht).1
      | cons x t => cases hp
    | cons b r =>
      simp only [List.length_cons] at hn
      have hu : ¬ (false && und l (b :: r)) = true := by simp
      by_cases hz : lng l (b :: r) = 0
      · rw [cov_byte hu hz]
        have := ih r (by omega)
        have e1 : (b :: (cov l false r).1 ≠ b :: r) ↔ (cov l false r).1 ≠ r := by simp
        rw [show ((b :: (cov l false r).1, (cov l false r).2) : Bs × Bs).1 = b :: (cov l false r).1 from rfl, e1, this]
        constructor
        · rintro ⟨t, ht, i, hp⟩; exact ⟨t, ht, i + 1, hp⟩
        · rintro ⟨t, ht, i, hp⟩
          cases i with
          | zero =>
            rcases (lng_zero l (b :: r)).1 hz t ht with h0 | h0
            · exact absurd h0 (hl t ht).1
            · rw [List.drop_zero, h0] at hp; cases hp
          | succ i => exact ⟨t, ht, i, hp⟩
      · rw [cov_hit hu hz]
        have hz' := hz
        rw [lng_zero] at hz'
        have : ∃ t ∈ l, t ≠ [] ∧ t.isPrefixOf (b :: r) = true := Classical.byContradiction fun h0 => hz' fun t ht => by
          by_cases he : t = []
          · exact .inl he
          · refine .inr ?_
            cases hb : t.isPrefixOf (b :: r) with
            | false => rfl
            | true => exact absurd ⟨t, ht, he, hb⟩ h0
        obtain ⟨t, ht, he, hp⟩ := this
        refine ⟨fun _ => ⟨t, ht, 0, hp⟩, fun _ h0 => ?_⟩
        cases t with
        | nil => exact he rfl
        | cons x t =>
          simp only [List.isPrefixOf, Bool.and_eq_true, beq_iff_eq] at hp
          have h1 : (42 : UInt8) = b := by simpa [stars] using congrArg List.head? h0
          exact (hl _ ht).2 (by rw [h1, ← hp.1]; exact List.mem_cons_self ..)

/-! ### parts -/

theorem und_more {l : List Bs} {x : Bs} (u : Bs) (h : und l (x ++ u) = true) : und l x = true := by
  rw [und_iff] at h ⊢
  obtain ⟨s, hs, h1, h2⟩ := h
  rw [List.length_append] at h1
  refine ⟨s, hs, by omega, ?_⟩
  rw [List.isPrefixOf_iff_prefix] at h2 ⊢
  exact (List.prefix_append x u).trans h2
theorem lng_more {l : List Bs} {x : Bs} (u : Bs) (h : ¬ und l x = true) : lng l (x ++ u) = lng l x := by
  have hs : ∀ s ∈ l, s.isPrefixOf (x ++ u) = s.isPrefixOf x := fun s hs => by
    rw [Bool.eq_iff_iff, List.isPrefixOf_iff_prefix, List.isPrefixOf_iff_prefix]
    constructor
    · intro h1
      by_cases hle : s.length ≤ x.length
      · exact List.prefix_of_prefix_length_le h1 (List.prefix_append x u) hle
      · refine absurd ((und_iff l x).2 ⟨s, hs, by omega, ?_⟩) h
        rw [List.isPrefixOf_iff_prefix]
        exact List.prefix_of_prefix_length_le (List.prefix_append x u) h1 (by omega)
    · exact fun h1 => h1.trans (List.prefix_append x u)
  unfold lng
  have key : ∀ (l' : List Bs), (∀ s ∈ l', s ∈ l) → ∀ n, l'.foldl (stp (x ++ u)) n = l'.foldl (stp x) n := by
    intro l'
    induction l' with
    | nil => exact fun _ _ => rfl
    | cons s l' ih =>
      intro h1 n
      rw [List.foldl_cons, List.foldl_cons, ih (fun s hs => h1 s (List.mem_cons_of_mem _ hs))]
      congr 1
      unfold stp
      rw [hs s (h1 s (List.mem_cons_self ..))]
  exact key l (fun _ h => h) 0
theorem cov_more {l : List Bs} (h : Bool) (u : Bs) : ∀ (n : Nat) (x : Bs), x.length ≤ n → cov l h (x ++ u) = ((cov l true x).1 ++ (cov l h ((cov l true x).2 ++ u)).1, (cov l h ((cov l true x).2 ++ u)).2) := by
  intro n
  induction n with
  | zero =>
    intro x hn
    have : x = [] := List.length_eq_zero_iff.1 (by omega)
    subst this; rfl
  | succ n ih =>
    intro x hn
    cases x with
    | nil => rfl
    | cons b x =>
      simp only [List.length_cons] at hn
      by_cases hu : (true && und l (b :: x)) = true
      · rw [cov_stop hu]; rfl
      · have hu' : ¬ und l (b :: x) = true := by simpa using hu
        have hu2 : ¬ (h && und l ((b :: x) ++ u)) = true := fun h0 => hu' (und_more u (by simp at h0; exact h0.2))
        have hm := lng_more u hu'
        have hle := lng_le l (b :: x)
        by_cases hz : lng l (b :: x) = 0
        · rw [cov_byte hu hz]
          rw [List.cons_append] at hm hu2 ⊢
          rw [cov_byte hu2 (hm.trans hz), ih x (by omega)]
          rfl
        · rw [cov_hit hu hz]
          have hd : ((b :: x).drop (lng l (b :: x))).length ≤ x.length := by rw [List.length_drop, List.length_cons]; omega
          rw [List.cons_append] at hm hu2 ⊢
          rw [cov_hit hu2 (by rw [hm]; exact hz), hm, ← List.cons_append, List.drop_append_of_le_length hle, ih _ (by omega), List.append_assoc]

/-! ### does a text contain a secret -/

theorem contains_iff (s t : Bs) : Lib.contains s t = true ↔ ∃ i, t.isPrefixOf (s.drop i) = true := by
  have hc : Lib.contains s t = decide (0 ≤ Lib.index s t) := rfl
  rw [hc, decide_eq_true_eq]
  rcases Lib.index_spec s t with ⟨h, hn⟩ | ⟨i, h, _, ho, _⟩
  · rw [h]
    refine ⟨fun h0 => absurd h0 (by decide), ?_⟩
    rintro ⟨i, hi⟩
    by_cases hle : i ≤ s.length
    · have := hn i hle
      unfold Lib.occAt at this
      rw [hi] at this; cases this
    · rw [List.drop_eq_nil_of_le (by omega)] at hi
      have := hn s.length (Nat.le_refl _)
      unfold Lib.occAt at this
      rw [List.drop_eq_nil_of_le (Nat.le_refl _), hi] at this; cases this
  · rw [h]
    exact ⟨fun _ => ⟨i, ho⟩, fun _ => by omega⟩
/-- as the code asks -/
def lkC (l : List Bs) (s : Bs) : Bool := l.any fun t => Lib.contains s t
/-- as the document asks -/
def lkR (l : List Bs) (s : Bs) : Bool := (List.range s.length).any fun i => decide (0 < lng l (s.drop i))
theorem lkC_iff (l : List Bs) (s : Bs) : lkC l s = true ↔ lks l s := by
  unfold lkC lks
  rw [List.any_eq_true]
  constructor
  · rintro ⟨t, ht, h⟩; exact ⟨t, ht, (contains_iff s t).1 h⟩
  · rintro ⟨t, ht, h⟩; exact ⟨t, ht, (contains_iff s t).2 h⟩
theorem lkR_iff {l : List Bs} (hl : ∀ t ∈ l, t ≠ []) (s : Bs) : lkR l s = true ↔ lks l s := by
  unfold lkR lks
  rw [List.any_eq_true]
  constructor
  · rintro ⟨i, _, h⟩
    have h' : ¬ lng l (s.drop i) = 0 := by have := of_decide_eq_true h; omega
    rw [lng_zero] at h'
    refine Classical.byContradiction fun h0 => h' fun t ht => .inr ?_
    cases hb : t.isPrefixOf (s.drop i) with
    | false => rfl
    | true => exact absurd ⟨t, ht, i, hb⟩ h0
  · rintro ⟨t, ht, i, h⟩
    have hi : i < s.length := Classical.byContradiction fun h0 => by
      rw [List.drop_eq_nil_of_le (by omega)] at h
      cases t with
      | nil => exact hl _ ht rfl
      | cons x t => cases h
    refine ⟨i, List.mem_range.2 hi, decide_eq_true ?_⟩
    refine Nat.pos_of_ne_zero fun h0 => ?_
    rcases (lng_zero l (s.drop i)).1 h0 t ht with h1 | h1
    · exact hl t ht h1
    · rw [h1] at h; cases h
theorem lk_same {l : List Bs} (hl : ∀ t ∈ l, t ≠ []) (s : Bs) : lkC l s = lkR l s := by
  rw [Bool.eq_iff_iff, lkC_iff, lkR_iff hl]
end Go.Proofs.Ytadiiejpacbfbaa
