/- Flake: the evidence about one test depends only on its own results, in plain Lean. -/
import Derived.Test.YtobifgpnfcnejaaF
namespace Go.Proofs.Ytobifgpnfcnejaa
open Go Go.Sym

theorem idxF_get : ∀ (ns : List ByteArray) (s : ByteArray) (i k : Nat), idxF ns s i = some k → ns[k - i]? = some s
  | [], _, _, _, h => by cases h
  | m :: ns, s, i, k, h => by
    unfold idxF at h
    split at h
    · injection h with h; subst h; rename_i e; subst e; simp
    · have h1 := idxF_lt ns s (i + 1) k h
      have := idxF_get ns s (i + 1) k h
      rw [show k - i = (k - (i + 1)) + 1 from by omega, List.getElem?_cons_succ]
      exact this
def evO (l : List Ev) (s : ByteArray) : Option Ev := (idxN l s).bind fun k => l[k]?
theorem idxN_name {l : List Ev} {s : ByteArray} {k : Nat} {u : Ev} (h : idxN l s = some k) (hu : l[k]? = some u) : u.1 = s := by
  have := idxF_get _ _ _ _ h
  rw [Nat.sub_zero, nms, List.getElem?_map, hu] at this
  injection this
theorem evO_some {l : List Ev} {s : ByteArray} {k : Nat} (h : idxN l s = some k) : ∃ u, l[k]? = some u ∧ evO l s = some u := by
  have hk := idxN_lt h
  refine ⟨l[k], List.getElem?_eq_getElem hk, ?_⟩
  unfold evO
  rw [h]
  exact List.getElem?_eq_getElem hk
theorem evO_none {l : List Ev} {s : ByteArray} (h : idxN l s = none) : evO l s = none := by unfold evO; rw [h]; rfl
theorem evO_snoc_other {l : List Ev} {e : Ev} {s : ByteArray} (hs : ¬ e.1 = s) : evO (l ++ [e]) s = evO l s := by
  cases h : idxN l s with
  | none =>
    rw [evO_none h, evO_none]
    rw [idxN_snoc, h]
    simp only [if_neg hs]
  | some k =>
    obtain ⟨u, hu, he⟩ := evO_some h
    rw [he]
    unfold evO
    rw [idxN_snoc, h]
    show (l ++ [e])[k]? = some u
    rw [List.getElem?_append_left (idxN_lt h)]; exact hu
theorem evO_snoc_new {l : List Ev} {e : Ev} (h : idxN l e.1 = none) : evO (l ++ [e]) e.1 = some e := by
  unfold evO
  rw [idxN_snoc, h]
  simp
theorem evO_set_other {l : List Ev} {k : Nat} {u u' : Ev} {s : ByteArray} (hu : l[k]? = some u) (hn : u'.1 = u.1) (hs : ¬ u.1 = s) : evO (l.set k u') s = evO l s := by
  unfold evO
  rw [idxN_set hu hn]
  cases h : idxN l s with
  | none => rfl
  | some i =>
    show (l.set k u')[i]? = l[i]?
    rw [List.getElem?_set_ne]
    rintro rfl
    exact hs (idxN_name h hu)
theorem evO_set_own {l : List Ev} {k : Nat} {u u' : Ev} {s : ByteArray} (h : idxN l s = some k) (hu : l[k]? = some u) (hn : u'.1 = u.1) : evO (l.set k u') s = some u' := by
  unfold evO
  rw [idxN_set hu hn, h]
  show (l.set k u')[k]? = some u'
  rw [List.getElem?_set_self (idxN_lt h)]
/-- one result -/
abbrev ownP (s : ByteArray) (r : Tr) : Prop := r.1 = s ∧ dec r.2.1
theorem obs1_ev {code : Int} {out : List Ev} {r : Tr} (hl : out.length < 4096) (s : ByteArray) : ∃ o, obs1 code out r = some o ∧ o.length ≤ out.length + 1 ∧
    evO o s = if ownP s r then some (stp ((evO out s).getD (Ev0 s)) r.2.1 code) else evO out s := by
  by_cases hd : dec r.2.1
  · cases hk : idxN out r.1 with
    | some k =>
      obtain ⟨u, hu, he⟩ := evO_some hk
      refine ⟨_, obs_old hd hk hu, by simp, ?_⟩
      by_cases hs : r.1 = s
      · rw [if_pos ⟨hs, hd⟩, ← hs, evO_set_own hk hu (stp_name _ _ _), he]
        rfl
      · rw [if_neg (fun h => hs h.1), evO_set_other hu (stp_name _ _ _) (by rw [idxN_name hk hu]; exact hs)]
    | none =>
      have hu : (out ++ [Ev0 r.1])[out.length]? = some (Ev0 r.1) := by simp
      refine ⟨_, obs_new hd hk (by omega), by simp, ?_⟩
      by_cases hs : r.1 = s
      · subst hs
        have hi : idxN (out ++ [Ev0 r.1]) r.1 = some out.length := by rw [idxN_snoc, hk]; simp
        rw [if_pos ⟨rfl, hd⟩, evO_set_own hi hu (stp_name _ _ _), evO_none hk]
        rfl
      · rw [if_neg (fun h => hs h.1), evO_set_other hu (stp_name _ _ _) hs, evO_snoc_other hs]
  · exact ⟨out, obs_skip hd, by omega, by rw [if_neg (fun h => hd h.2)]⟩
/-- the own results, in order -/
abbrev OD := List (Tr × Int)
def fold1 (s : ByteArray) (o : Option Ev) (ds : OD) : Option Ev := ds.foldl (fun o d => some (stp (o.getD (Ev0 s)) d.1.2.1 d.2)) o
abbrev ownR (s : ByteArray) (rs : List Tr) (code : Int) : OD := (rs.filter fun r => decide (ownP s r)).map fun r => (r, code)
theorem obsL_ev {code : Int} (s : ByteArray) : ∀ (rs : List Tr) (out : List Ev), out.length + rs.length ≤ 4096 → ∃ o, obsL code out rs = some o ∧ o.length ≤ out.length + rs.length ∧ evO o s = fold1 s (evO out s) (ownR s rs code)
  | [], out, _ => ⟨out, rfl, by simp, rfl⟩
  | r :: rs, out, h => by
    simp only [List.length_cons] at h
    obtain ⟨o1, h1, h2, h3⟩ := obs1_ev (code := code) (r := r) (out := out) (by omega) s
    obtain ⟨o, h4, h5, h6⟩ := obsL_ev s rs o1 (by omega)
    refine ⟨o, by simp only [obsL, h1]; exact h4, by simp only [List.length_cons]; omega, ?_⟩
    rw [h6, h3]
    by_cases hp : ownP s r
    · rw [if_pos hp, ownR, ownR, List.filter_cons_of_pos (by simpa using hp), List.map_cons]
      rfl
    · rw [if_neg hp, ownR, ownR, List.filter_cons_of_neg (by simpa using hp)]
abbrev BD := List (List Tr × Int)
def runB (bs : BD) (l : List Ev) : List Ev := bs.foldl (fun out d => (obsOf out d.1 d.2).1) l
def ownD (bs : BD) (s : ByteArray) : OD := bs.flatMap fun d => ownR s d.1 d.2
def cnt (bs : BD) : Nat := (bs.map fun d => d.1.length).sum
theorem run_ev (s : ByteArray) : ∀ (bs : BD) (l : List Ev), l.length + cnt bs ≤ 4096 → evO (runB bs l) s = fold1 s (evO l s) (ownD bs s)
  | [], _, _ => rfl
  | d :: bs, l, h => by
    have hc : cnt (d :: bs) = d.1.length + cnt bs := by simp [cnt]
    obtain ⟨o, h1, h2, h3⟩ := obsL_ev (code := d.2) s d.1 l (by omega)
    have := run_ev s bs o (by omega)
    show evO (runB bs (obsOf l d.1 d.2).1) s = _
    rw [obsOf_some h1]
    show evO (runB bs o) s = _
    rw [this, h3]
    show fold1 s (fold1 s (evO l s) (ownR s d.1 d.2)) (ownD bs s) = fold1 s (evO l s) (ownR s d.1 d.2 ++ ownD bs s)
    unfold fold1
    rw [List.foldl_append]
theorem run_cap : ∀ (bs : BD) (l : List Ev), l.length ≤ 4096 → (runB bs l).length ≤ 4096
  | [], _, h => h
  | d :: bs, l, h => by
    refine run_cap bs _ ?_
    have key : ∀ (rs : List Tr) (out o : List Ev), out.length ≤ 4096 → obsL d.2 out rs = some o → o.length ≤ 4096 := by
      intro rs
      induction rs with
      | nil => intro out o ho h1; simp only [obsL, Option.some.injEq] at h1; subst h1; exact ho
      | cons r rs ih =>
        intro out o ho h1
        simp only [obsL] at h1
        cases h2 : obs1 d.2 out r with
        | none => rw [h2] at h1; cases h1
        | some o1 =>
          rw [h2] at h1
          refine ih o1 o ?_ h1
          unfold obs1 at h2
          split at h2
          · injection h2 with h2; subst h2; exact ho
          split at h2
          · injection h2 with h2; subst h2; simpa using ho
          · split at h2
            · cases h2
            · injection h2 with h2; subst h2; simp; omega
    show (obsOf l d.1 d.2).1.length ≤ 4096
    cases h1 : obsL d.2 l d.1 with
    | none => rw [obsOf_none h1]; exact h
    | some o => rw [obsOf_some h1]; exact key _ _ _ h h1
theorem run_ok : ∀ (bs : BD) (l : List Ev), AllOk l → AllOk (runB bs l)
  | [], _, h => h
  | d :: bs, l, h => run_ok bs _ (obsOf_ok h).1
/-- what watching finds -/
def watOf (bs : BD) (s : ByteArray) : Ev := (evO (runB bs []) s).getD (Ev0 ByteArray.empty)
abbrev ownB (bs : BD) (s : ByteArray) : BD := (ownD bs s).map fun d => ([d.1], d.2)
theorem own_mem {bs : BD} {s : ByteArray} {d : Tr × Int} (h : d ∈ ownD bs s) : ownP s d.1 := by
  obtain ⟨b, _, hb⟩ := List.mem_flatMap.1 h
  obtain ⟨r, hr, rfl⟩ := List.mem_map.1 hb
  simpa using (List.mem_filter.1 hr).2
theorem own_own (bs : BD) (s : ByteArray) : ownD (ownB bs s) s = ownD bs s := by
  have key : ∀ ds : OD, (∀ d ∈ ds, ownP s d.1) → ownD (ds.map fun d => ([d.1], d.2)) s = ds := by
    intro ds
    induction ds with
    | nil => intro _; rfl
    | cons d ds ih =>
      intro h
      have h1 := h d (List.mem_cons_self ..)
      show ownR s [d.1] d.2 ++ ownD (ds.map fun d => ([d.1], d.2)) s = d :: ds
      rw [ih (fun x hx => h x (List.mem_cons_of_mem _ hx)), ownR, List.filter_cons_of_pos (by simpa using h1)]
      rfl
  exact key _ fun d hd => own_mem hd
theorem cnt_own (bs : BD) (s : ByteArray) : cnt (ownB bs s) ≤ cnt bs ∧ (ownD bs s).length ≤ cnt bs := by
  have h2 : (ownD bs s).length ≤ cnt bs := by
    induction bs with
    | nil => exact Nat.le_refl _
    | cons d bs ih =>
      have h1 : (ownD (d :: bs) s).length = (ownR s d.1 d.2).length + (ownD bs s).length := by
        show (ownR s d.1 d.2 ++ ownD bs s).length = _
        rw [List.length_append]
      have h3 : (ownR s d.1 d.2).length ≤ d.1.length := by rw [ownR, List.length_map]; exact List.length_filter_le _ _
      have hc : cnt (d :: bs) = d.1.length + cnt bs := by simp [cnt]
      omega
  refine ⟨Nat.le_trans (Nat.le_of_eq ?_) h2, h2⟩
  show cnt ((ownD bs s).map fun d => ([d.1], d.2)) = _
  generalize ownD bs s = ds
  induction ds with
  | nil => rfl
  | cons d ds ih =>
    have : cnt ((d :: ds).map fun d => ([d.1], d.2)) = 1 + cnt (ds.map fun d => ([d.1], d.2)) := by simp [cnt]
    rw [this, ih, List.length_cons, Nat.add_comm]
theorem wat_own {bs : BD} {s : ByteArray} (h : cnt bs ≤ 4096) : watOf (ownB bs s) s = watOf bs s := by
  have h1 := cnt_own bs s
  unfold watOf
  rw [run_ev s bs [] (by simpa using h), run_ev s (ownB bs s) [] (by simp only [List.length_nil]; omega), own_own]
/-- no flips -/
abbrev flipAt (ds : OD) (i : Nat) : Prop := ∃ a b, ds[i - 1]? = some a ∧ ds[i]? = some b ∧ b.2 = a.2 ∧ ¬ b.1.2.1 = a.1.2.1
theorem fold_inv {s : ByteArray} {ds : OD} (hd : ∀ d ∈ ds, ownP s d.1) : ∀ n, 1 ≤ n → n ≤ ds.length → ∃ e a, fold1 s none (ds.take n) = some e ∧ ds[n - 1]? = some a ∧ e.2.2.2.2.2 = a.1.2.1 ∧ e.2.2.2.2.1 = a.2 ∧ dec a.1.2.1 ∧
    ((∀ i, 1 ≤ i → i < n → ¬ flipAt ds i) → e.2.1 ≤ 0 ∧ -9223372036854775808 ≤ e.2.1 ∧ ¬ e.2.2.2.1 = 2)
  | 0, h, _ => by omega
  | 1, _, h => by
    obtain ⟨a, ha⟩ : ∃ a, ds[0]? = some a := ⟨_, List.getElem?_eq_getElem (by omega)⟩
    have hp := (hd a (List.mem_of_getElem? ha)).2
    have ht : ds.take 1 = [a] := by
      obtain ⟨h1, rfl⟩ := List.getElem?_eq_some_iff.1 ha
      rw [show (1 : Nat) = 0 + 1 from rfl, List.take_succ_eq_append_getElem h1]
      rfl
    have hs : stp (Ev0 s) a.1.2.1 a.2 = (s, 0, 0, 0, a.2, a.1.2.1) := stp_set hp (fun h => by have := h.1; unfold dec at this; simp at this)
    refine ⟨(s, 0, 0, 0, a.2, a.1.2.1), a, by rw [ht]; show some (stp (Ev0 s) a.1.2.1 a.2) = _; rw [hs], ha, rfl, rfl, hp, fun _ => ⟨Int.le_refl 0, (by decide : (-9223372036854775808 : Int) ≤ 0), (by decide : ¬ (0 : Int) = 2)⟩⟩
  | n + 2, _, h => by
    obtain ⟨e, a, h1, h2, h3, h4, h5, h6⟩ := fold_inv hd (n + 1) (by omega) (by omega)
    obtain ⟨b, hb⟩ : ∃ b, ds[n + 1]? = some b := ⟨_, List.getElem?_eq_getElem (by omega)⟩
    have hp := (hd b (List.mem_of_getElem? hb)).2
    have ht : ds.take (n + 2) = ds.take (n + 1) ++ [b] := by
      obtain ⟨h1, rfl⟩ := List.getElem?_eq_some_iff.1 hb
      exact List.take_succ_eq_append_getElem h1
    have hf : fold1 s none (ds.take (n + 2)) = some (stp e b.1.2.1 b.2) := by
      rw [ht]
      unfold fold1 at h1 ⊢
      rw [List.foldl_append, h1]
      rfl
    refine ⟨_, b, hf, hb, ?_, ?_, hp, fun hnf => ?_⟩
    · unfold stp; rw [if_neg (not_not_intro hp)]; split <;> rfl
    · unfold stp; rw [if_neg (not_not_intro hp)]; split <;> rfl
    · obtain ⟨k1, k0, k2⟩ := h6 fun i hi hi2 => hnf i hi (by omega)
      by_cases hpp : pairP e b.2
      · rw [stp_pair hp hpp]
        have hst : b.1.2.1 = a.1.2.1 := Classical.byContradiction fun hne => hnf (n + 1) (by omega) (by omega) ⟨a, b, h2, hb, by rw [← hpp.2.1, h4], hne⟩
        have hg : gn (decide (¬ b.1.2.1 = e.2.2.2.2.2)) = -20 := by rw [decide_eq_false (not_not_intro (by rw [h3]; exact hst))]; rfl
        have hsc : scOf e b.1.2.1 = lim (sat e.2.1 (-20)) := by unfold scOf; rw [hg]
        have hsat : sat e.2.1 (-20) ≤ 0 ∧ sat e.2.1 (-20) ≤ 0 := by unfold sat; (repeat' split) <;> omega
        have hlim : scOf e b.1.2.1 ≤ 0 ∧ -1000 ≤ scOf e b.1.2.1 := by rw [hsc]; unfold lim; omega
        refine ⟨hlim.1, by show -9223372036854775808 ≤ scOf e b.1.2.1; omega, ?_⟩
        show ¬ vdOf (scOf e b.1.2.1) e.2.2.2.1 = 2
        unfold vdOf
        rw [if_neg (by omega)]
        split
        · decide
        · exact k2
      · rw [stp_set hp hpp]
        exact ⟨k1, k0, k2⟩
end Go.Proofs.Ytobifgpnfcnejaa
