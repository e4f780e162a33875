/- Lease: what holds over a sequence of calls, in plain Lean. -/
import Derived.Test.YtdmabodhmkgimaaA
namespace Go.Proofs.Ytdmabodhmkgimaa
open Go Go.Sym

abbrev Act := Int × Int × (ByteArray × ByteArray) × Int × ByteArray × Int × Int
abbrev acC (u : Act) : List Value := [.int .i64 u.1, .int .i64 u.2.1, .string u.2.2.1.1, .string u.2.2.1.2, .int .i64 u.2.2.2.1, .string u.2.2.2.2.1, .int .i64 u.2.2.2.2.2.1, .int .i64 u.2.2.2.2.2.2]
abbrev acV (u : Act) : Value := .agg (acC u).toArray
instance acE : EncOk acC 8 := ⟨fun _ => rfl, fun x u hu => by
  simp only [acC, List.mem_cons, List.not_mem_nil, or_false] at hu
  rcases hu with rfl | rfl | rfl | rfl | rfl | rfl | rfl | rfl <;> rfl⟩
theorem acC_ok (l : List Act) : ∀ x ∈ l, (acC x).length = 8 ∧ ∀ u ∈ acC x, u.oneCell' = true := acE.all l

def doOf (next : Int) (l : List Lse) (a : Act) (now : Int) : (Int × List Lse) × Int :=
  if a.1 = 0 then ((grtOf next l a.2.2.1.1 a.2.2.1.2 a.2.2.2.1 a.2.2.2.2.1 now).1, (grtOf next l a.2.2.1.1 a.2.2.1.2 a.2.2.2.1 a.2.2.2.2.1 now).2.1.1)
  else if a.1 = 1 then ((next, renOf next l a.2.2.2.2.1 now), 0)
  else if a.1 = 2 then ((next, (relOf next l a.2.2.2.2.2.1).1), 0)
  else ((next, l), 0)
theorem do_grant {next : Int} {l : List Lse} {a : Act} {now : Int} (h : a.1 = 0) : doOf next l a now = ((grtOf next l a.2.2.1.1 a.2.2.1.2 a.2.2.2.1 a.2.2.2.2.1 now).1, (grtOf next l a.2.2.1.1 a.2.2.1.2 a.2.2.2.1 a.2.2.2.2.1 now).2.1.1) := by
  unfold doOf; rw [if_pos h]
theorem do_renew {next : Int} {l : List Lse} {a : Act} {now : Int} (h : a.1 = 1) : doOf next l a now = ((next, renOf next l a.2.2.2.2.1 now), 0) := by
  unfold doOf; rw [if_neg (by omega), if_pos h]
theorem do_release {next : Int} {l : List Lse} {a : Act} {now : Int} (h : a.1 = 2) : doOf next l a now = ((next, (relOf next l a.2.2.2.2.2.1).1), 0) := by
  unfold doOf; rw [if_neg (by omega), if_neg (by omega), if_pos h]
theorem do_none {next : Int} {l : List Lse} {a : Act} {now : Int} (h0 : ¬ a.1 = 0) (h1 : ¬ a.1 = 1) (h2 : ¬ a.1 = 2) : doOf next l a now = ((next, l), 0) := by
  unfold doOf; rw [if_neg h0, if_neg h1, if_neg h2]
theorem do_good {next : Int} {l : List Lse} (a : Act) (now : Int) (h : Good next l) : Good (doOf next l a now).1.1 (doOf next l a now).1.2 := by
  unfold doOf
  split
  · exact good_grt _ _ _ _ _ h
  split
  · exact good_ren _ _ h
  split
  · exact good_rel _ h
  · exact h
theorem ren_len (next : Int) (l : List Lse) (w : ByteArray) (now : Int) : (renOf next l w now).length = l.length := by
  unfold renOf; split <;> simp
theorem rel_len (next : Int) (l : List Lse) (tok : Int) : (relOf next l tok).1.length ≤ l.length := by
  unfold relOf
  split
  · exact Nat.le_refl _
  split
  · exact Nat.le_refl _
  · simp only [List.length_append, List.length_take, List.length_drop]; omega
theorem grt_len (next : Int) (l : List Lse) (run job : ByteArray) (att : Int) (w : ByteArray) (now : Int) : (grtOf next l run job att w now).1.2.length ≤ l.length + 1 := by
  by_cases h0 : refOf next l run job att w now = 0
  · rw [grt_ok h0]; simp
  · rw [grt_err h0]; simp
theorem do_len (next : Int) (l : List Lse) (a : Act) (now : Int) : (doOf next l a now).1.2.length ≤ l.length + 1 := by
  unfold doOf
  split
  · exact grt_len ..
  split
  · show (renOf _ _ _ _).length ≤ _; rw [ren_len]; omega
  split
  · have := rel_len next l a.2.2.2.2.2.1; show (relOf _ _ _).1.length ≤ _; omega
  · show l.length ≤ _; omega

theorem good_tok {next : Int} {l : List Lse} (h : Good next l) {y z : Lse} (hy : y ∈ l) (hz : z ∈ l) (he : y.1 = z.1) : y = z := by
  have hp := h.2.2.2
  rw [List.pairwise_iff_getElem] at hp
  obtain ⟨i, hi, rfl⟩ := List.getElem_of_mem hy
  obtain ⟨j, hj, rfl⟩ := List.getElem_of_mem hz
  rcases Nat.lt_trichotomy i j with h1 | h1 | h1
  · have := (hp i j hi hj h1).1; omega
  · subst h1; rfl
  · have := (hp j i hj hi h1).1; omega
theorem good_ref {next : Int} {l : List Lse} (h : Good next l) {y z : Lse} (hy : y ∈ l) (hz : z ∈ l) (he : sameRef y z) : y = z := by
  have hp := h.2.2.2
  rw [List.pairwise_iff_getElem] at hp
  obtain ⟨i, hi, rfl⟩ := List.getElem_of_mem hy
  obtain ⟨j, hj, rfl⟩ := List.getElem_of_mem hz
  rcases Nat.lt_trichotomy i j with h1 | h1 | h1
  · exact absurd he (hp i j hi hj h1).2
  · subst h1; rfl
  · exact absurd ⟨he.1.symm, he.2.symm⟩ (hp j i hj hi h1).2
theorem fnd_mem {next : Int} {l : List Lse} (h : Good next l) {y : Lse} (hy : y ∈ l) : fndOf l y.1 = (y, true) := by
  rcases idx_cases (isTok y.1) l with ⟨_, h2⟩ | ⟨k, u, h0, hu, hk, hp, _⟩
  · have := h2 y hy
    simp [isTok] at this
  · rw [fnd_some h0 hu, good_tok h (List.mem_of_getElem? hu) hy (by simpa [isTok] using hp)]
theorem hol_ok {l : List Lse} {t : Int} {w : ByteArray} {now : Int} (h : holOf l t w now = 0) : ∃ y ∈ l, y.1 = t ∧ y.2.2.2.1 = w ∧ now < y.2.2.2.2.2 := by
  rcases idx_cases (isTok t) l with ⟨h0, _⟩ | ⟨k, u, h0, hu, hk, hp, _⟩
  · unfold holOf at h
    rw [fnd_none h0, if_pos (.inl rfl)] at h
    cases h
  · unfold holOf at h
    rw [fnd_some h0 hu] at h
    split at h
    · cases h
    split at h
    · cases h
    rename_i h1 h2
    have h3 : ¬ u.2.2.2.2.2 ≤ now := h2
    refine ⟨u, List.mem_of_getElem? hu, by simpa [isTok] using hp, ?_, by omega⟩
    by_cases e : u.2.2.2.1 = w
    · exact e
    · exact absurd (.inr e) h1
theorem hol_no {next : Int} {l : List Lse} (hg : Good next l) {t : Int} {w : ByteArray} {now : Int} (h : ¬ holOf l t w now = 0) {y : Lse} (hy : y ∈ l) (ht : y.1 = t) (hw : y.2.2.2.1 = w) : y.2.2.2.2.2 ≤ now := by
  subst ht hw
  unfold holOf at h
  rw [fnd_mem hg hy, if_neg (by simp)] at h
  split at h
  · assumption
  · exact absurd rfl h

/-- what the statement LeaseFences keeps -/
structure Inv (next : Int) (l : List Lse) (now : Int) (G : List Lse) (E : List Int) (top : Int) : Prop where
  good : Good next l
  top0 : 0 ≤ top
  lt : top < next
  asc : G.Pairwise (fun a b => a.1 < b.1)
  le : ∀ g ∈ G, g.1 ≤ top
  like : ∀ g ∈ G, ∀ y ∈ l, y.1 = g.1 → sameRef y g ∧ y.2.2.2.1 = g.2.2.2.1
  dead : ∀ t ∈ E, t ≤ top ∧ ∀ y ∈ l, y.1 = t → y.2.2.2.2.2 ≤ now
theorem Inv.time {next : Int} {l : List Lse} {now now' : Int} {G : List Lse} {E : List Int} {top : Int} (h : Inv next l now G E top) (hn : now ≤ now') : Inv next l now' G E top :=
  ⟨h.good, h.top0, h.lt, h.asc, h.le, h.like, fun t ht => ⟨(h.dead t ht).1, fun y hy e => Int.le_trans ((h.dead t ht).2 y hy e) hn⟩⟩
theorem Inv.sub {next : Int} {l l' : List Lse} {now : Int} {G : List Lse} {E : List Int} {top : Int} (h : Inv next l now G E top) (hs : l'.Sublist l) : Inv next l' now G E top :=
  ⟨good_sub hs h.good, h.top0, h.lt, h.asc, h.le, fun g hg y hy => h.like g hg y (hs.subset hy), fun t ht => ⟨(h.dead t ht).1, fun y hy => (h.dead t ht).2 y (hs.subset hy)⟩⟩
theorem Inv.ren {next : Int} {l : List Lse} {now : Int} {G : List Lse} {E : List Int} {top : Int} (h : Inv next l now G E top) (w : ByteArray) : Inv next (renOf next l w now) now G E top := by
  have hg := good_ren w now h.good
  unfold renOf at *
  split at hg
  · rename_i h0; rw [if_pos h0]; exact h
  · rename_i h0
    rw [if_neg h0]
    refine ⟨hg, h.top0, h.lt, h.asc, h.le, fun g hgG y hy e => ?_, fun t ht => ⟨(h.dead t ht).1, fun y hy e => ?_⟩⟩
    · obtain ⟨z, hz, rfl⟩ := List.mem_map.1 hy
      have := h.like g hgG z hz
      unfold rnU at *
      split <;> rename_i h1
      · rw [if_pos h1] at e; exact this e
      · rw [if_neg h1] at e; exact this e
    · obtain ⟨z, hz, rfl⟩ := List.mem_map.1 hy
      have := (h.dead t ht).2 z hz
      unfold rnU at *
      split <;> rename_i h1
      · rw [if_pos h1] at e; have := this e; omega
      · rw [if_neg h1] at e; exact this e
theorem Inv.rel {next : Int} {l : List Lse} {now : Int} {G : List Lse} {E : List Int} {top : Int} (h : Inv next l now G E top) (tok : Int) : Inv next (relOf next l tok).1 now G E top := by
  unfold relOf
  split
  · exact h
  split
  · exact h
  · exact h.sub (cut_sub _ _)
/-- a step without a new token -/
theorem Inv.keep {next : Int} {l : List Lse} {now : Int} {G : List Lse} {E : List Int} {top : Int} (h : Inv next l now G E top) (a : Act) (h0 : (doOf next l a now).2 = 0) : Inv (doOf next l a now).1.1 (doOf next l a now).1.2 now G E top := by
  by_cases k0 : a.1 = 0
  · rw [do_grant k0] at h0 ⊢
    by_cases r0 : refOf next l a.2.2.1.1 a.2.2.1.2 a.2.2.2.1 a.2.2.2.2.1 now = 0
    · rw [grt_ok r0] at h0
      have : next = 0 := h0
      have := h.good.1
      omega
    · rw [grt_err r0]; exact h
  by_cases k1 : a.1 = 1
  · rw [do_renew k1]; exact h.ren _
  by_cases k2 : a.1 = 2
  · rw [do_release k2]; exact h.rel _
  · rw [do_none k0 k1 k2]; exact h
abbrev newL (next : Int) (a : Act) (now : Int) : Lse := (next, a.2.2.1, a.2.2.2.1, a.2.2.2.2.1, now, now + 30000)
/-- a step with a new token -/
theorem do_new {next : Int} {l : List Lse} {now : Int} (a : Act) (h0 : ¬ (doOf next l a now).2 = 0) : doOf next l a now = ((next + 1, l ++ [newL next a now]), next) ∧ Good (next + 1) (l ++ [newL next a now]) ∧ Good next l := by
  by_cases k0 : a.1 = 0
  · rw [do_grant k0] at h0 ⊢
    by_cases r0 : refOf next l a.2.2.1.1 a.2.2.1.2 a.2.2.2.1 a.2.2.2.2.1 now = 0
    · rw [grt_ok r0]
      exact ⟨rfl, good_grant r0, (ref_ok r0).1⟩
    · rw [grt_err r0] at h0
      exact absurd rfl h0
  by_cases k1 : a.1 = 1
  · rw [do_renew k1] at h0; exact absurd rfl h0
  by_cases k2 : a.1 = 2
  · rw [do_release k2] at h0; exact absurd rfl h0
  · rw [do_none k0 k1 k2] at h0; exact absurd rfl h0
theorem new_fnd {next : Int} {l : List Lse} {now : Int} (a : Act) (hg : Good (next + 1) (l ++ [newL next a now])) : fndOf (l ++ [newL next a now]) next = (newL next a now, true) :=
  fnd_mem hg (y := newL next a now) (List.mem_append_right _ (List.mem_singleton.2 rfl))
theorem Inv.new {next : Int} {l : List Lse} {now : Int} {G : List Lse} {E : List Int} {top : Int} (h : Inv next l now G E top) (a : Act) (hg : Good (next + 1) (l ++ [newL next a now])) :
    Inv (next + 1) (l ++ [newL next a now]) now (G ++ [newL next a now]) E next := by
  have h3 := h.lt
  have hmem : newL next a now ∈ l ++ [newL next a now] := List.mem_append_right _ (List.mem_singleton.2 rfl)
  refine ⟨hg, by have := h.good.1; omega, by omega, ?_, fun g hgG => ?_, fun g hgG y hy e => ?_, fun t ht => ⟨by have := (h.dead t ht).1; omega, fun y hy e => ?_⟩⟩
  · refine List.pairwise_append.2 ⟨h.asc, List.pairwise_singleton .., fun x hx y hy => ?_⟩
    have := List.mem_singleton.1 hy
    subst this
    have := h.le x hx
    show x.1 < next
    omega
  · rcases List.mem_append.1 hgG with hgG | hgG
    · have := h.le g hgG; omega
    · rw [List.mem_singleton.1 hgG]; exact Int.le_refl _
  · rcases List.mem_append.1 hgG with hgG | hgG
    · rcases List.mem_append.1 hy with hy | hy
      · exact h.like g hgG y hy e
      · rw [List.mem_singleton.1 hy] at e
        have h1 : next = g.1 := e
        have := h.le g hgG
        omega
    · rw [List.mem_singleton.1 hgG] at e ⊢
      have := good_tok hg hy hmem e
      subst this
      exact ⟨⟨rfl, rfl⟩, rfl⟩
  · rcases List.mem_append.1 hy with hy | hy
    · exact (h.dead t ht).2 y hy e
    · rw [List.mem_singleton.1 hy] at e
      have h1 : next = t := e
      have := (h.dead t ht).1
      omega
/-- a token that is not accepted -/
theorem Inv.end_ {next : Int} {l : List Lse} {now : Int} {G : List Lse} {E : List Int} {top : Int} (h : Inv next l now G E top) {g : Lse} (hg : g ∈ G) (h0 : ¬ holOf l g.1 g.2.2.2.1 now = 0) : Inv next l now G (E ++ [g.1]) top :=
  ⟨h.good, h.top0, h.lt, h.asc, h.le, h.like, fun t ht => by
    rcases List.mem_append.1 ht with ht | ht
    · exact h.dead t ht
    · rw [List.mem_singleton.1 ht]
      exact ⟨h.le g hg, fun y hy e => hol_no h.good h0 hy e (h.like g hg y hy e).2⟩⟩
/-- never again -/
theorem Inv.fence {next : Int} {l : List Lse} {now : Int} {G : List Lse} {E : List Int} {top : Int} (h : Inv next l now G E top) {g : Lse} (h0 : holOf l g.1 g.2.2.2.1 now = 0) : ¬ g.1 ∈ E := fun hm => by
  obtain ⟨y, hy, e1, _, e3⟩ := hol_ok h0
  have := (h.dead _ hm).2 y hy e1
  omega
/-- no two of one job -/
theorem Inv.one {next : Int} {l : List Lse} {now : Int} {G : List Lse} {E : List Int} {top : Int} (h : Inv next l now G E top) {a b : Nat} {g k : Lse} (hg : G[a]? = some g) (hk : G[b]? = some k) (hlt : b < a) (h0 : holOf l g.1 g.2.2.2.1 now = 0) (h1 : holOf l k.1 k.2.2.2.1 now = 0) : ¬ sameRef k g := fun hs => by
  obtain ⟨y, hy, e1, _, _⟩ := hol_ok h0
  obtain ⟨z, hz, f1, _, _⟩ := hol_ok h1
  have s1 := (h.like g (List.mem_of_getElem? hg) y hy e1).1
  have s2 := (h.like k (List.mem_of_getElem? hk) z hz f1).1
  have hyz := good_ref h.good hz hy ⟨s2.1.trans (hs.1.trans s1.1.symm), s2.2.trans (hs.2.trans s1.2.symm)⟩
  have hp := h.asc
  rw [List.pairwise_iff_getElem] at hp
  obtain ⟨ha, rfl⟩ := List.getElem?_eq_some_iff.1 hg
  obtain ⟨hb, rfl⟩ := List.getElem?_eq_some_iff.1 hk
  have := hp b a hb ha hlt
  rw [hyz] at f1
  omega
theorem inv0 : Inv 1 [] 0 [] [] 0 := ⟨⟨by decide, by decide, (fun _ h => absurd h List.not_mem_nil), List.Pairwise.nil⟩, by decide, by decide, List.Pairwise.nil, (fun _ h => absurd h List.not_mem_nil), (fun _ h => absurd h List.not_mem_nil), (fun _ h => absurd h List.not_mem_nil)⟩
end Go.Proofs.Ytdmabodhmkgimaa
