/- Proved here: rules of our own engine for walking a program, part 8: lists whose elements lead on to further lists. -/
import Derived.Test.YtadiiejpacbfbaaC7
namespace Go.Sym
open Go Go.RowKit

/-! ## Lists of facts and items, brought into form -/

class App {α : Type} (A B : List α) (C : outParam (List α)) : Prop where
  eq : A ++ B = C
instance App.nil {α : Type} (B : List α) : App [] B B := ⟨rfl⟩
instance App.cons {α : Type} (a : α) (A B C : List α) [h : App A B C] : App (a :: A) B (a :: C) := ⟨by rw [List.cons_append, h.eq]⟩
class AppF (A B : List Fact) (C : outParam (List Fact)) : Prop where
  eq : A ++ B = C
instance AppF.nil (B : List Fact) : AppF [] B B := ⟨rfl⟩
instance AppF.cons (a : Fact) (A B C : List Fact) [h : AppF A B C] : AppF (a :: A) B (a :: C) := ⟨by rw [List.cons_append, h.eq]⟩

section
variable {N : Nat} {c : Ctx} {P : Program} {m : Ent} {L L' : List Itm} {F : List Fact} {K : Act → World → Prop}

theorem SP.norm {A : List Itm} {B F' : List Fact} [h1 : App A L L'] [h2 : AppF B F F'] (h : SP N c K m L' F') : SP N c K m (A ++ L) (B ++ F) := by
  rw [h1.eq, h2.eq]; exact h

theorem SP.ent {t : Nat} {v : Value} (v' : Value) (ht : get m t = some v) (hv : v = v') (h : SP N c K ((t, v') :: m) L F) : SP N c K m L F := fun a w hs => h a w ⟨⟨hs.agree.defers, hs.agree.size, fun t' u hu => by
  by_cases he : t = t'
  · subst he
    rw [get_cons_same] at hu
    injection hu with hu
    subst hu
    rw [← hv]
    exact hs.agree.val t v ht
  · rw [get_cons_ne _ _ he] at hu
    exact hs.agree.val t' u hu⟩, hs.ws⟩

/-! ## Lists whose elements lead on -/

/-- of each pair of elements the facts hold -/
def Fact.each {α β : Type} (us : List α) (R : List β) (rel : α → β → List Fact) : Fact where
  p := fun D w => ∀ (i : Nat) u r, us[i]? = some u → R[i]? = some r → AllF (rel u r) D w
  mono := fun _ _ _ _ h hn i u r hu hr => (h i u r hu hr).mono hn

/-- a slice whose elements are read by a relation: headers and what they stand for -/
def Fact.nest {α β : Type} (v : Value) (sz : Nat) (enc : α → List Value) (R : List β) (rel : α → β → List Fact) : Fact where
  p := fun D w => ∃ us : List α, us.length = R.length ∧ arrP v sz enc us D w ∧ ∀ (i : Nat) u r, us[i]? = some u → R[i]? = some r → AllF (rel u r) D w
  mono := fun D w D' w' ⟨us, hl, ha, he⟩ hn => ⟨us, hl, (Fact.arr v sz enc us).mono D w D' w' ha hn, fun i u r hu hr => (he i u r hu hr).mono hn⟩

class HasNest (F : List Fact) (v : Value) {α : outParam Type} {β : outParam Type} (sz : outParam Nat) (enc : outParam (α → List Value)) (R : outParam (List β)) (rel : outParam (α → β → List Fact)) : Prop where
  mem : Fact.nest v sz enc R rel ∈ F
instance (priority := high) HasNest.head {α β : Type} (v : Value) (sz : Nat) (enc : α → List Value) (R : List β) (rel : α → β → List Fact) (F : List Fact) : HasNest (Fact.nest v sz enc R rel :: F) v sz enc R rel := ⟨List.mem_cons_self ..⟩
instance HasNest.tail {α β : Type} (v : Value) (sz : Nat) (enc : α → List Value) (R : List β) (rel : α → β → List Fact) (f : Fact) (F : List Fact) [h : HasNest F v sz enc R rel] : HasNest (f :: F) v sz enc R rel := ⟨List.mem_cons_of_mem _ h.mem⟩

class HasEach (F : List Fact) {α β : Type} (us : List α) (R : outParam (List β)) (rel : outParam (α → β → List Fact)) : Prop where
  mem : Fact.each us R rel ∈ F
instance (priority := high) HasEach.head {α β : Type} (us : List α) (R : List β) (rel : α → β → List Fact) (F : List Fact) : HasEach (Fact.each us R rel :: F) us R rel := ⟨List.mem_cons_self ..⟩
instance HasEach.tail {α β : Type} (us : List α) (R : List β) (rel : α → β → List Fact) (f : Fact) (F : List Fact) [h : HasEach F us R rel] : HasEach (f :: F) us R rel := ⟨List.mem_cons_of_mem _ h.mem⟩

theorem SP.nest {α β : Type} {sz : Nat} {enc : α → List Value} {R : List β} {rel : α → β → List Fact} (v : Value) [h : HasNest F v sz enc R rel] (k : ∀ us, us.length = R.length → SP N c K m L (Fact.arr v sz enc us :: Fact.each us R rel :: F)) : SP N c K m L F := fun a w hs => by
  obtain ⟨us, hl, ha, he⟩ := hs.ws.facts _ h.mem
  exact k us hl a w ⟨hs.agree, hs.ws.d0, hs.ws.below, hs.ws.own, AllF.cons ha (AllF.cons he hs.ws.facts)⟩

theorem SP.elem {α β : Type} {us : List α} {R : List β} {rel : α → β → List Fact} [h : HasEach F us R rel] {k : Nat} {u : α} {r : β} (hu : us[k]? = some u) (hr : R[k]? = some r) (h1 : SP N c K m L (rel u r ++ F)) : SP N c K m L F := fun a w hs =>
  h1 a w ⟨hs.agree, hs.ws.d0, hs.ws.below, hs.ws.own, (hs.ws.facts _ h.mem k u r hu hr).append hs.ws.facts⟩

theorem SP.normF {B F' : List Fact} [h2 : AppF B F F'] (h : SP N c K m L F') : SP N c K m L (B ++ F) := by
  rw [h2.eq]; exact h

/-- what was gathered, one more -/
theorem eachP_snoc {α β : Type} {us : List α} {R : List β} {rel : α → β → List Fact} {u : α} {r : β} {D : Nat → Prop} {w : World} (hl : us.length = R.length) (h : ∀ (i : Nat) u r, us[i]? = some u → R[i]? = some r → AllF (rel u r) D w) (h1 : AllF (rel u r) D w) :
    ∀ (i : Nat) u' r', (us ++ [u])[i]? = some u' → (R ++ [r])[i]? = some r' → AllF (rel u' r') D w := by
  intro i u' r' hu hr
  rcases Nat.lt_trichotomy i us.length with hi | hi | hi
  · rw [List.getElem?_append_left hi] at hu
    rw [List.getElem?_append_left (by omega)] at hr
    exact h i u' r' hu hr
  · subst hi
    rw [List.getElem?_append_right (Nat.le_refl _)] at hu
    rw [hl, List.getElem?_append_right (Nat.le_refl _)] at hr
    simp only [Nat.sub_self, List.getElem?_cons_zero, Option.some.injEq] at hu hr
    subst hu hr
    exact h1
  · rw [List.getElem?_eq_none (by simp; omega)] at hu
    cases hu

theorem Ent1.each_snoc {α β : Type} {us : List α} {R : List β} {rel : α → β → List Fact} {u : α} {r : β} {F : List Fact} (hl : us.length = R.length) (h : Ent1 F (Fact.each us R rel)) (h1 : Ents F (rel u r)) : Ent1 F (Fact.each (us ++ [u]) (R ++ [r]) rel) :=
  fun D w hF => eachP_snoc hl (h D w hF) (h1 D w hF)
theorem Ent1.each_nil {α β : Type} {rel : α → β → List Fact} {F : List Fact} : Ent1 F (Fact.each [] [] rel) := fun _ _ _ i u r hu => by simp at hu
theorem Ent1.nest {α β : Type} {v : Value} {sz : Nat} {enc : α → List Value} {us : List α} {R : List β} {rel : α → β → List Fact} {F : List Fact} (hl : us.length = R.length) (h : Ent1 F (Fact.arr v sz enc us)) (he : Ent1 F (Fact.each us R rel)) : Ent1 F (Fact.nest v sz enc R rel) :=
  fun D w hF => ⟨us, hl, h D w hF, he D w hF⟩
end

instance (L : List Itm) (F : List Fact) (v : Value) {α β : Type} (sz : Nat) (enc : α → List Value) (R : List β) (rel : α → β → List Fact) [h : HasNest F v sz enc R rel] : One L F v := ⟨fun _ D w _ hF => by
  obtain ⟨_, _, ⟨_, _, hv, _⟩, _⟩ := hF _ h.mem
  subst hv
  rfl⟩

/-- '[][]byte' -/
abbrev relB (u : Value) (r : List Int) : List Fact := [Fact.arr u 1 encB r]

end Go.Sym
namespace Go.Sym
open Go Go.RowKit
theorem each_one {us : List Value} {R : List (List Int)} {F : List Fact} (us' : List Value) [h : HasEach F us' R relB] (he : us' = us) (hl : us.length = R.length) : Ent1 F (Fact.pure (∀ u ∈ us, u.oneCell' = true)) := fun D w hF => by
  subst he
  intro u hu
  obtain ⟨i, hi⟩ := List.getElem?_of_mem hu
  have hlt : i < R.length := by
    have := (List.getElem?_eq_some_iff.1 hi).1
    omega
  have := hF _ h.mem i u R[i] hi (List.getElem?_eq_getElem hlt) _ (List.mem_cons_self ..)
  obtain ⟨a, cp, hv, _⟩ := this
  subst hv
  rfl

theorem SP.less' {N : Nat} {c : Ctx} {m : Ent} {L : List Itm} {F F' : List Fact} {K : Act → World → Prop} (hF : Ents F F') (k : SP N c K m L F') : SP N c K m L F := fun a w hs => k a w ⟨hs.agree, hs.ws.d0, hs.ws.below, hs.ws.own, hF _ _ hs.ws.facts⟩

/-- a row of headers with what they stand for, written no more -/
theorem SP.rowsGive {N : Nat} {c : Ctx} {m : Ent} {L L' : List Itm} {F : List Fact} {K : Act → World → Prop} (v : Value) (us : List Value) {e n : Nat} {R : List (List Int)} [hd : DelRow L v e 1 n (us.flatMap encV) L'] [h : HasEach F us R relB] (hl : us.length = R.length) (hn : R.length = n)
    (k : SP N c K m L' (Fact.nest v 1 encV R relB :: F)) : SP N c K m L F := by
  refine SP.pure (each_one us rfl hl) fun hone => ?_
  refine SP.rowGive v encV us (by omega) rfl (encV_ok us hone) ?_
  refine SP.less' ?_ k
  exact Ents.cons (Ent1.nest hl (Ent1.mem (List.mem_cons_self ..)) (Ent1.mem (List.mem_cons_of_mem _ h.mem))) (Ents.sub fun g hg => List.mem_cons_of_mem _ hg)
end Go.Sym
