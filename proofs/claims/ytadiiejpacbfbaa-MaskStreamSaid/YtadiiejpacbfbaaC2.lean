/- Proved here: rules of our own engine for walking a program, part 2: types by instances, lists read from memory as facts, looking things up in a state. -/
import Derived.Test.YtadiiejpacbfbaaC1
namespace Go.Sym
open Go Go.RowKit

/-! ## What is asked of the program's tables -/

class Ty (P : Program) (t : TypeId) (agg : outParam Bool) (sz bytes : outParam Nat) (z : outParam Value) : Prop where
  info : (P.info? t).map (fun i => (i.zero, i.size, i.bytes)) = some (some z, sz, bytes)
  und : (P.underlying t).map (fun d => match d with | .struct _ => true | .array _ _ => true | _ => false) = some agg

class Elem (P : Program) (e : TypeId) (sz bytes : outParam Nat) : Prop where
  ty : ∃ agg z, Ty P e agg sz bytes z ∧ z.cells.size = sz
  pos : 0 < sz ∧ 0 < bytes

class SliceTy (P : Program) (t : TypeId) (e : outParam TypeId) : Prop where
  und : P.underlying t = some (.slice e)

class ArrayTy (P : Program) (t : TypeId) (n : outParam Nat) (e : outParam TypeId) : Prop where
  und : P.underlying t = some (.array n e)

class StrTy (P : Program) (t : TypeId) : Prop where
  und : P.underlying t = some .string

class IntTy (P : Program) (t : TypeId) (k : outParam IntKind) : Prop where
  und : P.underlying t = some (.int k)

class BoolTy (P : Program) (t : TypeId) : Prop where
  und : P.underlying t = some .bool

class FieldTy (P : Program) (s : TypeId) (i : Nat) (off : outParam Nat) : Prop where
  run : ∀ (a : Addr) (w : World), (Instr.fieldAt s (.pointer (some a)) i).run P w = .ok (.pointer (some (a.add off))) w

class FnTy (P : Program) (f : FuncId) : Prop where
  run : ∀ (args : Array Value) (w : World), (callFunc f args).run P w = .ok (.enter f args) w

section
variable {P : Program} {w : World}

theorem Ty.sizeOf_run {t : TypeId} {agg : Bool} {sz bytes : Nat} {z : Value} (h : Ty P t agg sz bytes z) : (sizeOf t).run P w = .ok sz w := by
  obtain ⟨i, hi, _, hs, _⟩ := info_parts h.info
  simp [sizeOf, typeInfo, hi, hs]

theorem Ty.zero_run {t : TypeId} {agg : Bool} {sz bytes : Nat} {z : Value} (h : Ty P t agg sz bytes z) : (zeroValue t).run P w = .ok z w := by
  obtain ⟨i, hi, hz, _, _⟩ := info_parts h.info
  simp [zeroValue, typeInfo, hi, hz]

theorem Ty.isAgg_run {t : TypeId} {agg : Bool} {sz bytes : Nat} {z : Value} (h : Ty P t agg sz bytes z) : (isAgg t).run P w = .ok agg w := by
  have hu := h.und
  cases hd : P.underlying t with
  | none => simp [hd] at hu
  | some d =>
    simp only [hd, Option.map_some, Option.some.injEq] at hu
    subst hu
    unfold isAgg
    simp only [Sem.run_bind, run_underlying hd, Result.andThen_ok]
    cases d <;> rfl

/-- a variable of one cell is read -/
theorem loadVar_one {t : TypeId} {sz bytes : Nat} {z : Value} (h : Ty P t false sz bytes z) {a : Addr} {v : Value} (hc : w.cell? a = some v) : (loadVar t a).run P w = .ok v w := by
  unfold loadVar
  simp [h.isAgg_run, hc]

/-- a variable of several cells is read -/
theorem loadVar_agg {t : TypeId} {sz bytes : Nat} {z : Value} (h : Ty P t true sz bytes z) {a : Addr} {cs : List Value} (hl : cs.length = sz) (hc : ∀ j v, cs[j]? = some v → w.cell? (a.add j) = some v) :
    (loadVar t a).run P w = .ok (.agg cs.toArray) w := by
  unfold loadVar
  simp [h.isAgg_run, h.sizeOf_run]
  subst hl
  rw [run_loadCells_list w a cs hc]
  rfl
end

/-! ## Facts -/

/-- a slice that reads as a list: each element 'sz' cells -/
def arrP {α : Type} (v : Value) (sz : Nat) (enc : α → List Value) (l : List α) (D : Nat → Prop) (w : World) : Prop :=
  ∃ (a : Option Addr) (c : Nat), v = .slice a l.length c ∧ l.length ≤ c ∧ c ≤ maxLen ∧ (a = none → l = [] ∧ c = 0) ∧ (∀ x ∈ l, (enc x).length = sz ∧ ∀ u ∈ enc x, u.oneCell' = true) ∧
    (l ≠ [] → ∃ b off, a = some ⟨b, off, none⟩ ∧ b < w.heap.size ∧ ¬ D b ∧ ∀ j u, (l.flatMap enc)[j]? = some u → w.cell? ⟨b, off + j, none⟩ = some u)

def Fact.arr {α : Type} (v : Value) (sz : Nat) (enc : α → List Value) (l : List α) : Fact where
  p := arrP v sz enc l
  mono := by
    rintro D w D' w' ⟨a, c, hv, hlc, hc, hn, hs, hcell⟩ hx
    refine ⟨a, c, hv, hlc, hc, hn, hs, fun hl => ?_⟩
    obtain ⟨b, off, ha, hb, hD, hcells⟩ := hcell hl
    obtain ⟨h1, h2⟩ := hx.same b hb hD
    exact ⟨b, off, ha, Nat.lt_of_lt_of_le hb hx.size, h1, fun j u hu => by rw [World.cell?_of_block (w := w) h2]; exact hcells j u hu⟩

/-- a block that nobody writes any more -/
def Fact.box (b : Nat) (cs : List Value) : Fact where
  p := fun D w => ¬ D b ∧ ∃ e, w.heap[b]? = some (.cells cs.toArray e (0, 0))
  mono := by
    rintro D w D' w' ⟨hD, e, he⟩ hx
    obtain ⟨h1, h2⟩ := hx.same b (Array.getElem?_eq_some_iff.1 he).1 hD
    exact ⟨h1, e, h2.trans he⟩

def Fact.pure (q : Prop) : Fact where
  p := fun _ _ => q
  mono := fun _ _ _ _ h _ => h

/-- there is something of which the facts hold -/
def Fact.ex {β : Type} (q : β → List Fact) : Fact where
  p := fun D w => ∃ x, AllF (q x) D w
  mono := fun _ _ _ _ ⟨x, hx⟩ hn => ⟨x, hx.mono hn⟩

theorem flatMap_length {α : Type} {enc : α → List Value} {sz : Nat} : ∀ {l : List α}, (∀ x ∈ l, (enc x).length = sz) → (l.flatMap enc).length = l.length * sz
  | [], _ => by simp
  | x :: l, h => by
    simp only [List.flatMap_cons, List.length_append, List.length_cons]
    rw [h x (by simp), flatMap_length (fun y hy => h y (by simp [hy])), Nat.add_mul, Nat.one_mul, Nat.add_comm]

theorem flatMap_get {α : Type} {enc : α → List Value} {sz : Nat} : ∀ {l : List α} {k : Nat} {x : α}, (∀ x ∈ l, (enc x).length = sz) → l[k]? = some x → ∀ o, o < sz → (l.flatMap enc)[k * sz + o]? = (enc x)[o]?
  | [], k, x, _, hx, o, ho => by simp at hx
  | y :: l, 0, x, h, hx, o, ho => by
    simp only [List.getElem?_cons_zero, Option.some.injEq] at hx
    subst hx
    rw [List.flatMap_cons, Nat.zero_mul, Nat.zero_add, List.getElem?_append_left (by rw [h y (by simp)]; exact ho)]
  | y :: l, k + 1, x, h, hx, o, ho => by
    simp only [List.getElem?_cons_succ] at hx
    have := flatMap_get (fun z hz => h z (by simp [hz])) hx o ho
    rw [List.flatMap_cons, List.getElem?_append_right (by rw [h y (by simp), Nat.add_mul]; omega), h y (by simp), ← this]
    congr 1
    rw [Nat.add_mul]; omega

def eptr (v : Value) (sz k o : Nat) : Value :=
  match v with
  | .slice (some a) _ _ => .pointer (some (a.add (k * sz + o)))
  | _ => .pointer none

theorem Addr.add_add (a : Addr) (i j : Nat) : (a.add i).add j = a.add (i + j) := by
  unfold Addr.add
  by_cases hi : i = 0 <;> by_cases hj : j = 0 <;> simp [hi, hj, Nat.add_assoc]

theorem arr_shape {α : Type} {v : Value} {sz : Nat} {enc : α → List Value} {l : List α} {D : Nat → Prop} {w : World} (h : arrP v sz enc l D w) {k : Nat} {x : α} (hx : l[k]? = some x) :
    ∃ b off c, v = .slice (some ⟨b, off, none⟩) l.length c ∧ ∀ o u, (enc x)[o]? = some u → w.cell? ⟨b, off + (k * sz + o), none⟩ = some u := by
  obtain ⟨a, c, hv, hlc, hc, hn, hs, hcell⟩ := h
  have hne : l ≠ [] := by rintro rfl; simp at hx
  obtain ⟨b, off, ha, hb, hD, hcells⟩ := hcell hne
  refine ⟨b, off, c, by rw [hv, ha], fun o u hu => hcells _ _ ?_⟩
  have hxm : x ∈ l := List.mem_of_getElem? hx
  have hlt : o < sz := by
    rw [← (hs x hxm).1]
    exact (List.getElem?_eq_some_iff.1 hu).1
  rw [flatMap_get (fun z hz => (hs z hz).1) hx o hlt]
  exact hu

theorem addr_add_lit (b off j : Nat) : (⟨b, off, none⟩ : Addr).add j = ⟨b, off + j, none⟩ := by
  unfold Addr.add; split <;> simp_all

/-! ## Looking things up -/

class HasBox (L : List Itm) (b : Nat) (cs : outParam (List Value)) : Prop where
  mem : Itm.box b cs ∈ L
instance (priority := high) HasBox.head (b : Nat) (cs : List Value) (L : List Itm) : HasBox (.box b cs :: L) b cs := ⟨List.mem_cons_self ..⟩
instance HasBox.tail (b : Nat) (cs : List Value) (it : Itm) (L : List Itm) [h : HasBox L b cs] : HasBox (it :: L) b cs := ⟨List.mem_cons_of_mem _ h.mem⟩

class HasRow (L : List Itm) (v : Value) (e sz n : outParam Nat) (xs : outParam (List Value)) : Prop where
  mem : Itm.row e sz v n xs ∈ L
instance (priority := high) HasRow.head (e sz : Nat) (v : Value) (n : Nat) (xs : List Value) (L : List Itm) : HasRow (.row e sz v n xs :: L) v e sz n xs := ⟨List.mem_cons_self ..⟩
instance HasRow.tail (e sz : Nat) (v : Value) (n : Nat) (xs : List Value) (it : Itm) (L : List Itm) [h : HasRow L v e sz n xs] : HasRow (it :: L) v e sz n xs := ⟨List.mem_cons_of_mem _ h.mem⟩

class DelBox (L : List Itm) (b : Nat) (cs : outParam (List Value)) (L' : outParam (List Itm)) : Prop where
  perm : L.Perm (.box b cs :: L')
instance (priority := high) DelBox.head (b : Nat) (cs : List Value) (L : List Itm) : DelBox (.box b cs :: L) b cs L := ⟨.refl _⟩
instance DelBox.tail (b : Nat) (cs : List Value) (it : Itm) (L L' : List Itm) [h : DelBox L b cs L'] : DelBox (it :: L) b cs (it :: L') := ⟨(h.perm.cons it).trans (.swap _ _ _)⟩

class DelRow (L : List Itm) (v : Value) (e sz n : outParam Nat) (xs : outParam (List Value)) (L' : outParam (List Itm)) : Prop where
  perm : L.Perm (.row e sz v n xs :: L')
instance (priority := high) DelRow.head (e sz : Nat) (v : Value) (n : Nat) (xs : List Value) (L : List Itm) : DelRow (.row e sz v n xs :: L) v e sz n xs L := ⟨.refl _⟩
instance DelRow.tail (e sz : Nat) (v : Value) (n : Nat) (xs : List Value) (it : Itm) (L L' : List Itm) [h : DelRow L v e sz n xs L'] : DelRow (it :: L) v e sz n xs (it :: L') := ⟨(h.perm.cons it).trans (.swap _ _ _)⟩

class HasArr (F : List Fact) (v : Value) {α : outParam Type} (sz : outParam Nat) (enc : outParam (α → List Value)) (l : outParam (List α)) : Prop where
  mem : Fact.arr v sz enc l ∈ F
instance (priority := high) HasArr.head {α : Type} (v : Value) (sz : Nat) (enc : α → List Value) (l : List α) (F : List Fact) : HasArr (Fact.arr v sz enc l :: F) v sz enc l := ⟨List.mem_cons_self ..⟩
instance HasArr.tail {α : Type} (v : Value) (sz : Nat) (enc : α → List Value) (l : List α) (f : Fact) (F : List Fact) [h : HasArr F v sz enc l] : HasArr (f :: F) v sz enc l := ⟨List.mem_cons_of_mem _ h.mem⟩

class HasFBox (F : List Fact) (b : Nat) (cs : outParam (List Value)) : Prop where
  mem : Fact.box b cs ∈ F
instance (priority := high) HasFBox.head (b : Nat) (cs : List Value) (F : List Fact) : HasFBox (Fact.box b cs :: F) b cs := ⟨List.mem_cons_self ..⟩
instance HasFBox.tail (b : Nat) (cs : List Value) (f : Fact) (F : List Fact) [h : HasFBox F b cs] : HasFBox (f :: F) b cs := ⟨List.mem_cons_of_mem _ h.mem⟩

theorem WSt.boxCell {c : Ctx} {L : List Itm} {F : List Fact} {w : World} (h : WSt c L F w) {b : Nat} {cs : List Value} (hb : HasBox L b cs) (j : Nat) : w.cell? ⟨b, j, none⟩ = cs[j]? := by
  obtain ⟨_, e, he⟩ := h.own.holds _ hb.mem
  rw [cell_of_row w b j _ e (0, 0) he]
  simp

theorem WSt.fboxCell {c : Ctx} {L : List Itm} {F : List Fact} {w : World} (h : WSt c L F w) {b : Nat} {cs : List Value} (hb : HasFBox F b cs) (j : Nat) : w.cell? ⟨b, j, none⟩ = cs[j]? := by
  obtain ⟨_, e, he⟩ := h.facts _ hb.mem
  rw [cell_of_row w b j _ e (0, 0) he]
  simp

end Go.Sym
