/- Proved here: rules of our own engine for walking a program, part 10: a law's arguments opened into Lean data, and the law's given row from a contract. -/
import Derived.Test.YtadiiejpacbfbaaC9
import Derived.ProofKit
import Derived.OpenShut
import Derived.ChangeOld
import Derived.Deep.Slices
namespace Go.Sym
open Go Go.RowKit Go.ChangeShapes Go.WideShapes

/-! ## Arguments, opened -/

/-- of each element the facts hold -/
def Fact.all {α : Type} (l : List α) (q : α → List Fact) : Fact where
  p := fun D w => ∀ x ∈ l, AllF (q x) D w
  mono := fun _ _ _ _ h hn x hx => (h x hx).mono hn

/-- 'Reads P w t cs': the cells read as something of type t -/
def Reads (P : Program) (w : World) (fuel : Nat) (t : TypeId) (cs : List Value) : Prop :=
  ∃ (H : Type) (e : TypeId × Value → H) (x : DataW H × List MemPlace), DataW.trod e P w 0 (fun _ => true) true fuel t cs = some x

/-- what the cells of an argument's type are, and what they lead to -/
class Opn (P : Program) (t : TypeId) (sz : outParam Nat) (α : outParam Type) (enc : outParam (α → List Value)) (ok : outParam (α → Prop)) (fs : outParam (α → List Fact)) : Prop where
  size : P.cellsOf t = sz
  down : ∀ (w : World) (fuel : Nat) (cs : List Value), Reads P w fuel t cs → ∃ a, cs = enc a ∧ (enc a).length = sz ∧ (∀ u ∈ enc a, u.oneCell' = true) ∧ ok a ∧ AllF (fs a) (fun _ => False) w

theorem Ty.cells {P : Program} {t : TypeId} {agg : Bool} {sz bytes : Nat} {z : Value} (h : Ty P t agg sz bytes z) : P.cellsOf t = sz := by
  obtain ⟨i, hi, _, hs, _⟩ := info_parts h.info
  simp [Program.cellsOf, hi, hs]

def encT (b : Bool) : List Value := [.bool b]
def encK (k : IntKind) (n : Int) : List Value := [.int k n]

section
variable {P : Program} {t e : TypeId}

instance (priority := high) Opn.i64 [ht : IntTy P t .i64] {bytes : Nat} {z : Value} [hz : Ty P t false 1 bytes z] : Opn P t 1 Int encI (fun n => -9223372036854775808 ≤ n ∧ n ≤ 9223372036854775807) (fun _ => []) where
  size := hz.cells
  down := fun w fuel cs ⟨H, e, x, h⟩ => by
    obtain ⟨n, rfl, _, hwf⟩ := DataW.trod_int ht.und h
    exact ⟨n, rfl, rfl, fun u hu => (encI_ok [n] n (by simp)).2 u hu, bounds_i64 hwf, AllF.nil _ _⟩
instance (priority := high) Opn.u8 [ht : IntTy P t .u8] {bytes : Nat} {z : Value} [hz : Ty P t false 1 bytes z] : Opn P t 1 Int encB (fun n => 0 ≤ n ∧ n ≤ 255) (fun _ => []) where
  size := hz.cells
  down := fun w fuel cs ⟨H, e, x, h⟩ => by
    obtain ⟨n, rfl, _, hwf⟩ := DataW.trod_int ht.und h
    exact ⟨n, rfl, rfl, fun u hu => (encB_ok [n] n (by simp)).2 u hu, bounds_u8 hwf, AllF.nil _ _⟩
instance Opn.int {k : IntKind} [ht : IntTy P t k] {bytes : Nat} {z : Value} [hz : Ty P t false 1 bytes z] : Opn P t 1 Int (encK k) (fun n => (Lit.int k n).wf = true) (fun _ => []) where
  size := hz.cells
  down := fun w fuel cs ⟨H, e, x, h⟩ => by
    obtain ⟨n, rfl, _, hwf⟩ := DataW.trod_int ht.und h
    exact ⟨n, rfl, rfl, fun u hu => by simp [encK] at hu; subst hu; rfl, hwf, AllF.nil _ _⟩
instance Opn.str [ht : StrTy P t] {bytes : Nat} {z : Value} [hz : Ty P t false 1 bytes z] : Opn P t 1 ByteArray encS (fun s => s.size ≤ 9223372036854775807) (fun _ => []) where
  size := hz.cells
  down := fun w fuel cs ⟨H, e, x, h⟩ => by
    obtain ⟨n, rfl, _, hwf⟩ := DataW.trod_string ht.und h
    exact ⟨n, rfl, rfl, fun u hu => (encS_ok [n] n (by simp)).2 u hu, hwf, AllF.nil _ _⟩
instance Opn.bool [ht : BoolTy P t] {bytes : Nat} {z : Value} [hz : Ty P t false 1 bytes z] : Opn P t 1 Bool encT (fun _ => True) (fun _ => []) where
  size := hz.cells
  down := fun w fuel cs ⟨H, e, x, h⟩ => by
    obtain ⟨n, rfl, _⟩ := DataW.trod_bool ht.und h
    exact ⟨n, rfl, rfl, fun u hu => by simp [encT] at hu; subst hu; rfl, trivial, AllF.nil _ _⟩

theorem list_of_each {β : Type} {q : Nat → β → Prop} : ∀ (n : Nat), (∀ i, i < n → ∃ b, q i b) → ∃ l : List β, l.length = n ∧ ∀ i b, l[i]? = some b → q i b
  | 0, _ => ⟨[], rfl, fun i b h => by simp at h⟩
  | n + 1, h => by
    obtain ⟨l, hl, hq⟩ := list_of_each n (fun i hi => h i (by omega))
    obtain ⟨b, hb⟩ := h n (by omega)
    refine ⟨l ++ [b], by simp [hl], fun i b' hi => ?_⟩
    rcases Nat.lt_trichotomy i n with hlt | rfl | hgt
    · rw [List.getElem?_append_left (by omega)] at hi
      exact hq i b' hi
    · rw [List.getElem?_append_right (by omega), hl, Nat.sub_self] at hi
      simp only [List.getElem?_cons_zero, Option.some.injEq] at hi
      exact hi ▸ hb
    · rw [List.getElem?_eq_none (by simp [hl]; omega)] at hi
      cases hi

/-- a slice: its header and its elements -/
def encH {β : Type} (p : Value × β) : List Value := [p.1]

instance Opn.slice [ht : SliceTy P t e] {bytes : Nat} {z : Value} [hz : Ty P t false 1 bytes z] {sz sz1 bytes' : Nat} [hE : Elem P e sz bytes'] {β : Type} {enc : β → List Value} {ok : β → Prop} {fs : β → List Fact} [he : Opn P e sz1 β enc ok fs] :
    Opn P t 1 (Value × List β) encH (fun p => p.2.length ≤ 9223372036854775807 ∧ ∀ x ∈ p.2, ok x) (fun p => [Fact.arr p.1 sz enc p.2, Fact.all p.2 fs]) where
  size := hz.cells
  down := fun w fuel cs ⟨H, e', x, h⟩ => by
    have hpos := hE.pos.1
    obtain rfl : sz = sz1 := by
      obtain ⟨⟨_, _, hty, _⟩, _⟩ := hE
      exact hty.cells.symm.trans he.size
    rcases Go.Deep.open_slice ht.und h with ⟨rfl, _⟩ | ⟨a, len, cap, m, n, D, Pl, rfl, _, hl, hm, hmm, _, hx⟩
    · exact ⟨(.slice none 0 0, []), rfl, rfl, fun u hu => by simp [encH] at hu; subst hu; rfl, ⟨by simp, by simp⟩, AllF.cons (arr_nil (F := []) _ _ (AllF.nil _ _)) (AllF.cons (fun y hy => by cases hy) (AllF.nil _ _))⟩
    · have hmm' : m = cap := by simpa using hmm
      rw [he.size] at hx
      obtain ⟨l, hlen, hq⟩ := list_of_each (q := fun i b => (enc b).length = sz ∧ (∀ u ∈ enc b, u.oneCell' = true) ∧ ok b ∧ AllF (fs b) (fun _ => False) w ∧ ∀ o u, (enc b)[o]? = some u → w.cell? (a.add (i * sz + o)) = some u) len (fun i hi => by
        obtain ⟨cs', h1, h2⟩ := hx i (by omega)
        obtain ⟨b, rfl, h3, h4, h5, h6⟩ := he.down w n cs' ⟨H, e', _, h2⟩
        refine ⟨b, h3, h4, h5, h6, fun o u hu => ?_⟩
        obtain ⟨_, _, hc⟩ := World.cells?_some h1
        have ho : o < sz := by rw [← h3]; exact (List.getElem?_eq_some_iff.1 hu).1
        rw [← Addr.add_add, hc o ho, hu])
      have hall : ∀ b ∈ l, (enc b).length = sz ∧ (∀ u ∈ enc b, u.oneCell' = true) ∧ ok b ∧ AllF (fs b) (fun _ => False) w := fun b hb => by
        obtain ⟨i, hi⟩ := List.getElem?_of_mem hb
        obtain ⟨h1, h2, h3, h4, _⟩ := hq i b hi
        exact ⟨h1, h2, h3, h4⟩
      have hmax : maxLen = 9223372036854775807 := rfl
      refine ⟨(.slice (some a) len cap, l), rfl, rfl, fun u hu => by simp [encH] at hu; subst hu; rfl, ⟨(by show l.length ≤ _; rw [hlen]; omega), fun b hb => (hall b hb).2.2.1⟩, AllF.cons ?_ (AllF.cons (fun b hb => (hall b hb).2.2.2) (AllF.nil _ _))⟩
      refine ⟨some a, cap, by rw [hlen], (by show l.length ≤ _; rw [hlen]; exact hl), hm, (fun h => by cases h), fun b hb => ⟨(hall b hb).1, (hall b hb).2.1⟩, fun hne => ?_⟩
      obtain ⟨b0, rest, rfl⟩ : ∃ b0 rest, l = b0 :: rest := by cases l with | nil => exact absurd rfl hne | cons b r => exact ⟨b, r, rfl⟩
      obtain ⟨blk, off, spot⟩ := a
      have h0 := hq 0 b0 rfl
      obtain ⟨u0, hu0⟩ : ∃ u, (enc b0)[0]? = some u := ⟨_, List.getElem?_eq_getElem (by rw [h0.1]; omega)⟩
      have hc0 := h0.2.2.2.2 0 u0 hu0
      have hspot : spot = none := by simpa [Addr.add] using World.cell?_spot hc0
      subst hspot
      refine ⟨blk, off, rfl, ?_, (fun h => h), fun j u hu => ?_⟩
      · unfold World.cell? at hc0
        simp only [Addr.add, Nat.zero_mul, Nat.add_zero, if_true] at hc0
        split at hc0
        · rename_i heq
          exact (Array.getElem?_eq_some_iff.1 heq).1
        · cases hc0
      · have hflat : ((b0 :: rest).flatMap enc).length = (b0 :: rest).length * sz := flatMap_length (fun b hb => (hall b hb).1)
        have hj : j < (b0 :: rest).length * sz := by rw [← hflat]; exact (List.getElem?_eq_some_iff.1 hu).1
        have hk : j / sz < (b0 :: rest).length := Nat.div_lt_of_lt_mul (by rw [Nat.mul_comm]; exact hj)
        have hkg : (b0 :: rest)[j / sz]? = some (b0 :: rest)[j / sz] := List.getElem?_eq_getElem hk
        have hmod : j % sz < sz := Nat.mod_lt _ hpos
        have hdec : j / sz * sz + j % sz = j := Nat.div_add_mod' j sz
        have h1 := flatMap_get (fun b hb => (hall b hb).1) hkg (j % sz) hmod
        rw [hdec] at h1
        have h2 := (hq _ _ hkg).2.2.2.2 (j % sz) u (by rw [← h1]; exact hu)
        rw [hdec, addr_add_lit] at h2
        exact h2

/-! ### parts one behind the other -/

def Parts (P : Program) (w : World) (fuel : Nat) : List TypeId → List Value → Prop
  | [], cs => cs = []
  | t :: ts, cs => Reads P w fuel t (cs.take (P.cellsOf t)) ∧ Parts P w fuel ts (cs.drop (P.cellsOf t))

class OpnL (P : Program) (ts : List TypeId) (sz : outParam Nat) (α : outParam Type) (enc : outParam (α → List Value)) (ok : outParam (α → Prop)) (fs : outParam (α → List Fact)) : Prop where
  size : (ts.map P.cellsOf).sum = sz
  down : ∀ (w : World) (fuel : Nat) (cs : List Value), Parts P w fuel ts cs → ∃ a, cs = enc a ∧ (enc a).length = sz ∧ (∀ u ∈ enc a, u.oneCell' = true) ∧ ok a ∧ AllF (fs a) (fun _ => False) w

instance OpnL.one {sz : Nat} {α : Type} {enc : α → List Value} {ok : α → Prop} {fs : α → List Fact} [h : Opn P t sz α enc ok fs] : OpnL P [t] sz α enc ok fs where
  size := by simp [h.size]
  down := fun w fuel cs ⟨h1, h2⟩ => by
    obtain ⟨a, h3, h4, h5, h6, h7⟩ := h.down w fuel _ h1
    refine ⟨a, ?_, h4, h5, h6, h7⟩
    have h2' : cs.drop (P.cellsOf t) = [] := h2
    rw [← h3]
    conv => lhs; rw [← List.take_append_drop (P.cellsOf t) cs, h2', List.append_nil]
instance OpnL.cons {t' : TypeId} {ts : List TypeId} {sz sz' : Nat} {α β : Type} {enc : α → List Value} {ok : α → Prop} {fs : α → List Fact} {enc' : β → List Value} {ok' : β → Prop} {fs' : β → List Fact} [h : Opn P t sz α enc ok fs] [h' : OpnL P (t' :: ts) sz' β enc' ok' fs'] :
    OpnL P (t :: t' :: ts) (sz + sz') (α × β) (fun p => enc p.1 ++ enc' p.2) (fun p => ok p.1 ∧ ok' p.2) (fun p => fs p.1 ++ fs' p.2) where
  size := by rw [List.map_cons, List.sum_cons, h.size, h'.size]
  down := fun w fuel cs ⟨h1, h2⟩ => by
    obtain ⟨a, h3, h4, h5, h6, h7⟩ := h.down w fuel _ h1
    obtain ⟨b, k3, k4, k5, k6, k7⟩ := h'.down w fuel _ h2
    refine ⟨(a, b), ?_, by simp [h4, k4], fun u hu => ?_, ⟨h6, k6⟩, h7.append k7⟩
    · rw [← h3, ← k3, List.take_append_drop]
    · rcases List.mem_append.1 hu with hu | hu
      · exact h5 u hu
      · exact k5 u hu

def places (P : Program) : Nat → List TypeId → List (TypeId × Nat)
  | _, [] => []
  | o, t :: ts => (t, o) :: places P (o + P.cellsOf t) ts

class StructTy (P : Program) (t : TypeId) (ts : outParam (List TypeId)) : Prop where
  und : (P.underlying t).map (fun d => match d with | .struct fs => (true, fs.toList.map fun f => (f.type, f.offset)) | _ => (false, [])) = some (true, places P 0 ts)
  cells : P.cellsOf t = (ts.map P.cellsOf).sum

theorem parts_of {P : Program} {w : World} {fuel : Nat} : ∀ (ts : List TypeId) (o : Nat) (cs : List Value), cs.length = o + (ts.map P.cellsOf).sum →
    (∀ (i : Nat) (p : TypeId × Nat), (places P o ts)[i]? = some p → Reads P w fuel p.1 ((cs.drop p.2).take (P.cellsOf p.1))) → Parts P w fuel ts (cs.drop o)
  | [], o, cs, hl, _ => by
    simp only [List.map_nil, List.sum_nil, Nat.add_zero] at hl
    exact List.drop_eq_nil_of_le (by omega)
  | t :: ts, o, cs, hl, h => by
    refine ⟨h 0 (t, o) rfl, ?_⟩
    rw [List.drop_drop]
    exact parts_of ts (o + P.cellsOf t) cs (by rw [hl]; simp; omega) (fun i p hp => h (i + 1) p (by simpa [places] using hp))

instance Opn.struct {ts : List TypeId} [ht : StructTy P t ts] {sz : Nat} {α : Type} {enc : α → List Value} {ok : α → Prop} {fs : α → List Fact} [hL : OpnL P ts sz α enc ok fs] : Opn P t sz α enc ok fs where
  size := ht.cells.trans hL.size
  down := fun w fuel cs ⟨H, e, x, h⟩ => by
    have hu := ht.und
    cases hd : P.underlying t with
    | none => simp [hd] at hu
    | some d =>
      rw [hd] at hu
      simp only [Option.map_some, Option.some.injEq] at hu
      cases d <;> simp only [Prod.mk.injEq, Bool.false_eq_true, false_and, true_and] at hu
      obtain ⟨xs, n, _, _, hl, hxs, hx⟩ := DataW.trod_struct hd h
      refine hL.down w n cs ?_
      have := parts_of (P := P) (w := w) (fuel := n) ts 0 cs (by rw [hl, ht.cells]; simp) (fun i p hp => ?_)
      · simpa using this
      · rw [← hu, List.getElem?_map] at hp
        obtain ⟨f, hf, rfl⟩ := Option.map_eq_some_iff.1 hp
        have hlt : i < xs.length := by
          have := (List.getElem?_eq_some_iff.1 hf).1
          simp at this
          omega
        have h1 := hx i f (by simpa using hf)
        rw [List.getElem?_eq_getElem hlt] at h1
        exact ⟨H, e, _, h1⟩

theorem places_rep (P : Program) (e : TypeId) : ∀ (n o : Nat) (i : Nat) p, (places P o (List.replicate n e))[i]? = some p → p = (e, o + i * P.cellsOf e) ∧ i < n
  | 0, o, i, p, h => by simp [places] at h
  | n + 1, o, 0, p, h => by
    simp only [List.replicate_succ, places, List.getElem?_cons_zero, Option.some.injEq] at h
    exact ⟨by simp [← h], by omega⟩
  | n + 1, o, i + 1, p, h => by
    simp only [List.replicate_succ, places, List.getElem?_cons_succ] at h
    obtain ⟨h1, h2⟩ := places_rep P e n _ i p h
    exact ⟨by rw [h1, Nat.add_mul]; simp; omega, by omega⟩

class ArrTs (P : Program) (t : TypeId) (ts : outParam (List TypeId)) : Prop where
  eq : ∃ n e, P.underlying t = some (.array n e) ∧ List.replicate n e = ts
  cells : P.cellsOf t = (ts.map P.cellsOf).sum

instance Opn.array {ts : List TypeId} [hr : ArrTs P t ts] {sz : Nat} {α : Type} {enc : α → List Value} {ok : α → Prop} {fs : α → List Fact} [hL : OpnL P ts sz α enc ok fs] : Opn P t sz α enc ok fs where
  size := hr.cells.trans hL.size
  down := fun w fuel cs ⟨H, e', x, h⟩ => by
    obtain ⟨n, e, hu, hrep⟩ := hr.eq
    obtain ⟨xs, m, _, _, hl, hxs, hx⟩ := DataW.trod_array hu h
    refine hL.down w m cs ?_
    have := parts_of (P := P) (w := w) (fuel := m) ts 0 cs (by rw [hl, hr.cells]; simp) (fun i p hp => ?_)
    · simpa using this
    · rw [← hrep] at hp
      obtain ⟨rfl, hi⟩ := places_rep P e n 0 i p hp
      have h1 := hx i hi
      rw [List.getElem?_eq_getElem (by omega)] at h1
      simp only [Nat.zero_add]
      exact ⟨H, e', _, h1⟩
end

/-! ### values -/

class OpnV (P : Program) (t : TypeId) (α : outParam Type) (val : outParam (α → Value)) (ok : outParam (α → Prop)) (fs : outParam (α → List Fact)) : Prop where
  down : ∀ (w w0 : World) (base fuel : Nat) (v : Value), Value.okWide P w0 .any base t v → Reads P w fuel t v.cells.toList → ∃ a, v = val a ∧ ok a ∧ AllF (fs a) (fun _ => False) w

section
variable {P : Program} {t e : TypeId}
theorem okWide_agg {w : World} {r : Reach} {base : Nat} {v : Value} {sz bytes : Nat} {z : Value} (h : Ty P t true sz bytes z) (hv : Value.okWide P w r base t v) : ∃ cs, v = .agg cs := by
  have hu := h.und
  cases hd : P.underlying t with
  | none => simp [hd] at hu
  | some d =>
    rw [hd] at hu
    simp only [Value.okWide, hd] at hv
    cases d <;> simp at hu <;> (obtain ⟨cs, h1, _⟩ := hv; exact ⟨cs, h1⟩)

instance OpnV.agg {sz bytes : Nat} {z : Value} [hz : Ty P t true sz bytes z] {sz' : Nat} {α : Type} {enc : α → List Value} {ok : α → Prop} {fs : α → List Fact} [h : Opn P t sz' α enc ok fs] : OpnV P t α (fun a => .agg (enc a).toArray) ok fs where
  down := fun w w0 base fuel v hv hr => by
    obtain ⟨cs, rfl⟩ := okWide_agg hz hv
    obtain ⟨a, h1, _, _, h4, h5⟩ := h.down w fuel _ hr
    exact ⟨a, by rw [← h1]; rfl, h4, h5⟩

theorem okWide_one {w : World} {r : Reach} {base : Nat} {v : Value} (hv : Value.okWide P w r base t v) (ht : (P.underlying t).map (fun d => match d with | .int _ => true | .bool => true | .string => true | .slice _ => true | _ => false) = some true) : v.oneCell' = true := by
  cases hd : P.underlying t with
  | none => simp [hd] at ht
  | some d =>
    rw [hd] at ht
    cases d <;> simp at ht
    · obtain ⟨x, rfl⟩ := okWide_bool hd hv; rfl
    · obtain ⟨x, rfl⟩ := okWide_int hd hv; rfl
    · obtain ⟨x, rfl⟩ := okWide_string hd hv; rfl
    · obtain ⟨x, y, z, rfl⟩ := okWide_slice hd hv; rfl

theorem one_val {w w0 : World} {base fuel : Nat} {v : Value} {α : Type} {enc : α → List Value} {ok : α → Prop} {fs : α → List Fact} (h : Opn P t 1 α enc ok fs) (hv : Value.okWide P w0 .any base t v)
    (ht : (P.underlying t).map (fun d => match d with | .int _ => true | .bool => true | .string => true | .slice _ => true | _ => false) = some true) (hr : Reads P w fuel t v.cells.toList) :
    ∃ a, enc a = [v] ∧ ok a ∧ AllF (fs a) (fun _ => False) w := by
  obtain ⟨a, h1, _, _, h4, h5⟩ := h.down w fuel _ hr
  rw [Value.cells1 (okWide_one hv ht)] at h1
  exact ⟨a, h1.symm, h4, h5⟩

instance OpnV.i64 [ht : IntTy P t .i64] {ok : Int → Prop} {fs : Int → List Fact} [h : Opn P t 1 Int encI ok fs] : OpnV P t Int (fun n => .int .i64 n) ok fs where
  down := fun w w0 base fuel v hv hr => by
    obtain ⟨a, h1, h4, h5⟩ := one_val h hv (by rw [ht.und]; rfl) hr
    simp only [encI, List.cons.injEq, and_true] at h1
    exact ⟨a, h1.symm, h4, h5⟩
instance OpnV.u8 [ht : IntTy P t .u8] {ok : Int → Prop} {fs : Int → List Fact} [h : Opn P t 1 Int encB ok fs] : OpnV P t Int (fun n => .int .u8 n) ok fs where
  down := fun w w0 base fuel v hv hr => by
    obtain ⟨a, h1, h4, h5⟩ := one_val h hv (by rw [ht.und]; rfl) hr
    simp only [encB, List.cons.injEq, and_true] at h1
    exact ⟨a, h1.symm, h4, h5⟩
instance OpnV.int {k : IntKind} [ht : IntTy P t k] {ok : Int → Prop} {fs : Int → List Fact} [h : Opn P t 1 Int (encK k) ok fs] : OpnV P t Int (fun n => .int k n) ok fs where
  down := fun w w0 base fuel v hv hr => by
    obtain ⟨a, h1, h4, h5⟩ := one_val h hv (by rw [ht.und]; rfl) hr
    simp only [encK, List.cons.injEq, and_true] at h1
    exact ⟨a, h1.symm, h4, h5⟩
instance OpnV.bool [ht : BoolTy P t] {ok : Bool → Prop} {fs : Bool → List Fact} [h : Opn P t 1 Bool encT ok fs] : OpnV P t Bool (fun n => .bool n) ok fs where
  down := fun w w0 base fuel v hv hr => by
    obtain ⟨a, h1, h4, h5⟩ := one_val h hv (by rw [ht.und]; rfl) hr
    simp only [encT, List.cons.injEq, and_true] at h1
    exact ⟨a, h1.symm, h4, h5⟩
instance OpnV.str [ht : StrTy P t] {ok : ByteArray → Prop} {fs : ByteArray → List Fact} [h : Opn P t 1 ByteArray encS ok fs] : OpnV P t ByteArray (fun n => .string n) ok fs where
  down := fun w w0 base fuel v hv hr => by
    obtain ⟨a, h1, h4, h5⟩ := one_val h hv (by rw [ht.und]; rfl) hr
    simp only [encS, List.cons.injEq, and_true] at h1
    exact ⟨a, h1.symm, h4, h5⟩
instance OpnV.slice {β : Type} [ht : SliceTy P t e] {ok : Value × List β → Prop} {fs : Value × List β → List Fact} [h : Opn P t 1 (Value × List β) encH ok fs] : OpnV P t (Value × List β) (fun p => p.1) ok fs where
  down := fun w w0 base fuel v hv hr => by
    obtain ⟨a, h1, h4, h5⟩ := one_val h hv (by rw [ht.und]; rfl) hr
    simp only [encH, List.cons.injEq, and_true] at h1
    exact ⟨a, h1.symm, h4, h5⟩

class OpnA (P : Program) (ts : List TypeId) (α : outParam Type) (vals : outParam (α → List Value)) (ok : outParam (α → Prop)) (fs : outParam (α → List Fact)) : Prop where
  down : ∀ (w w0 : World) (base : Nat) (vs : List Value), vs.length = ts.length → (∀ (j : Nat) t v, ts[j]? = some t → vs[j]? = some v → Value.okWide P w0 .any base t v ∧ ∃ fuel, Reads P w fuel t v.cells.toList) → ∃ a, vs = vals a ∧ ok a ∧ AllF (fs a) (fun _ => False) w

instance OpnA.one {α : Type} {val : α → Value} {ok : α → Prop} {fs : α → List Fact} [h : OpnV P t α val ok fs] : OpnA P [t] α (fun a => [val a]) ok fs where
  down := fun w w0 base vs hl hv => by
    match vs, hl with
    | [v], _ =>
      obtain ⟨h1, fuel, h2⟩ := hv 0 t v rfl rfl
      obtain ⟨a, rfl, h3, h4⟩ := h.down w w0 base fuel v h1 h2
      exact ⟨a, rfl, h3, h4⟩
instance OpnA.cons {t' : TypeId} {ts : List TypeId} {α β : Type} {val : α → Value} {ok : α → Prop} {fs : α → List Fact} {vals : β → List Value} {ok' : β → Prop} {fs' : β → List Fact} [h : OpnV P t α val ok fs] [h' : OpnA P (t' :: ts) β vals ok' fs'] :
    OpnA P (t :: t' :: ts) (α × β) (fun p => val p.1 :: vals p.2) (fun p => ok p.1 ∧ ok' p.2) (fun p => fs p.1 ++ fs' p.2) where
  down := fun w w0 base vs hl hv => by
    match vs, hl with
    | v :: vs, hl =>
      obtain ⟨h1, fuel, h2⟩ := hv 0 t v rfl rfl
      obtain ⟨a, rfl, h3, h4⟩ := h.down w w0 base fuel v h1 h2
      obtain ⟨b, rfl, k3, k4⟩ := h'.down w w0 base vs (by simpa using hl) (fun j t v hj hvj => hv (j + 1) t v (by simpa using hj) (by simpa using hvj))
      exact ⟨(a, b), rfl, ⟨h3, k3⟩, h4.append k4⟩
end

/-! ## From a call's contract to the row -/

theorem trodAll_each {H : Type} {enc : TypeId × Value → H} {P : Program} {w : World} {base : Nat} {spare : Nat → Bool} {held : Bool} : ∀ {ts : List TypeId} {vs : List Value} {ds : List (DataW H)} {ps : List MemPlace}, DataW.TrodAll enc P w base spare held ts vs ds ps →
    vs.length = ts.length ∧ ds.length = ts.length ∧ ∀ (j : Nat) t v, ts[j]? = some t → vs[j]? = some v → ∃ d p, DataW.Trod enc P w base spare held t v d p
  | [], vs, ds, ps, h => by
    obtain ⟨rfl, rfl, rfl⟩ := trodAll_nil h
    exact ⟨rfl, rfl, fun j t v hj => by simp at hj⟩
  | t :: ts, vs, ds, ps, h => by
    obtain ⟨v, vs', d, ds', p, q, rfl, rfl, rfl, h1, h2⟩ := trodAll_cons h
    obtain ⟨k1, k2, k3⟩ := trodAll_each h2
    refine ⟨by simp [k1], by simp [k2], fun j t' v' hj hv => ?_⟩
    cases j with
    | zero =>
      simp only [List.getElem?_cons_zero, Option.some.injEq] at hj hv
      subst hj hv
      exact ⟨d, p, h1⟩
    | succ j => exact k3 j t' v' (by simpa using hj) (by simpa using hv)

theorem trodAll_again {H : Type} {enc : TypeId × Value → H} {P : Program} (hl : laidOutB P = true) {W W' : World} (hb : Below W.heap.size W W') : ∀ {ts : List TypeId} {vs : List Value} {ds : List (DataW H)} {ps : List MemPlace}, ts.all (fun t => P.readableRec t && decide (t < P.types.size)) = true → DataW.TrodAll enc P W 0 (fun _ => true) true ts vs ds ps →
    DataW.TrodAll enc P W' 0 (fun b => decide (b < W.heap.size)) true ts vs ds ps
  | [], vs, ds, ps, _, h => by
    obtain ⟨rfl, rfl, rfl⟩ := trodAll_nil h
    exact trodAll_mk0
  | t :: ts, vs, ds, ps, hr, h => by
    obtain ⟨v, vs', d, ds', p, q, rfl, rfl, rfl, h1, h2⟩ := trodAll_cons h
    simp only [List.all_cons, Bool.and_eq_true, decide_eq_true_eq] at hr
    refine trodAll_cons_mk (Below.trod hl hr.1.1 hr.1.2 h1 hb ?_) (trodAll_again hl hb hr.2 h2)
    obtain ⟨m, hm⟩ := h1
    exact DataW.trod_lt m _ _ _ hm

theorem lift_law {C : Checked} {P : Program} (hP : C.prog = P) {os : Os} {f : FuncId} {fn : Func} {s : ChangeSpec} {conds : List PathCond} {H : Type} {enc : TypeId × Value → H} (own : ownKnob C.prog.godebug = none) (started : os.Started) (noInit : C.prog.inits.idxOf? f = none) (hfn : C.prog.funcs[f]? = some fn)
    (witness : ∃ (w : World) (tape : Tape) (i : Input), w.os = os ∧ (w.forCall tape i).Shaped C.prog ∧ i.vars = [] ∧ Input.okWide C.prog (w.forCall tape i) .any w.heap.size f i ∧
      s.pre6 enc C.prog fn conds false (w.forCall tape i).memory i.args ∧ Assume.holds {} C.prog (lone (Frame.enter C.prog f i.args .normal) [] (w.forCall tape i)))
    (laid : laidOutB C.prog = true) (hvars : s.vars = []) {ts : List TypeId} (hpar : fn.params.toList = ts) (hread : ts.all (fun t => C.prog.readableRec t && decide (t < C.prog.types.size)) = true)
    {tb : TypeId} (hres : fn.resultTypes = #[tb]) (htb : C.prog.underlying tb = some .bool) {α : Type} {vals : α → List Value} {ok : α → Prop} {fs : α → List Fact} [hA : OpnA P ts α vals ok fs]
    (hspec : ∀ ds : List (DataW H), ds.length = ts.length → s.fn H ds = { results := [.lit (.bool true)], args := ds })
    (h : ∀ a, ok a → ∃ (X : Type) (own : X → List Itm) (post : X → List Fact), FSpec P f (vals a).toArray (fs a) (fun _ : X => .bool true) own post) :
    ReturnsInHanded {} C os f .any (s.pre6 enc C.prog fn conds false) (s.post enc C.prog fn false true false false) := by
  subst hP
  refine returnsInHanded_of_change (C := C) own started noInit hfn witness ?_
  intro W base args ds gs before hval hW _ _
  have hW' := hW
  obtain ⟨p, q, hT, hV, rfl, hfz, hnd⟩ := hW
  rw [hvars] at hV
  obtain ⟨rfl, rfl⟩ := trodVars_none hV
  have hT0 := hT
  rw [hpar] at hT
  obtain ⟨hl1, hl2, heach⟩ := trodAll_each hT
  obtain ⟨a, hargs, hok, hfs⟩ := hA.down W W base args.toList hl1 (fun j t v hj hv => by
    refine ⟨hval j t v (by rw [← hpar] at hj; simpa using hj) (by simpa using hv), ?_⟩
    obtain ⟨d, p, fuel, hf⟩ := heach j t v hj hv
    exact ⟨fuel, H, enc, _, hf⟩)
  obtain ⟨X, ow, post, hS⟩ := h a hok
  have hargs' : args = (vals a).toArray := by rw [← hargs]
  subst hargs'
  refine (hS (fun _ => False) W (fun _ hk => hk.elim) hfs).mono fun e W' ⟨x, he, bel, _, _⟩ => ?_
  subst he
  have hsp := hspec ds hl2
  have hdg : ds ++ [] = ds := List.append_nil ds
  refine ⟨_, rfl, ds, [], p ++ [], [], p, [], hW', ?_, ?_, ?_, bel.frame _, fun h => by cases h⟩
  · rw [hdg, hsp, hres]
    exact trodAll_mk1 (shut_bool htb _)
  · rw [hdg, hsp, hpar]
    exact trodAll_again laid bel hread (by simpa using hT)
  · rw [hvars, hdg, hsp]
    rfl

/-- less is asked for -/
theorem FSpec.pre {P : Program} {f : FuncId} {args : Array Value} {pre pre' : List Fact} {X : Type} {val : X → Value} {own : X → List Itm} {post : X → List Fact} (h : FSpec P f args pre val own post) (he : Ents pre' pre) : FSpec P f args pre' val own post :=
  fun D w hD hp => h D w hD (he _ _ hp)

/-- a slice of slices, by what its elements stand for -/
theorem Ent1.nestOf {β γ : Type} {v : Value} {sz : Nat} {enc : β → List Value} {l : List β} {fs : β → List Fact} {F : List Fact} {δ : Type} {enc' : γ → List Value} (g : β → γ) (r : β → δ) {rel : γ → δ → List Fact} (henc : ∀ b, enc' (g b) = enc b) (hrel : ∀ b, Ents (fs b) (rel (g b) (r b)))
    (h1 : Ent1 F (Fact.arr v sz enc l)) (h2 : Ent1 F (Fact.all l fs)) : Ent1 F (Fact.nest v sz enc' (l.map r) rel) := fun D w hF => by
  refine ⟨l.map g, by simp, ?_, fun i u d hu hd => ?_⟩
  · have he : (l.map g).map enc' = l.map enc := by simp [henc]
    have hasarr : HasArr [Fact.arr v sz enc l] v sz enc l := inferInstance
    exact arr_recode (F := [Fact.arr v sz enc l]) he D w (AllF.cons (h1 D w hF) (AllF.nil _ _))
  · rw [List.getElem?_map] at hu hd
    obtain ⟨b, hb, rfl⟩ := Option.map_eq_some_iff.1 hu
    rw [hb] at hd
    simp only [Option.map_some, Option.some.injEq] at hd
    subst hd
    exact hrel b D w (h2 D w hF b (List.mem_of_getElem? hb))

end Go.Sym
