/- Proved here: rules of our own engine for walking a program, part 3: quiet operations: what each yields in a state. -/
import Derived.Test.YtadiiejpacbfbaaC2
import Derived.Lib.SliceRun
namespace Go.Sym
open Go Go.RowKit

/-! ## Operations that make nothing: what they yield -/

def Yld (N : Nat) (c : Ctx) (P : Program) (o : Oper) (m : Ent) (L : List Itm) (F : List Fact) (v : Value) : Prop :=
  ∀ a w, St N c m L F a w → (execOp a.eval o).run P w = .ok (.value v) w

section
variable {N : Nat} {c : Ctx} {P : Program} {m : Ent} {L : List Itm} {F : List Fact} {d : Option Tmp} {ty : TypeId} {pos : String} {aft : Array Edge} {g : Option (Nat × Bool)}

theorem Y.move {x : Operand} {v : Value} (hx : ev m x = some v) : Yld N c P ⟨d, .move x, ty, pos, aft, g⟩ m L F v := fun a w h => by
  simp [execOp, h.agree.eval hx]

theorem Y.assign {x : Operand} {v : Value} (hx : ev m x = some v) : Yld N c P ⟨d, .assign x, ty, pos, aft, g⟩ m L F v := fun a w h => by
  simp [execOp, h.agree.eval hx]

theorem Y.pickT {x y z : Operand} {v u : Value} (hx' : ev m x = some u) (hu : u = .bool true) (hy : ev m y = some v) : Yld N c P ⟨d, .pick x y z, ty, pos, aft, g⟩ m L F v := fun a w h => by
  subst hu
  simp [execOp, h.agree.eval hx', h.agree.eval hy, asBool]

theorem Y.pickF {x y z : Operand} {v u : Value} (hx' : ev m x = some u) (hu : u = .bool false) (hz : ev m z = some v) : Yld N c P ⟨d, .pick x y z, ty, pos, aft, g⟩ m L F v := fun a w h => by
  subst hu
  simp [execOp, h.agree.eval hx', h.agree.eval hz, asBool]

theorem Y.pickAnd {x y : Operand} {b b' : Bool} (hx : ev m x = some (.bool b)) (hy : ev m y = some (.bool b')) : Yld N c P ⟨d, .pick x y (.const (.bool false)), ty, pos, aft, g⟩ m L F (.bool (b && b')) := fun a w h => by
  have hc : a.eval (.const (.bool false)) = .bool false := rfl
  simp only [execOp, h.agree.eval hx, h.agree.eval hy, hc, asBool]
  cases b <;> rfl

theorem Y.pickOr {x y : Operand} {b b' : Bool} (hx : ev m x = some (.bool b)) (hy : ev m y = some (.bool b')) : Yld N c P ⟨d, .pick x (.const (.bool true)) y, ty, pos, aft, g⟩ m L F (.bool (b || b')) := fun a w h => by
  have hc : a.eval (.const (.bool true)) = .bool true := rfl
  simp only [execOp, h.agree.eval hx, h.agree.eval hy, hc, asBool]
  cases b <;> rfl

/-! ### integers -/

section
variable {x y : Operand} {k : IntKind} {i j : Int} {t t' : TypeId}

theorem Y.lss (hx : ev m x = some (.int k i)) (hy : ev m y = some (.int k j)) : Yld N c P ⟨d, .binOp .lss t x y t', ty, pos, aft, g⟩ m L F (.bool (decide (i < j))) := fun a w h => by
  simp [execOp, h.agree.eval hx, h.agree.eval hy, eqGuard, binOp, Op.intCmp]
theorem Y.leq (hx : ev m x = some (.int k i)) (hy : ev m y = some (.int k j)) : Yld N c P ⟨d, .binOp .leq t x y t', ty, pos, aft, g⟩ m L F (.bool (decide (i ≤ j))) := fun a w h => by
  simp [execOp, h.agree.eval hx, h.agree.eval hy, eqGuard, binOp, Op.intCmp]
theorem Y.gtr (hx : ev m x = some (.int k i)) (hy : ev m y = some (.int k j)) : Yld N c P ⟨d, .binOp .gtr t x y t', ty, pos, aft, g⟩ m L F (.bool (decide (j < i))) := fun a w h => by
  simp [execOp, h.agree.eval hx, h.agree.eval hy, eqGuard, binOp, Op.intCmp]
theorem Y.geq (hx : ev m x = some (.int k i)) (hy : ev m y = some (.int k j)) : Yld N c P ⟨d, .binOp .geq t x y t', ty, pos, aft, g⟩ m L F (.bool (decide (j ≤ i))) := fun a w h => by
  simp [execOp, h.agree.eval hx, h.agree.eval hy, eqGuard, binOp, Op.intCmp]
theorem Y.eql (hx : ev m x = some (.int k i)) (hy : ev m y = some (.int k j)) : Yld N c P ⟨d, .binOp .eql t x y t', ty, pos, aft, g⟩ m L F (.bool (decide (i = j))) := fun a w h => by
  simp [execOp, h.agree.eval hx, h.agree.eval hy, eqGuard, binOp, Op.intCmp]
  rfl
theorem Y.neq (hx : ev m x = some (.int k i)) (hy : ev m y = some (.int k j)) : Yld N c P ⟨d, .binOp .neq t x y t', ty, pos, aft, g⟩ m L F (.bool (decide (¬ i = j))) := fun a w h => by
  simp [execOp, h.agree.eval hx, h.agree.eval hy, eqGuard, binOp, Op.intCmp, bne]
  rfl
theorem Y.addw (hx : ev m x = some (.int k i)) (hy : ev m y = some (.int k j)) : Yld N c P ⟨d, .binOp .add t x y t', ty, pos, aft, g⟩ m L F (.int k (k.wrap (i + j))) := fun a w h => by
  simp [execOp, h.agree.eval hx, h.agree.eval hy, eqGuard, binOp, Op.intArith]
theorem Y.subw (hx : ev m x = some (.int k i)) (hy : ev m y = some (.int k j)) : Yld N c P ⟨d, .binOp .sub t x y t', ty, pos, aft, g⟩ m L F (.int k (k.wrap (i - j))) := fun a w h => by
  simp [execOp, h.agree.eval hx, h.agree.eval hy, eqGuard, binOp, Op.intArith]
theorem Y.mulw (hx : ev m x = some (.int k i)) (hy : ev m y = some (.int k j)) : Yld N c P ⟨d, .binOp .mul t x y t', ty, pos, aft, g⟩ m L F (.int k (k.wrap (i * j))) := fun a w h => by
  simp [execOp, h.agree.eval hx, h.agree.eval hy, eqGuard, binOp, Op.intArith]
theorem Y.add (hx : ev m x = some (.int .i64 i)) (hy : ev m y = some (.int .i64 j)) (hr : -9223372036854775808 ≤ i + j ∧ i + j ≤ 9223372036854775807) :
    Yld N c P ⟨d, .binOp .add t x y t', ty, pos, aft, g⟩ m L F (.int .i64 (i + j)) := by
  have := Y.addw (N := N) (c := c) (P := P) (L := L) (F := F) (d := d) (ty := ty) (pos := pos) (aft := aft) (g := g) (t := t) (t' := t') hx hy
  rwa [IntWalk.i64_in _ hr] at this
theorem Y.sub (hx : ev m x = some (.int .i64 i)) (hy : ev m y = some (.int .i64 j)) (hr : -9223372036854775808 ≤ i - j ∧ i - j ≤ 9223372036854775807) :
    Yld N c P ⟨d, .binOp .sub t x y t', ty, pos, aft, g⟩ m L F (.int .i64 (i - j)) := by
  have := Y.subw (N := N) (c := c) (P := P) (L := L) (F := F) (d := d) (ty := ty) (pos := pos) (aft := aft) (g := g) (t := t) (t' := t') hx hy
  rwa [IntWalk.i64_in _ hr] at this
theorem Y.mul (hx : ev m x = some (.int .i64 i)) (hy : ev m y = some (.int .i64 j)) (hr : -9223372036854775808 ≤ i * j ∧ i * j ≤ 9223372036854775807) :
    Yld N c P ⟨d, .binOp .mul t x y t', ty, pos, aft, g⟩ m L F (.int .i64 (i * j)) := by
  have := Y.mulw (N := N) (c := c) (P := P) (L := L) (F := F) (d := d) (ty := ty) (pos := pos) (aft := aft) (g := g) (t := t) (t' := t') hx hy
  rwa [IntWalk.i64_in _ hr] at this
theorem Y.rem (hx : ev m x = some (.int k i)) (hy : ev m y = some (.int k j)) (h0 : 0 ≤ i) (h1 : 1 ≤ j) :
    Yld N c P ⟨d, .binOp .rem t x y t', ty, pos, aft, g⟩ m L F (.int k (i % j)) := fun a w h => by
  have hj : ¬ j = 0 := by omega
  simp [execOp, h.agree.eval hx, h.agree.eval hy, eqGuard, binOp, Op.intDiv, hj, Int.tmod_eq_emod_of_nonneg h0]

theorem Y.minI {xc yc : TypeId} (hx : ev m x = some (.int k i)) (hy : ev m y = some (.int k j)) :
    Yld N c P ⟨d, .call { callee := .builtin .min, args := #[x, y], argTypes := #[xc, yc] }, ty, pos, aft, g⟩ m L F (.int k (min i j)) := fun a w h => by
  have : min i j = if j < i then j else i := by omega
  simp [execOp, resolve, invoke, builtin, h.agree.eval hx, h.agree.eval hy, run_min_int2, this]
theorem Y.maxI {xc yc : TypeId} (hx : ev m x = some (.int k i)) (hy : ev m y = some (.int k j)) :
    Yld N c P ⟨d, .call { callee := .builtin .max, args := #[x, y], argTypes := #[xc, yc] }, ty, pos, aft, g⟩ m L F (.int k (max i j)) := fun a w h => by
  have : max i j = if i < j then j else i := by omega
  simp [execOp, resolve, invoke, builtin, h.agree.eval hx, h.agree.eval hy, run_max_int2, this]
theorem Y.conv {k' : IntKind} [ht : IntTy P t' k'] {st : TypeId} [hst : IntTy P st k] (hx : ev m x = some (.int k i)) : Yld N c P ⟨d, .convert st t' x, ty, pos, aft, g⟩ m L F (.int k' (k'.wrap i)) := fun a w h => by
  simp [execOp, h.agree.eval hx, convert, run_underlying ht.und, run_underlying hst.und, Conv.intToInt]
theorem Y.convI {k' : IntKind} [ht : IntTy P t' k'] {st : TypeId} [hst : IntTy P st k] (hx : ev m x = some (.int k i)) (hr : k'.wrap i = j) : Yld N c P ⟨d, .convert st t' x, ty, pos, aft, g⟩ m L F (.int k' j) := fun a w h => by
  subst hr
  exact Y.conv hx a w h
end

/-! ### bools -/

theorem Y.notD {x : Operand} {p : Prop} [Decidable p] {t : TypeId} (hx : ev m x = some (.bool (decide p))) : Yld N c P ⟨d, .unOp .not t x, ty, pos, aft, g⟩ m L F (.bool (decide (¬ p))) := fun a w h => by
  simp [execOp, h.agree.eval hx, Op.unary]
theorem Y.not {x : Operand} {b : Bool} {t : TypeId} (hx : ev m x = some (.bool b)) : Yld N c P ⟨d, .unOp .not t x, ty, pos, aft, g⟩ m L F (.bool (!b)) := fun a w h => by
  simp [execOp, h.agree.eval hx, Op.unary]
theorem Y.eqlB {x y : Operand} {b b' : Bool} {t t' : TypeId} [ht : BoolTy P t] (hx : ev m x = some (.bool b)) (hy : ev m y = some (.bool b')) : Yld N c P ⟨d, .binOp .eql t x y t', ty, pos, aft, g⟩ m L F (.bool (decide (b = b'))) := fun a w h => by
  simp [execOp, h.agree.eval hx, h.agree.eval hy, eqGuard, run_eql_bool w t b b' ht.und]
  rfl
theorem Y.neqB {x y : Operand} {b b' : Bool} {t t' : TypeId} [ht : BoolTy P t] (hx : ev m x = some (.bool b)) (hy : ev m y = some (.bool b')) : Yld N c P ⟨d, .binOp .neq t x y t', ty, pos, aft, g⟩ m L F (.bool (decide (¬ b = b'))) := fun a w h => by
  simp [execOp, h.agree.eval hx, h.agree.eval hy, eqGuard, run_neq_bool w t b b' ht.und]
  cases b <;> cases b' <;> rfl

/-! ### strings -/

theorem toList_eq_iff (s t : ByteArray) : (s.toList == t.toList) = decide (s = t) := by
  rw [ByteArray.toList_eq, ByteArray.toList_eq]
  by_cases h : s = t
  · subst h; simp
  · have : ¬ s.data.toList = t.data.toList := fun e => h (by
      cases s; cases t; simp only [ByteArray.mk.injEq]; exact Array.toList_inj.1 e)
    rw [decide_eq_false h]
    exact beq_eq_false_iff_ne.2 this

theorem Y.eqlS {x y : Operand} {s s' : ByteArray} {t t' : TypeId} (hx : ev m x = some (.string s)) (hy : ev m y = some (.string s')) : Yld N c P ⟨d, .binOp .eql t x y t', ty, pos, aft, g⟩ m L F (.bool (decide (s = s'))) := fun a w h => by
  simp [execOp, h.agree.eval hx, h.agree.eval hy, eqGuard, binOp, Op.stringOp, toList_eq_iff]
theorem Y.neqS {x y : Operand} {s s' : ByteArray} {t t' : TypeId} (hx : ev m x = some (.string s)) (hy : ev m y = some (.string s')) : Yld N c P ⟨d, .binOp .neq t x y t', ty, pos, aft, g⟩ m L F (.bool (decide (¬ s = s'))) := fun a w h => by
  simp [execOp, h.agree.eval hx, h.agree.eval hy, eqGuard, binOp, Op.stringOp, toList_eq_iff]
theorem Y.addS {x y : Operand} {s s' : ByteArray} {t t' : TypeId} (hx : ev m x = some (.string s)) (hy : ev m y = some (.string s')) (hr : s.size + s'.size ≤ 9223372036854775807) : Yld N c P ⟨d, .binOp .add t x y t', ty, pos, aft, g⟩ m L F (.string (s ++ s')) := fun a w h => by
  simp [execOp, h.agree.eval hx, h.agree.eval hy, eqGuard, binOp, Op.stringOp]
  omega
theorem Y.lenS {x : Operand} {s : ByteArray} {t : TypeId} [ht : StrTy P t] (hx : ev m x = some (.string s)) :
    Yld N c P ⟨d, .call { callee := .builtin .len, args := #[x], argTypes := #[t] }, ty, pos, aft, g⟩ m L F (.int .i64 s.size) := fun a w h => by
  simp [execOp, resolve, invoke, builtin, h.agree.eval hx, Builtin.len_, run_underlying ht.und, goInt]
theorem Y.idxS {x y : Operand} {s : ByteArray} {t : TypeId} [ht : StrTy P t] {k : IntKind} {i : Int} (j : Nat) {u : UInt8} (hx : ev m x = some (.string s)) (hy : ev m y = some (.int k i)) (hi : i = (j : Int)) (hu : s[j]? = some u) :
    Yld N c P ⟨d, .index t x y, ty, pos, aft, g⟩ m L F (.int .u8 u.toNat) := fun a w h => by
  subst hi
  simp [execOp, h.agree.eval hx, h.agree.eval hy, Instr.index, asIntOf, run_underlying ht.und, hu]
theorem Y.slS {x : Operand} {s : ByteArray} {t : TypeId} [ht : StrTy P t] {lo hi : Option Operand} (i j : Nat) (hx : ev m x = some (.string s))
    (hlo : (lo = none ∧ i = 0) ∨ ∃ p k, lo = some p ∧ ev m p = some (.int k (i : Int))) (hhi : (hi = none ∧ j = s.size) ∨ ∃ p k, hi = some p ∧ ev m p = some (.int k (j : Int))) (hij : i ≤ j) (hj : j ≤ s.size) :
    Yld N c P ⟨d, .slice t x lo hi none, ty, pos, aft, g⟩ m L F (.string (s.extract i j)) := fun a w h => by
  have e1 : (j : Int) ≤ s.size := by omega
  have e2 : (i : Int) ≤ j := by omega
  have e3 : (i : Int) ≤ s.size := by omega
  rcases hlo with ⟨rfl, rfl⟩ | ⟨p, k, rfl, hp⟩ <;> rcases hhi with ⟨rfl, rfl⟩ | ⟨q, k', rfl, hq⟩ <;>
    simp_all [execOp, h.agree.eval, Instr.sliceAt, Instr.slice, run_underlying ht.und, Instr.sliceBounds, Instr.sliceBound, asIntOf]

/-! ### tuples, structs by value -/

theorem Y.extract {x : Operand} {vs : Array Value} {i : Nat} {v : Value} (hx : ev m x = some (.tuple vs)) (hv : vs[i]? = some v) : Yld N c P ⟨d, .extract x i, ty, pos, aft, g⟩ m L F v := fun a w h => by
  simp [execOp, h.agree.eval hx, Instr.extract, hv]

/-! ### pointers -/

theorem Y.fieldB {x : Operand} {b o : Nat} {s : TypeId} {i off : Nat} [hf : FieldTy P s i off] (hx : ev m x = some (.pointer (some ⟨b, o, none⟩))) :
    Yld N c P ⟨d, .fieldAddr s x i, ty, pos, aft, g⟩ m L F (.pointer (some ⟨b, o + off, none⟩)) := fun a w h => by
  simp [execOp, h.agree.eval hx, hf.run, addr_add_lit]

theorem Y.fieldB0 {x : Operand} {b : Nat} {s : TypeId} {i off : Nat} [hf : FieldTy P s i off] (hx : ev m x = some (.pointer (some ⟨b, 0, none⟩))) :
    Yld N c P ⟨d, .fieldAddr s x i, ty, pos, aft, g⟩ m L F (.pointer (some ⟨b, off, none⟩)) := fun a w h => by
  have := Y.fieldB (P := P) (s := s) (i := i) (d := d) (ty := ty) (pos := pos) (aft := aft) (g := g) hx a w h
  rwa [Nat.zero_add] at this

theorem Y.fieldE {x : Operand} {v : Value} {sz k o : Nat} {s : TypeId} {i off : Nat} [hf : FieldTy P s i off] {α : Type} {enc : α → List Value} {l : List α} (hx : ev m x = some (eptr v sz k o)) [hF : HasArr F v sz enc l] {u : α} (hu : l[k]? = some u) :
    Yld N c P ⟨d, .fieldAddr s x i, ty, pos, aft, g⟩ m L F (eptr v sz k (o + off)) := fun a w h => by
  obtain ⟨b, off', cap, hv, _⟩ := arr_shape (h.ws.facts _ hF.mem) hu
  have hx' := h.agree.eval hx
  rw [hv] at hx' ⊢
  simp only [eptr] at hx' ⊢
  simp [execOp, hx', hf.run, Addr.add_add, Nat.add_assoc]

theorem Y.fieldE0 {x : Operand} {v : Value} {sz k : Nat} {s : TypeId} {i off : Nat} [hf : FieldTy P s i off] {α : Type} {enc : α → List Value} {l : List α} (hx : ev m x = some (eptr v sz k 0)) [hF : HasArr F v sz enc l] {u : α} (hu : l[k]? = some u) :
    Yld N c P ⟨d, .fieldAddr s x i, ty, pos, aft, g⟩ m L F (eptr v sz k off) := fun a w h => by
  have := Y.fieldE (P := P) (s := s) (i := i) (d := d) (ty := ty) (pos := pos) (aft := aft) (g := g) hx hu a w h
  rwa [Nat.zero_add] at this

theorem Y.idx {x y : Operand} {v : Value} {t e : TypeId} [ht : SliceTy P t e] {agg : Bool} {sz bytes : Nat} {z : Value} [he : Ty P e agg sz bytes z] {α : Type} {enc : α → List Value} {l : List α}
    (k : Nat) {u : α} {kk : IntKind} {i : Int} (hx : ev m x = some v) [hF : HasArr F v sz enc l] (hy : ev m y = some (.int kk i)) (hi : i = (k : Int)) (hu : l[k]? = some u) :
    Yld N c P ⟨d, .indexAddr t x y, ty, pos, aft, g⟩ m L F (eptr v sz k 0) := fun a w h => by
  subst hi
  obtain ⟨b, off', cap, hv, _⟩ := arr_shape (h.ws.facts _ hF.mem) hu
  have hlt : k < l.length := (List.getElem?_eq_some_iff.1 hu).1
  rw [hv] at hx ⊢
  simp [execOp, h.agree.eval hx, h.agree.eval hy, Instr.indexAt, asIntOf, run_underlying ht.und, hlt, he.sizeOf_run, eptr]

theorem Y.lenA {x : Operand} {v : Value} {t e : TypeId} [ht : SliceTy P t e] {α : Type} {sz : Nat} {enc : α → List Value} {l : List α} (hx : ev m x = some v) [hF : HasArr F v sz enc l] :
    Yld N c P ⟨d, .call { callee := .builtin .len, args := #[x], argTypes := #[t] }, ty, pos, aft, g⟩ m L F (.int .i64 l.length) := fun a w h => by
  obtain ⟨ad, cap, hv, _⟩ := h.ws.facts _ hF.mem
  rw [hv] at hx
  simp [execOp, resolve, invoke, builtin, h.agree.eval hx, Builtin.len_, run_underlying ht.und, goInt]

theorem Y.lenL {x : Operand} {ad : Option Addr} {n cap : Nat} {t e : TypeId} [ht : SliceTy P t e] (hx : ev m x = some (.slice ad n cap)) :
    Yld N c P ⟨d, .call { callee := .builtin .len, args := #[x], argTypes := #[t] }, ty, pos, aft, g⟩ m L F (.int .i64 n) := fun a w h => by
  simp [execOp, resolve, invoke, builtin, h.agree.eval hx, Builtin.len_, run_underlying ht.und, goInt]

theorem row_shape {base e sz : Nat} {v : Value} {n : Nat} {xs : List Value} {w : World} (h : w.ownsRow base e sz v n xs) :
    ∃ ao cap, v = .slice ao n cap ∧ (0 < n → ∃ b, ao = some ⟨b, 0, none⟩ ∧ ∀ j u, xs[j]? = some u → w.cell? ⟨b, j, none⟩ = some u) := by
  obtain ⟨hl, h⟩ := h
  rcases h with ⟨rfl, rfl⟩ | ⟨gg, cap, cur, rfl, hb, hg, hnc, hc, hs, ht⟩
  · exact ⟨none, 0, rfl, fun h => absurd h (by omega)⟩
  · refine ⟨_, cap, rfl, fun _ => ⟨gg, rfl, fun j u hu => ?_⟩⟩
    rw [cell_of_row w gg j cur e (0, 0) hg, ← Array.getElem?_toList]
    rw [← ht, List.getElem?_take] at hu
    split at hu
    · exact hu
    · cases hu

theorem Y.lenR {x : Operand} {v : Value} {t e e' sz n : Nat} {xs : List Value} [ht : SliceTy P t e] (hx : ev m x = some v) [hL : HasRow L v e' sz n xs] :
    Yld N c P ⟨d, .call { callee := .builtin .len, args := #[x], argTypes := #[t] }, ty, pos, aft, g⟩ m L F (.int .i64 n) := fun a w h => by
  obtain ⟨ao, cap, hv, _⟩ := row_shape (h.ws.own.holds _ hL.mem)
  rw [hv] at hx
  simp [execOp, resolve, invoke, builtin, h.agree.eval hx, Builtin.len_, run_underlying ht.und, goInt]

/-! ### loads -/

theorem Y.ldB1 {x : Operand} {b o : Nat} {t : TypeId} {sz bytes : Nat} {z : Value} [ht : Ty P t false sz bytes z] {cs : List Value} {v : Value} (hx : ev m x = some (.pointer (some ⟨b, o, none⟩))) [hb : HasBox L b cs] (hv : cs[o]? = some v) :
    Yld N c P ⟨d, .load t x, ty, pos, aft, g⟩ m L F v := fun a w h => by
  have hc := h.ws.boxCell hb o
  rw [hv] at hc
  simp [execOp, h.agree.eval hx, Instr.loadAt, Instr.sureAddr, loadVar_one ht hc]

theorem Y.ldBA {x : Operand} {b o : Nat} {t : TypeId} {sz bytes : Nat} {z : Value} [ht : Ty P t true sz bytes z] {cs cs' : List Value} (hx : ev m x = some (.pointer (some ⟨b, o, none⟩))) [hb : HasBox L b cs] (hcs : (cs.drop o).take sz = cs') (hl : cs'.length = sz) :
    Yld N c P ⟨d, .load t x, ty, pos, aft, g⟩ m L F (.agg cs'.toArray) := fun a w h => by
  have hc := h.ws.boxCell hb
  have := loadVar_agg (w := w) ht (a := ⟨b, o, none⟩) hl (fun j v hj => by
    rw [addr_add_lit, hc (o + j)]
    subst hcs
    rw [List.getElem?_take] at hj
    split at hj
    · simpa [List.getElem?_drop] using hj
    · cases hj)
  simp [execOp, h.agree.eval hx, Instr.loadAt, Instr.sureAddr, this]

/-- a whole box -/
theorem Y.ldBW {x : Operand} {b : Nat} {t : TypeId} {sz bytes : Nat} {z : Value} [ht : Ty P t true sz bytes z] {cs : List Value} (hx : ev m x = some (.pointer (some ⟨b, 0, none⟩))) [hb : HasBox L b cs] (hl : Nat.beq cs.length sz = true) :
    Yld N c P ⟨d, .load t x, ty, pos, aft, g⟩ m L F (.agg cs.toArray) := fun a w h => by
  have hl' : cs.length = sz := Nat.eq_of_beq_eq_true hl
  exact Y.ldBA (d := d) (ty := ty) (pos := pos) (aft := aft) (g := g) hx (by rw [List.drop_zero, List.take_of_length_le (by omega)]) hl' a w h
theorem Y.ldFW {x : Operand} {b : Nat} {t : TypeId} {sz bytes : Nat} {z : Value} [ht : Ty P t true sz bytes z] {cs : List Value} (hx : ev m x = some (.pointer (some ⟨b, 0, none⟩))) [hb : HasFBox F b cs] (hl : Nat.beq cs.length sz = true) :
    Yld N c P ⟨d, .load t x, ty, pos, aft, g⟩ m L F (.agg cs.toArray) := fun a w h => by
  have hl' : cs.length = sz := Nat.eq_of_beq_eq_true hl
  have hc := h.ws.fboxCell hb
  have := loadVar_agg (w := w) ht (a := ⟨b, 0, none⟩) hl' (fun j v hj => by
    rw [addr_add_lit, hc (0 + j), Nat.zero_add]
    exact hj)
  simp [execOp, h.agree.eval hx, Instr.loadAt, Instr.sureAddr, this]

theorem Y.ldF1 {x : Operand} {b o : Nat} {t : TypeId} {sz bytes : Nat} {z : Value} [ht : Ty P t false sz bytes z] {cs : List Value} {v : Value} (hx : ev m x = some (.pointer (some ⟨b, o, none⟩))) [hb : HasFBox F b cs] (hv : cs[o]? = some v) :
    Yld N c P ⟨d, .load t x, ty, pos, aft, g⟩ m L F v := fun a w h => by
  have hc := h.ws.fboxCell hb o
  rw [hv] at hc
  simp [execOp, h.agree.eval hx, Instr.loadAt, Instr.sureAddr, loadVar_one ht hc]

theorem Y.ldFA {x : Operand} {b o : Nat} {t : TypeId} {sz bytes : Nat} {z : Value} [ht : Ty P t true sz bytes z] {cs cs' : List Value} (hx : ev m x = some (.pointer (some ⟨b, o, none⟩))) [hb : HasFBox F b cs] (hcs : (cs.drop o).take sz = cs') (hl : cs'.length = sz) :
    Yld N c P ⟨d, .load t x, ty, pos, aft, g⟩ m L F (.agg cs'.toArray) := fun a w h => by
  have hc := h.ws.fboxCell hb
  have := loadVar_agg (w := w) ht (a := ⟨b, o, none⟩) hl (fun j v hj => by
    rw [addr_add_lit, hc (o + j)]
    subst hcs
    rw [List.getElem?_take] at hj
    split at hj
    · simpa [List.getElem?_drop] using hj
    · cases hj)
  simp [execOp, h.agree.eval hx, Instr.loadAt, Instr.sureAddr, this]

theorem Y.ldE1 {x : Operand} {v : Value} {k o sz : Nat} {t : TypeId} {sz' bytes : Nat} {z : Value} [ht : Ty P t false sz' bytes z] {α : Type} {enc : α → List Value} {l : List α} {u : α} {r : Value}
    (hx : ev m x = some (eptr v sz k o)) [hF : HasArr F v sz enc l] (hu : l[k]? = some u) (hr : (enc u)[o]? = some r) :
    Yld N c P ⟨d, .load t x, ty, pos, aft, g⟩ m L F r := fun a w h => by
  obtain ⟨b, off', cap, hv, hc⟩ := arr_shape (h.ws.facts _ hF.mem) hu
  have hc' := hc o r hr
  have hx' := h.agree.eval hx
  rw [hv] at hx'
  simp only [eptr, addr_add_lit] at hx'
  simp [execOp, hx', Instr.loadAt, Instr.sureAddr, loadVar_one ht hc']

theorem Y.ldEA {x : Operand} {v : Value} {k o sz : Nat} {t : TypeId} {sz' bytes : Nat} {z : Value} [ht : Ty P t true sz' bytes z] {α : Type} {enc : α → List Value} {l : List α} {u : α} {cs : List Value}
    (hx : ev m x = some (eptr v sz k o)) [hF : HasArr F v sz enc l] (hu : l[k]? = some u) (hr : ((enc u).drop o).take sz' = cs) (hl : cs.length = sz') :
    Yld N c P ⟨d, .load t x, ty, pos, aft, g⟩ m L F (.agg cs.toArray) := fun a w h => by
  obtain ⟨b, off', cap, hv, hc⟩ := arr_shape (h.ws.facts _ hF.mem) hu
  have hx' := h.agree.eval hx
  rw [hv] at hx'
  simp only [eptr, addr_add_lit] at hx'
  have := loadVar_agg (w := w) ht (a := ⟨b, off' + (k * sz + o), none⟩) hl (fun j r hj => by
    rw [addr_add_lit]
    have := hc (o + j) r (by
      subst hr
      rw [List.getElem?_take] at hj
      split at hj
      · simpa [List.getElem?_drop] using hj
      · cases hj)
    simpa [Nat.add_assoc] using this)
  simp [execOp, hx', Instr.loadAt, Instr.sureAddr, this]

/-- a whole element, by its list -/
theorem Y.ldEW {x : Operand} {v : Value} {k sz : Nat} {t : TypeId} {bytes : Nat} {z : Value} [ht : Ty P t true sz bytes z] {α : Type} {enc : α → List Value} {l : List α} {u : α}
    (hx : ev m x = some (eptr v sz k 0)) [hF : HasArr F v sz enc l] (hu : l[k]? = some u) :
    Yld N c P ⟨d, .load t x, ty, pos, aft, g⟩ m L F (.agg (enc u).toArray) := fun a w h => by
  have hl : (enc u).length = sz := by
    obtain ⟨_, _, _, _, _, _, hs, _⟩ := h.ws.facts _ hF.mem
    exact (hs u (List.mem_of_getElem? hu)).1
  exact Y.ldEA (d := d) (ty := ty) (pos := pos) (aft := aft) (g := g) hx hu (by rw [List.drop_zero, List.take_of_length_le (by omega)]) hl a w h

/-! ### slices against nil -/

theorem Y.eqlNil {x : Operand} {ad : Option Addr} {n cap : Nat} {t t' e : TypeId} [ht : SliceTy P t e] (hx : ev m x = some (.slice ad n cap)) :
    Yld N c P ⟨d, .binOp .eql t x (.const (.slice none 0 0)) t', ty, pos, aft, g⟩ m L F (.bool ad.isNone) := fun a w h => by
  have hc : a.eval (.const (.slice none 0 0)) = .slice none 0 0 := rfl
  simp [execOp, h.agree.eval hx, hc, eqGuard, Lib.run_eql_slice_nil w t e ad n cap 0 0 ht.und]
end

end Go.Sym
