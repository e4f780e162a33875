/- Proved here: rules of our own engine for walking a program, part 15: a slice's beginning. -/
import Derived.Test.YtadiiejpacbfbaaC14
namespace Go.Sym
open Go Go.RowKit

/-- 'v[:n]' -/
def preV (v : Value) (n : Nat) : Value :=
  match v with
  | .slice a _ c => .slice a n c
  | _ => .nilFunc

section
variable {N : Nat} {c : Ctx} {P : Program} {m : Ent} {L L' : List Itm} {F : List Fact} {d : Option Tmp} {ty : TypeId} {pos : String} {aft : Array Edge} {g : Option (Nat × Bool)}

theorem Y.sl2 {x p : Operand} {v : Value} {t e : TypeId} [ht : SliceTy P t e] {sz bytes : Nat} [he : Elem P e sz bytes] {sz' : Nat} {α : Type} {enc : α → List Value} {l : List α} (n : Nat) {k : IntKind} {i : Int} (hx : ev m x = some v) [hF : HasArr F v sz' enc l]
    (hp : ev m p = some (.int k i)) (hi : i = (n : Int)) (hn : n ≤ l.length) :
    Yld N c P ⟨d, .slice t x none (some p) none, ty, pos, aft, g⟩ m L F (preV v n) := fun a w h => by
  subst hi
  obtain ⟨⟨_, _, hty, _⟩, _⟩ := he
  obtain ⟨ad, cap, hv, hlc, hc, hnn, hs1, hcell⟩ := h.ws.facts _ hF.mem
  subst hv
  have h1 : n ≤ cap := Nat.le_trans hn hlc
  have hz : ad.map (fun a => a.add 0) = ad := by cases ad <;> simp [Addr.add]
  simp [execOp, h.agree.eval hx, h.agree.eval hp, Instr.sliceAt, Instr.slice, run_underlying ht.und, Instr.sliceBounds, Instr.sliceBound, asIntOf, h1, hty.sizeOf_run, preV, hz]

theorem pre_arr {α : Type} {v : Value} {sz : Nat} {enc : α → List Value} {l : List α} {D : Nat → Prop} {w : World} (h : arrP v sz enc l D w) {n : Nat} (hn : n ≤ l.length) : arrP (preV v n) sz enc (l.take n) D w := by
  obtain ⟨a, cp, hv, hlc, hc, hna, hs, hcell⟩ := h
  subst hv
  have hlen : (l.take n).length = n := by simp; omega
  refine ⟨a, cp, by rw [preV, hlen], by omega, hc, fun ha => ?_, fun x hx => hs x (List.mem_of_mem_take hx), fun hne => ?_⟩
  · obtain ⟨rfl, h0⟩ := hna ha
    exact ⟨by simp, h0⟩
  · obtain ⟨b, off, ha, hb, hD, hcells⟩ := hcell (by rintro rfl; simp at hne)
    refine ⟨b, off, ha, hb, hD, fun j u hu => hcells j u ?_⟩
    have hpre : (l.take n).flatMap enc ++ (l.drop n).flatMap enc = l.flatMap enc := by rw [← List.flatMap_append, List.take_append_drop]
    rw [← hpre, List.getElem?_append_left (List.getElem?_eq_some_iff.1 hu).1]
    exact hu

theorem Ent1.pre {α : Type} {v : Value} {sz : Nat} {enc : α → List Value} {l : List α} [h : HasArr F v sz enc l] {n : Nat} (hn : n ≤ l.length) : Ent1 F (Fact.arr (preV v n) sz enc (l.take n)) := fun _ _ hF => pre_arr (hF _ h.mem) hn
/-- the slice's beginning, with what is known of it -/
theorem SP.preGive {K : Act → World → Prop} {α : Type} {v : Value} {sz : Nat} {enc : α → List Value} {l : List α} [h : HasArr F v sz enc l] (n : Nat) (hn : n ≤ l.length) (k : SP N c K m L (Fact.arr (preV v n) sz enc (l.take n) :: F)) : SP N c K m L F :=
  SP.know (Ents.cons (Ent1.pre (v := v) hn) (Ents.nil F)) k

/-- a part of a tuple, as it stands there -/
theorem Y.ext {x : Operand} {l : List Value} {i : Nat} {v : Value} (hx : ev m x = some (.tuple l.toArray)) [h : NthV l i v] : Yld N c P ⟨d, .extract x i, ty, pos, aft, g⟩ m L F v := Y.extract hx (by rw [List.getElem?_toArray]; exact h.eq)
end
end Go.Sym
