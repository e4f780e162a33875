/- Proved here: rules of our own engine for walking a program, part 22: a struct inside an element of an own row. -/
import Derived.Test.YtadiiejpacbfbaaC21
namespace Go.Sym
open Go Go.RowKit

section
variable {N : Nat} {c : Ctx} {P : Program} {m : Ent} {L L' : List Itm} {F : List Fact} {d : Option Tmp} {ty : TypeId} {pos : String} {aft : Array Edge} {g : Option (Nat × Bool)}

theorem Y.ldRAE {x : Operand} {v : Value} {k o sz : Nat} {t e : TypeId} {sz' bytes n : Nat} {z : Value} [ht : Ty P t true sz' bytes z] {xs : List Value} {α : Type} {enc : α → List Value} {l : List α} {u : α} {cs : List Value} (hx : ev m x = some (eptr v sz k o)) [hL : HasRow L v e sz n xs]
    (hxs : xs = l.flatMap enc) [hE : EncOk enc sz] (hu : l[k]? = some u) (hr : ((enc u).drop o).take sz' = cs) (hl : cs.length = sz') (hz : Nat.blt 0 sz = true) :
    Yld N c P ⟨d, .load t x, ty, pos, aft, g⟩ m L F (.agg cs.toArray) := fun a w h => by
  obtain ⟨ao, cap, hv, hc⟩ := row_shape (h.ws.own.holds _ hL.mem)
  have hown := h.ws.own.holds _ hL.mem
  have hlt := (List.getElem?_eq_some_iff.1 hu).1
  have hxl : xs.length = l.length * sz := by rw [hxs, flatMap_length (fun x _ => hE.len x)]
  have hln : xs.length = n * sz := hown.1
  have hsz : 0 < sz := by simpa using hz
  have hn : l.length = n := Nat.eq_of_mul_eq_mul_right hsz (hxl.symm.trans hln)
  obtain ⟨b, rfl, hcell⟩ := hc (by omega)
  rw [hv] at hx
  simp only [eptr, addr_add_lit, Nat.zero_add] at hx
  have := loadVar_agg (w := w) ht (a := ⟨b, k * sz + o, none⟩) hl (fun j r hj => by
    subst hr
    rw [List.getElem?_take] at hj
    split at hj
    · rw [List.getElem?_drop] at hj
      have hlo : o + j < sz := by rw [← hE.len u]; exact (List.getElem?_eq_some_iff.1 hj).1
      rw [addr_add_lit, Nat.add_assoc]
      refine hcell _ _ ?_
      rw [hxs, flatMap_get (fun x _ => hE.len x) hu (o + j) hlo]
      exact hj
    · cases hj)
  simp [execOp, h.agree.eval hx, Instr.loadAt, Instr.sureAddr, this]
end
end Go.Sym
