/- Proved here: rules of our own engine for walking a program, part 19: a slice's end. -/
import Derived.Test.YtadiiejpacbfbaaC18
namespace Go.Sym
open Go Go.RowKit

/-- 'v[k:]' -/
def sufV (v : Value) (sz k : Nat) : Value :=
  match v with
  | .slice a n c => .slice (if c = k then a else a.map (fun x => x.add (k * sz))) (n - k) (c - k)
  | _ => .nilFunc

section
variable {N : Nat} {c : Ctx} {P : Program} {m : Ent} {L L' : List Itm} {F : List Fact} {d : Option Tmp} {ty : TypeId} {pos : String} {aft : Array Edge} {g : Option (Nat × Bool)}

theorem Y.sl1 {x p : Operand} {v : Value} {t e : TypeId} [ht : SliceTy P t e] {sz bytes : Nat} [he : Elem P e sz bytes] {α : Type} {enc : α → List Value} {l : List α} (n : Nat) {k : IntKind} {i : Int} (hx : ev m x = some v) [hF : HasArr F v sz enc l]
    (hp : ev m p = some (.int k i)) (hi : i = (n : Int)) (hn : n ≤ l.length) :
    Yld N c P ⟨d, .slice t x (some p) none none, ty, pos, aft, g⟩ m L F (sufV v sz n) := fun a w h => by
  subst hi
  obtain ⟨⟨_, _, hty, hsz⟩, _⟩ := he
  obtain ⟨ad, cap, hv, hlc, hc, hnn, hs1, hcell⟩ := h.ws.facts _ hF.mem
  subst hv
  simp [execOp, h.agree.eval hx, h.agree.eval hp, Instr.sliceAt, Instr.slice, run_underlying ht.und, Instr.sliceBounds, Instr.sliceBound, asIntOf, hn, hty.sizeOf_run, sufV]

theorem suf_arr {α : Type} {v : Value} {sz : Nat} {enc : α → List Value} {l : List α} {D : Nat → Prop} {w : World} (h : arrP v sz enc l D w) {n : Nat} (hn : n ≤ l.length) : arrP (sufV v sz n) sz enc (l.drop n) D w := by
  obtain ⟨a, cp, hv, hlc, hc, hna, hs, hcell⟩ := h
  subst hv
  have hlen : (l.drop n).length = l.length - n := by simp
  refine ⟨_, cp - n, by rw [sufV, hlen], by omega, by omega, fun ha => ?_, fun x hx => hs x (List.mem_of_mem_drop hx), fun hne => ?_⟩
  · have ha' : a = none := by
      split at ha
      · exact ha
      · cases a <;> simp at ha; rfl
    obtain ⟨rfl, h0⟩ := hna ha'
    exact ⟨by simp, by omega⟩
  · have hlt : n < l.length := by
      have : (l.drop n).length ≠ 0 := fun h0 => hne (List.length_eq_zero_iff.1 h0)
      omega
    obtain ⟨b, off, ha, hb, hD, hcells⟩ := hcell (by rintro rfl; simp at hlt)
    refine ⟨b, off + n * sz, by rw [if_neg (by omega), ha]; simp [Addr.add], hb, hD, fun j u hu => ?_⟩
    have hpre : (l.take n).flatMap enc ++ (l.drop n).flatMap enc = l.flatMap enc := by rw [← List.flatMap_append, List.take_append_drop]
    have hl1 : ((l.take n).flatMap enc).length = n * sz := by rw [flatMap_length (fun x hx => (hs x (List.mem_of_mem_take hx)).1), List.length_take, Nat.min_eq_left hn]
    have := hcells (n * sz + j) u (by rw [← hpre, List.getElem?_append_right (by omega), hl1, Nat.add_sub_cancel_left]; exact hu)
    rwa [Nat.add_assoc]

theorem Ent1.suf {α : Type} {v : Value} {sz : Nat} {enc : α → List Value} {l : List α} [h : HasArr F v sz enc l] {n : Nat} (hn : n ≤ l.length) : Ent1 F (Fact.arr (sufV v sz n) sz enc (l.drop n)) := fun _ _ hF => suf_arr (hF _ h.mem) hn
/-- the slice's end, with what is known of it -/
theorem SP.sufGive {K : Act → World → Prop} {α : Type} {v : Value} {sz : Nat} {enc : α → List Value} {l : List α} [h : HasArr F v sz enc l] (n : Nat) (hn : n ≤ l.length) (k : SP N c K m L (Fact.arr (sufV v sz n) sz enc (l.drop n) :: F)) : SP N c K m L F :=
  SP.know (Ents.cons (Ent1.suf (v := v) hn) (Ents.nil F)) k
end
end Go.Sym
