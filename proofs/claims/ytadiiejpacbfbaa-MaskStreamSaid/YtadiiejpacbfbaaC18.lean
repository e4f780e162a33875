/- Proved here: rules of our own engine for walking a program, part 18: bytes made, an array's place inside an element. -/
import Derived.Test.YtadiiejpacbfbaaC17
namespace Go.Sym
open Go Go.RowKit

section
variable {N : Nat} {c : Ctx} {P : Program} {m : Ent} {L L' : List Itm} {F : List Fact} {d : Option Tmp} {ty : TypeId} {pos : String} {aft : Array Edge} {g : Option (Nat × Bool)}

theorem made_bytes (n : Nat) : (madeCells (Value.int .u8 0).cells (n * 1)).toList = (List.replicate n (0 : Int)).flatMap encB := by
  have h1 : ∀ k : Nat, (List.replicate k (0 : Int)).flatMap encB = List.replicate k (Value.int .u8 0) := by
    intro k
    induction k with
    | zero => rfl
    | succ k ih => rw [List.replicate_succ, List.flatMap_cons, ih, List.replicate_succ]; rfl
  rw [h1]
  apply List.ext_getElem?
  intro i
  have hz : (Value.int .u8 0).cells = #[.int .u8 0] := rfl
  simp only [madeCells, hz]
  by_cases hi : i < n
  · simp [hi, Nat.mod_one]
  · simp [hi]

/-- 'make([]byte, n)', written no more -/
theorem Ef.makeB {x : Operand} {t e : TypeId} [ht : SliceTy P t e] {bytes : Nat} [he : Ty P e false 1 bytes (.int .u8 0)] {k : IntKind} {i : Int} (n : Nat) (hx : ev m x = some (.int k i)) (hi : i = (n : Int)) (hn : bytes * n ≤ 16777216) (hn2 : n ≤ 16777216) :
    Eff N c P ⟨d, .makeSlice t x x, ty, pos, aft, g⟩ m L F (fun b : Nat => .slice (some ⟨b, 0, none⟩) n n) none (fun _ => L) (fun b => Fact.arr (.slice (some ⟨b, 0, none⟩) n n) 1 encB (List.replicate n 0) :: F) := fun a w hs K Q hK => by
  subst hi
  obtain ⟨j, hj, hz, hsz, hb⟩ := info_parts he.info
  have hbb : (j.bytes : Int) * ((n : Nat) : Int) ≤ 281474976710656 := by
    rw [hb]
    have : ((bytes * n : Nat) : Int) ≤ 281474976710656 := by omega
    rwa [Int.natCast_mul] at this
  have hr := run_makeSlice (P := P) w t e j (.int .u8 0) ht.und hj hz k k (n : Int) (n : Int) (by omega) (Int.le_refl _) (by rw [hsz, Int.toNat_natCast]; omega) hbb (by omega)
  rw [Int.toNat_natCast, hsz] at hr
  unfold Oper.wp
  simp only [execOp, hs.agree.eval hx, Sem.run_bind, hr, Result.andThen_ok, Sem.run_pure]
  have hw := hs.ws.newF (madeCells (Value.int .u8 0).cells (n * 1)) e
  refine hK w.heap.size _ (World.grownBy_alloc w _ none) ⟨hw.d0, hw.below, hw.own, AllF.cons ?_ (fun f hf => hw.facts f (List.mem_cons_of_mem _ hf))⟩
  obtain ⟨h2, e', h3⟩ := hw.facts _ (List.mem_cons_self ..)
  have hmax : maxLen = 9223372036854775807 := rfl
  refine ⟨_, n, by rw [List.length_replicate], by rw [List.length_replicate]; exact Nat.le_refl _, by omega, (fun h => by cases h), encB_ok _, fun _ => ⟨w.heap.size, 0, rfl, by simp, h2, fun j u hu => ?_⟩⟩
  rw [Nat.zero_add, cell_of_row _ _ j _ e' (0, 0) h3]
  rw [← made_bytes] at hu
  simpa using hu

/-- an array's place inside an element of a slice -/
theorem Y.idxE {x y : Operand} {v : Value} {sz k o : Nat} {t e : TypeId} {n : Nat} [ht : ArrayTy P t n e] {agg : Bool} {sz' bytes : Nat} {z : Value} [he : Ty P e agg sz' bytes z] {α : Type} {enc : α → List Value} {l : List α} {u : α} {kk : IntKind} {i : Int} (j : Nat) (hx : ev m x = some (eptr v sz k o))
    [hF : HasArr F v sz enc l] (hy : ev m y = some (.int kk i)) (hi : i = (j : Int)) (hlt : Nat.blt j n = true) (hu : l[k]? = some u) : Yld N c P ⟨d, .indexAddr t x y, ty, pos, aft, g⟩ m L F (eptr v sz k (o + j * sz')) := fun a w h => by
  subst hi
  have hlt' : j < n := by simpa using hlt
  obtain ⟨b, off', cap, hv, _⟩ := arr_shape (h.ws.facts _ hF.mem) hu
  have hx' := h.agree.eval hx
  rw [hv] at hx' ⊢
  simp only [eptr] at hx' ⊢
  simp [execOp, hx', h.agree.eval hy, Instr.indexAt, asIntOf, run_underlying ht.und, hlt', he.sizeOf_run, Instr.sureAddr, Addr.add_add, Nat.add_assoc]
end
end Go.Sym
