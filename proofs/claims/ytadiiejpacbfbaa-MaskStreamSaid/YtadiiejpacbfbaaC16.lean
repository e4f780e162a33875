/- Proved here: rules of our own engine for walking a program, part 16: comparing structs that hold structs; strings cut. -/
import Derived.Test.YtadiiejpacbfbaaC15
namespace Go.Sym
open Go Go.RowKit

class TakeV (cs : List Value) (n : Nat) (sub : outParam (List Value)) : Prop where
  eq : cs.take n = sub
instance TakeV.zero (cs : List Value) : TakeV cs 0 [] := ⟨by simp⟩
instance TakeV.succ (v : Value) (cs sub : List Value) (n : Nat) [h : TakeV cs n sub] : TakeV (v :: cs) (n + 1) (v :: sub) := ⟨by rw [List.take_succ_cons, h.eq]⟩
class SubV (cs : List Value) (o n : Nat) (sub : outParam (List Value)) : Prop where
  eq : (cs.drop o).take n = sub
instance SubV.zero (cs sub : List Value) (n : Nat) [h : TakeV cs n sub] : SubV cs 0 n sub := ⟨by rw [List.drop_zero]; exact h.eq⟩
instance SubV.succ (v : Value) (cs sub : List Value) (o n : Nat) [h : SubV cs o n sub] : SubV (v :: cs) (o + 1) n sub := ⟨by rw [List.drop_succ_cons]; exact h.eq⟩

theorem part_agg {P : Program} {t : TypeId} {sz bytes : Nat} {z : Value} (ht : Ty P t true sz bytes z) {cs sub : List Value} {o : Nat} (w : World) (h : (cs.drop o).take sz = sub) : (part t cs.toArray o).run P w = .ok (.agg sub.toArray) w := by
  unfold part
  have e : (cs.toArray.extract o (o + sz)) = sub.toArray := by
    rw [← h]
    simp [List.take_drop]
  simp only [Sem.run_bind, ht.isAgg_run, ht.sizeOf_run, Result.andThen_ok, if_true, e, Sem.run_pure]

class EqFs2 (P : Program) (l : List (TypeId × Nat)) (xs ys : List Value) (b : outParam Bool) : Prop where
  run : ∀ d w (fs : List Field), fs.map (fun f => (f.name == "_", f.type, f.offset)) = l.map (fun p => (false, p.1, p.2)) → (Op.eqFields (d + 2) xs.toArray ys.toArray fs).run P w = .ok b w
instance EqFs2.nil (P : Program) (xs ys : List Value) : EqFs2 P [] xs ys true := ⟨fun d w fs h => by
  have : fs = [] := by simpa using h
  subst this; simp [Op.eqFields]⟩
instance EqFs2.cons (P : Program) (t : TypeId) (o : Nat) (l : List (TypeId × Nat)) (xs ys : List Value) (v u : Value) (b c : Bool) [h1 : NthV xs o v] [h2 : NthV ys o u] [he : EqV P t v u b] [h : EqFs2 P l xs ys c] : EqFs2 P ((t, o) :: l) xs ys (b && c) := ⟨fun d w fs hfs => by
  obtain ⟨f, fs', rfl⟩ : ∃ f fs', fs = f :: fs' := by cases fs with | nil => simp at hfs | cons f fs' => exact ⟨f, fs', rfl⟩
  simp only [List.map_cons, List.cons.injEq, Prod.mk.injEq] at hfs
  obtain ⟨⟨hn, ht, ho⟩, hr⟩ := hfs
  subst ht ho
  have hn' : f.name ≠ "_" := by simpa using hn
  simp only [Op.eqFields, hn', ne_eq, not_false_eq_true, if_true, Sem.run_bind, part_run (he.agg w) h1.eq, part_run (he.agg w) h2.eq, Result.andThen_ok, he.run (d + 1) w]
  cases b
  · simp
  · simpa using h.run d w fs' hr⟩
instance EqFs2.consA (P : Program) (t : TypeId) (o : Nat) (l l' : List (TypeId × Nat)) (xs ys vs us : List Value) (b c : Bool) {sz bytes : Nat} {z : Value} [hty : Ty P t true sz bytes z] [hq : EqTy P t l'] [h1 : SubV xs o sz vs] [h2 : SubV ys o sz us] [he : EqFs P l' vs us b] [h : EqFs2 P l xs ys c] :
    EqFs2 P ((t, o) :: l) xs ys (b && c) := ⟨fun d w fs hfs => by
  obtain ⟨f, fs', rfl⟩ : ∃ f fs', fs = f :: fs' := by cases fs with | nil => simp at hfs | cons f fs' => exact ⟨f, fs', rfl⟩
  simp only [List.map_cons, List.cons.injEq, Prod.mk.injEq] at hfs
  obtain ⟨⟨hn, ht, ho⟩, hr⟩ := hfs
  subst ht ho
  have hn' : f.name ≠ "_" := by simpa using hn
  obtain ⟨fs0, hfs0⟩ := isStruct_spec hq.und
  have hfo : P.underlying f.type = some (.struct (P.fieldsOf f.type)) := by rw [hfs0]; simp [Program.fieldsOf, hfs0]
  have key : (Op.equalIn (d + 2) f.type (.agg vs.toArray) (.agg us.toArray)).run P w = .ok b w := by
    rw [run_equalIn_agg w (d + 1) f.type _ _ hfo hq.stood]
    exact he.run d w _ hq.fs
  simp only [Op.eqFields, hn', ne_eq, not_false_eq_true, if_true, Sem.run_bind, part_agg hty w h1.eq, part_agg hty w h2.eq, Result.andThen_ok, key]
  cases b
  · simp
  · simpa using h.run d w fs' hr⟩

section
variable {N : Nat} {c : Ctx} {P : Program} {m : Ent} {L L' : List Itm} {F : List Fact} {d : Option Tmp} {ty : TypeId} {pos : String} {aft : Array Edge} {g : Option (Nat × Bool)}

theorem eqStruct2 {t : TypeId} {l : List (TypeId × Nat)} [ht : EqTy P t l] {xs ys : List Value} {b : Bool} [he : EqFs2 P l xs ys b] (w : World) : (Op.equalIn 10000 t (.agg xs.toArray) (.agg ys.toArray)).run P w = .ok b w := by
  obtain ⟨fs, hfs⟩ := isStruct_spec ht.und
  have hfo : P.underlying t = some (.struct (P.fieldsOf t)) := by rw [hfs]; simp [Program.fieldsOf, hfs]
  rw [show (10000 : Nat) = 9999 + 1 from rfl, run_equalIn_agg w 9999 t _ _ hfo ht.stood, show (9999 : Nat) = 9997 + 2 from rfl]
  exact he.run 9997 w _ ht.fs
theorem Y.eqlA2 {x y : Operand} {t t' : TypeId} {l : List (TypeId × Nat)} [ht : EqTy P t l] {xs ys : List Value} {b : Bool} (hx : ev m x = some (.agg xs.toArray)) (hy : ev m y = some (.agg ys.toArray)) [he : EqFs2 P l xs ys b] :
    Yld N c P ⟨d, .binOp .eql t x y t', ty, pos, aft, g⟩ m L F (.bool b) := fun a w h => by
  simp only [execOp, h.agree.eval hx, h.agree.eval hy, Sem.run_bind, run_eqGuard_agg w .eql t x y _ _ ht.guard, run_eql_struct, eqStruct2 (b := b), Result.andThen_ok, Sem.run_pure]
theorem Y.neqA2 {x y : Operand} {t t' : TypeId} {l : List (TypeId × Nat)} [ht : EqTy P t l] {xs ys : List Value} {b : Bool} (hx : ev m x = some (.agg xs.toArray)) (hy : ev m y = some (.agg ys.toArray)) [he : EqFs2 P l xs ys b] :
    Yld N c P ⟨d, .binOp .neq t x y t', ty, pos, aft, g⟩ m L F (.bool (!b)) := fun a w h => by
  simp only [execOp, h.agree.eval hx, h.agree.eval hy, Sem.run_bind, run_eqGuard_agg w .neq t x y _ _ ht.guard, run_neq_struct, eqStruct2 (b := b), Result.andThen_ok, Sem.run_pure]
end
end Go.Sym
