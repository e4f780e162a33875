/- Proved here: rules of our own engine for walking a program, part 13: comparing structs, arrays' values, slices of arrays, products and conversions. -/
import Derived.Test.YtadiiejpacbfbaaC12
import Derived.Laws.StructEq
namespace Go.Sym
open Go Go.RowKit

class EqTy (P : Program) (t : TypeId) (l : outParam (List (TypeId × Nat))) : Prop where
  und : isStruct (P.underlying t) = true
  stood : P.stoodInHeld t = false
  fs : (P.fieldsOf t).toList.map (fun f => (f.name == "_", f.type, f.offset)) = l.map (fun p => (false, p.1, p.2))
  guard : P.eqGuardType P.depth t = false

class EqV (P : Program) (t : TypeId) (v u : Value) (b : outParam Bool) : Prop where
  run : ∀ d w, (Op.equalIn (d + 1) t v u).run P w = .ok b w
  agg : ∀ w, (isAgg t).run P w = .ok false w
instance EqV.int {P : Program} {t : TypeId} {k : IntKind} [h : IntTy P t k] {sz bytes : Nat} {z : Value} [hz : Ty P t false sz bytes z] (k' : IntKind) (a b : Int) : EqV P t (.int k' a) (.int k' b) (decide (a = b)) := ⟨fun d w => by rw [run_equalIn_int w d t k' k a b h.und]; rfl, fun _ => hz.isAgg_run⟩
instance EqV.bool {P : Program} {t : TypeId} [h : BoolTy P t] {sz bytes : Nat} {z : Value} [hz : Ty P t false sz bytes z] (a b : Bool) : EqV P t (.bool a) (.bool b) (decide (a = b)) := ⟨fun d w => by rw [run_equalIn_bool' w d t a b h.und]; cases a <;> cases b <;> rfl, fun _ => hz.isAgg_run⟩
instance EqV.str {P : Program} {t : TypeId} [h : StrTy P t] {sz bytes : Nat} {z : Value} [hz : Ty P t false sz bytes z] (a b : ByteArray) : EqV P t (.string a) (.string b) (decide (a = b)) := ⟨fun d w => by rw [run_equalIn_string w d t a b h.und, toList_eq_iff], fun _ => hz.isAgg_run⟩

class NthV (cs : List Value) (i : Nat) (v : outParam Value) : Prop where
  eq : cs[i]? = some v
instance NthV.zero (v : Value) (cs : List Value) : NthV (v :: cs) 0 v := ⟨rfl⟩
instance NthV.succ (u v : Value) (cs : List Value) (i : Nat) [h : NthV cs i v] : NthV (u :: cs) (i + 1) v := ⟨by rw [List.getElem?_cons_succ]; exact h.eq⟩

class EqFs (P : Program) (l : List (TypeId × Nat)) (xs ys : List Value) (b : outParam Bool) : Prop where
  run : ∀ d w (fs : List Field), fs.map (fun f => (f.name == "_", f.type, f.offset)) = l.map (fun p => (false, p.1, p.2)) → (Op.eqFields (d + 1) xs.toArray ys.toArray fs).run P w = .ok b w
instance EqFs.nil (P : Program) (xs ys : List Value) : EqFs P [] xs ys true := ⟨fun d w fs h => by
  have : fs = [] := by simpa using h
  subst this; simp [Op.eqFields]⟩
theorem part_run {P : Program} {t : TypeId} {cs : List Value} {o : Nat} {v : Value} {w : World} (ha : (isAgg t).run P w = .ok false w) (h : cs[o]? = some v) : (part t cs.toArray o).run P w = .ok v w := by
  unfold part
  simp [ha, h]
instance EqFs.cons (P : Program) (t : TypeId) (o : Nat) (l : List (TypeId × Nat)) (xs ys : List Value) (v u : Value) (b c : Bool) [h1 : NthV xs o v] [h2 : NthV ys o u] [he : EqV P t v u b] [h : EqFs P l xs ys c] : EqFs P ((t, o) :: l) xs ys (b && c) := ⟨fun d w fs hfs => by
  obtain ⟨f, fs', rfl⟩ : ∃ f fs', fs = f :: fs' := by cases fs with | nil => simp at hfs | cons f fs' => exact ⟨f, fs', rfl⟩
  simp only [List.map_cons, List.cons.injEq, Prod.mk.injEq] at hfs
  obtain ⟨⟨hn, ht, ho⟩, hr⟩ := hfs
  subst ht ho
  have hn' : f.name ≠ "_" := by simpa using hn
  simp only [Op.eqFields, hn', ne_eq, not_false_eq_true, if_true, Sem.run_bind, part_run (he.agg w) h1.eq, part_run (he.agg w) h2.eq, Result.andThen_ok, he.run d w]
  cases b
  · simp
  · simpa using h.run d w fs' hr⟩

section
variable {N : Nat} {c : Ctx} {P : Program} {m : Ent} {L L' : List Itm} {F : List Fact} {d : Option Tmp} {ty : TypeId} {pos : String} {aft : Array Edge} {g : Option (Nat × Bool)}

theorem eqStruct {t : TypeId} {l : List (TypeId × Nat)} [ht : EqTy P t l] {xs ys : List Value} {b : Bool} [he : EqFs P l xs ys b] (w : World) : (Op.equalIn 10000 t (.agg xs.toArray) (.agg ys.toArray)).run P w = .ok b w := by
  obtain ⟨fs, hfs⟩ := isStruct_spec ht.und
  have hfo : P.underlying t = some (.struct (P.fieldsOf t)) := by rw [hfs]; simp [Program.fieldsOf, hfs]
  rw [show (10000 : Nat) = 9999 + 1 from rfl, run_equalIn_agg w 9999 t _ _ hfo ht.stood, show (9999 : Nat) = 9998 + 1 from rfl]
  exact he.run 9998 w _ ht.fs

theorem Y.eqlA {x y : Operand} {t t' : TypeId} {l : List (TypeId × Nat)} [ht : EqTy P t l] {xs ys : List Value} {b : Bool} (hx : ev m x = some (.agg xs.toArray)) (hy : ev m y = some (.agg ys.toArray)) [he : EqFs P l xs ys b] :
    Yld N c P ⟨d, .binOp .eql t x y t', ty, pos, aft, g⟩ m L F (.bool b) := fun a w h => by
  simp only [execOp, h.agree.eval hx, h.agree.eval hy, Sem.run_bind, run_eqGuard_agg w .eql t x y _ _ ht.guard, run_eql_struct, eqStruct (b := b), Result.andThen_ok, Sem.run_pure]
theorem Y.neqA {x y : Operand} {t t' : TypeId} {l : List (TypeId × Nat)} [ht : EqTy P t l] {xs ys : List Value} {b : Bool} (hx : ev m x = some (.agg xs.toArray)) (hy : ev m y = some (.agg ys.toArray)) [he : EqFs P l xs ys b] :
    Yld N c P ⟨d, .binOp .neq t x y t', ty, pos, aft, g⟩ m L F (.bool (!b)) := fun a w h => by
  simp only [execOp, h.agree.eval hx, h.agree.eval hy, Sem.run_bind, run_eqGuard_agg w .neq t x y _ _ ht.guard, run_neq_struct, eqStruct (b := b), Result.andThen_ok, Sem.run_pure]

/-! ### an array's value -/
class BuildArr (P : Program) (t : TypeId) (pl : outParam (List (Nat × Nat))) : Prop where
  ok : ∃ n e agg sz bytes z, P.underlying t = some (.array n e) ∧ Ty P e agg sz bytes z ∧ (pl.zipIdx.all fun p => p.1 == (p.2 * sz, sz)) = true

theorem fill_mono {f h : Nat → Option (Nat × Nat)} (hm : ∀ i p, h i = some p → f i = some p) : ∀ (parts : List (Nat × Value)) (cs r : Array Value), Instr.fill h cs parts = some r → Instr.fill f cs parts = some r
  | [], cs, r, hr => by simpa [Instr.fill] using hr
  | (i, v) :: rest, cs, r, hr => by
    rw [Instr.fill] at hr ⊢
    cases hp : h i with
    | none => rw [hp] at hr; cases hr
    | some p =>
      rw [hm i p hp]
      rw [hp] at hr
      obtain ⟨off, size⟩ := p
      simp only at hr ⊢
      split at hr
      · cases hr
      · rename_i hc
        rw [if_neg hc]
        exact fill_mono hm rest _ _ hr

theorem Y.buildA {t : TypeId} {sz bytes : Nat} {z : List Value} [ht : Ty P t true sz bytes (.agg z.toArray)] {pl : List (Nat × Nat)} [hb : BuildArr P t pl] {parts : List (Nat × Operand)} {vs : List (Nat × Value)} {cs : List Value} (hx : evp m parts = some vs)
    [hf : Fills L F pl z vs cs] : Yld N c P ⟨d, .build t parts.toArray, ty, pos, aft, g⟩ m L F (.agg cs.toArray) := fun a w h => by
  obtain ⟨n, e, agg, es, eb, ez, hu, he, hpl⟩ := hb.ok
  have hps : (parts.toArray.map fun (i, x) => (i, a.eval x)) = vs.toArray := by
    rw [← evp_spec h.agree hx, List.map_toArray]
  have h1 := hf.eq _ _ _ h.ws.own h.ws.facts
  have h2 := fill_mono (f := fun i => some (i * es, es)) (fun i p hp => by
    have hi : pl[i]? = some p := by simpa using hp
    have hlt := (List.getElem?_eq_some_iff.1 hi).1
    have h3 := List.all_eq_true.1 hpl (p, i) (by
      have := List.mk_mem_zipIdx_iff_getElem? (i := i) (x := p) (l := pl)
      exact this.2 hi)
    have h4 : p = (i * es, es) := by simpa using h3
    rw [h4]) _ _ _ h1
  simp only [execOp, hps, Instr.build, Sem.run_bind, ht.zero_run, Result.andThen_ok, run_underlying hu, he.sizeOf_run, Value.cells, h2, Sem.run_pure]

/-- 'a[:]' of an array -/
theorem Y.slP {x : Operand} {b : Nat} {t e : TypeId} {n : Nat} [ht : ArrayTy P t n e] {agg : Bool} {sz bytes : Nat} {z : Value} [he : Ty P e agg sz bytes z] (hx : ev m x = some (.pointer (some ⟨b, 0, none⟩))) :
    Yld N c P ⟨d, .slice t x none none none, ty, pos, aft, g⟩ m L F (.slice (some ⟨b, 0, none⟩) n n) := fun a w h => by
  simp [execOp, h.agree.eval hx, Instr.sliceAt, run_underlying ht.und, Instr.sureAddr, Instr.sliceBounds, he.sizeOf_run, Addr.add]

/-- a box that is an array is written no more: a slice of it reads as a list -/
theorem SP.boxArr {K : Act → World → Prop} (b : Nat) {cs : List Value} [hd : DelBox L b cs L'] {α : Type} {sz n : Nat} (enc : α → List Value) (l : List α) (hl : l.length = n) (hn : n ≤ 1000000) (hx : cs = l.flatMap enc) (h1 : ∀ x ∈ l, (enc x).length = sz ∧ ∀ u ∈ enc x, u.oneCell' = true)
    (h : SP N c K m L' (Fact.arr (.slice (some ⟨b, 0, none⟩) n n) sz enc l :: F)) : SP N c K m L F := fun a w hs => by
  have hp := hs.ws.own.perm hd.perm
  obtain ⟨hb, e, he⟩ := hp.holds _ (List.mem_cons_self ..)
  have hw := hs.ws.less (L' := L') (F' := F) ⟨[.box b cs], hd.perm.trans (List.perm_append_comm (l₁ := [Itm.box b cs]) (l₂ := L'))⟩ (Ents.refl F)
  refine h a w ⟨hs.agree, hw.d0, hw.below, hw.own, AllF.cons ?_ hw.facts⟩
  subst hl
  have hmax : maxLen = 9223372036854775807 := rfl
  refine ⟨_, _, rfl, Nat.le_refl _, by omega, (fun h => by cases h), h1, fun _ => ⟨b, 0, rfl, (Array.getElem?_eq_some_iff.1 he).1, ?_, fun j u hu => ?_⟩⟩
  · rintro (h0 | ⟨it, hit, hk⟩)
    · have := hs.ws.d0 b h0
      omega
    · exact (List.pairwise_cons.1 hp.disj).1 it hit b rfl hk
  · rw [Nat.zero_add, hs.ws.boxCell (hb := ⟨hd.perm.mem_iff.2 (List.mem_cons_self ..)⟩) j, hx]
    exact hu

theorem Y.conv64 {x : Operand} {i : Int} {k : IntKind} {st t' : TypeId} [ht : IntTy P t' .i64] [hst : IntTy P st k] (hx : ev m x = some (.int k i)) (hr : -9223372036854775808 ≤ i ∧ i ≤ 9223372036854775807) : Yld N c P ⟨d, .convert st t' x, ty, pos, aft, g⟩ m L F (.int .i64 i) := Y.convI hx (IntWalk.i64_in i hr)
theorem Y.conv8 {x : Operand} {i : Int} {k : IntKind} {st t' : TypeId} [ht : IntTy P t' .u8] [hst : IntTy P st k] (hx : ev m x = some (.int k i)) (hr : 0 ≤ i ∧ i ≤ 255) : Yld N c P ⟨d, .convert st t' x, ty, pos, aft, g⟩ m L F (.int .u8 i) := Y.convI hx (by rw [IntKind.wrap_u8]; omega)

theorem SA.rdy {Q : Exit → Act → World → Prop} {ops : Array Oper} {M : List Nat} {w1 : World} {fuel : Nat} {listed : Array Bool} (i : Nat) (_ : (Region.ready .any ops listed).contains i = true) (h : SA N c P ops Q M w1 fuel listed m L F) : SA N c P ops Q M w1 fuel listed m L F := h
theorem SA.isV {Q : Exit → Act → World → Prop} {ops : Array Oper} {M : List Nat} {w1 : World} {fuel : Nat} {listed : Array Bool} (t : Nat) (v : Value) (_ : get m t = some v) (h : SA N c P ops Q M w1 fuel listed m L F) : SA N c P ops Q M w1 fuel listed m L F := h
theorem SA.ifB {Q : Exit → Act → World → Prop} {ops : Array Oper} {M : List Nat} {w1 : World} {fuel : Nat} {listed : Array Bool} {t : Nat} {b : Bool} (ht : get m t = some (.bool b))
    (h1 : b = true → SA N c P ops Q M w1 fuel listed ((t, .bool true) :: m) L F) (h2 : b = false → SA N c P ops Q M w1 fuel listed ((t, .bool false) :: m) L F) : SA N c P ops Q M w1 fuel listed m L F := by
  have := SP.ifB (N := N) (c := c) (K := fun a w => Rg M w1 w → wpAnyH P .any ops Q (Rg M w1) fuel listed a w) (L := L) (F := F) ht h1 h2
  exact this
end
end Go.Sym
