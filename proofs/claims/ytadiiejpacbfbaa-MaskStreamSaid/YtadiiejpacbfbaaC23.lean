/- Proved here: rules of our own engine for walking a program, part 23: maps from strings to numbers that only grow. -/
import Derived.Test.YtadiiejpacbfbaaC22
import Derived.MapKept
namespace Go.Sym
open Go Go.RowKit

class MapTy (P : Program) (t : TypeId) (k e : outParam TypeId) : Prop where
  und : P.underlying t = some (.map k e)

class HasRaw (L : List Itm) (b : Nat) (o : outParam Obj) : Prop where
  mem : Itm.raw b o ∈ L
instance (priority := high) HasRaw.head (b : Nat) (o : Obj) (L : List Itm) : HasRaw (.raw b o :: L) b o := ⟨List.mem_cons_self ..⟩
instance HasRaw.tail (b : Nat) (o : Obj) (it : Itm) (L : List Itm) [h : HasRaw L b o] : HasRaw (it :: L) b o := ⟨List.mem_cons_of_mem _ h.mem⟩
class DelRaw (L : List Itm) (b : Nat) (o : outParam Obj) (L' : outParam (List Itm)) : Prop where
  perm : L.Perm (.raw b o :: L')
instance (priority := high) DelRaw.head (b : Nat) (o : Obj) (L : List Itm) : DelRaw (.raw b o :: L) b o L := ⟨.refl _⟩
instance DelRaw.tail (b : Nat) (o : Obj) (it : Itm) (L L' : List Itm) [h : DelRaw L b o L'] : DelRaw (it :: L) b o (it :: L') := ⟨(h.perm.cons it).trans (.swap _ _ _)⟩

/-- a map's content, in the order in which it grew -/
abbrev mkE (p : (ByteArray × Int) × Nat) : MapEntry := { key := .string p.1.1, val := .int .i64 p.1.2, born := p.2 }
def mpE (l : List (ByteArray × Int)) : Array MapEntry := (l.zipIdx.map mkE).toArray
def mapO (l : List (ByteArray × Int)) : Obj := .map (mpE l) l.length
/-- what is found -/
def lkp : List (ByteArray × Int) → ByteArray → Option Int
  | [], _ => none
  | p :: l, s => if p.1 = s then some p.2 else lkp l s
theorem lkp_snoc (l : List (ByteArray × Int)) (s t : ByteArray) (n : Int) : lkp (l ++ [(s, n)]) t = match lkp l t with | some k => some k | none => if s = t then some n else none := by
  induction l with
  | nil => simp [lkp]
  | cons p l ih =>
    simp only [List.cons_append, lkp]
    by_cases h : p.1 = t
    · simp [h]
    · simp [h, ih]
theorem mpE_snoc (l : List (ByteArray × Int)) (s : ByteArray) (n : Int) : mpE (l ++ [(s, n)]) = (mpE l).push { key := .string s, val := .int .i64 n, born := l.length } := by
  simp [mpE, List.zipIdx_append]
theorem find_mp (s : ByteArray) : ∀ (l : List (ByteArray × Int)) (k i : Nat), ∃ j, Instr.findNow .string (.string s) ((l.zipIdx k).map mkE) i = some ((lkp l s).map fun n => (j, .int .i64 n))
  | [], _, i => ⟨i, rfl⟩
  | p :: l, k, i => by
    obtain ⟨j, hj⟩ := find_mp s l (k + 1) (i + 1)
    simp only [List.zipIdx_cons, List.map_cons, Instr.findNow, Instr.sameNow, lkp]
    by_cases h : p.1 = s
    · have hb : (s == p.1) = true := (MapKept.bytes_beq s p.1).2 h.symm
      rw [hb, if_pos h]
      exact ⟨i, rfl⟩
    · have hb : (s == p.1) = false := by
        rw [← Bool.not_eq_true]
        exact fun h0 => h ((MapKept.bytes_beq s p.1).1 h0).symm
      rw [hb, if_neg h]
      exact ⟨j, hj⟩

section
variable {N : Nat} {c : Ctx} {P : Program} {m : Ent} {L L' : List Itm} {F : List Fact} {d : Option Tmp} {ty : TypeId} {pos : String} {aft : Array Edge} {g : Option (Nat × Bool)}

theorem WSt.newRaw {w : World} (h : WSt c L F w) (o : Obj) : WSt c (.raw w.heap.size o :: L) F (w.alloc o) := by
  refine h.step rfl rfl rfl (by simp) (fun k hk _ => Below.heap_alloc w _ k hk) ⟨?_, ?_⟩ ?_
  · intro it hit
    rcases List.mem_cons.1 hit with rfl | hit
    · exact ⟨h.below.size, by rw [Go.heap_alloc_new]⟩
    · exact Itm.holds_same (h.own.holds it hit) (fun k hk => Below.heap_alloc w _ k (Itm.holds_lt (h.own.holds it hit) hk).2)
  · refine List.pairwise_cons.2 ⟨fun y hy k hk hyk => ?_, h.own.disj⟩
    have := (Itm.holds_lt (h.own.holds y hy) hyk).2
    simp only [Itm.blk, Option.some.injEq] at hk
    omega
  · intro it hit k hk hlt
    rcases List.mem_cons.1 hit with rfl | hit
    · simp only [Itm.blk, Option.some.injEq] at hk
      omega
    · exact ⟨it, hit, hk⟩
theorem WSt.writeRaw {w : World} (h : WSt c L F w) {b : Nat} {o : Obj} (hd : DelRaw L b o L') (o' : Obj) : WSt c (.raw b o' :: L') F { w with heap := w.heap.setIfInBounds b o' } := by
  have hp := h.own.perm hd.perm
  obtain ⟨hb, he⟩ := hp.holds _ (List.mem_cons_self ..)
  have hap := (List.pairwise_cons.1 hp.disj).1
  obtain ⟨hs1, hs2⟩ := MapKept.heap_set (o' := o') he
  refine h.step rfl rfl rfl (by simp) ?_ ⟨?_, ?_⟩ ?_
  · intro k hk hn
    refine hs2 k (fun e => hn ⟨.raw b o, hd.perm.mem_iff.2 (List.mem_cons_self ..), by simp [Itm.blk, e]⟩)
  · intro it hit
    rcases List.mem_cons.1 hit with rfl | hit
    · exact ⟨hb, hs1⟩
    · refine Itm.holds_same (hp.holds it (List.mem_cons_of_mem _ hit)) (fun k hk => hs2 k (fun e => ?_))
      subst e
      exact hap it (by assumption) k rfl hk
  · exact List.pairwise_cons.2 ⟨fun y hy k hk hyk => hap y hy k hk hyk, (List.pairwise_cons.1 hp.disj).2⟩
  · intro it hit k hk _
    rcases List.mem_cons.1 hit with rfl | hit
    · exact ⟨.raw b o, hd.perm.mem_iff.2 (List.mem_cons_self ..), hk⟩
    · exact ⟨it, hd.perm.mem_iff.2 (List.mem_cons_of_mem _ hit), hk⟩

/-- a new map -/
theorem Ef.makeMap {t : TypeId} : Eff N c P ⟨d, .makeMap t none, ty, pos, aft, g⟩ m L F (fun b : Nat => .map (some b)) none (fun b => .raw b (mapO []) :: L) (fun _ => F) := fun a w hs K Q hK => by
  unfold Oper.wp
  have hr : (Instr.makeMap t none).run P w = .ok (.map (some w.heap.size)) (w.alloc (.map #[] 0)) := by simp [Instr.makeMap]
  simp only [execOp, Option.map_none, Sem.run_bind, hr, Result.andThen_ok, Sem.run_pure]
  exact hK w.heap.size _ (World.grownBy_alloc w _ none) (hs.ws.newRaw _)
/-- 'v, is := m[s]' -/
theorem Y.lookup {t kt et : TypeId} [ht : MapTy P t kt et] [hk : StrTy P kt] {bytes : Nat} [he : Ty P et false 1 bytes (.int .i64 0)] {x y : Operand} {b : Nat} {l : List (ByteArray × Int)} {s : ByteArray}
    (hx : ev m x = some (.map (some b))) (hy : ev m y = some (.string s)) [hb : HasRaw L b (mapO l)] : Yld N c P ⟨d, .lookup t x y true, ty, pos, aft, g⟩ m L F (.tuple #[.int .i64 ((lkp l s).getD 0), .bool (lkp l s).isSome]) := fun a w h => by
  obtain ⟨_, hh⟩ := h.ws.own.holds _ hb.mem
  obtain ⟨j, hj⟩ := find_mp s l 0 0
  have hf : Instr.findNow .string (.string s) (mpE l).toList 0 = some ((lkp l s).map fun n => (j, .int .i64 n)) := by rw [mpE]; exact hj
  have hc : ∀ e, (Instr.checkKey e 10000 kt (.string s)).run P w = .ok () w := fun e => MapKept.run_checkKey (k := .string s) hk.und (by simp [MapKept.IsKey]) e 9999
  simp only [execOp, h.agree.eval hx, h.agree.eval hy]
  simp only [Instr.lookup, Sem.run_bind, run_underlying ht.und, Result.andThen_ok, MapKept.run_getObj_map hh, Sem.run_pure, hc, MapKept.run_findKey hk.und hf]
  cases lkp l s <;> simp [he.zero_run]
/-- 'm[s] = n', where s is new -/
theorem Ef.mapPut {t kt et : TypeId} [ht : MapTy P t kt et] [hk : StrTy P kt] {x y z : Operand} {b : Nat} {l : List (ByteArray × Int)} {s : ByteArray} {n : Int}
    (hx : ev m x = some (.map (some b))) (hy : ev m y = some (.string s)) (hz : ev m z = some (.int .i64 n)) [hd : DelRaw L b (mapO l) L'] (hn : lkp l s = none) :
    Eff N c P ⟨d, .mapUpdate t x y z, ty, pos, aft, g⟩ m L F (fun _ : Unit => undef) (some b) (fun _ => .raw b (mapO (l ++ [(s, n)])) :: L') (fun _ => F) := fun a w hs K Q hK => by
  have hp := hs.ws.own.perm hd.perm
  obtain ⟨_, hh⟩ := hp.holds _ (List.mem_cons_self ..)
  obtain ⟨j, hj⟩ := find_mp s l 0 0
  have hf : Instr.findNow .string (.string s) (mpE l).toList 0 = some none := by rw [hn] at hj; rw [mpE]; exact hj
  have hc : (Instr.checkKey false 10000 kt (.string s)).run P w = .ok () w := MapKept.run_checkKey (k := .string s) hk.und (by simp [MapKept.IsKey]) false 9999
  have hr : (Instr.mapUpdate t (.map (some b)) (.string s) (.int .i64 n)).run P w = .ok () { w with heap := w.heap.setIfInBounds b (mapO (l ++ [(s, n)])) } := by
    simp only [Instr.mapUpdate, Sem.run_bind, run_underlying ht.und, Result.andThen_ok, MapKept.run_getObj_map hh, hc, MapKept.run_findKey hk.und hf, MapKept.run_setObj_map _ hh]
    rw [mapO, mpE_snoc]
    simp
  unfold Oper.wp
  simp only [execOp, hs.agree.eval hx, hs.agree.eval hy, hs.agree.eval hz, Sem.run_bind, hr, Result.andThen_ok, Sem.run_pure]
  exact hK () _ ⟨rfl, rfl, rfl, by simp, fun k _ hne => (MapKept.heap_set hh).2 k (fun e => hne (by rw [e]))⟩ (hs.ws.writeRaw hd _)

end
end Go.Sym
