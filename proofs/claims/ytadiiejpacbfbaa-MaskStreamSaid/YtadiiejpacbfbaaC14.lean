/- Proved here: rules of our own engine for walking a program, part 14: closures, own rows read and written element by element. -/
import Derived.Test.YtadiiejpacbfbaaC13
namespace Go.Sym
open Go Go.RowKit

/-- a coding of fixed length, each cell one cell -/
class EncOk {α : Type} (enc : α → List Value) (sz : outParam Nat) : Prop where
  len : ∀ x, (enc x).length = sz
  one : ∀ x, ∀ u ∈ enc x, u.oneCell' = true
theorem EncOk.all {α : Type} {enc : α → List Value} {sz : Nat} (h : EncOk enc sz) (l : List α) : ∀ x ∈ l, (enc x).length = sz ∧ ∀ u ∈ enc x, u.oneCell' = true := fun x _ => ⟨h.len x, h.one x⟩
instance : EncOk encI 1 := ⟨fun _ => rfl, fun n u hu => (encI_ok [n] n (by simp)).2 u hu⟩
instance : EncOk encB 1 := ⟨fun _ => rfl, fun n u hu => (encB_ok [n] n (by simp)).2 u hu⟩
instance : EncOk encS 1 := ⟨fun _ => rfl, fun n u hu => (encS_ok [n] n (by simp)).2 u hu⟩

theorem putCells_len (cs : List Value) (o : Nat) (vs : List Value) (h : o + vs.length ≤ cs.length) : (putCells cs o vs).length = cs.length := by
  simp only [putCells, List.length_append, List.length_take, List.length_drop]; omega
theorem putCells_app (a b c : List Value) (o : Nat) (vs : List Value) (h : o + vs.length ≤ b.length) : putCells (a ++ b ++ c) (a.length + o) vs = a ++ putCells b o vs ++ c := by
  have h0 : a ++ b ++ c = a ++ (b ++ c) := List.append_assoc ..
  rw [h0]
  unfold putCells
  rw [List.take_append, List.take_of_length_le (by omega), List.drop_append, List.drop_eq_nil_of_le (by omega)]
  rw [show a.length + o - a.length = o from by omega, show a.length + o + vs.length - a.length = o + vs.length from by omega, List.take_append_of_le_length (by omega), List.drop_append_of_le_length (by omega)]
  simp
theorem putCells_take (cs : List Value) (o n : Nat) (vs : List Value) (h : o + vs.length ≤ n) (hn : n ≤ cs.length) : (putCells cs o vs).take n = putCells (cs.take n) o vs := by
  have e := putCells_app [] (cs.take n) (cs.drop n) o vs (by simp; omega)
  simp only [List.nil_append, List.length_nil, Nat.zero_add, List.take_append_drop] at e
  rw [e, List.take_append_of_le_length (by rw [putCells_len _ _ _ (by simp; omega)]; simp; omega), List.take_of_length_le (by rw [putCells_len _ _ _ (by simp; omega)]; simp; omega)]
theorem flat_put {α : Type} {enc : α → List Value} {sz : Nat} (hl : ∀ x, (enc x).length = sz) {l : List α} {k : Nat} {u u' : α} (hu : l[k]? = some u) (o : Nat) (vs : List Value) (ho : o + vs.length ≤ sz) (he : putCells (enc u) o vs = enc u') :
    putCells (l.flatMap enc) (k * sz + o) vs = (l.set k u').flatMap enc := by
  have hlt := (List.getElem?_eq_some_iff.1 hu).1
  have hlu : l[k] = u := (List.getElem?_eq_some_iff.1 hu).2
  have e1 : l.flatMap enc = (l.take k).flatMap enc ++ enc u ++ (l.drop (k + 1)).flatMap enc := by
    conv => lhs; rw [← List.take_append_drop k l, List.drop_eq_getElem_cons hlt, hlu]
    simp [List.flatMap_append, List.flatMap_cons]
  have e2 : l.set k u' = l.take k ++ u' :: l.drop (k + 1) := List.set_eq_take_append_cons_drop .. |>.trans (by rw [if_pos hlt])
  have e3 : ((l.take k).flatMap enc).length = k * sz := by rw [flatMap_length (fun x _ => hl x), List.length_take, Nat.min_eq_left (by omega)]
  rw [e1, e2, ← e3, putCells_app _ _ _ _ _ (by rw [hl]; exact ho), he]
  simp [List.flatMap_append, List.flatMap_cons]

section
variable {N : Nat} {c : Ctx} {P : Program} {m : Ent} {L L' : List Itm} {F : List Fact} {d : Option Tmp} {ty : TypeId} {pos : String} {aft : Array Edge} {g : Option (Nat × Bool)}

/-! ### closures -/
theorem Y.func {fn : Fn} {first caps : List Operand} {fs cs : List Value} (h1 : evl m first = some fs) (h2 : evl m caps = some cs) : Yld N c P ⟨d, .makeFunc fn first.toArray caps.toArray, ty, pos, aft, g⟩ m L F (.func fn fs.toArray cs.toArray) := fun a w h => by
  have e1 : first.toArray.map a.eval = fs.toArray := by rw [← evl_spec h.agree h1]; simp
  have e2 : caps.toArray.map a.eval = cs.toArray := by rw [← evl_spec h.agree h2]; simp
  simp [execOp, Instr.makeFunc, e1, e2]

theorem Ef.callV {x : Operand} {args : List Operand} {vs fs cs : List Value} {ats : Array TypeId} {f : FuncId} [hf : FnTy P f] {pre : List Fact} {X : Type} {val : X → Value} {own : X → List Itm} {post : X → List Fact} (hv : ev m x = some (.func (.func f) fs.toArray cs.toArray)) (hx : evl m args = some vs)
    (hS : FSpec P f (fs ++ vs ++ cs).toArray pre val own post) (hpre : Ents F pre) :
    Eff N c P ⟨d, .call { callee := .value x, args := args.toArray, argTypes := ats }, ty, pos, aft, g⟩ m L F val none (fun x => own x ++ L) (fun x => post x ++ F) := fun a w hs K Q hK => by
  unfold Oper.wp
  have he : args.toArray.map a.eval = vs.toArray := by
    rw [← evl_spec hs.agree hx]; simp
  have h0 : (execOp a.eval ⟨d, .call { callee := .value x, args := args.toArray, argTypes := ats }, ty, pos, aft, g⟩ : Sem Next) = callFunc f (fs ++ vs ++ cs).toArray := by
    simp only [execOp, resolve, hs.agree.eval hv, Deferred.ofValue, he]
    simp [invoke]
  rw [h0, hf.run]
  refine (hS (dom c.D0 L) w (fun k hk => dom_lt hs.ws hk) (hpre _ _ hs.ws.facts)).mono ?_
  rintro e w' ⟨x, rfl, hbel, hown, hpost⟩
  refine hK x w' ⟨hbel.os, hbel.tape, hbel.output, hbel.size, fun k hk _ => hbel.block k hk⟩ ?_
  have hw : WSt c (own x ++ L) F w' := by
    refine hs.ws.step hbel.os hbel.tape hbel.output hbel.size (fun k hk _ => hbel.block k hk) ⟨?_, ?_⟩ ?_
    · intro it hit
      rcases List.mem_append.1 hit with hit | hit
      · exact Itm.holds_mono (hown.holds it hit) hs.ws.below.size
      · exact Itm.holds_same (hs.ws.own.holds it hit) (fun k hk => hbel.block k (Itm.holds_lt (hs.ws.own.holds it hit) hk).2)
    · refine List.pairwise_append.2 ⟨hown.disj, hs.ws.own.disj, fun x hx y hy k hk hyk => ?_⟩
      have h1 := (Itm.holds_lt (hown.holds x hx) hk).1
      have h2 := (Itm.holds_lt (hs.ws.own.holds y hy) hyk).2
      omega
    · intro it hit k hk hlt
      rcases List.mem_append.1 hit with hit | hit
      · have := (Itm.holds_lt (hown.holds it hit) hk).1
        omega
      · exact ⟨it, hit, hk⟩
  refine ⟨hw.d0, hw.below, hw.own, AllF.append ?_ hw.facts⟩
  refine hpost.mono (Nxt.less ?_)
  rintro k (h0 | ⟨it, hit, hb⟩)
  · exact .inl (.inl h0)
  · rcases List.mem_append.1 hit with hit | hit
    · exact .inr ⟨it, hit, hb⟩
    · exact .inl (.inr ⟨it, hit, hb⟩)

/-! ### own rows -/
theorem Y.fieldR {x : Operand} {v : Value} {sz k o : Nat} {s : TypeId} {i off : Nat} [hf : FieldTy P s i off] {e sz' n : Nat} {xs : List Value} (hx : ev m x = some (eptr v sz k o)) [hL : HasRow L v e sz' n xs] (hk : k < n) :
    Yld N c P ⟨d, .fieldAddr s x i, ty, pos, aft, g⟩ m L F (eptr v sz k (o + off)) := fun a w h => by
  obtain ⟨ao, cap, hv, hc⟩ := row_shape (h.ws.own.holds _ hL.mem)
  obtain ⟨b, rfl, _⟩ := hc (by omega)
  have hx' := h.agree.eval hx
  rw [hv] at hx' ⊢
  simp only [eptr] at hx' ⊢
  simp [execOp, hx', hf.run, Addr.add_add, Nat.add_assoc]
theorem Y.fieldR0 {x : Operand} {v : Value} {sz k : Nat} {s : TypeId} {i off : Nat} [hf : FieldTy P s i off] {e sz' n : Nat} {xs : List Value} (hx : ev m x = some (eptr v sz k 0)) [hL : HasRow L v e sz' n xs] (hk : k < n) :
    Yld N c P ⟨d, .fieldAddr s x i, ty, pos, aft, g⟩ m L F (eptr v sz k off) := fun a w h => by
  have := Y.fieldR (P := P) (s := s) (i := i) (d := d) (ty := ty) (pos := pos) (aft := aft) (g := g) hx hk a w h
  rwa [Nat.zero_add] at this
/-- a cell of an element -/
theorem Y.ldRE {x : Operand} {v : Value} {k o sz : Nat} {t e : TypeId} {sz' bytes n : Nat} {z : Value} [ht : Ty P t false sz' bytes z] {xs : List Value} {α : Type} {enc : α → List Value} {l : List α} {u : α} {r : Value} (hx : ev m x = some (eptr v sz k o)) [hL : HasRow L v e sz n xs]
    (hxs : xs = l.flatMap enc) [hE : EncOk enc sz] (hu : l[k]? = some u) (hr : (enc u)[o]? = some r) :
    Yld N c P ⟨d, .load t x, ty, pos, aft, g⟩ m L F r := fun a w h => by
  have hown := h.ws.own.holds _ hL.mem
  have hl : xs.length = n * sz := hown.1
  have hlt := (List.getElem?_eq_some_iff.1 hu).1
  have ho : o < sz := by rw [← hE.len u]; exact (List.getElem?_eq_some_iff.1 hr).1
  have hxl : xs.length = l.length * sz := by rw [hxs, flatMap_length (fun x _ => hE.len x)]
  have hn : l.length = n := Nat.eq_of_mul_eq_mul_right (by omega) (hxl.symm.trans hl)
  exact Y.ldR1 (d := d) (ty := ty) (pos := pos) (aft := aft) (g := g) hx (by omega) (by rw [hxs, flatMap_get (fun x _ => hE.len x) hu o ho]; exact hr) a w h
/-- a whole element -/
theorem Y.ldRWE {x : Operand} {v : Value} {k sz : Nat} {t e : TypeId} {bytes n : Nat} {z : Value} [ht : Ty P t true sz bytes z] {xs : List Value} {α : Type} {enc : α → List Value} {l : List α} {u : α} (hx : ev m x = some (eptr v sz k 0)) [hL : HasRow L v e sz n xs]
    (hxs : xs = l.flatMap enc) [hE : EncOk enc sz] (hu : l[k]? = some u) (hz : Nat.blt 0 sz = true) :
    Yld N c P ⟨d, .load t x, ty, pos, aft, g⟩ m L F (.agg (enc u).toArray) := fun a w h => by
  obtain ⟨ao, cap, hv, hc⟩ := row_shape (h.ws.own.holds _ hL.mem)
  have hown := h.ws.own.holds _ hL.mem
  have hlt := (List.getElem?_eq_some_iff.1 hu).1
  have hxl : xs.length = l.length * sz := by rw [hxs, flatMap_length (fun x _ => hE.len x)]
  have hl : xs.length = n * sz := hown.1
  have hsz : 0 < sz := by simpa using hz
  have hn : l.length = n := Nat.eq_of_mul_eq_mul_right hsz (hxl.symm.trans hl)
  obtain ⟨b, rfl, hcell⟩ := hc (by omega)
  rw [hv] at hx
  simp only [eptr, addr_add_lit, Nat.zero_add, Nat.add_zero] at hx
  have := loadVar_agg (w := w) ht (a := ⟨b, k * sz, none⟩) (hE.len u) (fun j v hj => by
    rw [addr_add_lit]
    refine hcell _ _ ?_
    rw [hxs, flatMap_get (fun x _ => hE.len x) hu j (by rw [← hE.len u]; exact (List.getElem?_eq_some_iff.1 hj).1)]
    exact hj)
  simp [execOp, h.agree.eval hx, Instr.loadAt, Instr.sureAddr, this]

/-- cells of an own row are written -/
theorem Ef.putR {t e : TypeId} {agg : Bool} {sz' bytes n sz : Nat} {z : Value} [ht : Ty P t agg sz' bytes z] {x y : Operand} {v : Value} {k o : Nat} {xs : List Value} {val : Value} (hx : ev m x = some (eptr v sz k o)) (hy : ev m y = some val)
    [hd : DelRow L v e sz n xs L'] (h1 : ∀ base D w, Own base L w → AllF F D w → ∀ u ∈ val.cells.toList, u.oneCell' = true) (hsz : val.cells.toList.length = sz') (hfit : k * sz + o + sz' ≤ n * sz) (hpos : 0 < n) :
    Eff N c P ⟨d, .store t x y, ty, pos, aft, g⟩ m L F (fun _ : Unit => undef) v.ownBlock (fun _ => .row e sz v n (putCells xs (k * sz + o) val.cells.toList) :: L') (fun _ => F) := fun a w hs K Q hK => by
  have hp := hs.ws.own.perm hd.perm
  have hown : w.ownsRow c.w0.heap.size e sz v n xs := hp.holds _ (List.mem_cons_self ..)
  have hone := h1 _ _ _ hs.ws.own hs.ws.facts
  rcases hown.2 with ⟨rfl, h0⟩ | ⟨gg, cap, cur, rfl, hbg, hg, hnc, hcm, hcs, htake⟩
  · omega
  have hcap : n * sz ≤ cap * sz := Nat.mul_le_mul_right _ hnc
  have hcl : cur.toList.length = cap * sz := by simpa using hcs
  have hst := run_storeCells_at (P := P) gg (k * sz + o) e val.cells.toList 0 cur w hg (by simp only [hsz]; rw [hcs]; omega) hone
  have hsz' : val.cells.size = sz' := by simpa using hsz
  simp only [eptr, addr_add_lit, Nat.zero_add] at hx
  unfold Oper.wp
  simp only [execOp, Instr.storeAt, hs.agree.eval hx, hs.agree.eval hy, Instr.sureAddr, Sem.run_bind, Sem.run_pure, Result.andThen_ok, storeVar, ht.sizeOf_run, hsz', ne_eq, not_true_eq_false, if_false, hst]
  have hg2 := grownBy_setRow w gg (putCells cur.toList (k * sz + o) val.cells.toList).toArray
  refine hK () _ hg2 (hs.ws.row hd ⟨?_, .inr ⟨gg, cap, (putCells cur.toList (k * sz + o) val.cells.toList).toArray, rfl, hbg, setRow_heap w gg _ _ e (0, 0) hg, hnc, hcm, ?_, ?_⟩⟩ hg2 (fun b hb => .inl hb))
  · rw [putCells_len _ _ _ (by rw [hown.1, hsz]; exact hfit)]; exact hown.1
  · simp only [List.size_toArray]; rw [putCells_len _ _ _ (by rw [hcl, hsz]; omega)]; exact hcl
  · show (putCells cur.toList (k * sz + o) val.cells.toList).take (n * sz) = _
    rw [putCells_take _ _ _ _ (by rw [hsz]; exact hfit) (by rw [hcl]; exact hcap), htake]

/-- a cell of an element -/
theorem Ef.putRE {t e : TypeId} {bytes n sz : Nat} {z : Value} [ht : Ty P t false 1 bytes z] {x y : Operand} {v : Value} {k o : Nat} {xs : List Value} {val : Value} {α : Type} {enc : α → List Value} {l : List α} {u : α} (u' : α) (hx : ev m x = some (eptr v sz k o)) (hy : ev m y = some val)
    [hd : DelRow L v e sz n xs L'] [h1 : One L F val] (hxs : xs = l.flatMap enc) [hE : EncOk enc sz] (hn : l.length = n) (hu : l[k]? = some u) (ho : Nat.blt o sz = true) (he : putCells (enc u) o [val] = enc u') :
    Eff N c P ⟨d, .store t x y, ty, pos, aft, g⟩ m L F (fun _ : Unit => undef) v.ownBlock (fun _ => .row e sz v n ((l.set k u').flatMap enc) :: L') (fun _ => F) := fun a w hs K Q hK => by
  have hlt := (List.getElem?_eq_some_iff.1 hu).1
  have ho' : o < sz := by simpa using ho
  have hv := h1.one _ _ _ hs.ws.own hs.ws.facts
  have hc := Value.cells1 hv
  have hfit : k * sz + o + 1 ≤ n * sz := by
    have : (k + 1) * sz ≤ n * sz := Nat.mul_le_mul_right _ (by omega)
    rw [Nat.add_mul] at this
    omega
  have key := Ef.putR (P := P) (t := t) (d := d) (ty := ty) (pos := pos) (aft := aft) (g := g) (sz' := 1) hx hy (hd := hd) (fun base D w hO hF u hu => by rw [hc] at hu; simp at hu; subst hu; exact hv) (by rw [hc]; rfl) hfit (by omega) a w hs K Q
  rw [hc, hxs, flat_put hE.len hu o [val] (by simp only [List.length_cons, List.length_nil]; omega) he] at key
  exact key hK
/-- a whole element -/
theorem Ef.putRWE {t e : TypeId} {bytes n sz : Nat} {z : Value} [ht : Ty P t true sz bytes z] {x y : Operand} {v : Value} {k : Nat} {xs : List Value} {cs : List Value} {α : Type} {enc : α → List Value} {l : List α} (u' : α) (hx : ev m x = some (eptr v sz k 0)) (hy : ev m y = some (.agg cs.toArray))
    [hd : DelRow L v e sz n xs L'] (hxs : xs = l.flatMap enc) [hE : EncOk enc sz] (hn : l.length = n) (hk : k < n) (he : cs = enc u') :
    Eff N c P ⟨d, .store t x y, ty, pos, aft, g⟩ m L F (fun _ : Unit => undef) v.ownBlock (fun _ => .row e sz v n ((l.set k u').flatMap enc) :: L') (fun _ => F) := fun a w hs K Q hK => by
  subst he
  have hu : l[k]? = some l[k] := List.getElem?_eq_getElem (by omega)
  have hc : (Value.agg (enc u').toArray).cells.toList = enc u' := rfl
  have hfit : k * sz + 0 + sz ≤ n * sz := by
    have : (k + 1) * sz ≤ n * sz := Nat.mul_le_mul_right _ (by omega)
    rw [Nat.add_mul] at this
    omega
  have key := Ef.putR (P := P) (t := t) (d := d) (ty := ty) (pos := pos) (aft := aft) (g := g) (sz' := sz) hx hy (hd := hd) (fun base D w _ _ u hu => by rw [hc] at hu; exact hE.one u' u hu) (by rw [hc]; exact hE.len u') hfit (by omega) a w hs K Q
  rw [hc, hxs, flat_put hE.len hu 0 (enc u') (by rw [hE.len]; omega) (by rw [putCells, List.take_zero, List.nil_append, List.drop_eq_nil_of_le (by rw [hE.len, hE.len]; omega), List.append_nil])] at key
  exact key hK
end
end Go.Sym
