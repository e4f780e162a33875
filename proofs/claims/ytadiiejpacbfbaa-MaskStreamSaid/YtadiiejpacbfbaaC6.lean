/- Proved here: rules of our own engine for walking a program, part 6: contracts of functions, calls, stores, results. -/
import Derived.Test.YtadiiejpacbfbaaC5
namespace Go.Sym
open Go Go.RowKit

/-! ## Calls -/

/-- what a call of function f does: it returns; what was there is as it was; what it hands over is owned -/
def FSpec (P : Program) (f : FuncId) (args : Array Value) (pre : List Fact) {X : Type} (val : X → Value) (own : X → List Itm) (post : X → List Fact) : Prop :=
  ∀ D w, (∀ k, D k → k < w.heap.size) → AllF pre D w →
    Calls P f args w fun e w' => ∃ x, e = .returned (val x) ∧ Below w.heap.size w w' ∧ Own w.heap.size (own x) w' ∧ AllF (post x) (dom D (own x)) w'

def evl (m : Ent) : List Operand → Option (List Value)
  | [] => some []
  | x :: xs => match ev m x, evl m xs with
    | some v, some vs => some (v :: vs)
    | _, _ => none

theorem evl_spec {N : Nat} {m : Ent} {a : Act} (h : Agree N m a) : ∀ {xs : List Operand} {vs : List Value}, evl m xs = some vs → xs.map a.eval = vs
  | [], vs, hx => by simp [evl] at hx; simp [hx]
  | x :: xs, vs, hx => by
    unfold evl at hx
    split at hx
    · rename_i v vs' h1 h2
      injection hx with hx
      subst hx
      rw [List.map_cons, h.eval h1, evl_spec h h2]
    · cases hx

/-- a block is added -/
theorem WSt.new {c : Ctx} {L : List Itm} {F : List Fact} {w : World} (h : WSt c L F w) (cs : Array Value) (e : TypeId) : WSt c (.box w.heap.size cs.toList :: L) F (w.alloc (.cells cs e)) := by
  refine h.step rfl rfl rfl (by simp) (fun k hk _ => Below.heap_alloc w _ k hk) ⟨?_, ?_⟩ ?_
  · intro it hit
    rcases List.mem_cons.1 hit with rfl | hit
    · exact ⟨h.below.size, e, by rw [Go.heap_alloc_new]⟩
    · exact Itm.holds_same (h.own.holds it hit) (fun k hk => Below.heap_alloc w _ k (Itm.holds_lt (h.own.holds it hit) hk).2)
  · refine List.pairwise_cons.2 ⟨fun y hy k hk hyk => ?_, h.own.disj⟩
    have := (Itm.holds_lt (h.own.holds y hy) hyk).2
    simp only [Itm.blk, Option.some.injEq] at hk
    omega
  · intro it hit k hk hlt
    rcases List.mem_cons.1 hit with rfl | hit
    · simp only [Itm.blk, Option.some.injEq] at hk
      omega
    · exact ⟨it, hit, hk⟩

/-- a block that nobody writes is added -/
theorem WSt.newF {c : Ctx} {L : List Itm} {F : List Fact} {w : World} (h : WSt c L F w) (cs : Array Value) (e : TypeId) : WSt c L (Fact.box w.heap.size cs.toList :: F) (w.alloc (.cells cs e)) := by
  have h1 := h.new cs e
  have h2 := h1.less (L' := L) (F' := F) ⟨[.box w.heap.size cs.toList], List.perm_append_comm (l₁ := [Itm.box w.heap.size cs.toList]) (l₂ := L)⟩ (Ents.refl F)
  refine ⟨h2.d0, h2.below, h2.own, AllF.cons ⟨?_, e, by rw [Go.heap_alloc_new]⟩ h2.facts⟩
  intro hD
  have := dom_lt h hD
  omega

/-- an own box is written -/
theorem WSt.write {c : Ctx} {L L' : List Itm} {F : List Fact} {w : World} (h : WSt c L F w) {b : Nat} {cs : List Value} (hd : DelBox L b cs L') (cs' : List Value) : WSt c (.box b cs' :: L') F (w.setRow b cs'.toArray) := by
  have hp := h.own.perm hd.perm
  obtain ⟨hb, e, he⟩ := hp.holds _ (List.mem_cons_self ..)
  have hap := (List.pairwise_cons.1 hp.disj).1
  refine h.step rfl rfl rfl (by simp) ?_ ⟨?_, ?_⟩ ?_
  · intro k hk hn
    refine setRow_other w b k _ (fun e => hn ⟨.box b cs, hd.perm.mem_iff.2 (List.mem_cons_self ..), by simp [Itm.blk, e]⟩)
  · intro it hit
    rcases List.mem_cons.1 hit with rfl | hit
    · exact ⟨hb, e, setRow_heap w b _ _ e (0, 0) he⟩
    · refine Itm.holds_same (hp.holds it (List.mem_cons_of_mem _ hit)) (fun k hk => setRow_other w b k _ (fun e => ?_))
      subst e
      exact hap it (by assumption) k rfl hk
  · exact List.pairwise_cons.2 ⟨fun y hy k hk hyk => hap y hy k hk hyk, (List.pairwise_cons.1 hp.disj).2⟩
  · intro it hit k hk _
    rcases List.mem_cons.1 hit with rfl | hit
    · exact ⟨.box b cs, hd.perm.mem_iff.2 (List.mem_cons_self ..), hk⟩
    · exact ⟨it, hd.perm.mem_iff.2 (List.mem_cons_of_mem _ hit), hk⟩

theorem grownBy_setRow (w : World) (g : Nat) (cs : Array Value) : w.grownBy (w.setRow g cs) (some g) :=
  ⟨rfl, rfl, rfl, by simp, fun k _ hne => setRow_other w g k cs (fun e => hne (by rw [e]))⟩

def putCells (cs : List Value) (o : Nat) (vs : List Value) : List Value := cs.take o ++ vs ++ cs.drop (o + vs.length)

section
variable {N : Nat} {c : Ctx} {P : Program} {m : Ent} {L L' : List Itm} {F : List Fact} {d : Option Tmp} {ty : TypeId} {pos : String} {aft : Array Edge} {g : Option (Nat × Bool)}

theorem Ef.alloc {t : TypeId} {agg : Bool} {sz bytes : Nat} {z : Value} [ht : Ty P t agg sz bytes z] :
    Eff N c P ⟨d, .alloc t, ty, pos, aft, g⟩ m L F (fun b : Nat => .pointer (some ⟨b, 0, none⟩)) none (fun b => .box b z.cells.toList :: L) (fun _ => F) := fun a w hs K Q hK => by
  unfold Oper.wp
  simp only [execOp, Instr.alloc, Sem.run_bind, ht.zero_run, Result.andThen_ok, newVar, newRow, run_newObj, Sem.run_pure]
  exact hK w.heap.size _ (World.grownBy_alloc w _ none) (hs.ws.new z.cells t)
theorem Ef.allocA {t : TypeId} {sz bytes : Nat} {z : List Value} [ht : Ty P t true sz bytes (.agg z.toArray)] :
    Eff N c P ⟨d, .alloc t, ty, pos, aft, g⟩ m L F (fun b : Nat => .pointer (some ⟨b, 0, none⟩)) none (fun b => .box b z :: L) (fun _ => F) := Ef.alloc (z := .agg z.toArray)

theorem Ef.box {t : TypeId} {x : Operand} {v : Value} (hx : ev m x = some v) :
    Eff N c P ⟨d, .box t x, ty, pos, aft, g⟩ m L F (fun b : Nat => .pointer (some ⟨b, 0, none⟩)) none (fun b => .box b v.cells.toList :: L) (fun _ => F) := fun a w hs K Q hK => by
  unfold Oper.wp
  simp only [execOp, Instr.box, hs.agree.eval hx, Sem.run_bind, Result.andThen_ok, newVar, newRow, run_newObj, Sem.run_pure]
  exact hK w.heap.size _ (World.grownBy_alloc w _ none) (hs.ws.new v.cells t)
theorem Ef.boxA {t : TypeId} {x : Operand} {l : List Value} (hx : ev m x = some (.agg l.toArray)) :
    Eff N c P ⟨d, .box t x, ty, pos, aft, g⟩ m L F (fun b : Nat => .pointer (some ⟨b, 0, none⟩)) none (fun b => .box b l :: L) (fun _ => F) := Ef.box hx

theorem Ef.store {t : TypeId} {agg : Bool} {sz bytes : Nat} {z : Value} [ht : Ty P t agg sz bytes z] {x y : Operand} {b o : Nat} {cs cs' : List Value} {v : Value} (hx : ev m x = some (.pointer (some ⟨b, o, none⟩))) (hy : ev m y = some v)
    [hd : DelBox L b cs L'] (h1 : ∀ u ∈ v.cells.toList, u.oneCell' = true) (hsz : v.cells.toList.length = sz) (hfit : o + sz ≤ cs.length) (hcs : putCells cs o v.cells.toList = cs') :
    Eff N c P ⟨d, .store t x y, ty, pos, aft, g⟩ m L F (fun _ : Unit => undef) (some b) (fun _ => .box b cs' :: L') (fun _ => F) := fun a w hs K Q hK => by
  unfold Oper.wp
  obtain ⟨hb, e, he⟩ := (hs.ws.own.perm hd.perm).holds _ (List.mem_cons_self ..)
  have hst := run_storeCells_at (P := P) b o e v.cells.toList 0 cs.toArray w he (by simpa [hsz] using hfit) h1
  have hsz' : v.cells.size = sz := by simpa using hsz
  simp only [execOp, Instr.storeAt, hs.agree.eval hx, hs.agree.eval hy, Instr.sureAddr, Sem.run_bind, Sem.run_pure, Result.andThen_ok, storeVar, ht.sizeOf_run, hsz', ne_eq, not_true_eq_false, if_false, hst]
  subst hcs
  exact hK () _ (grownBy_setRow w b _) (hs.ws.write hd _)

theorem Value.cells_one {v : Value} (h : v.oneCell' = true) : v.cells = #[v] := by
  cases v <;> first | rfl | simp [Value.oneCell'] at h

class SetAt (cs : List Value) (o : Nat) (v : Value) (cs' : outParam (List Value)) : Prop where
  eq : putCells cs o [v] = cs'
instance SetAt.zero (x v : Value) (cs : List Value) : SetAt (x :: cs) 0 v (v :: cs) := ⟨by simp [putCells]⟩
instance SetAt.succ (x v : Value) (cs cs' : List Value) (o : Nat) [h : SetAt cs o v cs'] : SetAt (x :: cs) (o + 1) v (x :: cs') := ⟨by
  have := h.eq
  simp only [putCells, List.length_cons, List.length_nil] at this ⊢
  rw [← this]
  simp⟩

/-- one cell of a box is written -/
theorem Ef.store1 {t : TypeId} {bytes : Nat} {z : Value} [ht : Ty P t false 1 bytes z] {x y : Operand} {b o : Nat} {cs cs' : List Value} {v : Value} (hx : ev m x = some (.pointer (some ⟨b, o, none⟩))) (hy : ev m y = some v)
    [hd : DelBox L b cs L'] (h1 : v.oneCell' = true) (hfit : Nat.blt o cs.length = true) [hcs : SetAt cs o v cs'] :
    Eff N c P ⟨d, .store t x y, ty, pos, aft, g⟩ m L F (fun _ : Unit => undef) (some b) (fun _ => .box b cs' :: L') (fun _ => F) := by
  have hc := Value.cells_one h1
  have hlt : o < cs.length := by simpa using hfit
  exact Ef.store hx hy (by rw [hc]; intro u hu; simp at hu; subst hu; exact h1) (by rw [hc]; rfl) (by omega) (by rw [hc]; exact hcs.eq)

/-- a whole box is written -/
theorem Ef.storeW {t : TypeId} {sz bytes : Nat} {z : Value} [ht : Ty P t true sz bytes z] {x y : Operand} {b : Nat} {cs l : List Value} (hx : ev m x = some (.pointer (some ⟨b, 0, none⟩))) (hy : ev m y = some (.agg l.toArray))
    [hd : DelBox L b cs L'] (h1 : l.all Value.oneCell' = true) (hsz : Nat.beq l.length sz = true) (hfit : Nat.beq cs.length sz = true) :
    Eff N c P ⟨d, .store t x y, ty, pos, aft, g⟩ m L F (fun _ : Unit => undef) (some b) (fun _ => .box b l :: L') (fun _ => F) := by
  have e1 : l.length = sz := Nat.eq_of_beq_eq_true hsz
  have e2 : cs.length = sz := Nat.eq_of_beq_eq_true hfit
  refine Ef.store hx hy (fun u hu => List.all_eq_true.1 h1 u (by simpa [Value.cells] using hu)) (by simpa [Value.cells] using e1) (by omega) ?_
  have : (Value.agg l.toArray).cells.toList = l := rfl
  rw [this, putCells, List.take_zero, List.nil_append, List.drop_eq_nil_of_le (by omega), List.append_nil]

theorem Ef.call {args : List Operand} {vs : List Value} {ats : Array TypeId} {f : FuncId} [hf : FnTy P f] {pre : List Fact} {X : Type} {val : X → Value} {own : X → List Itm} {post : X → List Fact} (hx : evl m args = some vs)
    (hS : FSpec P f vs.toArray pre val own post) (hpre : Ents F pre) :
    Eff N c P ⟨d, .call { callee := .value (.func f), args := args.toArray, argTypes := ats }, ty, pos, aft, g⟩ m L F val none (fun x => own x ++ L) (fun x => post x ++ F) := fun a w hs K Q hK => by
  unfold Oper.wp
  have he : (#[] ++ args.toArray.map a.eval ++ #[] : Array Value) = vs.toArray := by
    rw [← evl_spec hs.agree hx]; simp
  rw [execOp_call_go, he, hf.run]
  refine (hS (dom c.D0 L) w (fun k hk => dom_lt hs.ws hk) (hpre _ _ hs.ws.facts)).mono ?_
  rintro e w' ⟨x, rfl, hbel, hown, hpost⟩
  refine hK x w' ⟨hbel.os, hbel.tape, hbel.output, hbel.size, fun k hk _ => hbel.block k hk⟩ ?_
  have hw : WSt c (own x ++ L) F w' := by
    refine hs.ws.step hbel.os hbel.tape hbel.output hbel.size (fun k hk _ => hbel.block k hk) ⟨?_, ?_⟩ ?_
    · intro it hit
      rcases List.mem_append.1 hit with hit | hit
      · exact Itm.holds_mono (hown.holds it hit) hs.ws.below.size
      · exact Itm.holds_same (hs.ws.own.holds it hit) (fun k hk => hbel.block k (Itm.holds_lt (hs.ws.own.holds it hit) hk).2)
    · refine List.pairwise_append.2 ⟨hown.disj, hs.ws.own.disj, fun x hx y hy k hk hyk => ?_⟩
      have h1 := (Itm.holds_lt (hown.holds x hx) hk).1
      have h2 := (Itm.holds_lt (hs.ws.own.holds y hy) hyk).2
      omega
    · intro it hit k hk hlt
      rcases List.mem_append.1 hit with hit | hit
      · have := (Itm.holds_lt (hown.holds it hit) hk).1
        omega
      · exact ⟨it, hit, hk⟩
  refine ⟨hw.d0, hw.below, hw.own, AllF.append ?_ hw.facts⟩
  refine hpost.mono (Nxt.less ?_)
  rintro k (h0 | ⟨it, hit, hb⟩)
  · exact .inl (.inl h0)
  · rcases List.mem_append.1 hit with hit | hit
    · exact .inr ⟨it, hit, hb⟩
    · exact .inl (.inr ⟨it, hit, hb⟩)

/-! ## A function's body -/

def argEnt : Nat → List Value → Ent
  | _, [] => []
  | i, v :: vs => (i, v) :: argEnt (i + 1) vs

theorem argEnt_get : ∀ (vs : List Value) (i t : Nat) (v : Value), get (argEnt i vs) t = some v → i ≤ t ∧ vs[t - i]? = some v
  | [], i, t, v, h => by simp [argEnt, get] at h
  | u :: vs, i, t, v, h => by
    unfold argEnt at h
    by_cases hit : i = t
    · subst hit
      rw [get_cons_same] at h
      exact ⟨Nat.le_refl _, by simpa using h⟩
    · rw [get_cons_ne _ _ hit] at h
      obtain ⟨h1, h2⟩ := argEnt_get vs (i + 1) t v h
      refine ⟨by omega, ?_⟩
      have : t - i = (t - (i + 1)) + 1 := by omega
      rw [this, List.getElem?_cons_succ]
      exact h2

def Ret (P : Program) (fn : Func) (c : Ctx) {X : Type} (val : X → Value) (own : X → List Itm) (post : X → List Fact) : Exit → Act → World → Prop :=
  bodyPost P fn fun e w' => ∃ x, e = .returned (val x) ∧ Below c.w0.heap.size c.w0 w' ∧ Own c.w0.heap.size (own x) w' ∧ AllF (post x) (dom c.D0 (own x)) w'

theorem FSpec.intro {f : FuncId} {fn : Func} {body : Code} {N : Nat} {vs : List Value} {pre : List Fact} {X : Type} {val : X → Value} {own : X → List Itm} {post : X → List Fact}
    (hf : P.funcs[f]? = some fn) (hb : fn.body = some body) (hN : fn.ntmps = N) (hle : Nat.ble vs.length N = true)
    (h : ∀ c, SP N c (body.wp P (Ret P fn c val own post)) (argEnt 0 vs) [] pre) : FSpec P f vs.toArray pre val own post := by
  intro D w hD hpre
  refine calls_of_wp hf hb (h ⟨D, w⟩ _ w ⟨⟨rfl, ?_, ?_⟩, ⟨hD, Below.refl _ _, ⟨(fun _ hit => by cases hit), List.Pairwise.nil⟩, ?_⟩⟩)
  · have : vs.length ≤ N := Nat.le_of_ble_eq_true hle
    simp [hN]; omega
  · intro t v ht
    obtain ⟨_, h2⟩ := argEnt_get vs 0 t v ht
    rw [Nat.sub_zero] at h2
    have hlt := (List.getElem?_eq_some_iff.1 h2).1
    rw [Array.getD_eq_getD_getElem?, Array.getElem?_append_left (by simpa using hlt), List.getElem?_toArray, h2]
    rfl
  · refine hpre.mono (Nxt.less ?_)
    rintro k (h0 | ⟨it, hit, _⟩)
    · exact h0
    · cases hit

/-- one result, in a slot -/
theorem Ret.one {fn : Func} {X : Type} {val : X → Value} {own : X → List Itm} {post : X → List Fact} {t : Tmp} {v : Value} (x : X) (hr : fn.results = #[.tmp t]) (ht : get m t = some v) (hv : v = val x) (hL : SubL (own x) L) (hF : Ents F (post x)) :
    SP N c (Ret P fn c val own post .ret) m L F := fun a w hs => by
  refine ⟨hs.agree.defers, v, ?_, x, by rw [hv], hs.ws.below, (hs.ws.less hL hF).own, (hs.ws.less hL hF).facts⟩
  rw [results_tmp hr, hs.agree.val t v ht]

theorem Ret.two {fn : Func} {X : Type} {val : X → Value} {own : X → List Itm} {post : X → List Fact} {t u : Tmp} {v v' : Value} (x : X) (hr : fn.results = #[.tmp t, .tmp u]) (ht : get m t = some v) (hu : get m u = some v') (hv : .tuple #[v, v'] = val x) (hL : SubL (own x) L) (hF : Ents F (post x)) :
    SP N c (Ret P fn c val own post .ret) m L F := fun a w hs => by
  refine ⟨hs.agree.defers, _, ?_, x, by rw [← hv], hs.ws.below, (hs.ws.less hL hF).own, (hs.ws.less hL hF).facts⟩
  rw [results_tmp2 hr, hs.agree.val t v ht, hs.agree.val u v' hu]

theorem Ret.three {fn : Func} {X : Type} {val : X → Value} {own : X → List Itm} {post : X → List Fact} {t u s : Tmp} {v v' v'' : Value} (x : X) (hr : fn.results = #[.tmp t, .tmp u, .tmp s]) (ht : get m t = some v) (hu : get m u = some v') (hsv : get m s = some v'') (hv : .tuple #[v, v', v''] = val x) (hL : SubL (own x) L) (hF : Ents F (post x)) :
    SP N c (Ret P fn c val own post .ret) m L F := fun a w hs => by
  refine ⟨hs.agree.defers, _, ?_, x, by rw [← hv], hs.ws.below, (hs.ws.less hL hF).own, (hs.ws.less hL hF).facts⟩
  have e1 := hs.agree.val t v ht
  have e2 := hs.agree.val u v' hu
  have e3 := hs.agree.val s v'' hsv
  simp only [Array.getD_eq_getD_getElem?] at e1 e2 e3
  simp [results, hr, e1, e2, e3]

/-- a struct result lies in a box -/
theorem box_result {t : TypeId} {sz bytes : Nat} {z : Value} (ht : Ty P t true sz bytes z) {w : World} {F : List Fact} (h : WSt c L F w) {b : Nat} {cs : List Value} (hb : HasBox L b cs) (hl : cs.length = sz) :
    (loadVar t ⟨b, 0, none⟩).run P w = .ok (.agg cs.toArray) w :=
  loadVar_agg ht hl (fun j v hj => by rw [addr_add_lit, Nat.zero_add, h.boxCell hb j]; exact hj)

theorem Ret.cell {fn : Func} {X : Type} {val : X → Value} {own : X → List Itm} {post : X → List Fact} {t : Tmp} {rt : TypeId} {sz bytes : Nat} {z : Value} [hty : Ty P rt true sz bytes z] {b : Nat} {cs : List Value} (x : X) (hr : fn.results = #[.cell t rt]) (ht : get m t = some (.pointer (some ⟨b, 0, none⟩)))
    [hb : HasBox L b cs] (hl : cs.length = sz) (hv : .agg cs.toArray = val x) (hL : SubL (own x) L) (hF : Ents F (post x)) :
    SP N c (Ret P fn c val own post .ret) m L F := fun a w hs => by
  refine ⟨hs.agree.defers, _, ?_, x, by rw [← hv], hs.ws.below, (hs.ws.less hL hF).own, (hs.ws.less hL hF).facts⟩
  have e1 := hs.agree.val t _ ht
  simp only [Array.getD_eq_getD_getElem?] at e1
  simp [results, hr, e1, asAddr, box_result hty hs.ws hb hl]

theorem Ret.cell2 {fn : Func} {X : Type} {val : X → Value} {own : X → List Itm} {post : X → List Fact} {t u : Tmp} {v : Value} {rt : TypeId} {sz bytes : Nat} {z : Value} [hty : Ty P rt true sz bytes z] {b : Nat} {cs : List Value} (x : X) (hr : fn.results = #[.cell t rt, .tmp u]) (ht : get m t = some (.pointer (some ⟨b, 0, none⟩)))
    (hu : get m u = some v) [hb : HasBox L b cs] (hl : cs.length = sz) (hv : .tuple #[.agg cs.toArray, v] = val x) (hL : SubL (own x) L) (hF : Ents F (post x)) :
    SP N c (Ret P fn c val own post .ret) m L F := fun a w hs => by
  refine ⟨hs.agree.defers, _, ?_, x, by rw [← hv], hs.ws.below, (hs.ws.less hL hF).own, (hs.ws.less hL hF).facts⟩
  have e1 := hs.agree.val t _ ht
  have e2 := hs.agree.val u _ hu
  simp only [Array.getD_eq_getD_getElem?] at e1 e2
  simp [results, hr, e1, e2, asAddr, box_result hty hs.ws hb hl]

theorem Ret.cell3 {fn : Func} {X : Type} {val : X → Value} {own : X → List Itm} {post : X → List Fact} {t u s : Tmp} {v v' : Value} {rt : TypeId} {sz bytes : Nat} {z : Value} [hty : Ty P rt true sz bytes z] {b : Nat} {cs : List Value} (x : X) (hr : fn.results = #[.cell t rt, .tmp u, .tmp s]) (ht : get m t = some (.pointer (some ⟨b, 0, none⟩)))
    (hu : get m u = some v) (hsv : get m s = some v') [hb : HasBox L b cs] (hl : cs.length = sz) (hv : .tuple #[.agg cs.toArray, v, v'] = val x) (hL : SubL (own x) L) (hF : Ents F (post x)) :
    SP N c (Ret P fn c val own post .ret) m L F := fun a w hs => by
  refine ⟨hs.agree.defers, _, ?_, x, by rw [← hv], hs.ws.below, (hs.ws.less hL hF).own, (hs.ws.less hL hF).facts⟩
  have e1 := hs.agree.val t _ ht
  have e2 := hs.agree.val u _ hu
  have e3 := hs.agree.val s _ hsv
  simp only [Array.getD_eq_getD_getElem?] at e1 e2 e3
  simp [results, hr, e1, e2, e3, asAddr, box_result hty hs.ws hb hl]

theorem Ret.none {fn : Func} {X : Type} {val : X → Value} {own : X → List Itm} {post : X → List Fact} {e : Exit} (he : e = .ret ∨ e = .normal) (x : X) (hr : fn.results = #[]) (hv : .tuple #[] = val x) (hL : SubL (own x) L) (hF : Ents F (post x)) :
    SP N c (Ret P fn c val own post e) m L F := fun a w hs => by
  have : bodyPost P fn (fun e w' => ∃ x, e = .returned (val x) ∧ Below c.w0.heap.size c.w0 w' ∧ Own c.w0.heap.size (own x) w' ∧ AllF (post x) (dom c.D0 (own x)) w') .ret a w := by
    refine ⟨hs.agree.defers, _, ?_, x, by rw [← hv], hs.ws.below, (hs.ws.less hL hF).own, (hs.ws.less hL hF).facts⟩
    exact results_none hr _ _ _
  rcases he with rfl | rfl <;> exact this
end
end Go.Sym
