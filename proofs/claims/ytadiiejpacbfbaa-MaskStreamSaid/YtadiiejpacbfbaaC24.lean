/- Proved here: rules of our own engine for walking a program, part 24: calls that take own items over, own rows cut and cleared. -/
import Derived.Test.YtadiiejpacbfbaaC23
namespace Go.Sym
open Go Go.RowKit

/-- what a call does that takes own items over: it hands over what it owns at its end -/
def SpecI (c : Ctx) (P : Program) (f : FuncId) (args : Array Value) (L : List Itm) (F : List Fact) {X : Type} (val : X → Value) (own : X → List Itm) (post : X → List Fact) : Prop :=
  ∀ w, WSt c L F w → Calls P f args w fun e w' => ∃ x, e = .returned (val x) ∧ Below c.w0.heap.size c.w0 w' ∧ Own c.w0.heap.size (own x) w' ∧ AllF (post x) (dom c.D0 (own x)) w'

theorem SpecI.intro {c : Ctx} {P : Program} {f : FuncId} {fn : Func} {body : Code} {N : Nat} {vs : List Value} {L : List Itm} {F : List Fact} {X : Type} {val : X → Value} {own : X → List Itm} {post : X → List Fact}
    (hf : P.funcs[f]? = some fn) (hb : fn.body = some body) (hN : fn.ntmps = N) (hle : Nat.ble vs.length N = true)
    (h : SP N c (body.wp P (Ret P fn c val own post)) (argEnt 0 vs) L F) : SpecI c P f vs.toArray L F val own post := by
  intro w hw
  refine calls_of_wp hf hb (h _ w ⟨⟨rfl, ?_, ?_⟩, hw⟩)
  · have : vs.length ≤ N := Nat.le_of_ble_eq_true hle
    simp [hN]; omega
  · intro t v ht
    obtain ⟨_, h2⟩ := argEnt_get vs 0 t v ht
    rw [Nat.sub_zero] at h2
    have hlt := (List.getElem?_eq_some_iff.1 h2).1
    rw [Array.getD_eq_getD_getElem?, Array.getElem?_append_left (by simpa using hlt), List.getElem?_toArray, h2]
    rfl

section
variable {N : Nat} {c : Ctx} {P : Program} {m : Ent} {L L' : List Itm} {F : List Fact} {d : Option Tmp} {ty : TypeId} {pos : String} {aft : Array Edge} {g : Option (Nat × Bool)}

theorem SL.callI {ops : Array Oper} {rest : List Oper} {Q : Exit → Act → World → Prop} {d : Nat} {args : List Operand} {vs : List Value} {ats : Array TypeId} {f : FuncId} [hf : FnTy P f] {X : Type} {val : X → Value} {own : X → List Itm} {post : X → List Fact} (hx : evl m args = some vs)
    (hS : SpecI c P f vs.toArray L F val own post) (hd : Nat.blt d N = true) (h : ∀ x, SP N c (wpList P ops Q rest) ((d, val x) :: m) (own x) (post x)) :
    SP N c (wpList P ops Q (⟨some d, .call { callee := .value (.func f), args := args.toArray, argTypes := ats }, ty, pos, aft, none⟩ :: rest)) m L F := fun a w hs => by
  refine wpList_plain rfl fun K hK => ?_
  unfold Oper.wp
  have he : (#[] ++ args.toArray.map a.eval ++ #[] : Array Value) = vs.toArray := by
    rw [← evl_spec hs.agree hx]; simp
  rw [execOp_call_go, he, hf.run]
  refine (hS w hs.ws).mono ?_
  rintro e w' ⟨x, rfl, hbel, hown, hpost⟩
  exact hK _ _ (h x _ _ ⟨hs.agree.put hd _, ⟨hs.ws.d0, hbel, hown, hpost⟩⟩)

theorem Y.sl1R {x p : Operand} {v : Value} {t e : TypeId} [ht : SliceTy P t e] {sz bytes : Nat} [he : Elem P e sz bytes] {e' n : Nat} {xs : List Value} (k : Nat) {kk : IntKind} {i : Int} (hx : ev m x = some v) [hL : HasRow L v e' sz n xs]
    (hp : ev m p = some (.int kk i)) (hi : i = (k : Int)) (hk : k ≤ n) : Yld N c P ⟨d, .slice t x (some p) none none, ty, pos, aft, g⟩ m L F (sufV v sz k) := fun a w h => by
  subst hi
  obtain ⟨⟨_, _, hty, hsz⟩, _⟩ := he
  obtain ⟨ao, cap, hv, _⟩ := row_shape (h.ws.own.holds _ hL.mem)
  subst hv
  simp [execOp, h.agree.eval hx, h.agree.eval hp, Instr.sliceAt, Instr.slice, run_underlying ht.und, Instr.sliceBounds, Instr.sliceBound, asIntOf, hk, hty.sizeOf_run, sufV]
theorem Y.sl2R {x p : Operand} {v : Value} {t e : TypeId} [ht : SliceTy P t e] {sz bytes : Nat} [he : Elem P e sz bytes] {e' n : Nat} {xs : List Value} (k : Nat) {kk : IntKind} {i : Int} (hx : ev m x = some v) [hL : HasRow L v e' sz n xs]
    (hp : ev m p = some (.int kk i)) (hi : i = (k : Int)) (hk : k ≤ n) : Yld N c P ⟨d, .slice t x none (some p) none, ty, pos, aft, g⟩ m L F (preV v k) := fun a w h => by
  subst hi
  obtain ⟨⟨_, _, hty, _⟩, _⟩ := he
  have hz : ∀ ad : Option Addr, ad.map (fun a => a.add 0) = ad := fun ad => by cases ad <;> simp [Addr.add]
  have hown : w.ownsRow c.w0.heap.size e' sz v n xs := h.ws.own.holds _ hL.mem
  rcases hown.2 with ⟨rfl, h0⟩ | ⟨gg, cap, cur, rfl, hb, hg, hnc, hcm, hcs, htk⟩
  · have hk0 : k = 0 := by omega
    subst hk0
    simp [execOp, h.agree.eval hx, h.agree.eval hp, Instr.sliceAt, Instr.slice, run_underlying ht.und, Instr.sliceBounds, Instr.sliceBound, asIntOf, hty.sizeOf_run, preV]
  · have h1 : k ≤ cap := Nat.le_trans hk hnc
    simp [execOp, h.agree.eval hx, h.agree.eval hp, Instr.sliceAt, Instr.slice, run_underlying ht.und, Instr.sliceBounds, Instr.sliceBound, asIntOf, h1, hty.sizeOf_run, preV, Addr.add]
/-- an own row's beginning, the rest let go -/
theorem SP.rowPre {K : Act → World → Prop} (v : Value) {e sz n : Nat} {xs : List Value} [hd : DelRow L v e sz n xs L'] (k : Nat) (hk : k ≤ n) (h : SP N c K m (.row e sz (preV v k) k (xs.take (k * sz)) :: L') F) : SP N c K m L F := fun a w hs => by
  have hp := hs.ws.own.perm hd.perm
  have hown : w.ownsRow c.w0.heap.size e sz v n xs := hp.holds _ (List.mem_cons_self ..)
  have hle : k * sz ≤ n * sz := Nat.mul_le_mul_right _ hk
  have hl : (xs.take (k * sz)).length = k * sz := by rw [List.length_take, hown.1, Nat.min_eq_left hle]
  refine h a w ⟨hs.agree, hs.ws.row hd ⟨hl, ?_⟩ (World.grownBy.refl w _) (fun b hb => ?_)⟩
  · rcases hown.2 with ⟨rfl, h0⟩ | ⟨gg, cap, cur, rfl, hb, hg, hnc, hcm, hcs, htk⟩
    · have hk0 : k = 0 := by omega
      subst hk0
      exact .inl ⟨rfl, rfl⟩
    · refine .inr ⟨gg, cap, cur, rfl, hb, hg, by omega, hcm, hcs, ?_⟩
      rw [← htk, List.take_take, Nat.min_eq_left hle]
  · rcases hown.2 with ⟨rfl, h0⟩ | ⟨gg, cap, cur, rfl, _⟩
    · simp [preV, Value.ownBlock] at hb
    · exact .inl hb

theorem zeroCells_len (z : Array Value) (n : Nat) : (Builtin.zeroCells z n).toList.length = n * z.size := by simp [Builtin.zeroCells]
theorem zeroCells_one {z : Array Value} (h : ∀ u ∈ z.toList, u.oneCell' = true) (n : Nat) : ∀ u ∈ (Builtin.zeroCells z n).toList, u.oneCell' = true := fun u hu => by
  simp only [Builtin.zeroCells, Array.toList_map, List.mem_map] at hu
  obtain ⟨i, hi, rfl⟩ := hu
  have hi' : i < n * z.size := by simpa using hi
  have hz : 0 < z.size := by
    rcases Nat.eq_zero_or_pos z.size with h0 | h0
    · rw [h0] at hi'; omega
    · exact h0
  have hm : i % z.size < z.size := Nat.mod_lt _ hz
  refine h _ ?_
  rw [getElem!_pos z (i % z.size) hm]
  exact Array.getElem_mem_toList hm
theorem run_call_clear (a : Act) (x : Operand) (t : TypeId) (w : World) : (execOp a.eval ⟨d, .call { callee := .builtin .clear, args := #[x], argTypes := #[t] }, ty, pos, aft, g⟩).run P w =
    ((Builtin.clear_ #[t] ty #[a.eval x]).run P w).andThen fun v w' => .ok (.value v) w' := by
  simp [execOp, resolve, invoke, builtin]
/-- 'clear(v[k:])' of an own row -/
theorem SL.clearR {ops : Array Oper} {rest : List Oper} {Q : Exit → Act → World → Prop} {t e : TypeId} [ht : SliceTy P t e] {agg : Bool} {sz bytes : Nat} {z : Value} [he : Ty P e agg sz bytes z] {x : Operand} {v : Value} {n k : Nat} {xs : List Value}
    (hx : ev m x = some (sufV v sz k)) [hd : DelRow L v e sz n xs L'] (hk : k ≤ n) (hz1 : ∀ u ∈ z.cells.toList, u.oneCell' = true) (hz2 : z.cells.size = sz)
    (h : SP N c (wpList P ops Q rest) m (.row e sz v n (putCells xs (k * sz) (Builtin.zeroCells z.cells (n - k)).toList) :: L') F) :
    SP N c (wpList P ops Q (⟨none, .call { callee := .builtin .clear, args := #[x], argTypes := #[t] }, ty, pos, aft, none⟩ :: rest)) m L F := fun a w hs => by
  refine wpList_plain rfl fun K hK => ?_
  unfold Oper.wp
  rw [run_call_clear, hs.agree.eval hx]
  have hp := hs.ws.own.perm hd.perm
  have hown : w.ownsRow c.w0.heap.size e sz v n xs := hp.holds _ (List.mem_cons_self ..)
  have hlen := zeroCells_len z.cells (n - k)
  rw [hz2] at hlen
  have hsum : k * sz + (n - k) * sz = n * sz := by rw [← Nat.add_mul]; congr 1; omega
  rcases Nat.eq_zero_or_pos (n - k) with h0 | h0
  · have hsame : putCells xs (k * sz) (Builtin.zeroCells z.cells (n - k)).toList = xs := by
      have h1 : (Builtin.zeroCells z.cells (n - k)).toList = [] := List.length_eq_zero_iff.1 (by rw [hlen, h0, Nat.zero_mul])
      rw [h1]
      simp [putCells]
    rw [hsame] at h
    have hr : (Builtin.clear_ #[t] ty #[sufV v sz k]).run P w = .ok (.tuple #[]) w := by
      rcases hown.2 with ⟨rfl, hn0⟩ | ⟨gg, cap, cur, rfl, _⟩
      · have hk0 : k = 0 := by omega
        subst hk0
        simp [Builtin.clear_, run_underlying ht.und, sufV]
      · rw [sufV, h0]
        by_cases hc : cap = k
        · rw [if_pos hc]; simp [Builtin.clear_, run_underlying ht.und]
        · rw [if_neg hc]; simp [Builtin.clear_, run_underlying ht.und]
    rw [hr]
    simp only [Result.andThen_ok]
    exact hK _ _ (h _ _ ⟨hs.agree, hs.ws.row hd hown (World.grownBy.refl w _) (fun b hb => .inl hb)⟩)
  · rcases hown.2 with ⟨rfl, hn0⟩ | ⟨gg, cap, cur, rfl, hbg, hg, hnc, hcm, hcs, htake⟩
    · omega
    · have hcap : n * sz ≤ cap * sz := Nat.mul_le_mul_right _ hnc
      have hcl : cur.toList.length = cap * sz := by simpa using hcs
      have hst := run_storeCells_at (P := P) gg (k * sz) e (Builtin.zeroCells z.cells (n - k)).toList 0 cur w hg (by rw [hlen, hcs]; omega) (zeroCells_one hz1 _)
      simp only [Nat.add_zero] at hst
      have hr : (Builtin.clear_ #[t] ty #[sufV (.slice (some ⟨gg, 0, none⟩) n cap) sz k]).run P w = .ok (.tuple #[]) (w.setRow gg (putCells cur.toList (k * sz) (Builtin.zeroCells z.cells (n - k)).toList).toArray) := by
        obtain ⟨q, hq⟩ : ∃ q, n - k = q + 1 := ⟨n - k - 1, by omega⟩
        rw [sufV, if_neg (by omega)]
        rw [hq] at hst ⊢
        have hadd : (⟨gg, 0, none⟩ : Addr).add (k * sz) = ⟨gg, k * sz, none⟩ := by rw [addr_add_lit, Nat.zero_add]
        simp only [Option.map_some, hadd]
        simp [Builtin.clear_, run_underlying ht.und, he.zero_run, hst, putCells]
      rw [hr]
      simp only [Result.andThen_ok]
      have hg2 := grownBy_setRow w gg (putCells cur.toList (k * sz) (Builtin.zeroCells z.cells (n - k)).toList).toArray
      refine hK _ _ (h _ _ ⟨hs.agree, hs.ws.row hd ⟨?_, .inr ⟨gg, cap, (putCells cur.toList (k * sz) (Builtin.zeroCells z.cells (n - k)).toList).toArray, rfl, hbg, setRow_heap w gg _ _ e (0, 0) hg, hnc, hcm, ?_, ?_⟩⟩ hg2 (fun b hb => .inl hb)⟩)
      · rw [putCells_len _ _ _ (by rw [hown.1, hlen]; omega)]; exact hown.1
      · simp only [List.size_toArray]; rw [putCells_len _ _ _ (by rw [hcl, hlen]; omega)]; exact hcl
      · show (putCells cur.toList (k * sz) (Builtin.zeroCells z.cells (n - k)).toList).take (n * sz) = _
        rw [putCells_take _ _ _ _ (by rw [hlen]; omega) (by rw [hcl]; exact hcap), htake]
end
end Go.Sym
