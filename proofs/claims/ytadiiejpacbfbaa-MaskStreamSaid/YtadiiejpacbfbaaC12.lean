/- Proved here: rules of our own engine for walking a program, part 12: struct values by instances, arrays' places, calls that are lent what is owned. -/
import Derived.Test.YtadiiejpacbfbaaC11
namespace Go.Sym
open Go Go.RowKit

/-! ## A struct's value out of its fields, by instances -/

def isStruct : Option TypeDesc → Bool
  | some (.struct _) => true
  | _ => false
theorem isStruct_spec {o : Option TypeDesc} (h : isStruct o = true) : ∃ fs, o = some (.struct fs) := by
  unfold isStruct at h
  split at h
  · exact ⟨_, rfl⟩
  · cases h

class BuildTy (P : Program) (t : TypeId) (pl : outParam (List (Nat × Nat))) : Prop where
  und : isStruct (P.underlying t) = true
  places : ∀ w, (do let .struct fields ← underlying t | stuck "build: struct or array type expected"
                    fields.mapM fun f => do pure (f.offset, ← sizeOf f.type) : Sem (Array (Nat × Nat))).run P w = .ok pl.toArray w

class PlaceAt (pl : List (Nat × Nat)) (i : Nat) (off sz : outParam Nat) : Prop where
  eq : pl[i]? = some (off, sz)
instance PlaceAt.zero (off sz : Nat) (pl : List (Nat × Nat)) : PlaceAt ((off, sz) :: pl) 0 off sz := ⟨rfl⟩
instance PlaceAt.succ (p : Nat × Nat) (pl : List (Nat × Nat)) (i off sz : Nat) [h : PlaceAt pl i off sz] : PlaceAt (p :: pl) (i + 1) off sz := ⟨by rw [List.getElem?_cons_succ]; exact h.eq⟩

class PutAt (cs : List Value) (o : Nat) (l : List Value) (cs' : outParam (List Value)) : Prop where
  eq : putCells cs o l = cs' ∧ o + l.length ≤ cs.length
class Len (cs : List Value) (n : outParam Nat) : Prop where
  eq : cs.length = n
instance Len.nil : Len [] 0 := ⟨rfl⟩
instance Len.cons (v : Value) (cs : List Value) (n : Nat) [h : Len cs n] : Len (v :: cs) (n + 1) := ⟨by rw [List.length_cons, h.eq]⟩
/-- o further on; then the new cells; then the rest -/
instance PutAt.nil (cs : List Value) : PutAt cs 0 [] cs := ⟨by simp [putCells]⟩
instance PutAt.skip (x : Value) (cs l cs' : List Value) (o : Nat) [h : PutAt cs o l cs'] : PutAt (x :: cs) (o + 1) l (x :: cs') := ⟨by
  obtain ⟨h1, h2⟩ := h.eq
  refine ⟨?_, by rw [List.length_cons]; omega⟩
  rw [← h1]
  simp [putCells, show o + 1 + l.length = (o + l.length) + 1 from by omega]⟩
instance (priority := high) PutAt.cons (x v : Value) (cs l cs' : List Value) [h : PutAt cs 0 l cs'] : PutAt (x :: cs) 0 (v :: l) (v :: cs') := ⟨by
  obtain ⟨h1, h2⟩ := h.eq
  refine ⟨?_, by simp only [List.length_cons]; omega⟩
  rw [← h1]
  simp [putCells]⟩

theorem fill_step {pl : Nat → Option (Nat × Nat)} {cells : List Value} {i off sz : Nat} {v : Value} {rest : List (Nat × Value)} (hp : pl i = some (off, sz)) (hs : v.cells.toList.length = sz) (hfit : off + sz ≤ cells.length) :
    Instr.fill pl cells.toArray ((i, v) :: rest) = Instr.fill pl (putCells cells off v.cells.toList).toArray rest := by
  have hs' : v.cells.size = sz := by simpa using hs
  have hfold : v.cells.zipIdx.foldl (fun cs (x : Value × Nat) => cs.setIfInBounds (off + x.2) x.1) cells.toArray = (putCells cells off v.cells.toList).toArray := by
    rw [← Array.foldl_toList, Array.toList_zipIdx, foldl_put v.cells.toList 0 off _ (by simp [hs']; omega)]
    simp [putCells]
  rw [Instr.fill]
  simp only [hp, hs', ne_eq, not_true_eq_false, decide_false, Bool.false_or, decide_eq_true_eq]
  rw [if_neg (by simp; omega), hfold]

class Fills (L : List Itm) (F : List Fact) (pl : List (Nat × Nat)) (cs : List Value) (parts : List (Nat × Value)) (cs' : outParam (List Value)) : Prop where
  eq : ∀ base D w, Own base L w → AllF F D w → Instr.fill (pl.toArray[·]?) cs.toArray parts = some cs'.toArray
instance Fills.nil (L : List Itm) (F : List Fact) (pl : List (Nat × Nat)) (cs : List Value) : Fills L F pl cs [] cs := ⟨fun _ _ _ _ _ => rfl⟩
instance (priority := high) Fills.agg (L : List Itm) (F : List Fact) (pl : List (Nat × Nat)) (cs cs1 cs2 : List Value) (i off sz : Nat) (l : List Value) (rest : List (Nat × Value)) [hp : PlaceAt pl i off sz] [hl : Len l sz] [ha : PutAt cs off l cs1]
    [h : Fills L F pl cs1 rest cs2] : Fills L F pl cs ((i, .agg l.toArray) :: rest) cs2 := ⟨fun base D w hO hF => by
  have : (Value.agg l.toArray).cells.toList = l := rfl
  rw [fill_step (v := .agg l.toArray) (off := off) (sz := sz) (by simpa using hp.eq) (by rw [this]; exact hl.eq) (by rw [← hl.eq]; exact ha.eq.2)]
  rw [this, ha.eq.1]
  exact h.eq base D w hO hF⟩
instance Fills.one (L : List Itm) (F : List Fact) (pl : List (Nat × Nat)) (cs cs1 cs2 : List Value) (i off : Nat) (v : Value) (rest : List (Nat × Value)) [hp : PlaceAt pl i off 1] [hv : One L F v] [ha : PutAt cs off [v] cs1]
    [h : Fills L F pl cs1 rest cs2] : Fills L F pl cs ((i, v) :: rest) cs2 := ⟨fun base D w hO hF => by
  have hc := Value.cells1 (hv.one base D w hO hF)
  rw [fill_step (off := off) (sz := 1) (by simpa using hp.eq) (by rw [hc]; rfl) ha.eq.2, hc, ha.eq.1]
  exact h.eq base D w hO hF⟩

section
variable {N : Nat} {c : Ctx} {P : Program} {m : Ent} {L L' : List Itm} {F : List Fact} {d : Option Tmp} {ty : TypeId} {pos : String} {aft : Array Edge} {g : Option (Nat × Bool)}

def evp (m : Ent) : List (Nat × Operand) → Option (List (Nat × Value))
  | [] => some []
  | (i, x) :: xs => match ev m x, evp m xs with
    | some v, some vs => some ((i, v) :: vs)
    | _, _ => none

theorem evp_spec {N : Nat} {m : Ent} {a : Act} (h : Agree N m a) : ∀ {xs : List (Nat × Operand)} {vs : List (Nat × Value)}, evp m xs = some vs → xs.map (fun (i, x) => (i, a.eval x)) = vs
  | [], vs, hx => by simp [evp] at hx; simp [hx]
  | (i, x) :: xs, vs, hx => by
    unfold evp at hx
    split at hx
    · rename_i v vs' h1 h2
      injection hx with hx
      subst hx
      have h3 := evp_spec h h2
      simp only [List.map_cons, h.eval h1, h3]
    · cases hx

theorem Y.buildT {t : TypeId} {sz bytes : Nat} {z : List Value} [ht : Ty P t true sz bytes (.agg z.toArray)] {pl : List (Nat × Nat)} [hb : BuildTy P t pl] {parts : List (Nat × Operand)} {vs : List (Nat × Value)} {cs : List Value} (hx : evp m parts = some vs)
    [hf : Fills L F pl z vs cs] : Yld N c P ⟨d, .build t parts.toArray, ty, pos, aft, g⟩ m L F (.agg cs.toArray) := fun a w h => by
  obtain ⟨fs, hfs⟩ := isStruct_spec hb.und
  have hps : (parts.toArray.map fun (i, x) => (i, a.eval x)) = vs.toArray := by
    rw [← evp_spec h.agree hx, List.map_toArray]
  have hp' := hb.places w
  simp only [Sem.run_bind, run_underlying hfs, Result.andThen_ok] at hp'
  simp only [execOp, hps, Instr.build, Sem.run_bind, ht.zero_run, Result.andThen_ok, run_underlying hfs, hp', Value.cells, hf.eq _ _ _ h.ws.own h.ws.facts, Sem.run_pure]

/-- an array's place -/
theorem Y.idxP {x y : Operand} {b o : Nat} {t e : TypeId} {n : Nat} [ht : ArrayTy P t n e] {agg : Bool} {sz bytes : Nat} {z : Value} [he : Ty P e agg sz bytes z] {kk : IntKind} {i : Int} (k : Nat) (hx : ev m x = some (.pointer (some ⟨b, o, none⟩))) (hy : ev m y = some (.int kk i)) (hi : i = (k : Int)) (hlt : Nat.blt k n = true) :
    Yld N c P ⟨d, .indexAddr t x y, ty, pos, aft, g⟩ m L F (.pointer (some ⟨b, o + k * sz, none⟩)) := fun a w h => by
  subst hi
  have hlt' : k < n := by simpa using hlt
  simp [execOp, h.agree.eval hx, h.agree.eval hy, Instr.indexAt, asIntOf, run_underlying ht.und, hlt', he.sizeOf_run, Instr.sureAddr, addr_add_lit]

theorem Y.idxR {x y : Operand} {v : Value} {t e e' : TypeId} [ht : SliceTy P t e] {agg : Bool} {sz bytes n sz' : Nat} {z : Value} [he : Ty P e agg sz bytes z] {xs : List Value}
    (k : Nat) {kk : IntKind} {i : Int} (hx : ev m x = some v) [hL : HasRow L v e' sz' n xs] (hy : ev m y = some (.int kk i)) (hi : i = (k : Int)) (hk : k < n) :
    Yld N c P ⟨d, .indexAddr t x y, ty, pos, aft, g⟩ m L F (eptr v sz k 0) := fun a w h => by
  subst hi
  obtain ⟨ao, cap, hv, hc⟩ := row_shape (h.ws.own.holds _ hL.mem)
  obtain ⟨b, hb, _⟩ := hc (by omega)
  subst hb
  rw [hv] at hx ⊢
  simp [execOp, h.agree.eval hx, h.agree.eval hy, Instr.indexAt, asIntOf, run_underlying ht.und, hk, he.sizeOf_run, eptr]

theorem Y.ldR1 {x : Operand} {v : Value} {k o sz : Nat} {t e' : TypeId} {sz' bytes n sz'' : Nat} {z : Value} [ht : Ty P t false sz' bytes z] {xs : List Value} {r : Value} (hx : ev m x = some (eptr v sz k o)) [hL : HasRow L v e' sz'' n xs] (hk : k < n) (hr : xs[k * sz + o]? = some r) :
    Yld N c P ⟨d, .load t x, ty, pos, aft, g⟩ m L F r := fun a w h => by
  obtain ⟨ao, cap, hv, hc⟩ := row_shape (h.ws.own.holds _ hL.mem)
  obtain ⟨b, hb, hcell⟩ := hc (by omega)
  subst hb
  rw [hv] at hx
  simp only [eptr, addr_add_lit, Nat.zero_add] at hx
  simp [execOp, h.agree.eval hx, Instr.loadAt, Instr.sureAddr, loadVar_one ht (hcell _ _ hr)]

/-- a call that is lent what is owned: it keeps nothing of it -/
theorem Ef.callLend {args : List Operand} {vs : List Value} {ats : Array TypeId} {f : FuncId} [hf : FnTy P f] {pre : List Fact} {X : Type} {val : X → Value} {L1 : List Itm} {F1 : List Fact} (hl : ∀ K, SP N c K m L1 F1 → SP N c K m L F) (hx : evl m args = some vs)
    (hS : FSpec P f vs.toArray pre val (fun _ => []) (fun _ => [])) (hpre : Ents F1 pre) :
    Eff N c P ⟨d, .call { callee := .value (.func f), args := args.toArray, argTypes := ats }, ty, pos, aft, g⟩ m L F val none (fun _ => L) (fun _ => F) := fun a w hs K Q hK => by
  have hs1 : St N c m L1 F1 a w := hl (fun a w => St N c m L1 F1 a w) (fun _ _ h => h) a w hs
  unfold Oper.wp
  have he : (#[] ++ args.toArray.map a.eval ++ #[] : Array Value) = vs.toArray := by
    rw [← evl_spec hs.agree hx]; simp
  rw [execOp_call_go, he, hf.run]
  refine (hS (dom c.D0 L1) w (fun k hk => dom_lt hs1.ws hk) (hpre _ _ hs1.ws.facts)).mono ?_
  rintro e w' ⟨x, rfl, hbel, hown, hpost⟩
  refine hK x w' ⟨hbel.os, hbel.tape, hbel.output, hbel.size, fun k hk _ => hbel.block k hk⟩ ?_
  refine hs.ws.step hbel.os hbel.tape hbel.output hbel.size (fun k hk _ => hbel.block k hk) ⟨?_, hs.ws.own.disj⟩ ?_
  · intro it hit
    exact Itm.holds_same (hs.ws.own.holds it hit) (fun k hk => hbel.block k (Itm.holds_lt (hs.ws.own.holds it hit) hk).2)
  · intro it hit k hk _
    exact ⟨it, hit, hk⟩
end
end Go.Sym
