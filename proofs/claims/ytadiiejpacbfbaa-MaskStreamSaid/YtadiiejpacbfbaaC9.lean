/- Proved here: rules of our own engine for walking a program, part 9: cut slices, bytes to strings, struct values, regions that draw their order. -/
import Derived.Test.YtadiiejpacbfbaaC8
namespace Go.Sym
open Go Go.RowKit

/-! ## Cut slices, bytes to strings, struct values -/

/-- 'v[:n:n]' -/
def cutV (v : Value) (n : Nat) : Value :=
  match v with
  | .slice a _ _ => .slice a n n
  | _ => .nilFunc

section
variable {N : Nat} {c : Ctx} {P : Program} {m : Ent} {L L' : List Itm} {F : List Fact} {d : Option Tmp} {ty : TypeId} {pos : String} {aft : Array Edge} {g : Option (Nat × Bool)}

theorem Y.b2s {x : Operand} {v : Value} {t t' e : TypeId} [ht : SliceTy P t e] [he : IntTy P e .u8] [hs : StrTy P t'] {l : List Int} (hx : ev m x = some v) [hF : HasArr F v 1 encB l] :
    Yld N c P ⟨d, .convert t t' x, ty, pos, aft, g⟩ m L F (.string (strOfNums l)) := fun a w h => by
  have harr : arrP v 1 encB l (dom c.D0 L) w := h.ws.facts _ hF.mem
  have hx' := h.agree.eval hx
  obtain ⟨ad, cap, hv, hlc, hc, hn, hs1, hcell⟩ := harr
  cases ad with
  | none =>
    obtain ⟨rfl, rfl⟩ := hn rfl
    subst hv
    have := run_convert_bytes_nil (P := P) w t e ht.und he.und ([] : List Int).length 0 t' hs.und
    simp only [execOp, hx', Sem.run_bind, this, Result.andThen_ok, Sem.run_pure]
    rfl
  | some ad =>
    by_cases hl : l = []
    · subst hl
      subst hv
      have hb := run_convert_bytes_string (P := P) w t t' e (some ad) ([] : List Int).length cap ht.und he.und hs.und
      have hz := run_bytesToString (P := P) w ad ([] : List Int).length cap [] (by simp [loadCells, loadCellsFrom])
      simp only [execOp, hx', Sem.run_bind, hb, hz, Result.andThen_ok, Sem.run_pure]
      rfl
    · obtain ⟨b, off, ha, _, _, hcells⟩ := hcell hl
      injection ha with ha
      subst ha
      subst hv
      have := run_convert_bytes_arg (P := P) w t e ht.und he.und b off l.length cap l rfl (fun i hi => by
        have h1 : l[i]? = some l[i] := List.getElem?_eq_getElem hi
        have h2 := flatMap_get (fun z hz => (hs1 z hz).1) h1 0 (by decide)
        simp only [Nat.mul_one, Nat.add_zero] at h2
        rw [hcells i (.int .u8 l[i]) (by rw [h2]; rfl)]
        simp [List.getD, h1]) t' hs.und
      simp only [execOp, hx', Sem.run_bind, this, Result.andThen_ok, Sem.run_pure]

theorem Y.sl3 {x p q : Operand} {v : Value} {t e : TypeId} [ht : SliceTy P t e] {sz bytes : Nat} [he : Elem P e sz bytes] {sz' : Nat} {α : Type} {enc : α → List Value} {l : List α} (n : Nat) {k k' : IntKind} {i j : Int} (hx : ev m x = some v) [hF : HasArr F v sz' enc l]
    (hp : ev m p = some (.int k i)) (hq : ev m q = some (.int k' j)) (hi : i = (n : Int)) (hj : j = (n : Int)) (hn : n ≤ l.length) :
    Yld N c P ⟨d, .slice t x none (some p) (some q), ty, pos, aft, g⟩ m L F (cutV v n) := fun a w h => by
  subst hi hj
  obtain ⟨⟨_, _, hty, _⟩, _⟩ := he
  obtain ⟨ad, cap, hv, hlc, hc, hnn, hs1, hcell⟩ := h.ws.facts _ hF.mem
  subst hv
  have h1 : n ≤ cap := Nat.le_trans hn hlc
  have hz : ad.map (fun a => a.add 0) = ad := by cases ad <;> simp [Addr.add]
  simp [execOp, h.agree.eval hx, h.agree.eval hp, h.agree.eval hq, Instr.sliceAt, Instr.slice, run_underlying ht.und, Instr.sliceBounds, Instr.sliceBound, asIntOf, h1, hty.sizeOf_run, cutV, hz]

theorem cut_arr {α : Type} {v : Value} {sz : Nat} {enc : α → List Value} {l : List α} {D : Nat → Prop} {w : World} (h : arrP v sz enc l D w) {n : Nat} (hn : n ≤ l.length) : arrP (cutV v n) sz enc (l.take n) D w := by
  obtain ⟨a, cp, hv, hlc, hc, hna, hs, hcell⟩ := h
  subst hv
  have hlen : (l.take n).length = n := by simp; omega
  refine ⟨a, n, by rw [cutV, hlen], by omega, by omega, fun ha => ?_, fun x hx => hs x (List.mem_of_mem_take hx), fun hne => ?_⟩
  · obtain ⟨rfl, _⟩ := hna ha
    simp at hn
    exact ⟨by simp, hn⟩
  · obtain ⟨b, off, ha, hb, hD, hcells⟩ := hcell (by rintro rfl; simp at hne)
    refine ⟨b, off, ha, hb, hD, fun j u hu => hcells j u ?_⟩
    have hpre : (l.take n).flatMap enc ++ (l.drop n).flatMap enc = l.flatMap enc := by rw [← List.flatMap_append, List.take_append_drop]
    rw [← hpre, List.getElem?_append_left (List.getElem?_eq_some_iff.1 hu).1]
    exact hu

theorem Ent1.cut {α : Type} {v : Value} {sz : Nat} {enc : α → List Value} {l : List α} [h : HasArr F v sz enc l] {n : Nat} (hn : n ≤ l.length) : Ent1 F (Fact.arr (cutV v n) sz enc (l.take n)) := fun _ _ hF => cut_arr (hF _ h.mem) hn

/-- append behind 'v[:n:n]': new memory, or nothing -/
theorem Ef.appendCut {s x : Operand} {t e : TypeId} [ht : SliceTy P t e] {sz bytes : Nat} [he' : Elem P e sz bytes] {v u : Value} {n : Nat} {α : Type} {enc : α → List Value} {l l' : List α}
    (hs : ev m s = some (cutV v n)) [hv : HasArr F v sz enc l] (hn : n ≤ l.length) (hx : ev m x = some u) [hF : HasArr F u sz enc l'] (hbytes : (n + l'.length) * bytes ≤ 140737488355328) :
    Eff N c P ⟨d, .call { callee := .builtin .append, args := #[s, x], argTypes := #[t, t] }, ty, pos, aft, g⟩ m L F (fun v' : Value => v') none (fun _ => L) (fun v' => Fact.arr v' sz enc (l.take n ++ l') :: F) := fun a w hs' K Q hK => by
  obtain ⟨⟨agg, z, he, hzs⟩, hsz, hby⟩ := he'
  have h63 : n + l'.length ≤ maxLen := by
    have h1 : (n + l'.length) * 1 ≤ (n + l'.length) * bytes := Nat.mul_le_mul_left _ hby
    have : maxLen = 9223372036854775807 := rfl
    omega
  have hv0 : arrP v sz enc l (dom c.D0 L) w := hs'.ws.facts _ hv.mem
  have hcut := cut_arr hv0 hn
  have hu0 : arrP u sz enc l' (dom c.D0 L) w := hs'.ws.facts _ hF.mem
  have hlen : (l.take n).length = n := by simp; omega
  obtain ⟨i, hi, hz, hsi, hb⟩ := info_parts he.info
  unfold Oper.wp
  rw [run_call_append, hs'.agree.eval hs, hs'.agree.eval hx]
  obtain ⟨ao, cp, hcv, hlc, hcm, hna, hok, hcells⟩ := hcut
  obtain ⟨ao0, cp0, hv1, _⟩ := hv0
  subst hv1
  simp only [cutV, hlen] at hcv
  injection hcv with e1 e2 e3
  subst e1 e3
  have hflat : ((l.take n).flatMap enc).length = n * sz := by rw [flatMap_length (fun x hx => (hok x hx).1), hlen]
  have holds : ∀ b, ao0 = some b → ∀ j u, ((l.take n).flatMap enc)[j]? = some u → w.cell? (b.add j) = some u := by
    intro b hb j u hu
    have hne : l.take n ≠ [] := by intro h0; rw [h0] at hu; simp at hu
    obtain ⟨b', off, ha, _, _, hc'⟩ := hcells hne
    rw [hb] at ha
    injection ha with ha
    subst ha
    rw [addr_add_lit]
    exact hc' j u hu
  by_cases hl' : l' = []
  · subst hl'
    have hcut2 : arrP (.slice ao0 n n) sz enc (l.take n) (dom c.D0 L) w := ⟨ao0, n, by rw [hlen], hlc, hcm, hna, hok, hcells⟩
    have hr : (Builtin.append_ #[t, t] ty #[.slice ao0 n n, u]).run P w = .ok (.slice ao0 n n) w := by
      rcases arr_src hu0 with ⟨rfl, _⟩ | ⟨ad, cp, rfl, hcells'⟩
      · simp [Builtin.append_, run_underlying ht.und, sizeOf, typeInfo, hi, Builtin.lenOf, Builtin.firstCells]
        cases ao0 <;> simp [storeCells]
      · have hf := run_firstCells_some (P := P) w i.size 0 ad ([] : List α).length cp [] (by simp) (by simp)
        simp [Builtin.append_, run_underlying ht.und, sizeOf, typeInfo, hi, Builtin.lenOf]
        simp only [List.length_nil] at hf
        rw [hf]
        cases ao0 <;> simp [storeCells]
    rw [cutV, hr]
    simp only [Result.andThen_ok]
    refine hK _ w (World.grownBy.refl w _) ⟨hs'.ws.d0, hs'.ws.below, hs'.ws.own, AllF.cons ?_ hs'.ws.facts⟩
    rw [List.append_nil]
    exact hcut2
  · have hpos : 0 < l'.length := List.length_pos_iff.2 hl'
    rcases arr_src hu0 with ⟨_, h0⟩ | ⟨ad, cp', rfl, hcells'⟩
    · exact absurd h0 hl'
    · have key : ∃ v' w', (Builtin.append_ #[t, t] ty #[.slice ao0 n n, .slice (some ad) l'.length cp']).run P w = .ok v' w' ∧ w'.ownsRow w.heap.size e sz v' (n + l'.length) ((l.take n).flatMap enc ++ l'.flatMap enc) ∧ w.grownBy w' none := by
        cases ao0 with
        | none =>
          obtain ⟨h1, h2⟩ := hna rfl
          subst h2
          have h3 : (l.take 0).flatMap enc = [] := by simp
          obtain ⟨v', w', hr, h4, h5, _⟩ := run_append_own (P := P) w w.heap.size t ty e i z sz bytes ht.und hi hz hsi hb hzs hsz _ 0 [] (World.ownsRow_nil w w.heap.size e sz) ad l'.length cp' _ (arr_flat hu0) hcells' (arr_one hu0) h63 hbytes (Nat.le_refl _)
          exact ⟨v', w', hr, by rw [h3]; exact h4, h5⟩
        | some b =>
          exact run_append_arg_grows (P := P) w t ty e i z sz bytes ht.und hi hz hsi hb hzs hsz b n n _ hflat (holds b rfl) ad l'.length cp' _ (arr_flat hu0) hcells' (by omega) h63 hbytes
      obtain ⟨v', w', hr, h2, h3⟩ := key
      rw [cutV, hr]
      simp only [Result.andThen_ok]
      have hw : WSt c L F w' := hs'.ws.step h3.os h3.tape h3.output h3.size (fun k hk _ => h3.block k hk (by simp)) ⟨fun it hit => Itm.holds_same (hs'.ws.own.holds it hit) (fun k hk => h3.block k (Itm.holds_lt (hs'.ws.own.holds it hit) hk).2 (by simp)), hs'.ws.own.disj⟩ (fun it hit k hk _ => ⟨it, hit, hk⟩)
      refine hK v' w' h3 ⟨hw.d0, hw.below, hw.own, AllF.cons ?_ hw.facts⟩
      rw [← List.flatMap_append] at h2
      have hlen2 : (l.take n ++ l').length = n + l'.length := by rw [List.length_append, hlen]
      rcases h2.2 with ⟨_, h0⟩ | ⟨gg, cap, cur, rfl, hbg, hg, hnc, hcm', hcs, htake⟩
      · omega
      · refine ⟨_, cap, by rw [hlen2], by omega, hcm', (fun h => by cases h), ?_, fun _ => ⟨gg, 0, rfl, (Array.getElem?_eq_some_iff.1 hg).1, ?_, ?_⟩⟩
        · intro x hx
          rcases List.mem_append.1 hx with hx | hx
          · exact hok x hx
          · obtain ⟨_, _, _, _, _, _, hok', _⟩ := hu0
            exact hok' x hx
        · intro hD
          have := dom_lt hs'.ws hD
          omega
        · intro j u hu
          rw [Nat.zero_add, cell_of_row w' gg j cur e (0, 0) hg, ← Array.getElem?_toList]
          rw [← htake, List.getElem?_take] at hu
          split at hu
          · exact hu
          · cases hu

/-- a struct's value out of its fields -/
theorem Y.build {t : TypeId} {sz bytes : Nat} {z : List Value} [ht : Ty P t true sz bytes (.agg z.toArray)] {parts : List (Nat × Operand)} {vs : List Value} {places : Array (Nat × Nat)} {cs : List Value} (hx : evl m (parts.map (·.2)) = some vs)
    (hp : ∀ w, (do let .struct fields ← underlying t | stuck "build: struct or array type expected"
                   fields.mapM fun f => do pure (f.offset, ← sizeOf f.type) : Sem (Array (Nat × Nat))).run P w = .ok places w)
    (hst : ∃ fs, P.underlying t = some (.struct fs)) (hf : Instr.fill (places[·]?) z.toArray ((parts.map (·.1)).zip vs) = some cs.toArray) :
    Yld N c P ⟨d, .build t parts.toArray, ty, pos, aft, g⟩ m L F (.agg cs.toArray) := fun a w h => by
  obtain ⟨fs, hfs⟩ := hst
  have hps : (parts.toArray.map fun (i, x) => (i, a.eval x)) = ((parts.map (·.1)).zip vs).toArray := by
    rw [← evl_spec h.agree hx, List.map_toArray, zip_parts]
  have hp' := hp w
  simp only [Sem.run_bind, run_underlying hfs, Result.andThen_ok] at hp'
  simp only [execOp, hps, Instr.build, Sem.run_bind, ht.zero_run, Result.andThen_ok, run_underlying hfs, hp', Value.cells, hf, Sem.run_pure]
end

/-! ## Ways out by a panic hang on no slot -/

theorem QOut.thn {K : Act → World → Prop} {Q : Exit → Act → World → Prop} (h : QOut Q) : QOut (Exit.then K Q) := fun ch a d v w => h ch a d v w
theorem QOut.blk {id : Nat} {Q : Exit → Act → World → Prop} (h : QOut Q) : QOut (Exit.inBlock id Q) := fun ch a d v w => h ch a d v w
theorem QOut.ret {P : Program} {fn : Func} {c : Ctx} {X : Type} {val : X → Value} {own : X → List Itm} {post : X → List Fact} : QOut (Ret P fn c val own post) := fun ch a d v w h => by
  obtain ⟨h1, h2⟩ := h
  exact ⟨by cases d <;> exact h1, h2⟩

theorem SA.ent {N : Nat} {c : Ctx} {P : Program} {m : Ent} {L : List Itm} {F : List Fact} {Q : Exit → Act → World → Prop} {ops : Array Oper} {M : List Nat} {w1 : World} {fuel : Nat} {listed : Array Bool} {t : Nat} {v : Value} (v' : Value) (ht : get m t = some v) (hv : v = v')
    (h : SA N c P ops Q M w1 fuel listed ((t, v') :: m) L F) : SA N c P ops Q M w1 fuel listed m L F :=
  SP.ent (N := N) (c := c) (K := fun a w => Rg M w1 w → wpAnyH P .any ops Q (Rg M w1) fuel listed a w) (L := L) (F := F) v' ht hv h

section
variable {N : Nat} {c : Ctx} {P : Program} {m : Ent} {L L' : List Itm} {F F' : List Fact} {Q : Exit → Act → World → Prop} {ops : Array Oper} {M : List Nat} {w1 : World} {fuel : Nat} {listed : Array Bool} {ty : TypeId} {pos : String} {aft : Array Edge}

theorem SA.norm {A : List Itm} {B : List Fact} [h1 : App A L L'] [h2 : AppF B F F'] (h : SA N c P ops Q M w1 fuel listed m L' F') : SA N c P ops Q M w1 fuel listed m (A ++ L) (B ++ F) := by
  rw [h1.eq, h2.eq]; exact h

theorem SO.alloc {t : TypeId} {i d : Nat} {sz bytes : Nat} {z : List Value} [ht : Ty P t true sz bytes (.agg z.toArray)] (hi : ops[i]? = some ⟨some d, .alloc t, ty, pos, aft, none⟩) (hd : Nat.blt d N = true)
    (h : ∀ b, w1.heap.size ≤ b → SA N c P ops Q M w1 fuel (listed.setIfInBounds i true) ((d, .pointer (some ⟨b, 0, none⟩)) :: m) (.box b z :: L) F) : SO N c P ops Q M w1 fuel listed i m L F := fun a w hs hR => by
  unfold wpOp
  rw [hi]
  simp only [Region.wanted, if_true]
  refine .inl ?_
  unfold Oper.wp
  simp only [execOp, Instr.alloc, Sem.run_bind, ht.zero_run, Result.andThen_ok, newVar, newRow, run_newObj, Sem.run_pure]
  have hg := hR.grown (World.grownBy_alloc w (.cells (Value.agg z.toArray).cells t) none) (fun _ h => by cases h)
  exact ⟨hg, h w.heap.size hR.size _ _ ⟨hs.agree.put hd _, hs.ws.new _ t⟩ hg⟩

theorem SO.box {t : TypeId} {i d : Nat} {x : Operand} {l : List Value} (hi : ops[i]? = some ⟨some d, .box t x, ty, pos, aft, none⟩) (hx : ev m x = some (.agg l.toArray)) (hd : Nat.blt d N = true)
    (h : ∀ b, w1.heap.size ≤ b → SA N c P ops Q M w1 fuel (listed.setIfInBounds i true) ((d, .pointer (some ⟨b, 0, none⟩)) :: m) (.box b l :: L) F) : SO N c P ops Q M w1 fuel listed i m L F := fun a w hs hR => by
  unfold wpOp
  rw [hi]
  simp only [Region.wanted, if_true]
  refine .inl ?_
  unfold Oper.wp
  simp only [execOp, Instr.box, hs.agree.eval hx, Sem.run_bind, Result.andThen_ok, newVar, newRow, run_newObj, Sem.run_pure]
  have hg := hR.grown (World.grownBy_alloc w (.cells (Value.agg l.toArray).cells t) none) (fun _ h => by cases h)
  exact ⟨hg, h w.heap.size hR.size _ _ ⟨hs.agree.put hd _, hs.ws.new _ t⟩ hg⟩
end

/-! ## Steps of the state inside a region that draws -/
section
variable {N : Nat} {c : Ctx} {P : Program} {m : Ent} {L L' : List Itm} {F F' : List Fact} {Q : Exit → Act → World → Prop} {ops : Array Oper} {M : List Nat} {w1 : World} {fuel : Nat} {listed : Array Bool}
def SAK (P : Program) (ops : Array Oper) (Q : Exit → Act → World → Prop) (M : List Nat) (w1 : World) (fuel : Nat) (listed : Array Bool) : Act → World → Prop := fun a w => Rg M w1 w → wpAnyH P .any ops Q (Rg M w1) fuel listed a w
theorem SA.sp (h : SP N c (SAK P ops Q M w1 fuel listed) m L F) : SA N c P ops Q M w1 fuel listed m L F := h
theorem SP.sa (h : SA N c P ops Q M w1 fuel listed m L F) : SP N c (SAK P ops Q M w1 fuel listed) m L F := h
end

end Go.Sym
