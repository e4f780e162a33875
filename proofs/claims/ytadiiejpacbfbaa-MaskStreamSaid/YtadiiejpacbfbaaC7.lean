/- Proved here: rules of our own engine for walking a program, part 7: rows that grow by append, literals of slices, what follows from what. -/
import Derived.Test.YtadiiejpacbfbaaC6
namespace Go.Sym
open Go Go.RowKit

/-! ## Rows that grow -/

theorem arr_src {α : Type} {v : Value} {sz : Nat} {enc : α → List Value} {l : List α} {D : Nat → Prop} {w : World} (h : arrP v sz enc l D w) :
    (v = .slice none 0 0 ∧ l = []) ∨ ∃ ad cp, v = .slice (some ad) l.length cp ∧ (∀ j u, (l.flatMap enc)[j]? = some u → w.cell? (ad.add j) = some u) := by
  obtain ⟨a, cp, hv, hlc, hc, hn, hs, hcell⟩ := h
  cases a with
  | none =>
    obtain ⟨rfl, rfl⟩ := hn rfl
    exact .inl ⟨hv, rfl⟩
  | some ad =>
    refine .inr ⟨ad, cp, hv, fun j u hu => ?_⟩
    have hne : l ≠ [] := by rintro rfl; simp at hu
    obtain ⟨b, off, ha, _, _, hcells⟩ := hcell hne
    injection ha with ha
    subst ha
    rw [addr_add_lit]
    exact hcells j u hu

theorem arr_one {α : Type} {v : Value} {sz : Nat} {enc : α → List Value} {l : List α} {D : Nat → Prop} {w : World} (h : arrP v sz enc l D w) : ∀ u ∈ l.flatMap enc, u.oneCell' = true := by
  obtain ⟨a, cp, hv, hlc, hc, hn, hs, hcell⟩ := h
  intro u hu
  obtain ⟨x, hx, hux⟩ := List.mem_flatMap.1 hu
  exact (hs x hx).2 u hux

theorem arr_flat {α : Type} {v : Value} {sz : Nat} {enc : α → List Value} {l : List α} {D : Nat → Prop} {w : World} (h : arrP v sz enc l D w) : (l.flatMap enc).length = l.length * sz := by
  obtain ⟨a, cp, hv, hlc, hc, hn, hs, hcell⟩ := h
  exact flatMap_length (fun x hx => (hs x hx).1)

/-- append to an own row: where the new row lies -/
theorem append_own {P : Program} {w : World} {base t ty e sz bytes : Nat} {agg : Bool} {z : Value} (ht : SliceTy P t e) (he : Ty P e agg sz bytes z) (hzs : z.cells.size = sz) (hsz : 0 < sz)
    {v : Value} {n : Nat} {xs : List Value} (hown : w.ownsRow base e sz v n xs) (hbase : base ≤ w.heap.size) {ad : Addr} {k cp : Nat} {news : List Value} (hl : news.length = k * sz) (hnews : ∀ j u, news[j]? = some u → w.cell? (ad.add j) = some u)
    (h1 : ∀ u ∈ news, u.oneCell' = true) (h63 : n + k ≤ maxLen) (hbytes : (n + k) * bytes ≤ 140737488355328) :
    ∃ v' w', (Builtin.append_ #[t, t] ty #[v, .slice (some ad) k cp]).run P w = .ok v' w' ∧ w'.ownsRow base e sz v' (n + k) (xs ++ news) ∧ w.grownBy w' v.ownBlock ∧ (∀ b, v'.ownBlock = some b → v.ownBlock = some b ∨ w.heap.size ≤ b) := by
  obtain ⟨i, hi, hz, hs, hb⟩ := info_parts he.info
  rcases hown.2 with ⟨rfl, rfl⟩ | ⟨gg, cap, cur, rfl, hbg, hg, hnc, hcm, hcs, htake⟩
  · have hx : xs = [] := List.eq_nil_of_length_eq_zero (by simpa using hown.1)
    subst hx
    obtain ⟨v', w', hr, h2, h3, _⟩ := run_append_own (P := P) w w.heap.size t ty e i z sz bytes ht.und hi hz hs hb hzs hsz _ 0 [] (World.ownsRow_nil w w.heap.size e sz) ad k cp news hl hnews h1 h63 hbytes (Nat.le_refl _)
    exact ⟨v', w', hr, Itm.holds_mono (it := .row e sz v' (0 + k) ([] ++ news)) h2 hbase, h3, fun b hb => .inr (World.ownsRow.lt h2 b hb).1⟩
  · by_cases hroom : n + k ≤ cap
    · obtain ⟨w', hr, h2, h3⟩ := run_append_fits (P := P) w base t ty e i sz ht.und hi hs gg n cap xs hown ad k cp news hl hnews h1 hroom
      exact ⟨_, w', hr, h2, h3, fun b hb => .inl hb⟩
    · obtain ⟨v', w', hr, h2, h3⟩ := run_append_arg_grows (P := P) w t ty e i z sz bytes ht.und hi hz hs hb hzs hsz ⟨gg, 0, none⟩ n cap xs hown.1 (World.ownsRow.cells hown rfl) ad k cp news hl hnews (by omega) h63 hbytes
      refine ⟨v', w', hr, Itm.holds_mono (it := .row e sz v' (n + k) (xs ++ news)) h2 hbase, ⟨h3.os, h3.tape, h3.output, h3.size, fun k hk _ => h3.block k hk (by simp)⟩, fun b hb => .inr (World.ownsRow.lt h2 b hb).1⟩

/-- an own row is put in another's place -/
theorem WSt.row {c : Ctx} {L L' : List Itm} {F : List Fact} {w w' : World} (h : WSt c L F w) {v v' : Value} {e sz n n' : Nat} {xs xs' : List Value} (hd : DelRow L v e sz n xs L') (hr : w'.ownsRow c.w0.heap.size e sz v' n' xs')
    (hg : w.grownBy w' v.ownBlock) (hb : ∀ b, v'.ownBlock = some b → v.ownBlock = some b ∨ w.heap.size ≤ b) : WSt c (.row e sz v' n' xs' :: L') F w' := by
  have hp := h.own.perm hd.perm
  have hap := (List.pairwise_cons.1 hp.disj).1
  refine h.step hg.os hg.tape hg.output hg.size ?_ ⟨?_, ?_⟩ ?_
  · intro k hk hn
    exact hg.block k hk (fun e => hn ⟨_, hd.perm.mem_iff.2 (List.mem_cons_self ..), e.symm⟩)
  · intro it hit
    rcases List.mem_cons.1 hit with rfl | hit
    · exact hr
    · have hh := hp.holds it (List.mem_cons_of_mem _ hit)
      exact Itm.holds_same hh (fun k hk => hg.block k (Itm.holds_lt hh hk).2 (fun e => hap it (by assumption) k e.symm hk))
  · refine List.pairwise_cons.2 ⟨fun y hy k hk hyk => ?_, (List.pairwise_cons.1 hp.disj).2⟩
    rcases hb k hk with h1 | h1
    · exact hap y hy k h1 hyk
    · have := (Itm.holds_lt (hp.holds y (List.mem_cons_of_mem _ hy)) hyk).2
      omega
  · intro it hit k hk hlt
    rcases List.mem_cons.1 hit with rfl | hit
    · rcases hb k hk with h1 | h1
      · exact ⟨_, hd.perm.mem_iff.2 (List.mem_cons_self ..), h1⟩
      · omega
    · exact ⟨it, hd.perm.mem_iff.2 (List.mem_cons_of_mem _ hit), hk⟩

section
variable {N : Nat} {c : Ctx} {P : Program} {m : Ent} {L L' : List Itm} {F : List Fact} {d : Option Tmp} {ty : TypeId} {pos : String} {aft : Array Edge} {g : Option (Nat × Bool)}

theorem run_call_append (a : Act) (s x : Operand) (t : TypeId) (w : World) : (execOp a.eval ⟨d, .call { callee := .builtin .append, args := #[s, x], argTypes := #[t, t] }, ty, pos, aft, g⟩).run P w =
    ((Builtin.append_ #[t, t] ty #[a.eval s, a.eval x]).run P w).andThen fun v w' => .ok (.value v) w' := by
  simp [execOp, resolve, invoke, builtin]

/-- append to an own row, from a slice that reads as a list -/
theorem Ef.append {s x : Operand} {t e : TypeId} [ht : SliceTy P t e] {sz bytes : Nat} [he' : Elem P e sz bytes] {v u : Value} {n : Nat} {xs : List Value} {α : Type} {enc : α → List Value} {l : List α}
    (hs : ev m s = some v) [hd : DelRow L v e sz n xs L'] (hx : ev m x = some u) [hF : HasArr F u sz enc l] (hbytes : (n + l.length) * bytes ≤ 140737488355328) :
    Eff N c P ⟨d, .call { callee := .builtin .append, args := #[s, x], argTypes := #[t, t] }, ty, pos, aft, g⟩ m L F (fun v' : Value => v') v.ownBlock (fun v' => .row e sz v' (n + l.length) (xs ++ l.flatMap enc) :: L') (fun _ => F) := fun a w hs' K Q hK => by
  obtain ⟨⟨agg, z, he, hzs⟩, hsz, hby⟩ := he'
  have h63 : n + l.length ≤ maxLen := by
    have h1 : (n + l.length) * 1 ≤ (n + l.length) * bytes := Nat.mul_le_mul_left _ hby
    have : maxLen = 9223372036854775807 := rfl
    omega
  have hp := hs'.ws.own.perm hd.perm
  have hown : w.ownsRow c.w0.heap.size e sz v n xs := hp.holds _ (List.mem_cons_self ..)
  have harr : arrP u sz enc l (dom c.D0 L) w := hs'.ws.facts _ hF.mem
  obtain ⟨i, hi, hz, hs2, hb⟩ := info_parts he.info
  unfold Oper.wp
  rw [run_call_append, hs'.agree.eval hs, hs'.agree.eval hx]
  rcases arr_src harr with ⟨rfl, rfl⟩ | ⟨ad, cp, rfl, hcells⟩
  · have hr := run_append_owned_none (P := P) w c.w0.heap.size t ty e i sz ht.und hi v n xs hown
    simp only [hr, Result.andThen_ok]
    refine hK v w (World.grownBy.refl w _) ?_
    simp only [List.length_nil, Nat.add_zero, List.flatMap_nil, List.append_nil]
    exact hs'.ws.row hd hown (World.grownBy.refl w _) (fun b hb => .inl hb)
  · obtain ⟨v', w', hr, h2, h3, h4⟩ := append_own (ty := ty) ht he hzs hsz hown hs'.ws.below.size (arr_flat harr) hcells (arr_one harr) h63 hbytes (cp := cp)
    simp only [hr, Result.andThen_ok]
    exact hK v' w' h3 (hs'.ws.row hd h2 h3 h4)

/-- a value of one cell, by its form or by what is known of it -/
class One (L : List Itm) (F : List Fact) (v : Value) : Prop where
  one : ∀ base D w, Own base L w → AllF F D w → v.oneCell' = true
instance (L : List Itm) (F : List Fact) (k : IntKind) (n : Int) : One L F (.int k n) := ⟨fun _ _ _ _ _ => rfl⟩
instance (L : List Itm) (F : List Fact) (s : ByteArray) : One L F (.string s) := ⟨fun _ _ _ _ _ => rfl⟩
instance (L : List Itm) (F : List Fact) (b : Bool) : One L F (.bool b) := ⟨fun _ _ _ _ _ => rfl⟩
instance (L : List Itm) (F : List Fact) (a : Option Addr) (n k : Nat) : One L F (.slice a n k) := ⟨fun _ _ _ _ _ => rfl⟩
instance (L : List Itm) (F : List Fact) (a : Option Addr) : One L F (.pointer a) := ⟨fun _ _ _ _ _ => rfl⟩
instance (L : List Itm) (F : List Fact) (r : Option Nat) : One L F (.map r) := ⟨fun _ _ _ _ _ => rfl⟩
instance (L : List Itm) (F : List Fact) (v : Value) {α : Type} (sz : Nat) (enc : α → List Value) (l : List α) [h : HasArr F v sz enc l] : One L F v := ⟨fun _ D w _ hF => by
  obtain ⟨_, _, hv, _⟩ := hF _ h.mem
  subst hv
  rfl⟩
instance (L : List Itm) (F : List Fact) (v : Value) (e sz n : Nat) (xs : List Value) [h : HasRow L v e sz n xs] : One L F v := ⟨fun _ _ w hO _ => by
  obtain ⟨_, _, hv, _⟩ := row_shape (hO.holds _ h.mem)
  subst hv
  rfl⟩
class Ones (L : List Itm) (F : List Fact) (l : List Value) : Prop where
  ones : ∀ base D w, Own base L w → AllF F D w → ∀ v ∈ l, v.oneCell' = true
instance (L : List Itm) (F : List Fact) : Ones L F [] := ⟨fun _ _ _ _ _ _ h => by cases h⟩
instance (L : List Itm) (F : List Fact) (v : Value) (l : List Value) [h : One L F v] [k : Ones L F l] : Ones L F (v :: l) := ⟨fun base D w hO hF u hu => by
  rcases List.mem_cons.1 hu with rfl | hu
  · exact h.one base D w hO hF
  · exact k.ones base D w hO hF u hu⟩

/-- one cell of a box is written -/
theorem Ef.put1 {t : TypeId} {bytes : Nat} {z : Value} [ht : Ty P t false 1 bytes z] {x y : Operand} {b o : Nat} {cs cs' : List Value} {v : Value} (hx : ev m x = some (.pointer (some ⟨b, o, none⟩))) (hy : ev m y = some v)
    [h1 : One L F v] [hd : DelBox L b cs L'] (hfit : Nat.blt o cs.length = true) [hcs : SetAt cs o v cs'] :
    Eff N c P ⟨d, .store t x y, ty, pos, aft, g⟩ m L F (fun _ : Unit => undef) (some b) (fun _ => .box b cs' :: L') (fun _ => F) := fun a w hs K Q hK =>
  Ef.store1 hx hy (h1.one _ _ _ hs.ws.own hs.ws.facts) hfit a w hs K Q hK
/-- a whole box is written -/
theorem Ef.putW {t : TypeId} {sz bytes : Nat} {z : Value} [ht : Ty P t true sz bytes z] {x y : Operand} {b : Nat} {cs l : List Value} (hx : ev m x = some (.pointer (some ⟨b, 0, none⟩))) (hy : ev m y = some (.agg l.toArray))
    [hd : DelBox L b cs L'] [h1 : Ones L F l] (hsz : Nat.beq l.length sz = true) (hfit : Nat.beq cs.length sz = true) :
    Eff N c P ⟨d, .store t x y, ty, pos, aft, g⟩ m L F (fun _ : Unit => undef) (some b) (fun _ => .box b l :: L') (fun _ => F) := fun a w hs K Q hK =>
  Ef.storeW hx hy (List.all_eq_true.2 (h1.ones _ _ _ hs.ws.own hs.ws.facts)) hsz hfit a w hs K Q hK

/-- a nil slice may be taken for an own row -/
theorem SP.nilRow {K : Act → World → Prop} (e sz : Nat) (h : SP N c K m (.row e sz (.slice none 0 0) 0 [] :: L) F) : SP N c K m L F := fun a w hs => h a w ⟨hs.agree, by
  refine hs.ws.step rfl rfl rfl (Nat.le_refl _) (fun _ _ _ => rfl) ⟨?_, ?_⟩ ?_
  · intro it hit
    rcases List.mem_cons.1 hit with rfl | hit
    · exact World.ownsRow_nil _ _ _ _
    · exact hs.ws.own.holds it hit
  · exact List.pairwise_cons.2 ⟨fun y _ k hk _ => by simp [Itm.blk, Value.ownBlock] at hk, hs.ws.own.disj⟩
  · intro it hit k hk _
    rcases List.mem_cons.1 hit with rfl | hit
    · simp [Itm.blk, Value.ownBlock] at hk
    · exact ⟨it, hit, hk⟩⟩

theorem SP.rowEq {K : Act → World → Prop} {v : Value} {e sz n : Nat} {xs : List Value} [hd : DelRow L v e sz n xs L'] (n' : Nat) (xs' : List Value) (hn : n = n') (hx : xs = xs') (h : SP N c K m (.row e sz v n' xs' :: L') F) : SP N c K m L F := by
  subst hn; subst hx
  exact fun a w hs => h a w ⟨hs.agree, ⟨hs.ws.d0, hs.ws.below, hs.ws.own.perm hd.perm, hs.ws.facts.mono (Nxt.less (by
    rintro k (h0 | ⟨it, hit, hb⟩)
    · exact .inl h0
    · exact .inr ⟨it, hd.perm.mem_iff.2 hit, hb⟩))⟩⟩

/-- what is owned is written no more: a row -/
theorem SP.rowGive {K : Act → World → Prop} (v : Value) {e sz n : Nat} {xs : List Value} [hd : DelRow L v e sz n xs L'] {α : Type} (enc : α → List Value) (l : List α) (hl : l.length = n) (hx : xs = l.flatMap enc) (h1 : ∀ x ∈ l, (enc x).length = sz ∧ ∀ u ∈ enc x, u.oneCell' = true) (h : SP N c K m L' (Fact.arr v sz enc l :: F)) : SP N c K m L F := fun a w hs => by
  have hp := hs.ws.own.perm hd.perm
  have hown : w.ownsRow c.w0.heap.size e sz v n xs := hp.holds _ (List.mem_cons_self ..)
  have hw := hs.ws.less (L' := L') (F' := F) ⟨[.row e sz v n xs], hd.perm.trans (List.perm_append_comm (l₁ := [Itm.row e sz v n xs]) (l₂ := L'))⟩ (Ents.refl F)
  refine h a w ⟨hs.agree, hw.d0, hw.below, hw.own, AllF.cons ?_ hw.facts⟩
  subst hl
  rcases hown.2 with ⟨rfl, h0⟩ | ⟨gg, cap, cur, rfl, hbg, hg, hnc, hcm, hcs, htake⟩
  · have hl0 : l = [] := List.eq_nil_of_length_eq_zero h0
    subst hl0
    exact ⟨none, 0, rfl, Nat.le_refl _, by simp [maxLen], fun _ => ⟨rfl, rfl⟩, h1, fun h => absurd rfl h⟩
  · refine ⟨_, cap, rfl, hnc, hcm, (fun h => by cases h), h1, fun _ => ⟨gg, 0, rfl, (Array.getElem?_eq_some_iff.1 hg).1, ?_, ?_⟩⟩
    · rintro (h0 | ⟨it, hit, hb⟩)
      · have := hs.ws.d0 gg h0
        omega
      · exact (List.pairwise_cons.1 hp.disj).1 it hit gg rfl hb
    · intro j u hu
      rw [Nat.zero_add, cell_of_row w gg j cur e (0, 0) hg, ← Array.getElem?_toList]
      rw [← hx, ← htake, List.getElem?_take] at hu
      split at hu
      · exact hu
      · cases hu

/-- a box -/
theorem SP.boxGive {K : Act → World → Prop} (b : Nat) {cs : List Value} [hd : DelBox L b cs L'] (h : SP N c K m L' (Fact.box b cs :: F)) : SP N c K m L F := fun a w hs => by
  have hp := hs.ws.own.perm hd.perm
  obtain ⟨hb, e, he⟩ := hp.holds _ (List.mem_cons_self ..)
  have hw := hs.ws.less (L' := L') (F' := F) ⟨[.box b cs], hd.perm.trans (List.perm_append_comm (l₁ := [Itm.box b cs]) (l₂ := L'))⟩ (Ents.refl F)
  refine h a w ⟨hs.agree, hw.d0, hw.below, hw.own, AllF.cons ⟨?_, e, he⟩ hw.facts⟩
  rintro (h0 | ⟨it, hit, hk⟩)
  · have := hs.ws.d0 b h0
    omega
  · exact (List.pairwise_cons.1 hp.disj).1 it hit b rfl hk

/-! ### a slice's literal -/

/-- as it stands: each element by its cells -/
def raw : List Value → List Value := fun cs => cs

theorem zip_parts {f : Operand → Value} : ∀ (ps : List (Nat × Operand)), ps.map (fun (i, x) => (i, f x)) = (ps.map (·.1)).zip ((ps.map (·.2)).map f)
  | [] => rfl
  | p :: ps => by
    have := zip_parts (f := f) ps
    simp only [List.map_cons, List.zip_cons_cons, this]

theorem foldl_put : ∀ (l : List Value) (i off : Nat) (cs : Array Value), off + i + l.length ≤ cs.size →
    (l.zipIdx i).foldl (fun cs (x : Value × Nat) => cs.setIfInBounds (off + x.2) x.1) cs = (cs.toList.take (off + i) ++ l ++ cs.toList.drop (off + i + l.length)).toArray
  | [], i, off, cs, _ => by simp
  | v :: l, i, off, cs, h => by
    simp only [List.length_cons] at h
    rw [List.zipIdx_cons, List.foldl_cons, foldl_put l (i + 1) off _ (by simp; omega)]
    apply congrArg List.toArray
    have hlt : off + i < cs.toList.length := by simp; omega
    simp only [Array.toList_setIfInBounds, List.length_cons]
    rw [show off + (i + 1) = off + i + 1 from by omega, show off + i + 1 + l.length = off + i + (l.length + 1) from by omega]
    rw [List.take_set, List.drop_set_of_lt (by omega), List.take_succ_eq_append_getElem hlt, List.set_append_right _ _ (by simp; omega)]
    have hmin : off + i - min (off + i) cs.size = 0 := by omega
    simp [hmin]

theorem fill_seq (sz : Nat) : ∀ (vs : List Value) (k : Nat) (cells : Array Value), (∀ v ∈ vs, v.cells.size = sz) → cells.size = (k + vs.length) * sz →
    Instr.fill (fun i => some (i * sz, sz)) cells ((List.range' k vs.length).zip vs) = some (cells.toList.take (k * sz) ++ vs.flatMap fun v => v.cells.toList).toArray
  | [], k, cells, _, hc => by
    simp only [List.length_nil, Nat.add_zero] at hc
    simp only [List.length_nil, List.range'_zero, List.zip_nil_left, Instr.fill, List.flatMap_nil, List.append_nil, Option.some.injEq]
    rw [List.take_of_length_le (by simp; omega)]
  | v :: vs, k, cells, hs, hc => by
    have hv := hs v (by simp)
    have hfit : ¬ (k * sz + v.cells.size > cells.size) := by
      rw [hc, hv, List.length_cons, show (k + (vs.length + 1)) = (k + 1) + vs.length from by omega, Nat.add_mul, Nat.add_mul]; omega
    rw [List.length_cons, List.range'_succ, List.zip_cons_cons]
    unfold Instr.fill
    simp only [hv, ne_eq, not_true_eq_false, decide_false, Bool.false_or, decide_eq_true_eq]
    rw [hv] at hfit
    rw [if_neg hfit]
    have hfold : v.cells.zipIdx.foldl (fun cs (x : Value × Nat) => cs.setIfInBounds (k * sz + x.2) x.1) cells = (cells.toList.take (k * sz) ++ v.cells.toList ++ cells.toList.drop (k * sz + sz)).toArray := by
      rw [← Array.foldl_toList, Array.toList_zipIdx]
      have := foldl_put v.cells.toList 0 (k * sz) cells (by simp [hv]; omega)
      rw [this]
      simp [hv]
    rw [hfold]
    have hle : k * sz + sz ≤ cells.size := by omega
    rw [fill_seq sz vs (k + 1) _ (fun u hu => hs u (List.mem_cons_of_mem _ hu)) (by
      simp [hv]
      rw [hc, List.length_cons, show (k + (vs.length + 1)) = (k + 1) + vs.length from by omega] at *
      simp only [Nat.add_mul] at *
      omega)]
    congr 2
    have h1 : (cells.toList.take (k * sz)).length = k * sz := by simp; omega
    rw [List.flatMap_cons, List.append_assoc (cells.toList.take (k * sz)), List.take_append, h1, List.take_of_length_le (by rw [h1, Nat.add_mul]; omega), List.append_assoc]
    congr 1
    rw [show (k + 1) * sz - k * sz = sz from by rw [Nat.add_mul]; omega, List.take_append_of_le_length (by simp [hv]), List.take_of_length_le (by simp [hv])]

theorem Value.cells1 {v : Value} (h : v.oneCell' = true) : v.cells.toList = [v] := by rw [Value.cells_one h]

theorem fill_run {e sz bytes : Nat} {agg : Bool} {z : Value} {t : TypeId} {w : World} (ht : SliceTy P t e) (he : Ty P e agg sz bytes z) {n : Nat} {parts : List (Nat × Value)} {cells : Array Value} (hn : n * sz ≤ 2 ^ 24) (hpos : ¬ n * sz = 0)
    (hfill : Instr.fill (fun i => some (i * sz, sz)) ((Array.range (n * sz)).map (z.cells[· % z.cells.size]!)) parts = some cells) :
    (Instr.buildSlice t n parts.toArray).run P w = .ok (.slice (some ⟨w.heap.size, 0, none⟩) n n) (w.alloc (.cells cells e)) := by
  have hn' : ¬ 16777216 < n * sz := by omega
  simp [Instr.buildSlice, run_underlying ht.und, he.sizeOf_run, he.zero_run, hn', hpos, hfill, newRow]

theorem Ef.slice1 {t e : TypeId} [ht : SliceTy P t e] {sz bytes : Nat} [he' : Elem P e sz bytes] {n : Nat} {parts : List (Nat × Operand)} {vs : List Value} {α : Type} (enc : α → List Value) (l : List α)
    (hx : evl m (parts.map (·.2)) = some vs) (hi : parts.map (·.1) = List.range' 0 n) (hlen : Nat.beq vs.length n = true) (hn : Nat.ble (n * sz) 16777216 = true) (hpos : Nat.blt 0 n = true) (hv : vs.map (fun v => v.cells.toList) = l.map enc)
    (h1 : ∀ x ∈ l, (enc x).length = sz ∧ ∀ u ∈ enc x, u.oneCell' = true) :
    Eff N c P ⟨d, .buildSlice t n parts.toArray, ty, pos, aft, g⟩ m L F (fun b : Nat => .slice (some ⟨b, 0, none⟩) n n) none (fun _ => L) (fun b => Fact.arr (.slice (some ⟨b, 0, none⟩) n n) sz enc l :: F) := fun a w hs K Q hK => by
  obtain ⟨⟨agg, z, he, hzs⟩, hsz, _⟩ := he'
  have hlen : vs.length = n := Nat.eq_of_beq_eq_true hlen
  have hn : n * sz ≤ 2 ^ 24 := Nat.le_of_ble_eq_true hn
  have hn0 : 0 < n := by simpa using hpos
  have hpos : ¬ n * sz = 0 := Nat.ne_of_gt (Nat.mul_pos hn0 hsz)
  have hll : l.length = n := by
    have := congrArg List.length hv
    simp at this
    omega
  have hflat : (vs.flatMap fun v => v.cells.toList) = l.flatMap enc := by rw [List.flatMap_def, List.flatMap_def, hv]
  have hsizes : ∀ v ∈ vs, v.cells.size = sz := fun v hvm => by
    have : v.cells.toList ∈ vs.map (fun v => v.cells.toList) := List.mem_map_of_mem hvm
    rw [hv] at this
    obtain ⟨x, hx, hxe⟩ := List.mem_map.1 this
    rw [← Array.length_toList, ← hxe]
    exact (h1 x hx).1
  have hfill : Instr.fill (fun i => some (i * sz, sz)) ((Array.range (n * sz)).map (z.cells[· % z.cells.size]!)) ((parts.map (·.1)).zip vs) = some (l.flatMap enc).toArray := by
    rw [hi, ← hlen, fill_seq sz vs 0 _ hsizes (by simp)]
    simp [hflat]
  have hps : (parts.toArray.map fun (i, x) => (i, a.eval x)) = ((parts.map (·.1)).zip vs).toArray := by
    rw [← evl_spec hs.agree hx]
    rw [List.map_toArray, zip_parts]
  unfold Oper.wp
  simp only [execOp, hps, Sem.run_bind, fill_run ht he hn hpos hfill, Result.andThen_ok, Sem.run_pure]
  have hw := hs.ws.newF (l.flatMap enc).toArray e
  refine hK w.heap.size _ (World.grownBy_alloc w _ none) ⟨hw.d0, hw.below, hw.own, AllF.cons ?_ (fun f hf => hw.facts f (List.mem_cons_of_mem _ hf))⟩
  obtain ⟨h2, e', h3⟩ := hw.facts _ (List.mem_cons_self ..)
  subst hll
  have hnb : l.length ≤ maxLen := by
    have : maxLen = 9223372036854775807 := rfl
    have h16 : l.length * 1 ≤ l.length * sz := Nat.mul_le_mul_left _ hsz
    omega
  refine ⟨_, _, rfl, Nat.le_refl _, hnb, (fun h => by cases h), h1, fun _ => ⟨w.heap.size, 0, rfl, by simp, h2, fun j u hu => ?_⟩⟩
  rw [Nat.zero_add, cell_of_row _ _ j _ e' (0, 0) h3]
  simpa using hu

/-- an empty one: an own row -/
theorem Ef.slice0 {t e : TypeId} [ht : SliceTy P t e] {agg : Bool} {sz bytes : Nat} {z : Value} [he : Ty P e agg sz bytes z] :
    Eff N c P ⟨d, .buildSlice t 0 #[], ty, pos, aft, g⟩ m L F (fun v : Value => v) none (fun v => .row e sz v 0 [] :: L) (fun _ => F) := fun a w hs K Q hK => by
  unfold Oper.wp
  have hr : (Instr.buildSlice t 0 #[]).run P w = .ok (.slice (some ⟨w.heap.size, 0, none⟩) 0 0) (w.alloc (.cells #[] e)) := by
    simp [Instr.buildSlice, run_underlying ht.und, he.sizeOf_run, newRow, Instr.fill, show Array.range 0 = #[] from rfl]
  have he : (#[] : Array (Nat × Operand)).map (fun (i, x) => (i, a.eval x)) = #[] := by simp
  simp only [execOp, he, Sem.run_bind, hr, Result.andThen_ok, Sem.run_pure]
  have hw := hs.ws.new #[] e
  refine hK _ _ (World.grownBy_alloc w _ none) ⟨hw.d0, hw.below, ⟨?_, ?_⟩, hw.facts.mono (Nxt.less ?_)⟩
  · intro it hit
    rcases List.mem_cons.1 hit with rfl | hit
    · exact World.ownsRow_made w #[] 0 hs.ws.below.size (by simp [maxLen]) (by simp)
    · exact hw.own.holds it (List.mem_cons_of_mem _ hit)
  · exact List.pairwise_cons.2 ⟨fun y hy k hk => (List.pairwise_cons.1 hw.own.disj).1 y hy k hk, (List.pairwise_cons.1 hw.own.disj).2⟩
  · rintro k (h0 | ⟨it, hit, hb⟩)
    · exact .inl h0
    · rcases List.mem_cons.1 hit with rfl | hit
      · exact .inr ⟨_, List.mem_cons_self .., hb⟩
      · exact .inr ⟨it, List.mem_cons_of_mem _ hit, hb⟩
end

/-! ### what follows from what -/

/-- the same list by another coding -/
theorem arr_recode {α β : Type} {v : Value} {sz : Nat} {enc : α → List Value} {l : List α} {enc' : β → List Value} {l' : List β} {F : List Fact} [h : HasArr F v sz enc l] (he : l'.map enc' = l.map enc) : Ent1 F (Fact.arr v sz enc' l') := fun D w hF => by
  obtain ⟨a, cp, hv, hlc, hc, hn, hs, hcell⟩ := hF _ h.mem
  have hlen : l'.length = l.length := by simpa using congrArg List.length he
  have hfl : l'.flatMap enc' = l.flatMap enc := by
    rw [List.flatMap_def, List.flatMap_def, he]
  refine ⟨a, cp, by rw [hv, hlen], by omega, hc, fun ha => ⟨?_, (hn ha).2⟩, ?_, fun hne => ?_⟩
  · exact List.eq_nil_of_length_eq_zero (by rw [hlen, (hn ha).1]; rfl)
  · intro x hx
    have : enc' x ∈ l'.map enc' := List.mem_map_of_mem hx
    rw [he] at this
    obtain ⟨y, hy, hyx⟩ := List.mem_map.1 this
    rw [← hyx]
    exact hs y hy
  · rw [hfl]
    exact hcell (fun h0 => hne (List.eq_nil_of_length_eq_zero (by rw [hlen, h0]; rfl)))

theorem arr_nil {α : Type} {sz : Nat} {enc : α → List Value} {F : List Fact} : Ent1 F (Fact.arr (.slice none 0 0) sz enc []) := fun D w _ =>
  ⟨none, 0, rfl, Nat.le_refl _, by simp [maxLen], fun _ => ⟨rfl, rfl⟩, (fun x hx => by cases hx), fun h => absurd rfl h⟩

end Go.Sym
namespace Go.Sym
open Go Go.RowKit

/-! ### nil -/

def isNilV : Value → Bool
  | .slice a _ _ => a.isNone
  | _ => false

section
variable {N : Nat} {c : Ctx} {P : Program} {m : Ent} {L L' : List Itm} {F : List Fact} {d : Option Tmp} {ty : TypeId} {pos : String} {aft : Array Edge} {g : Option (Nat × Bool)}
theorem Y.eqlNilA {x : Operand} {v : Value} {t t' e : TypeId} [ht : SliceTy P t e] {α : Type} {sz : Nat} {enc : α → List Value} {l : List α} (hx : ev m x = some v) [hF : HasArr F v sz enc l] :
    Yld N c P ⟨d, .binOp .eql t x (.const (.slice none 0 0)) t', ty, pos, aft, g⟩ m L F (.bool (isNilV v)) := fun a w h => by
  obtain ⟨ad, cap, hv, _⟩ := h.ws.facts _ hF.mem
  subst hv
  have hc : a.eval (.const (.slice none 0 0)) = .slice none 0 0 := rfl
  simp [execOp, h.agree.eval hx, hc, eqGuard, Lib.run_eql_slice_nil w t e _ _ _ 0 0 ht.und, isNilV]

theorem arr_nilv {α : Type} {sz : Nat} {enc : α → List Value} {l : List α} {v : Value} [h : HasArr F v sz enc l] (hn : isNilV v = true) : Ent1 F (Fact.pure (v = .slice none 0 0 ∧ l = [])) := fun D w hF => by
  obtain ⟨a, cp, hv, hlc, hc, hna, _⟩ := hF _ h.mem
  subst hv
  simp only [isNilV, Option.isNone_iff_eq_none] at hn
  obtain ⟨rfl, rfl⟩ := hna hn
  subst hn
  exact ⟨rfl, rfl⟩
end

/-! ### codings -/
def encI (n : Int) : List Value := [.int .i64 n]
def encB (n : Int) : List Value := [.int .u8 n]
def encV (v : Value) : List Value := [v]
def encS (s : ByteArray) : List Value := [.string s]

theorem encI_ok (l : List Int) : ∀ x ∈ l, (encI x).length = 1 ∧ ∀ u ∈ encI x, u.oneCell' = true := fun x _ => ⟨rfl, fun u hu => by simp [encI] at hu; subst hu; rfl⟩
theorem encB_ok (l : List Int) : ∀ x ∈ l, (encB x).length = 1 ∧ ∀ u ∈ encB x, u.oneCell' = true := fun x _ => ⟨rfl, fun u hu => by simp [encB] at hu; subst hu; rfl⟩
theorem encV_ok (l : List Value) (h : ∀ u ∈ l, u.oneCell' = true) : ∀ x ∈ l, (encV x).length = 1 ∧ ∀ u ∈ encV x, u.oneCell' = true := fun x hx => ⟨rfl, fun u hu => by simp [encV] at hu; subst hu; exact h u hx⟩
theorem arr_one1 {α : Type} {sz : Nat} {enc : α → List Value} {l : List α} {F : List Fact} (v : Value) [h : HasArr F v sz enc l] : Ent1 F (Fact.pure (v.oneCell' = true)) := fun D w hF => by
  obtain ⟨a, cp, hv, _⟩ := hF _ h.mem
  subst hv
  rfl
theorem encS_ok (l : List ByteArray) : ∀ x ∈ l, (encS x).length = 1 ∧ ∀ u ∈ encS x, u.oneCell' = true := fun x _ => ⟨rfl, fun u hu => by simp [encS] at hu; subst hu; rfl⟩

end Go.Sym
