/- Proved here: rules of our own engine for walking a program, part 5: regions, in the order of the text and in any order. -/
import Derived.Test.YtadiiejpacbfbaaC4
namespace Go.Sym
open Go Go.RowKit

/-! ## Operations that make or write memory -/

def Eff (N : Nat) (c : Ctx) (P : Program) (o : Oper) (m : Ent) (L : List Itm) (F : List Fact) {X : Type} (val : X → Value) (wr : Option Nat) (Lx : X → List Itm) (Fx : X → List Fact) : Prop :=
  ∀ a w, St N c m L F a w → ∀ (K : Act → World → Prop) (Q : Exit → Act → World → Prop), (∀ x w', w.grownBy w' wr → WSt c (Lx x) (Fx x) w' → K (a.put o.dst (val x)) w') → o.wp P a w K Q

theorem Yld.eff {N : Nat} {c : Ctx} {P : Program} {o : Oper} {m : Ent} {L : List Itm} {F : List Fact} {v : Value} (h : Yld N c P o m L F v) :
    Eff N c P o m L F (fun _ : Unit => v) none (fun _ => L) (fun _ => F) := fun a w hs K Q hK => by
  unfold Oper.wp
  rw [h a w hs]
  exact hK () w (World.grownBy.refl w none) hs.ws

section
variable {N : Nat} {c : Ctx} {P : Program} {m : Ent} {L : List Itm} {F : List Fact} {Q : Exit → Act → World → Prop} {ops : Array Oper} {rest : List Oper} {op : Op} {ty : TypeId} {pos : String} {aft : Array Edge}

/-! ### in the order of the text -/

theorem SL.nil (h : SP N c (Q .normal) m L F) : SP N c (wpList P ops Q []) m L F := h

theorem SL.q {d : Nat} {v : Value} (hy : Yld N c P ⟨some d, op, ty, pos, aft, none⟩ m L F v) (hd : Nat.blt d N = true) (h : SP N c (wpList P ops Q rest) ((d, v) :: m) L F) :
    SP N c (wpList P ops Q (⟨some d, op, ty, pos, aft, none⟩ :: rest)) m L F := fun a w hs => by
  refine wpList_plain rfl fun K hK => ?_
  unfold Oper.wp
  rw [hy a w hs]
  exact hK _ _ (h _ _ ⟨hs.agree.put hd v, hs.ws⟩)

theorem SL.l {d : Nat} {X : Type} {val : X → Value} {wr : Option Nat} {Lx : X → List Itm} {Fx : X → List Fact} (he : Eff N c P ⟨some d, op, ty, pos, aft, none⟩ m L F val wr Lx Fx) (hd : Nat.blt d N = true)
    (h : ∀ x, SP N c (wpList P ops Q rest) ((d, val x) :: m) (Lx x) (Fx x)) : SP N c (wpList P ops Q (⟨some d, op, ty, pos, aft, none⟩ :: rest)) m L F := fun a w hs => by
  refine wpList_plain rfl fun K hK => ?_
  exact he a w hs K Q (fun x w' _ hw => hK _ _ (h x _ _ ⟨hs.agree.put hd _, hw⟩))

theorem SL.s {X : Type} {val : X → Value} {wr : Option Nat} {Lx : X → List Itm} {Fx : X → List Fact} (he : Eff N c P ⟨none, op, ty, pos, aft, none⟩ m L F val wr Lx Fx)
    (h : ∀ x, SP N c (wpList P ops Q rest) m (Lx x) (Fx x)) : SP N c (wpList P ops Q (⟨none, op, ty, pos, aft, none⟩ :: rest)) m L F := fun a w hs => by
  refine wpList_plain rfl fun K hK => ?_
  exact he a w hs K Q (fun x w' _ hw => hK _ _ (h x _ _ ⟨hs.agree, hw⟩))

theorem yielded_of {a : Act} (hA : Agree N m a) {j t : Nat} {v : Value} (hj : (ops[j]?).bind (·.dst) = some t) (ht : get m t = some v) : yielded ops a.tmps j = match v with | .bool b => some b | _ => none := by
  have h1 := hA.val t v ht
  have h2 : (a.tmps[t]? : Option Value) = some v ∨ (a.tmps[t]? = none ∧ v = undef) := by
    rw [Array.getD_eq_getD_getElem?] at h1
    cases h : a.tmps[t]? with
    | none => rw [h] at h1; exact .inr ⟨rfl, h1.symm⟩
    | some u => rw [h] at h1; exact .inl (by rw [← h1]; rfl)
  unfold yielded
  rw [hj]
  simp only [Option.bind_some]
  rcases h2 with h2 | ⟨h2, rfl⟩
  · rw [h2]; cases v <;> rfl
  · rw [h2]; rfl

theorem wanted_on {a : Act} (hA : Agree N m a) {d : Option Nat} {j t : Nat} {b : Bool} (hj : (ops[j]?).bind (·.dst) = some t) (ht : get m t = some (.bool b)) :
    Region.wanted ⟨d, op, ty, pos, aft, some (j, b)⟩ (yielded ops a.tmps) = true := by
  have := yielded_of hA hj ht
  simp [Region.wanted, this]

theorem wanted_off {a : Act} (hA : Agree N m a) {d : Option Nat} {j t : Nat} {b : Bool} {v : Value} (hj : (ops[j]?).bind (·.dst) = some t) (ht : get m t = some v) (hv : v = .bool (!b) ∨ v = undef) :
    Region.wanted ⟨d, op, ty, pos, aft, some (j, b)⟩ (yielded ops a.tmps) = false := by
  have := yielded_of hA hj ht
  rcases hv with rfl | rfl
  · simp only at this
    cases b <;> simp [Region.wanted, this]
  · simp only [undef] at this
    simp [Region.wanted, this]

theorem SL.on {d : Option Nat} {j t : Nat} {b : Bool} {v : Value} (hj : (ops[j]?).bind (·.dst) = some t) (ht : get m t = some v) (hv : v = .bool b) (h : SP N c (wpList P ops Q (⟨d, op, ty, pos, aft, none⟩ :: rest)) m L F) :
    SP N c (wpList P ops Q (⟨d, op, ty, pos, aft, some (j, b)⟩ :: rest)) m L F := fun a w hs => by
  have h0 := h a w hs
  unfold wpList at h0 ⊢
  subst hv
  rw [if_pos (wanted_on hs.agree hj ht)]
  rw [if_pos (by rfl)] at h0
  exact h0

theorem SL.off {d j t : Nat} {b : Bool} {v : Value} (hj : (ops[j]?).bind (·.dst) = some t) (ht : get m t = some v) (hv : v = .bool (!b) ∨ v = undef) (hd : Nat.blt d N = true) (h : SP N c (wpList P ops Q rest) ((d, undef) :: m) L F) :
    SP N c (wpList P ops Q (⟨some d, op, ty, pos, aft, some (j, b)⟩ :: rest)) m L F := fun a w hs => by
  unfold wpList
  rw [if_neg (by rw [wanted_off hs.agree hj ht hv]; simp)]
  exact h _ _ ⟨hs.agree.put hd _, hs.ws⟩

theorem SL.offT {d j t : Nat} {v : Value} (hj : (ops[j]?).bind (·.dst) = some t) (ht : get m t = some v) (hv : v = .bool false) (hd : Nat.blt d N = true) (h : SP N c (wpList P ops Q rest) ((d, undef) :: m) L F) :
    SP N c (wpList P ops Q (⟨some d, op, ty, pos, aft, some (j, true)⟩ :: rest)) m L F := SL.off hj ht (.inl hv) hd h
theorem SL.offF {d j t : Nat} {v : Value} (hj : (ops[j]?).bind (·.dst) = some t) (ht : get m t = some v) (hv : v = .bool true) (hd : Nat.blt d N = true) (h : SP N c (wpList P ops Q rest) ((d, undef) :: m) L F) :
    SP N c (wpList P ops Q (⟨some d, op, ty, pos, aft, some (j, false)⟩ :: rest)) m L F := SL.off hj ht (.inl hv) hd h
theorem SL.offU {d j t : Nat} {b : Bool} {v : Value} (hj : (ops[j]?).bind (·.dst) = some t) (ht : get m t = some v) (hv : v = undef) (hd : Nat.blt d N = true) (h : SP N c (wpList P ops Q rest) ((d, undef) :: m) L F) :
    SP N c (wpList P ops Q (⟨some d, op, ty, pos, aft, some (j, b)⟩ :: rest)) m L F := SL.off hj ht (.inr hv) hd h
theorem SL.ifD {d : Option Nat} {j t : Nat} {b : Bool} {r : Prop} [Decidable r] (hj : (ops[j]?).bind (·.dst) = some t) (ht : get m t = some (.bool (decide r)))
    (h1 : r → SP N c (wpList P ops Q (⟨d, op, ty, pos, aft, some (j, b)⟩ :: rest)) ((t, .bool true) :: m) L F) (h2 : ¬ r → SP N c (wpList P ops Q (⟨d, op, ty, pos, aft, some (j, b)⟩ :: rest)) ((t, .bool false) :: m) L F) :
    SP N c (wpList P ops Q (⟨d, op, ty, pos, aft, some (j, b)⟩ :: rest)) m L F := by
  have := hj
  exact SP.ifD ht h1 h2
theorem SL.ifB {d : Option Nat} {j t : Nat} {b b' : Bool} (hj : (ops[j]?).bind (·.dst) = some t) (ht : get m t = some (.bool b'))
    (h1 : b' = true → SP N c (wpList P ops Q (⟨d, op, ty, pos, aft, some (j, b)⟩ :: rest)) ((t, .bool true) :: m) L F) (h2 : b' = false → SP N c (wpList P ops Q (⟨d, op, ty, pos, aft, some (j, b)⟩ :: rest)) ((t, .bool false) :: m) L F) :
    SP N c (wpList P ops Q (⟨d, op, ty, pos, aft, some (j, b)⟩ :: rest)) m L F := by
  have := hj
  exact SP.ifB ht h1 h2

/-! ### in whatever order -/

structure Rg (M : List Nat) (w w' : World) : Prop where
  os : w'.os = w.os
  tape : w'.tape = w.tape
  output : w'.output = w.output
  size : w.heap.size ≤ w'.heap.size
  block : ∀ k, k < w.heap.size → k ∉ M → w'.heap[k]? = w.heap[k]?

theorem Rg.refl (M : List Nat) (w : World) : Rg M w w := ⟨rfl, rfl, rfl, Nat.le_refl _, fun _ _ _ => rfl⟩

theorem Rg.grown {M : List Nat} {w1 w w' : World} {wr : Option Nat} (h : Rg M w1 w) (hg : w.grownBy w' wr) (hw : ∀ b, wr = some b → b ∈ M ∨ w1.heap.size ≤ b) : Rg M w1 w' :=
  ⟨hg.os.trans h.os, hg.tape.trans h.tape, hg.output.trans h.output, Nat.le_trans h.size hg.size, fun k hk hM =>
    (hg.block k (Nat.lt_of_lt_of_le hk h.size) (fun e => by
      rcases hw k e.symm with h1 | h1
      · exact hM h1
      · omega)).trans (h.block k hk hM)⟩

def SA (N : Nat) (c : Ctx) (P : Program) (ops : Array Oper) (Q : Exit → Act → World → Prop) (M : List Nat) (w1 : World) (fuel : Nat) (listed : Array Bool) (m : Ent) (L : List Itm) (F : List Fact) : Prop :=
  ∀ a w, St N c m L F a w → Rg M w1 w → wpAnyH P .any ops Q (Rg M w1) fuel listed a w

def SO (N : Nat) (c : Ctx) (P : Program) (ops : Array Oper) (Q : Exit → Act → World → Prop) (M : List Nat) (w1 : World) (fuel : Nat) (listed : Array Bool) (i : Nat) (m : Ent) (L : List Itm) (F : List Fact) : Prop :=
  ∀ a w, St N c m L F a w → Rg M w1 w → wpOp P ops Q i (fun a' w' => Rg M w1 w' ∧ wpAnyH P .any ops Q (Rg M w1) fuel (listed.setIfInBounds i true) a' w') a w

/-- what holds in each world that the region can come to -/
def Stays (c : Ctx) (M : List Nat) (w1 : World) (Ls : List Itm) (Fs : List Fact) : Prop := ∀ w, Rg M w1 w → WSt c Ls Fs w

def blks (L : List Itm) : List Nat := L.filterMap Itm.blk

theorem WSt.stays {w1 : World} (h : WSt c L F w1) {Lm Ls : List Itm} (hp : L.Perm (Lm ++ Ls)) : Stays c (blks Lm) w1 Ls F := fun w hR => by
  have ho := h.own.perm hp
  have hmem : ∀ it, it ∈ L ↔ it ∈ Lm ∨ it ∈ Ls := fun it => by rw [hp.mem_iff, List.mem_append]
  have hap : ∀ x ∈ Lm, ∀ y ∈ Ls, Apart x y := fun x hx y hy => (List.pairwise_append.1 ho.disj).2.2 x hx y hy
  have hb : ∀ it ∈ Ls, ∀ k, it.blk = some k → w.heap[k]? = w1.heap[k]? := fun it hit k hk => by
    refine hR.block k (Itm.holds_lt (h.own.holds it ((hmem it).2 (.inr hit))) hk).2 ?_
    intro hmem
    obtain ⟨y, hy, hyk⟩ := List.mem_filterMap.1 hmem
    exact hap y hy it hit k hyk hk
  refine ⟨h.d0, ?_, ⟨fun it hit => Itm.holds_same (h.own.holds it ((hmem it).2 (.inr hit))) (hb it hit), (List.pairwise_append.1 ho.disj).2.1⟩, ?_⟩
  · refine h.below.trans ⟨hR.os, hR.tape, hR.output, hR.size, fun k hk => hR.block k (Nat.lt_of_lt_of_le hk h.below.size) ?_⟩
    intro hm
    obtain ⟨y, hy, hyk⟩ := List.mem_filterMap.1 hm
    have := (Itm.holds_lt (h.own.holds y ((hmem y).2 (.inl hy))) hyk).1
    omega
  · refine h.facts.mono ⟨hR.size, fun k hk hD => ⟨?_, hR.block k hk ?_⟩⟩
    · rintro (h0 | ⟨it, hit, hbk⟩)
      · exact hD (.inl h0)
      · exact hD (.inr ⟨it, (hmem it).2 (.inr hit), hbk⟩)
    · intro hm
      obtain ⟨y, hy, hyk⟩ := List.mem_filterMap.1 hm
      exact hD (.inr ⟨y, (hmem y).2 (.inl hy), hyk⟩)

/-- a region that draws its order: 'Lm': the own items that the region writes -/
theorem SC.any {id : Nat} {ops : Array Oper} {Lm Ls : List Itm} (hp : L.Perm (Lm ++ Ls)) (hm : P.follows .mixedOrders = true)
    (h : ∀ w1, Stays c (blks Lm) w1 Ls F → SA N c P ops Q (blks Lm) w1 ops.size (Array.replicate ops.size false) m L F) :
    SP N c ((Code.region id ops true).wp P Q) m L F := fun a w hs => by
  have hw : WSt c L F w.drew := ⟨hs.ws.d0, hs.ws.below.drew, ⟨fun it hit => Itm.holds_same (hs.ws.own.holds it hit) (fun _ _ => rfl), hs.ws.own.disj⟩, hs.ws.facts.mono ⟨Nat.le_refl _, fun _ _ hD => ⟨hD, rfl⟩⟩⟩
  exact wp_region_held hm (h w.drew (hw.stays hp) a w.drew ⟨hs.agree, hw⟩ (Rg.refl _ _))

def QOut (Q : Exit → Act → World → Prop) : Prop := ∀ ch a d v w, Q (.panic ch) (a.put d v) w → Q (.panic ch) a w

/-- it writes none of them -/
theorem SC.any0 {id : Nat} {ops : Array Oper} (hq : QOut Q) (hm : P.follows .mixedOrders = true)
    (h : ∀ w1, Stays c [] w1 L F → QOut Q → SA N c P ops Q [] w1 ops.size (Array.replicate ops.size false) m L F) : SP N c ((Code.region id ops true).wp P Q) m L F :=
  SC.any (Lm := []) (Ls := L) (.refl _) hm fun w1 hs => h w1 hs hq
/-- it writes box b -/
theorem SC.any1 {id : Nat} {ops : Array Oper} (hq : QOut Q) (b : Nat) {cs : List Value} {L' : List Itm} [hb : DelBox L b cs L'] (hm : P.follows .mixedOrders = true)
    (h : ∀ w1, Stays c [b] w1 L' F → QOut Q → SA N c P ops Q [b] w1 ops.size (Array.replicate ops.size false) m L F) : SP N c ((Code.region id ops true).wp P Q) m L F :=
  SC.any (Lm := [.box b cs]) (Ls := L') hb.perm hm fun w1 hs => h w1 hs hq
/-- it writes a row -/
theorem SC.anyR {id : Nat} {ops : Array Oper} (hq : QOut Q) (v : Value) {e sz n : Nat} {xs : List Value} {L' : List Itm} [hb : DelRow L v e sz n xs L'] (hm : P.follows .mixedOrders = true)
    (h : ∀ w1, Stays c (blks [.row e sz v n xs]) w1 L' F → QOut Q → SA N c P ops Q (blks [.row e sz v n xs]) w1 ops.size (Array.replicate ops.size false) m L F) : SP N c ((Code.region id ops true).wp P Q) m L F :=
  SC.any (Lm := [.row e sz v n xs]) (Ls := L') hb.perm hm fun w1 hs => h w1 hs hq

theorem SA.done {M : List Nat} {w1 : World} {fuel : Nat} {listed : Array Bool} (hr : Region.ready .any ops listed = []) (h : SP N c (Q .normal) m L F) : SA N c P ops Q M w1 fuel listed m L F :=
  fun a w hs _ => wpAnyH_done hr (h a w hs) fuel

/-- a quiet operation may be taken first -/
theorem SA.take {M : List Nat} {w1 : World} {fuel : Nat} {listed : Array Bool} {Ls : List Itm} {Fs : List Fact} {d : Nat} {v : Value} (i : Nat) (hst : Stays c M w1 Ls Fs)
    (hi : ops[i]? = some ⟨some d, op, ty, pos, aft, none⟩) (hy : Yld N c P ⟨some d, op, ty, pos, aft, none⟩ m Ls Fs v)
    (hs : Region.noSelect ops = true) (hf : Region.free .any ops listed i = true) (hr : (Region.ready .any ops listed).contains i = true) (hQ : QOut Q) (hd : Nat.blt d N = true)
    (h : SA N c P ops Q M w1 fuel (listed.setIfInBounds i true) ((d, v) :: m) L F) : SA N c P ops Q M w1 (fuel + 1) listed m L F := fun a w hs' hR => by
  refine wpAnyH_take hi hs hf hr (fun ch a w => hQ ch a _ _ w) (.inl ⟨rfl, fun w' hR' => ?_⟩) hR (h _ _ ⟨hs'.agree.put hd v, hs'.ws⟩ hR)
  exact hy a w' ⟨hs'.agree, hst w' hR'⟩

theorem SA.takeOn {M : List Nat} {w1 : World} {fuel : Nat} {listed : Array Bool} {Ls : List Itm} {Fs : List Fact} {d j t : Nat} {b : Bool} {v tv : Value} (i : Nat) (hst : Stays c M w1 Ls Fs)
    (hi : ops[i]? = some ⟨some d, op, ty, pos, aft, some (j, b)⟩) (hj : (ops[j]?).bind (·.dst) = some t) (ht : get m t = some tv) (htv : tv = .bool b) (hy : Yld N c P ⟨some d, op, ty, pos, aft, some (j, b)⟩ m Ls Fs v)
    (hs : Region.noSelect ops = true) (hf : Region.free .any ops listed i = true) (hr : (Region.ready .any ops listed).contains i = true) (hQ : QOut Q) (hd : Nat.blt d N = true)
    (h : SA N c P ops Q M w1 fuel (listed.setIfInBounds i true) ((d, v) :: m) L F) : SA N c P ops Q M w1 (fuel + 1) listed m L F := fun a w hs' hR => by
  subst htv
  refine wpAnyH_take hi hs hf hr (fun ch a w => hQ ch a _ _ w) (.inl ⟨wanted_on hs'.agree hj ht, fun w' hR' => ?_⟩) hR (h _ _ ⟨hs'.agree.put hd v, hs'.ws⟩ hR)
  exact hy a w' ⟨hs'.agree, hst w' hR'⟩

theorem SA.takeOff {M : List Nat} {w1 : World} {fuel : Nat} {listed : Array Bool} {d j t : Nat} {b : Bool} {v : Value} (i : Nat)
    (hi : ops[i]? = some ⟨some d, op, ty, pos, aft, some (j, b)⟩) (hj : (ops[j]?).bind (·.dst) = some t) (ht : get m t = some v) (hv : v = .bool (!b) ∨ v = undef)
    (hs : Region.noSelect ops = true) (hf : Region.free .any ops listed i = true) (hr : (Region.ready .any ops listed).contains i = true) (hQ : QOut Q) (hd : Nat.blt d N = true)
    (h : SA N c P ops Q M w1 fuel (listed.setIfInBounds i true) ((d, undef) :: m) L F) : SA N c P ops Q M w1 (fuel + 1) listed m L F := fun a w hs' hR => by
  exact wpAnyH_take hi hs hf hr (fun ch a w => hQ ch a _ _ w) (.inr ⟨wanted_off hs'.agree hj ht hv, rfl⟩) hR (h _ _ ⟨hs'.agree.put hd undef, hs'.ws⟩ hR)

theorem SA.ifD {M : List Nat} {w1 : World} {fuel : Nat} {listed : Array Bool} {t : Nat} {r : Prop} [Decidable r] (ht : get m t = some (.bool (decide r)))
    (h1 : r → SA N c P ops Q M w1 fuel listed ((t, .bool true) :: m) L F) (h2 : ¬ r → SA N c P ops Q M w1 fuel listed ((t, .bool false) :: m) L F) : SA N c P ops Q M w1 fuel listed m L F := by
  have := SP.ifD (N := N) (c := c) (K := fun a w => Rg M w1 w → wpAnyH P .any ops Q (Rg M w1) fuel listed a w) (L := L) (F := F) ht h1 h2
  exact this

/-- one after the other, each may come up -/
theorem SA.one {M : List Nat} {w1 : World} {fuel : Nat} {listed : Array Bool} (i : Nat) (hr : Region.ready .any ops listed = [i]) (h : SO N c P ops Q M w1 fuel listed i m L F) : SA N c P ops Q M w1 (fuel + 1) listed m L F :=
  fun a w hs hR => wpAnyH_all hr (by simp) (by simpa using h a w hs hR)
theorem SA.two {M : List Nat} {w1 : World} {fuel : Nat} {listed : Array Bool} (i j : Nat) (hr : Region.ready .any ops listed = [i, j]) (h1 : SO N c P ops Q M w1 fuel listed i m L F) (h2 : SO N c P ops Q M w1 fuel listed j m L F) :
    SA N c P ops Q M w1 (fuel + 1) listed m L F :=
  fun a w hs hR => wpAnyH_all hr (by simp) (by simpa using ⟨h1 a w hs hR, h2 a w hs hR⟩)
theorem SA.three {M : List Nat} {w1 : World} {fuel : Nat} {listed : Array Bool} (i j k : Nat) (hr : Region.ready .any ops listed = [i, j, k]) (h1 : SO N c P ops Q M w1 fuel listed i m L F) (h2 : SO N c P ops Q M w1 fuel listed j m L F)
    (h3 : SO N c P ops Q M w1 fuel listed k m L F) : SA N c P ops Q M w1 (fuel + 1) listed m L F :=
  fun a w hs hR => wpAnyH_all hr (by simp) (by simpa using ⟨h1 a w hs hR, h2 a w hs hR, h3 a w hs hR⟩)

theorem SO.l {M : List Nat} {w1 : World} {fuel : Nat} {listed : Array Bool} {i d : Nat} {X : Type} {val : X → Value} {wr : Option Nat} {Lx : X → List Itm} {Fx : X → List Fact}
    (hi : ops[i]? = some ⟨some d, op, ty, pos, aft, none⟩) (he : Eff N c P ⟨some d, op, ty, pos, aft, none⟩ m L F val wr Lx Fx) (hd : Nat.blt d N = true) (hw : ∀ b, wr = some b → b ∈ M ∨ w1.heap.size ≤ b)
    (h : ∀ x, SA N c P ops Q M w1 fuel (listed.setIfInBounds i true) ((d, val x) :: m) (Lx x) (Fx x)) : SO N c P ops Q M w1 fuel listed i m L F := fun a w hs hR => by
  unfold wpOp
  rw [hi]
  simp only [Region.wanted, if_true]
  exact .inl (he a w hs _ Q (fun x w' hg hws => ⟨hR.grown hg hw, h x _ _ ⟨hs.agree.put hd _, hws⟩ (hR.grown hg hw)⟩))

theorem SO.s {M : List Nat} {w1 : World} {fuel : Nat} {listed : Array Bool} {i : Nat} {X : Type} {val : X → Value} {wr : Option Nat} {Lx : X → List Itm} {Fx : X → List Fact}
    (hi : ops[i]? = some ⟨none, op, ty, pos, aft, none⟩) (he : Eff N c P ⟨none, op, ty, pos, aft, none⟩ m L F val wr Lx Fx) (hw : ∀ b, wr = some b → b ∈ M ∨ w1.heap.size ≤ b)
    (h : ∀ x, SA N c P ops Q M w1 fuel (listed.setIfInBounds i true) m (Lx x) (Fx x)) : SO N c P ops Q M w1 fuel listed i m L F := fun a w hs hR => by
  unfold wpOp
  rw [hi]
  simp only [Region.wanted, if_true]
  exact .inl (he a w hs _ Q (fun x w' hg hws => ⟨hR.grown hg hw, h x _ _ ⟨hs.agree, hws⟩ (hR.grown hg hw)⟩))

theorem SO.q {M : List Nat} {w1 : World} {fuel : Nat} {listed : Array Bool} {i d : Nat} {v : Value}
    (hi : ops[i]? = some ⟨some d, op, ty, pos, aft, none⟩) (hy : Yld N c P ⟨some d, op, ty, pos, aft, none⟩ m L F v) (hd : Nat.blt d N = true)
    (h : SA N c P ops Q M w1 fuel (listed.setIfInBounds i true) ((d, v) :: m) L F) : SO N c P ops Q M w1 fuel listed i m L F :=
  SO.l hi hy.eff hd (fun _ hb => by cases hb) (fun _ => h)

/-- a guarded one, wanted -/
theorem SO.lOn {M : List Nat} {w1 : World} {fuel : Nat} {listed : Array Bool} {i d j t : Nat} {b : Bool} {tv : Value} {X : Type} {val : X → Value} {wr : Option Nat} {Lx : X → List Itm} {Fx : X → List Fact}
    (hi : ops[i]? = some ⟨some d, op, ty, pos, aft, some (j, b)⟩) (hj : (ops[j]?).bind (·.dst) = some t) (ht : get m t = some tv) (htv : tv = .bool b) (he : Eff N c P ⟨some d, op, ty, pos, aft, some (j, b)⟩ m L F val wr Lx Fx) (hd : Nat.blt d N = true) (hw : ∀ b, wr = some b → b ∈ M ∨ w1.heap.size ≤ b)
    (h : ∀ x, SA N c P ops Q M w1 fuel (listed.setIfInBounds i true) ((d, val x) :: m) (Lx x) (Fx x)) : SO N c P ops Q M w1 fuel listed i m L F := fun a w hs hR => by
  subst htv
  unfold wpOp
  rw [hi]
  simp only [wanted_on hs.agree hj ht, if_true]
  exact .inl (he a w hs _ Q (fun x w' hg hws => ⟨hR.grown hg hw, h x _ _ ⟨hs.agree.put hd _, hws⟩ (hR.grown hg hw)⟩))
end
end Go.Sym
