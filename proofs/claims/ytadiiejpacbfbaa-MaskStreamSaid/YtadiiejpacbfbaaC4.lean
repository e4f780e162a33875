/- Proved here: rules of our own engine for walking a program, part 4: the code's forms in a state: sequence, test, block, loop, and ways that meet. -/
import Derived.Test.YtadiiejpacbfbaaC3
namespace Go.Sym
open Go Go.RowKit

/-! ## The code's forms -/

section
variable {N : Nat} {c : Ctx} {P : Program} {m : Ent} {L : List Itm} {F : List Fact} {Q : Exit → Act → World → Prop}

theorem SC.seq {x y : Code} (h : SP N c (x.wp P (Exit.then (y.wp P Q) Q)) m L F) : SP N c ((Code.seq x y).wp P Q) m L F := fun a w hs => wp_seq (h a w hs)
theorem SC.skip (h : SP N c (Q .normal) m L F) : SP N c (Code.skip.wp P Q) m L F := fun a w hs => wp_skip (h a w hs)
theorem SC.exit {id : Nat} (h : SP N c (Q (.exit id)) m L F) : SP N c ((Code.exit id).wp P Q) m L F := fun a w hs => wp_exit (h a w hs)
theorem SC.ret (h : SP N c (Q .ret) m L F) : SP N c (Code.ret.wp P Q) m L F := fun a w hs => wp_ret (h a w hs)
theorem SC.block {id : Nat} {x : Code} (h : SP N c (x.wp P (Exit.inBlock id Q)) m L F) : SP N c ((Code.block id x).wp P Q) m L F := fun a w hs => wp_block (h a w hs)
theorem SC.condT {x : Operand} {p q : Code} {v : Value} (hx : ev m x = some v) (hv : v = .bool true) (h : SP N c (p.wp P Q) m L F) : SP N c ((Code.cond x p q).wp P Q) m L F := fun a w hs => wp_cond_true ((hs.agree.eval hx).trans hv) (h a w hs)
theorem SC.condF {x : Operand} {p q : Code} {v : Value} (hx : ev m x = some v) (hv : v = .bool false) (h : SP N c (q.wp P Q) m L F) : SP N c ((Code.cond x p q).wp P Q) m L F := fun a w hs => wp_cond_false ((hs.agree.eval hx).trans hv) (h a w hs)
theorem SC.condD {x : Operand} {p q : Code} {r : Prop} [Decidable r] (hx : ev m x = some (.bool (decide r))) (h1 : r → SP N c (p.wp P Q) m L F) (h2 : ¬ r → SP N c (q.wp P Q) m L F) : SP N c ((Code.cond x p q).wp P Q) m L F := fun a w hs => by
  by_cases hr : r
  · exact wp_cond_true ((hs.agree.eval hx).trans (by rw [decide_eq_true hr])) (h1 hr a w hs)
  · exact wp_cond_false ((hs.agree.eval hx).trans (by rw [decide_eq_false hr])) (h2 hr a w hs)
theorem SC.condB {x : Operand} {p q : Code} {b : Bool} (hx : ev m x = some (.bool b)) (h1 : b = true → SP N c (p.wp P Q) m L F) (h2 : b = false → SP N c (q.wp P Q) m L F) : SP N c ((Code.cond x p q).wp P Q) m L F := fun a w hs => by
  cases b with
  | true => exact wp_cond_true (hs.agree.eval hx) (h1 rfl a w hs)
  | false => exact wp_cond_false (hs.agree.eval hx) (h2 rfl a w hs)
theorem SC.region {id : Nat} {l : List Oper} (h : SP N c (wpList P l.toArray Q l) m L F) : SP N c ((Code.region id l.toArray false).wp P Q) m L F := fun a w hs => wp_region_lit (h a w hs)

theorem SX.then_n {K : Act → World → Prop} (h : SP N c K m L F) : SP N c (Exit.then K Q .normal) m L F := h
theorem SX.then_x {K : Act → World → Prop} {id : Nat} (h : SP N c (Q (.exit id)) m L F) : SP N c (Exit.then K Q (.exit id)) m L F := h
theorem SX.then_r {K : Act → World → Prop} (h : SP N c (Q .ret) m L F) : SP N c (Exit.then K Q .ret) m L F := h
theorem SX.blk_n {id : Nat} (h : SP N c (Q .normal) m L F) : SP N c (Exit.inBlock id Q .normal) m L F := h
theorem SX.blk_r {id : Nat} (h : SP N c (Q .ret) m L F) : SP N c (Exit.inBlock id Q .ret) m L F := h
theorem SX.blk_hit {id : Nat} (h : SP N c (Q .normal) m L F) : SP N c (Exit.inBlock id Q (.exit id)) m L F := fun a w hs => by
  simp only [Exit.inBlock, if_true]; exact h a w hs
theorem SX.blk_miss {id id' : Nat} (hne : Nat.beq id' id = false) (h : SP N c (Q (.exit id')) m L F) : SP N c (Exit.inBlock id Q (.exit id')) m L F := fun a w hs => by
  have : id' ≠ id := fun e => by subst e; simp at hne
  simp only [Exit.inBlock, if_neg this]; exact h a w hs

/-- where ways meet: some state of a family -/
def Meet (N : Nat) (c : Ctx) {G : Type} (pre : G → Prop) (mi : G → Ent) (Li : G → List Itm) (Fi : G → List Fact) : Act → World → Prop := fun a w => ∃ g, pre g ∧ St N c (mi g) (Li g) (Fi g) a w

theorem SP.meet {G : Type} {pre : G → Prop} {mi : G → Ent} {Li : G → List Itm} {Fi : G → List Fact} (g : G) (hp : pre g) (hm : Sub (mi g) m) (hL : SubL (Li g) L) (hF : Ents F (Fi g)) : SP N c (Meet N c pre mi Li Fi) m L F :=
  fun _ _ hs => ⟨g, hp, hs.agree.sub hm, hs.ws.less hL hF⟩

/-- a round's end -/
def Back (N : Nat) (c : Ctx) {G : Type} (pre : G → Prop) (mi : G → Ent) (Li : G → List Itm) (Fi : G → List Fact) (μ : G → Nat) (n : Nat) : Act → World → Prop := fun a w => ∃ g, μ g < n ∧ pre g ∧ St N c (mi g) (Li g) (Fi g) a w

theorem SC.loop {G : Type} (pre : G → Prop) (mi : G → Ent) (Li : G → List Itm) (Fi : G → List Fact) (μ : G → Nat) {x : Code} (g0 : G) (hp : pre g0) (hm : Sub (mi g0) m) (hL : SubL (Li g0) L) (hF : Ents F (Fi g0))
    (h : ∀ g, pre g → SP N c (x.wp P (Exit.then (Back N c pre mi Li Fi μ (μ g)) Q)) (mi g) (Li g) (Fi g)) :
    SP N c ((Code.loop x).wp P Q) m L F := by
  intro a w hs b k cs
  have key : ∀ n g a w, μ g = n → pre g → St N c (mi g) (Li g) (Fi g) a w →
      ∃ e a' w', Q e a' w' ∧ Arrives P (lone (b.at a (.code x :: .inLoop x :: k)) cs w) b k cs e a' w' := by
    intro n
    induction n using Nat.strongRecOn with
    | _ n ih =>
      intro g a w hg hpg hs
      obtain ⟨e, a₁, w₁, hq, harr⟩ := h g hpg a w hs b (.inLoop x :: k) cs
      cases e with
      | normal =>
        obtain ⟨g', hlt, hp', hs'⟩ := hq
        obtain ⟨e₂, a₂, w₂, hq₂, harr₂⟩ := ih (μ g') (hg ▸ hlt) g' a₁ w₁ rfl hp' hs'
        exact ⟨e₂, a₂, w₂, hq₂, .of_steps (Steps.trans harr (.one step_inLoop)) harr₂⟩
      | exit id => exact ⟨_, a₁, w₁, hq, .pass (x := .inLoop x) rfl (fun _ _ => .inl (by simp)) harr⟩
      | goto l => exact ⟨_, a₁, w₁, hq, .pass (x := .inLoop x) rfl (fun _ _ => .inl (by simp)) harr⟩
      | ret => exact ⟨_, a₁, w₁, hq, .pass (x := .inLoop x) rfl (fun _ _ => .inl (by simp)) harr⟩
      | panic ch => exact ⟨_, a₁, w₁, hq, .pass (x := .inLoop x) rfl (fun _ _ => .inl (by simp)) harr⟩
      | outgrown => exact ⟨_, a₁, w₁, hq, .pass (x := .inLoop x) rfl (fun _ _ => .inl (by simp)) harr⟩
  obtain ⟨e, a', w', hq, harr⟩ := key _ g0 a w rfl hp ⟨hs.agree.sub hm, hs.ws.less hL hF⟩
  exact ⟨e, a', w', hq, .of_steps (.one step_loop) harr⟩

theorem SP.back {G : Type} {pre : G → Prop} {mi : G → Ent} {Li : G → List Itm} {Fi : G → List Fact} {μ : G → Nat} {n : Nat} (g : G) (hlt : μ g < n) (hp : pre g) (hm : Sub (mi g) m) (hL : SubL (Li g) L) (hF : Ents F (Fi g)) :
    SP N c (Back N c pre mi Li Fi μ n) m L F :=
  fun _ _ hs => ⟨g, hlt, hp, hs.agree.sub hm, hs.ws.less hL hF⟩

/-- ways that meet again behind x: what is behind is walked once -/
theorem SC.cut {G : Type} (pre : G → Prop) (mi : G → Ent) (Li : G → List Itm) (Fi : G → List Fact) {x : Code} (h : SP N c (x.wp P (Exit.then (Meet N c pre mi Li Fi) Q)) m L F) (hk : ∀ g, pre g → SP N c (Q .normal) (mi g) (Li g) (Fi g)) : SP N c (x.wp P Q) m L F := fun a w hs =>
  wp_mono (h a w hs) fun e a w hq => by
    cases e with
    | normal => obtain ⟨g, hp, hs'⟩ := hq; exact hk g hp a w hs'
    | _ => exact hq

/-! ### a test that is not decided -/
theorem SP.ifD {K : Act → World → Prop} {t : Nat} {r : Prop} [Decidable r] (ht : get m t = some (.bool (decide r))) (h1 : r → SP N c K ((t, .bool true) :: m) L F) (h2 : ¬ r → SP N c K ((t, .bool false) :: m) L F) : SP N c K m L F := fun a w hs => by
  have key : ∀ b, decide r = b → Agree N ((t, .bool b) :: m) a := fun b hb => ⟨hs.agree.defers, hs.agree.size, fun t' v hv => by
    by_cases h : t = t'
    · subst h
      rw [get_cons_same] at hv
      injection hv with hv
      subst hv
      rw [← hb]
      exact hs.agree.val t _ ht
    · rw [get_cons_ne _ _ h] at hv
      exact hs.agree.val t' v hv⟩
  by_cases hr : r
  · exact h1 hr a w ⟨key _ (decide_eq_true hr), hs.ws⟩
  · exact h2 hr a w ⟨key _ (decide_eq_false hr), hs.ws⟩
theorem SP.ifB {K : Act → World → Prop} {t : Nat} {b : Bool} (ht : get m t = some (.bool b)) (h1 : b = true → SP N c K ((t, .bool true) :: m) L F) (h2 : b = false → SP N c K ((t, .bool false) :: m) L F) : SP N c K m L F := by
  have e : b = decide (b = true) := by cases b <;> rfl
  rw [e] at ht
  exact SP.ifD ht h1 (fun hn => h2 (by simpa using hn))

/-! ### facts are looked into -/
theorem SP.ex {K : Act → World → Prop} {β : Type} {q : β → List Fact} (hq : Ent1 F (Fact.ex q)) (h : ∀ x, SP N c K m L (q x ++ F)) : SP N c K m L F := fun a w hs => by
  obtain ⟨x, hx⟩ := hq _ _ hs.ws.facts
  exact h x a w ⟨hs.agree, ⟨hs.ws.d0, hs.ws.below, hs.ws.own, hx.append hs.ws.facts⟩⟩
theorem SP.pure {K : Act → World → Prop} {q : Prop} (hq : Ent1 F (Fact.pure q)) (h : q → SP N c K m L F) : SP N c K m L F := fun a w hs => h (hq _ _ hs.ws.facts) a w hs
theorem SP.know {K : Act → World → Prop} {G : List Fact} (hG : Ents F G) (h : SP N c K m L (G ++ F)) : SP N c K m L F := fun a w hs =>
  h a w ⟨hs.agree, ⟨hs.ws.d0, hs.ws.below, hs.ws.own, (hG _ _ hs.ws.facts).append hs.ws.facts⟩⟩
/-- what one has is known for a list's length -/
theorem arr_len {α : Type} {v : Value} {sz : Nat} {enc : α → List Value} {l : List α} [h : HasArr F v sz enc l] : Ent1 F (Fact.pure (l.length ≤ 9223372036854775807)) := fun D w hF => by
  obtain ⟨a, cp, hv, hlc, hc, _⟩ := hF _ h.mem
  have : maxLen = 9223372036854775807 := rfl
  show l.length ≤ _
  omega
end
end Go.Sym
