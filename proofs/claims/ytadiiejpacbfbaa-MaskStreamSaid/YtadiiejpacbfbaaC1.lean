/- Proved here: rules of our own engine for walking a program, part 1: the symbolic state: what a frame's slots hold, which memory is owned, which facts are known; what keeps them. -/
import Derived.WalkKit
import Derived.WalkSpells
import Derived.WalkLawsBesides
import Derived.OrdersHeld
namespace Go.Sym
open Go Go.RowKit

/-! ## The frame: what is known of the slots -/

abbrev Ent := List (Nat × Value)

def get : Ent → Nat → Option Value
  | [], _ => none
  | (k, v) :: m, t => match Nat.beq k t with
    | true => some v
    | false => get m t

def ev (m : Ent) : Operand → Option Value
  | .tmp t => get m t
  | .const v => some v
  | .global g => some (.pointer (some ⟨g, 0, none⟩))
  | .func f => some (.func (.func f) #[] #[])

structure Agree (N : Nat) (m : Ent) (a : Act) : Prop where
  defers : a.defers = []
  size : a.tmps.size = N
  val : ∀ t v, get m t = some v → a.tmps.getD t undef = v

theorem Agree.eval {N : Nat} {m : Ent} {a : Act} (h : Agree N m a) {x : Operand} {v : Value} (hx : ev m x = some v) : a.eval x = v := by
  cases x with
  | tmp t => exact h.val t v hx
  | const u => simp only [ev, Option.some.injEq] at hx; exact hx
  | global g => simp only [ev, Option.some.injEq] at hx; exact hx
  | func f => simp only [ev, Option.some.injEq] at hx; exact hx

theorem get_cons_same (d : Nat) (v : Value) (m : Ent) : get ((d, v) :: m) d = some v := by
  simp [get]

theorem get_cons_ne {d t : Nat} (v : Value) (m : Ent) (h : d ≠ t) : get ((d, v) :: m) t = get m t := by
  have : Nat.beq d t = false := by
    cases hb : Nat.beq d t with
    | false => rfl
    | true => exact absurd (Nat.eq_of_beq_eq_true hb) h
  simp [get, this]

theorem Agree.put {N : Nat} {m : Ent} {a : Act} (h : Agree N m a) {d : Nat} (hd : Nat.blt d N = true) (v : Value) : Agree N ((d, v) :: m) (a.put (some d) v) := by
  have hlt : d < N := by simpa using hd
  refine ⟨h.defers, by simpa [Act.put] using h.size, ?_⟩
  intro t u ht
  by_cases hdt : d = t
  · subst hdt
    rw [get_cons_same] at ht
    injection ht with ht
    subst ht
    simp [Act.put, Array.getD_eq_getD_getElem?, h.size, hlt]
  · rw [get_cons_ne v m hdt] at ht
    have := h.val t u ht
    simp only [Act.put, Array.getD_eq_getD_getElem?, Array.getElem?_setIfInBounds_ne hdt] at this ⊢
    exact this

/-- all entries of the first are entries of the second -/
def Sub : Ent → Ent → Prop
  | [], _ => True
  | (k, v) :: m, m' => get m' k = some v ∧ Sub m m'

theorem Sub.spec {m m' : Ent} (h : Sub m m') : ∀ t v, get m t = some v → get m' t = some v := by
  induction m with
  | nil => intro t v ht; simp [get] at ht
  | cons e m ih =>
    obtain ⟨k, u⟩ := e
    intro t v ht
    by_cases hkt : k = t
    · subst hkt
      rw [get_cons_same] at ht
      injection ht with ht
      exact ht ▸ h.1
    · rw [get_cons_ne u m hkt] at ht
      exact ih h.2 t v ht

theorem Agree.sub {N : Nat} {m m' : Ent} {a : Act} (h : Agree N m' a) (hs : Sub m m') : Agree N m a :=
  ⟨h.defers, h.size, fun t v ht => h.val t v (hs.spec t v ht)⟩

/-! ## What the call owns -/

inductive Itm where
  | box (b : Nat) (cs : List Value)
  | row (e sz : Nat) (v : Value) (n : Nat) (xs : List Value)
  | raw (b : Nat) (o : Obj)

def Itm.blk : Itm → Option Nat
  | .box b _ => some b
  | .row _ _ v _ _ => v.ownBlock
  | .raw b _ => some b

def Itm.holds (base : Nat) (w : World) : Itm → Prop
  | .box b cs => base ≤ b ∧ ∃ e, w.heap[b]? = some (.cells cs.toArray e (0, 0))
  | .row e sz v n xs => w.ownsRow base e sz v n xs
  | .raw b o => base ≤ b ∧ w.heap[b]? = some o

theorem Itm.holds_lt {base : Nat} {w : World} {it : Itm} (h : it.holds base w) {k : Nat} (hk : it.blk = some k) : base ≤ k ∧ k < w.heap.size := by
  cases it with
  | box b cs =>
    simp only [Itm.blk, Option.some.injEq] at hk
    subst hk
    obtain ⟨h1, e, h2⟩ := h
    exact ⟨h1, (Array.getElem?_eq_some_iff.1 h2).1⟩
  | row e sz v n xs => exact World.ownsRow.lt h k hk
  | raw b o =>
    simp only [Itm.blk, Option.some.injEq] at hk
    subst hk
    exact ⟨h.1, (Array.getElem?_eq_some_iff.1 h.2).1⟩

theorem Itm.holds_same {base : Nat} {w w' : World} {it : Itm} (h : it.holds base w) (hb : ∀ k, it.blk = some k → w'.heap[k]? = w.heap[k]?) : it.holds base w' := by
  cases it with
  | box b cs =>
    obtain ⟨h1, e, h2⟩ := h
    exact ⟨h1, e, (hb b rfl).trans h2⟩
  | row e sz v n xs =>
    obtain ⟨h1, h2⟩ := h
    refine ⟨h1, ?_⟩
    rcases h2 with h2 | ⟨g, cap, cur, rfl, hg, hgg, rest⟩
    · exact .inl h2
    · exact .inr ⟨g, cap, cur, rfl, hg, (hb g rfl).trans hgg, rest⟩
  | raw b o => exact ⟨h.1, (hb b rfl).trans h.2⟩

theorem Itm.holds_mono {base base' : Nat} {w : World} {it : Itm} (h : it.holds base w) (hb : base' ≤ base) : it.holds base' w := by
  cases it with
  | box b cs => exact ⟨Nat.le_trans hb h.1, h.2⟩
  | row e sz v n xs =>
    obtain ⟨h1, h2⟩ := h
    refine ⟨h1, ?_⟩
    rcases h2 with h2 | ⟨g, cap, cur, rfl, hg, rest⟩
    · exact .inl h2
    · exact .inr ⟨g, cap, cur, rfl, Nat.le_trans hb hg, rest⟩
  | raw b o => exact ⟨Nat.le_trans hb h.1, h.2⟩

def Apart (x y : Itm) : Prop := ∀ k, x.blk = some k → y.blk ≠ some k

theorem Apart.symm {x y : Itm} (h : Apart x y) : Apart y x := fun k hk hx => h k hx hk

structure Own (base : Nat) (L : List Itm) (w : World) : Prop where
  holds : ∀ it ∈ L, it.holds base w
  disj : L.Pairwise Apart

/-- the blocks that are not to be looked at: the caller's own, and the call's own -/
def dom (D0 : Nat → Prop) (L : List Itm) (k : Nat) : Prop := D0 k ∨ ∃ it ∈ L, it.blk = some k

/-! ## Facts on memory that nobody writes -/

structure Nxt (D : Nat → Prop) (w : World) (D' : Nat → Prop) (w' : World) : Prop where
  size : w.heap.size ≤ w'.heap.size
  same : ∀ k, k < w.heap.size → ¬ D k → ¬ D' k ∧ w'.heap[k]? = w.heap[k]?

theorem Nxt.refl (D : Nat → Prop) (w : World) : Nxt D w D w := ⟨Nat.le_refl _, fun _ _ h => ⟨h, rfl⟩⟩
theorem Nxt.trans {D D' D'' : Nat → Prop} {w w' w'' : World} (h : Nxt D w D' w') (k : Nxt D' w' D'' w'') : Nxt D w D'' w'' :=
  ⟨Nat.le_trans h.size k.size, fun i hi hD =>
    let ⟨h1, h2⟩ := h.same i hi hD
    let ⟨h3, h4⟩ := k.same i (Nat.lt_of_lt_of_le hi h.size) h1
    ⟨h3, h4.trans h2⟩⟩
theorem Nxt.less {D D' : Nat → Prop} {w : World} (h : ∀ k, D' k → D k) : Nxt D w D' w :=
  ⟨Nat.le_refl _, fun k _ hD => ⟨fun hk => hD (h k hk), rfl⟩⟩

structure Fact where
  p : (Nat → Prop) → World → Prop
  mono : ∀ D w D' w', p D w → Nxt D w D' w' → p D' w'

def AllF (F : List Fact) (D : Nat → Prop) (w : World) : Prop := ∀ f ∈ F, f.p D w

theorem AllF.mono {F : List Fact} {D D' : Nat → Prop} {w w' : World} (h : AllF F D w) (hn : Nxt D w D' w') : AllF F D' w' :=
  fun f hf => f.mono _ _ _ _ (h f hf) hn

theorem AllF.nil (D : Nat → Prop) (w : World) : AllF [] D w := fun _ h => by cases h
theorem AllF.cons {f : Fact} {F : List Fact} {D : Nat → Prop} {w : World} (h : f.p D w) (hF : AllF F D w) : AllF (f :: F) D w := fun g hg => by
  cases hg with
  | head => exact h
  | tail _ hg => exact hF g hg
theorem AllF.append {F G : List Fact} {D : Nat → Prop} {w : World} (h : AllF F D w) (hG : AllF G D w) : AllF (F ++ G) D w := fun f hf => by
  rcases List.mem_append.1 hf with hf | hf
  · exact h f hf
  · exact hG f hf

def Ents (F G : List Fact) : Prop := ∀ D w, AllF F D w → AllF G D w
def Ent1 (F : List Fact) (g : Fact) : Prop := ∀ D w, AllF F D w → g.p D w

theorem Ents.nil (F : List Fact) : Ents F [] := fun D w _ => AllF.nil D w
theorem Ents.cons {F G : List Fact} {g : Fact} (h : Ent1 F g) (hG : Ents F G) : Ents F (g :: G) := fun D w hF => AllF.cons (h D w hF) (hG D w hF)
theorem Ents.refl (F : List Fact) : Ents F F := fun _ _ h => h
theorem Ents.trans {F G H : List Fact} (h : Ents F G) (k : Ents G H) : Ents F H := fun D w hF => k D w (h D w hF)
theorem Ents.append {F G H : List Fact} (h : Ents F G) (k : Ents F H) : Ents F (G ++ H) := fun D w hF => AllF.append (h D w hF) (k D w hF)
theorem Ent1.mem {F : List Fact} {g : Fact} (h : g ∈ F) : Ent1 F g := fun _ _ hF => hF g h
theorem Ents.sub {F G : List Fact} (h : ∀ g ∈ G, g ∈ F) : Ents F G := fun _ _ hF g hg => hF g (h g hg)
theorem Ents.tail {F : List Fact} {f : Fact} {G : List Fact} (h : Ents F G) : Ents (f :: F) G := fun D w hF => h D w (fun g hg => hF g (List.mem_cons_of_mem _ hg))

/-! ## The state -/

structure Ctx where
  D0 : Nat → Prop
  w0 : World

structure WSt (c : Ctx) (L : List Itm) (F : List Fact) (w : World) : Prop where
  d0 : ∀ k, c.D0 k → k < c.w0.heap.size
  below : Below c.w0.heap.size c.w0 w
  own : Own c.w0.heap.size L w
  facts : AllF F (dom c.D0 L) w

structure St (N : Nat) (c : Ctx) (m : Ent) (L : List Itm) (F : List Fact) (a : Act) (w : World) : Prop where
  agree : Agree N m a
  ws : WSt c L F w

def SP (N : Nat) (c : Ctx) (K : Act → World → Prop) (m : Ent) (L : List Itm) (F : List Fact) : Prop := ∀ a w, St N c m L F a w → K a w

theorem dom_lt {c : Ctx} {L : List Itm} {F : List Fact} {w : World} (h : WSt c L F w) {k : Nat} (hk : dom c.D0 L k) : k < w.heap.size := by
  rcases hk with hk | ⟨it, hit, hb⟩
  · exact Nat.lt_of_lt_of_le (h.d0 k hk) h.below.size
  · exact (Itm.holds_lt (h.own.holds it hit) hb).2

/-- an item is taken out of a list -/
class DelItem (L : List Itm) (it : Itm) (L' : outParam (List Itm)) : Prop where
  perm : L.Perm (it :: L')
instance (priority := high) DelItem.head (it : Itm) (L : List Itm) : DelItem (it :: L) it L := ⟨.refl _⟩
instance DelItem.tail (x it : Itm) (L L' : List Itm) [h : DelItem L it L'] : DelItem (x :: L) it (x :: L') := ⟨(h.perm.cons x).trans (.swap it x L')⟩

/-- each item of the first is one of the second -/
class SubL (L' L : List Itm) : Prop where
  perm : ∃ R, L.Perm (L' ++ R)
instance SubL.nil (L : List Itm) : SubL [] L := ⟨L, .refl _⟩
instance SubL.cons (it : Itm) (L' L L2 : List Itm) [h : DelItem L it L2] [k : SubL L' L2] : SubL (it :: L') L := ⟨by
  obtain ⟨R, hR⟩ := k.perm
  exact ⟨R, h.perm.trans (hR.cons it)⟩⟩

theorem Own.perm {base : Nat} {L L' : List Itm} {w : World} (h : Own base L w) (hp : L.Perm L') : Own base L' w :=
  ⟨fun it hit => h.holds it (hp.mem_iff.2 hit), (hp.pairwise_iff (fun {_ _} h => Apart.symm h)).1 h.disj⟩

theorem Own.app {base : Nat} {L R : List Itm} {w : World} (h : Own base (L ++ R) w) : Own base L w :=
  ⟨fun it hit => h.holds it (List.mem_append_left _ hit), (List.pairwise_append.1 h.disj).1⟩

theorem SubL.mem {L' L : List Itm} (h : SubL L' L) {it : Itm} (hit : it ∈ L') : it ∈ L := by
  obtain ⟨R, hR⟩ := h.perm
  exact hR.mem_iff.2 (List.mem_append_left _ hit)

/-- less is known, less is owned -/
theorem WSt.less {c : Ctx} {L L' : List Itm} {F F' : List Fact} {w : World} (h : WSt c L F w) (hL : SubL L' L) (hF : Ents F F') : WSt c L' F' w := by
  refine ⟨h.d0, h.below, ?_, ?_⟩
  · obtain ⟨R, hR⟩ := hL.perm
    exact (h.own.perm hR).app
  · refine (hF _ _ h.facts).mono (Nxt.less ?_)
    rintro k (hk | ⟨it, hit, hb⟩)
    · exact .inl hk
    · exact .inr ⟨it, hL.mem hit, hb⟩

theorem SP.less {N : Nat} {c : Ctx} {K : Act → World → Prop} {m m' : Ent} {L L' : List Itm} {F F' : List Fact} (hm : Sub m' m) (hL : SubL L' L) (hF : Ents F F')
    (h : SP N c K m' L' F') : SP N c K m L F := fun a w hs => h a w ⟨hs.agree.sub hm, hs.ws.less hL hF⟩

/-- a world behind: the own items anew, the rest as it was -/
theorem WSt.step {c : Ctx} {L L' : List Itm} {F : List Fact} {w w' : World} (h : WSt c L F w) (hos : w'.os = w.os) (htape : w'.tape = w.tape) (hout : w'.output = w.output)
    (hsize : w.heap.size ≤ w'.heap.size) (hsame : ∀ k, k < w.heap.size → ¬ (∃ it ∈ L, it.blk = some k) → w'.heap[k]? = w.heap[k]?)
    (hown : Own c.w0.heap.size L' w') (hnew : ∀ it ∈ L', ∀ k, it.blk = some k → k < w.heap.size → ∃ it' ∈ L, it'.blk = some k) : WSt c L' F w' := by
  refine ⟨h.d0, ?_, hown, h.facts.mono ⟨hsize, ?_⟩⟩
  · refine h.below.trans ⟨hos, htape, hout, hsize, fun k hk => hsame k (Nat.lt_of_lt_of_le hk h.below.size) ?_⟩
    rintro ⟨it, hit, hb⟩
    have := (Itm.holds_lt (h.own.holds it hit) hb).1
    omega
  · intro k hk hD
    refine ⟨?_, hsame k hk (fun ⟨it, hit, hb⟩ => hD (.inr ⟨it, hit, hb⟩))⟩
    rintro (h0 | ⟨it, hit, hb⟩)
    · exact hD (.inl h0)
    · exact hD (.inr (hnew it hit k hb hk))

end Go.Sym
