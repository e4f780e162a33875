/- Proved here: rules of our own engine for walking a program, part 17: rows made and grown inside a region that draws its order. -/
import Derived.Test.YtadiiejpacbfbaaC16
namespace Go.Sym
open Go Go.RowKit

/-- as 'Eff', and the value lies in new memory or where it lay -/
def Eff2 (N : Nat) (c : Ctx) (P : Program) (o : Oper) (m : Ent) (L : List Itm) (F : List Fact) {X : Type} (val : X → Value) (wr : Option Nat) (Lx : X → List Itm) (Fx : X → List Fact) : Prop :=
  ∀ a w, St N c m L F a w → ∀ (K : Act → World → Prop) (Q : Exit → Act → World → Prop), (∀ x w', w.grownBy w' wr → WSt c (Lx x) (Fx x) w' → (∀ b, (val x).ownBlock = some b → wr = some b ∨ w.heap.size ≤ b) → K (a.put o.dst (val x)) w') → o.wp P a w K Q

section
variable {N : Nat} {c : Ctx} {P : Program} {m : Ent} {L L' : List Itm} {F : List Fact} {d : Option Tmp} {ty : TypeId} {pos : String} {aft : Array Edge} {g : Option (Nat × Bool)}

theorem Ef2.slice0 {t e : TypeId} [ht : SliceTy P t e] {agg : Bool} {sz bytes : Nat} {z : Value} [he : Ty P e agg sz bytes z] :
    Eff2 N c P ⟨d, .buildSlice t 0 #[], ty, pos, aft, g⟩ m L F (fun v : Value => v) none (fun v => .row e sz v 0 [] :: L) (fun _ => F) := fun a w hs K Q hK => by
  unfold Oper.wp
  have hr : (Instr.buildSlice t 0 #[]).run P w = .ok (.slice (some ⟨w.heap.size, 0, none⟩) 0 0) (w.alloc (.cells #[] e)) := by
    simp [Instr.buildSlice, run_underlying ht.und, he.sizeOf_run, newRow, Instr.fill, show Array.range 0 = #[] from rfl]
  have he : (#[] : Array (Nat × Operand)).map (fun (i, x) => (i, a.eval x)) = #[] := by simp
  simp only [execOp, he, Sem.run_bind, hr, Result.andThen_ok, Sem.run_pure]
  have hw := hs.ws.new #[] e
  refine hK _ _ (World.grownBy_alloc w _ none) ⟨hw.d0, hw.below, ⟨?_, ?_⟩, hw.facts.mono (Nxt.less ?_)⟩ (fun b hb => .inr (by simp only [Value.ownBlock, Option.some.injEq] at hb; omega))
  · intro it hit
    rcases List.mem_cons.1 hit with rfl | hit
    · exact World.ownsRow_made w #[] 0 hs.ws.below.size (by simp [maxLen]) (by simp)
    · exact hw.own.holds it (List.mem_cons_of_mem _ hit)
  · exact List.pairwise_cons.2 ⟨fun y hy k hk => (List.pairwise_cons.1 hw.own.disj).1 y hy k hk, (List.pairwise_cons.1 hw.own.disj).2⟩
  · rintro k (h0 | ⟨it, hit, hb⟩)
    · exact .inl h0
    · rcases List.mem_cons.1 hit with rfl | hit
      · exact .inr ⟨_, List.mem_cons_self .., hb⟩
      · exact .inr ⟨it, List.mem_cons_of_mem _ hit, hb⟩

theorem Ef2.append {s x : Operand} {t e : TypeId} [ht : SliceTy P t e] {sz bytes : Nat} [he' : Elem P e sz bytes] {v u : Value} {n : Nat} {xs : List Value} {α : Type} {enc : α → List Value} {l : List α}
    (hs : ev m s = some v) [hd : DelRow L v e sz n xs L'] (hx : ev m x = some u) [hF : HasArr F u sz enc l] (hbytes : (n + l.length) * bytes ≤ 140737488355328) :
    Eff2 N c P ⟨d, .call { callee := .builtin .append, args := #[s, x], argTypes := #[t, t] }, ty, pos, aft, g⟩ m L F (fun v' : Value => v') v.ownBlock (fun v' => .row e sz v' (n + l.length) (xs ++ l.flatMap enc) :: L') (fun _ => F) := fun a w hs' K Q hK => by
  obtain ⟨⟨agg, z, he, hzs⟩, hsz, hby⟩ := he'
  have h63 : n + l.length ≤ maxLen := by
    have h1 : (n + l.length) * 1 ≤ (n + l.length) * bytes := Nat.mul_le_mul_left _ hby
    have : maxLen = 9223372036854775807 := rfl
    omega
  have hp := hs'.ws.own.perm hd.perm
  have hown : w.ownsRow c.w0.heap.size e sz v n xs := hp.holds _ (List.mem_cons_self ..)
  have harr : arrP u sz enc l (dom c.D0 L) w := hs'.ws.facts _ hF.mem
  obtain ⟨i, hi, hz, hs2, hb⟩ := info_parts he.info
  unfold Oper.wp
  rw [run_call_append, hs'.agree.eval hs, hs'.agree.eval hx]
  rcases arr_src harr with ⟨rfl, rfl⟩ | ⟨ad, cp, rfl, hcells⟩
  · have hr := run_append_owned_none (P := P) w c.w0.heap.size t ty e i sz ht.und hi v n xs hown
    simp only [hr, Result.andThen_ok]
    refine hK v w (World.grownBy.refl w _) ?_ (fun b hb => .inl hb)
    simp only [List.length_nil, Nat.add_zero, List.flatMap_nil, List.append_nil]
    exact hs'.ws.row hd hown (World.grownBy.refl w _) (fun b hb => .inl hb)
  · obtain ⟨v', w', hr, h2, h3, h4⟩ := append_own (ty := ty) ht he hzs hsz hown hs'.ws.below.size (arr_flat harr) hcells (arr_one harr) h63 hbytes (cp := cp)
    simp only [hr, Result.andThen_ok]
    exact hK v' w' h3 (hs'.ws.row hd h2 h3 h4) h4

theorem SO.l2 {Q : Exit → Act → World → Prop} {ops : Array Oper} {op : Op} {M : List Nat} {w1 : World} {fuel : Nat} {listed : Array Bool} {i d : Nat} {X : Type} {val : X → Value} {wr : Option Nat} {Lx : X → List Itm} {Fx : X → List Fact}
    (hi : ops[i]? = some ⟨some d, op, ty, pos, aft, none⟩) (he : Eff2 N c P ⟨some d, op, ty, pos, aft, none⟩ m L F val wr Lx Fx) (hd : Nat.blt d N = true) (hw : ∀ b, wr = some b → b ∈ M ∨ w1.heap.size ≤ b)
    (h : ∀ x, (∀ b, (val x).ownBlock = some b → b ∈ M ∨ w1.heap.size ≤ b) → SA N c P ops Q M w1 fuel (listed.setIfInBounds i true) ((d, val x) :: m) (Lx x) (Fx x)) : SO N c P ops Q M w1 fuel listed i m L F := fun a w hs hR => by
  unfold wpOp
  rw [hi]
  simp only [Region.wanted, if_true]
  refine .inl (he a w hs _ Q (fun x w' hg hws hfr => ⟨hR.grown hg hw, h x (fun b hb => ?_) _ _ ⟨hs.agree.put hd _, hws⟩ (hR.grown hg hw)⟩))
  rcases hfr b hb with h1 | h1
  · exact hw b h1
  · have := hR.size
    exact .inr (by omega)
end
end Go.Sym
