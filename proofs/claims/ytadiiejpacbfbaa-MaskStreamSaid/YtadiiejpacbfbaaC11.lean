/- Proved here: rules of our own engine for walking a program, part 11: literals as own rows, and a constant's bytes given away. -/
import Derived.Test.YtadiiejpacbfbaaC10
namespace Go.Sym
open Go Go.RowKit

section
variable {N : Nat} {c : Ctx} {P : Program} {m : Ent} {L L' : List Itm} {F : List Fact} {d : Option Tmp} {ty : TypeId} {pos : String} {aft : Array Edge} {g : Option (Nat × Bool)}

/-- a slice's literal, as an own row -/
theorem Ef.slice1O {t e : TypeId} [ht : SliceTy P t e] {sz bytes : Nat} [he' : Elem P e sz bytes] {n : Nat} {parts : List (Nat × Operand)} {vs : List Value} {α : Type} (enc : α → List Value) (l : List α)
    (hx : evl m (parts.map (·.2)) = some vs) (hi : parts.map (·.1) = List.range' 0 n) (hlen : Nat.beq vs.length n = true) (hn : Nat.ble (n * sz) 16777216 = true) (hpos : Nat.blt 0 n = true) (hv : vs.map (fun v => v.cells.toList) = l.map enc)
    (h1 : ∀ x ∈ l, (enc x).length = sz ∧ ∀ u ∈ enc x, u.oneCell' = true) :
    Eff N c P ⟨d, .buildSlice t n parts.toArray, ty, pos, aft, g⟩ m L F (fun b : Nat => .slice (some ⟨b, 0, none⟩) n n) none (fun b => .row e sz (.slice (some ⟨b, 0, none⟩) n n) n (l.flatMap enc) :: L) (fun _ => F) := fun a w hs K Q hK => by
  obtain ⟨⟨agg, z, he, hzs⟩, hsz, _⟩ := he'
  have hlen : vs.length = n := Nat.eq_of_beq_eq_true hlen
  have hn : n * sz ≤ 2 ^ 24 := Nat.le_of_ble_eq_true hn
  have hn0 : 0 < n := by simpa using hpos
  have hpos : ¬ n * sz = 0 := Nat.ne_of_gt (Nat.mul_pos hn0 hsz)
  have hll : l.length = n := by
    have := congrArg List.length hv
    simp at this
    omega
  have hflat : (vs.flatMap fun v => v.cells.toList) = l.flatMap enc := by rw [List.flatMap_def, List.flatMap_def, hv]
  have hsizes : ∀ v ∈ vs, v.cells.size = sz := fun v hvm => by
    have : v.cells.toList ∈ vs.map (fun v => v.cells.toList) := List.mem_map_of_mem hvm
    rw [hv] at this
    obtain ⟨x, hx, hxe⟩ := List.mem_map.1 this
    rw [← Array.length_toList, ← hxe]
    exact (h1 x hx).1
  have hfill : Instr.fill (fun i => some (i * sz, sz)) ((Array.range (n * sz)).map (z.cells[· % z.cells.size]!)) ((parts.map (·.1)).zip vs) = some (l.flatMap enc).toArray := by
    rw [hi, ← hlen, fill_seq sz vs 0 _ hsizes (by simp)]
    simp [hflat]
  have hps : (parts.toArray.map fun (i, x) => (i, a.eval x)) = ((parts.map (·.1)).zip vs).toArray := by
    rw [← evl_spec hs.agree hx]
    rw [List.map_toArray, zip_parts]
  unfold Oper.wp
  simp only [execOp, hps, Sem.run_bind, fill_run ht he hn hpos hfill, Result.andThen_ok, Sem.run_pure]
  have hfl : (l.flatMap enc).length = n * sz := by rw [flatMap_length (fun x hx => (h1 x hx).1), hll]
  have hnb : n ≤ maxLen := by
    have : maxLen = 9223372036854775807 := rfl
    have h16 : n * 1 ≤ n * sz := Nat.mul_le_mul_left _ hsz
    omega
  have hw := hs.ws.new (l.flatMap enc).toArray e
  refine hK w.heap.size _ (World.grownBy_alloc w _ none) ⟨hw.d0, hw.below, ⟨?_, ?_⟩, hw.facts.mono (Nxt.less ?_)⟩
  · intro it hit
    rcases List.mem_cons.1 hit with rfl | hit
    · obtain ⟨hb, e', h3⟩ := hw.own.holds _ (List.mem_cons_self ..)
      refine ⟨hfl, .inr ⟨w.heap.size, n, (l.flatMap enc).toArray, rfl, hs.ws.below.size, Go.heap_alloc_new w _, Nat.le_refl _, hnb, by simp [hfl], ?_⟩⟩
      show (l.flatMap enc).take (n * sz) = _
      exact List.take_of_length_le (by omega)
    · exact hw.own.holds it (List.mem_cons_of_mem _ hit)
  · exact List.pairwise_cons.2 ⟨fun y hy k hk => (List.pairwise_cons.1 hw.own.disj).1 y hy k hk, (List.pairwise_cons.1 hw.own.disj).2⟩
  · rintro k (h0 | ⟨it, hit, hb⟩)
    · exact .inl h0
    · rcases List.mem_cons.1 hit with rfl | hit
      · exact .inr ⟨_, List.mem_cons_self .., hb⟩
      · exact .inr ⟨it, List.mem_cons_of_mem _ hit, hb⟩

theorem freeze_block (w : World) (b k : Nat) (C : Array Value) (e : TypeId) (h : w.heap[b]? = some (.cells C e (0, 0))) : (w.freeze ⟨b, k, none⟩ 1).heap[b]? = some (.cells C e (k, k + 1)) := by
  unfold World.freeze
  rw [if_neg (by decide)]
  show (w.heap.modify b _)[b]? = _
  rw [Array.getElem?_modify, if_pos rfl, h]
  rfl
theorem freeze_other (w : World) (b k j : Nat) (h : j ≠ b) : (w.freeze ⟨b, k, none⟩ 1).heap[j]? = w.heap[j]? := by
  unfold World.freeze
  rw [if_neg (by decide)]
  show (w.heap.modify b _)[j]? = _
  rw [Array.getElem?_modify, if_neg (Ne.symm h)]
theorem freeze_size (w : World) (b k : Nat) : (w.freeze ⟨b, k, none⟩ 1).heap.size = w.heap.size := by
  unfold World.freeze
  rw [if_neg (by decide)]
  show (w.heap.modify b _).size = _
  simp

/-- '[]byte("..")' of a constant: the row is given away -/
theorem Ef.convSelf {x : Operand} {t e : TypeId} [ht : SliceTy P t e] [he : IntTy P e .u8] {b n cp n' : Nat} {xs : List Value} {α : Type} (enc : α → List Value) (l : List α) (hx : ev m x = some (.slice (some ⟨b, 0, none⟩) n cp)) [hd : DelRow L (.slice (some ⟨b, 0, none⟩) n cp) e 1 n' xs L']
    (hl : l.length = n') (hxs : xs = l.flatMap enc) (h1 : ∀ x ∈ l, (enc x).length = 1 ∧ ∀ u ∈ enc x, u.oneCell' = true) :
    Eff N c P ⟨d, .convert t t x, ty, pos, aft, g⟩ m L F (fun _ : Unit => .slice (some ⟨b, 0, none⟩) n cp) (some b) (fun _ => L') (fun _ => Fact.arr (.slice (some ⟨b, 0, none⟩) n cp) 1 enc l :: F) := fun a w hs K Q hK => by
  have hp := hs.ws.own.perm hd.perm
  have hown : w.ownsRow c.w0.heap.size e 1 (.slice (some ⟨b, 0, none⟩) n cp) n' xs := hp.holds _ (List.mem_cons_self ..)
  have hap := (List.pairwise_cons.1 hp.disj).1
  rcases hown.2 with ⟨h0, _⟩ | ⟨gg, cap, cur, hvv, hbg, hg, hnc, hcm, hcs, htake⟩
  · cases h0
  injection hvv with e1 e2 e3
  injection e1 with e1
  injection e1 with e1 _ _
  subst e1 e2 e3
  have hsh : w.shape? b = some (e, cur.size) := by unfold World.shape?; rw [hg]
  unfold Oper.wp
  have hr : (convert t t (.slice (some ⟨b, 0, none⟩) n cp)).run P w = .ok (.slice (some ⟨b, 0, none⟩) n cp) (w.freeze ⟨b, cur.size, none⟩ 1) := by
    simp [convert, run_underlying ht.und, run_underlying he.und, markStringish, hsh]
  simp only [execOp, hs.agree.eval hx, Sem.run_bind, hr, Result.andThen_ok, Sem.run_pure]
  have hoth := fun j h => freeze_other w b cur.size j h
  have hgrown : w.grownBy (w.freeze ⟨b, cur.size, none⟩ 1) (some b) := ⟨by unfold World.freeze; rw [if_neg (by decide)], by unfold World.freeze; rw [if_neg (by decide)], by unfold World.freeze; rw [if_neg (by decide)], by rw [freeze_size]; exact Nat.le_refl _, fun k _ hne => hoth k (fun e => hne (by rw [e]))⟩
  refine hK () _ hgrown ?_
  have hws : WSt c L' F (w.freeze ⟨b, cur.size, none⟩ 1) := by
    refine hs.ws.step hgrown.os hgrown.tape hgrown.output hgrown.size (fun k hk hn => hoth k (fun e => hn ⟨_, hd.perm.mem_iff.2 (List.mem_cons_self ..), by simp [Itm.blk, Value.ownBlock, e]⟩)) ⟨?_, (List.pairwise_cons.1 hp.disj).2⟩ ?_
    · intro it hit
      refine Itm.holds_same (hp.holds it (List.mem_cons_of_mem _ hit)) (fun k hk => hoth k (fun e => ?_))
      subst e
      exact hap it hit k rfl hk
    · intro it hit k hk _
      exact ⟨it, hd.perm.mem_iff.2 (List.mem_cons_of_mem _ hit), hk⟩
  refine ⟨hws.d0, hws.below, hws.own, AllF.cons ?_ hws.facts⟩
  subst hl
  refine ⟨_, cp, rfl, hnc, hcm, (fun h => by cases h), h1, fun _ => ⟨b, 0, rfl, ?_, ?_, ?_⟩⟩
  · rw [freeze_size]
    exact (Array.getElem?_eq_some_iff.1 hg).1
  · rintro (h0 | ⟨it, hit, hb⟩)
    · have := hs.ws.d0 b h0
      omega
    · exact hap it hit b rfl hb
  · intro j u hu
    rw [Nat.zero_add, cell_of_row _ b j cur e _ (freeze_block w b cur.size cur e hg), ← Array.getElem?_toList]
    rw [← hxs, ← htake, List.getElem?_take] at hu
    split at hu
    · exact hu
    · cases hu
end
end Go.Sym
