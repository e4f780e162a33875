/- Proved here: rules of our own engine for walking a program, part 25: a variable of the library's that holds some number, a strings.Builder in a call's own memory, a law's frame with facts on the library's variables. -/
import Derived.Test.YtadiiejpacbfbaaC24
import Derived.HandedShaped
import Derived.Lib.Builder
namespace Go.Sym
open Go Go.RowKit Go.ChangeShapes Go.WideShapes

/-- a package variable's one cell holds some number -/
def Fact.num (b : Nat) : Fact where
  p := fun D w => ¬ D b ∧ ∃ m, w.cell? ⟨b, 0, none⟩ = some (.int .i64 m)
  mono := by
    rintro D w D' w' ⟨hD, m, hm⟩ hx
    have hlt : b < w.heap.size := by
      rcases Nat.lt_or_ge b w.heap.size with h' | h'
      · exact h'
      · simp [World.cell?, Array.getElem?_eq_none h'] at hm
    obtain ⟨h1, h2⟩ := hx.same b hlt hD
    exact ⟨h1, m, by rw [World.cell?_of_block (w := w) h2]; exact hm⟩

/-- a call that leaves the world as it was -/
theorem FSpec.quiet {P : Program} {f : FuncId} {args : Array Value} {pre : List Fact} {v : Value} (h : ∀ D w, AllF pre D w → Calls P f args w fun e w' => e = .returned v ∧ w' = w) :
    FSpec P f args pre (fun _ : Unit => v) (fun _ => []) (fun _ => []) := fun D w _ hp => (h D w hp).mono fun e w' ⟨he, hw⟩ => by
  subst hw
  exact ⟨(), he, Below.refl _ _, ⟨fun _ h => (by cases h), List.Pairwise.nil⟩, AllF.nil _ _⟩

/-- as 'FSpec.intro', with what is known of the world at the beginning -/
theorem FSpec.intro0 {P : Program} {f : FuncId} {fn : Func} {body : Code} {N : Nat} {vs : List Value} {pre : List Fact} {X : Type} {val : X → Value} {own : X → List Itm} {post : X → List Fact}
    (hf : P.funcs[f]? = some fn) (hb : fn.body = some body) (hN : fn.ntmps = N) (hle : Nat.ble vs.length N = true)
    (h : ∀ c, AllF pre c.D0 c.w0 → SP N c (body.wp P (Ret P fn c val own post)) (argEnt 0 vs) [] pre) : FSpec P f vs.toArray pre val own post := by
  intro D w hD hpre
  refine calls_of_wp hf hb (h ⟨D, w⟩ hpre _ w ⟨⟨rfl, ?_, ?_⟩, ⟨hD, Below.refl _ _, ⟨(fun _ hit => by cases hit), List.Pairwise.nil⟩, ?_⟩⟩)
  · have : vs.length ≤ N := Nat.le_of_ble_eq_true hle
    simp [hN]; omega
  · intro t v ht
    obtain ⟨_, h2⟩ := argEnt_get vs 0 t v ht
    rw [Nat.sub_zero] at h2
    have hlt := (List.getElem?_eq_some_iff.1 h2).1
    rw [Array.getD_eq_getD_getElem?, Array.getElem?_append_left (by simpa using hlt), List.getElem?_toArray, h2]
    rfl
  · refine hpre.mono (Nxt.less ?_)
    rintro k (h0 | ⟨it, hit, _⟩)
    · exact h0
    · cases hit

section
variable {c : Ctx} {P : Program}

/-- a strings.Builder of the call's own: its block, and the row that is its buffer -/
abbrev bld (T e : TypeId) (b : Nat) (p v : Value) (bs : List Value) : List Itm := [.raw b (.cells #[p, v] T (0, 0)), .row e 1 v bs.length bs]

theorem isBuilder_of {T e : TypeId} {b : Nat} {p v : Value} {bs : List Value} {F : List Fact} {w : World} (h : WSt c (bld T e b p v bs) F w) (hp : p = .pointer none ∨ p = .pointer (some ⟨b, 0, none⟩)) : Lib.IsBuilder T e c.w0.heap.size b bs w := by
  obtain ⟨h1, h2⟩ := h.own.holds (.raw b (.cells #[p, v] T (0, 0))) (List.mem_cons_self ..)
  have h3 := h.own.holds (.row e 1 v bs.length bs) (List.mem_cons_of_mem _ (List.mem_cons_self ..))
  have h4 := (List.pairwise_cons.1 h.own.disj).1 (.row e 1 v bs.length bs) (List.mem_cons_self ..) b rfl
  have hb : Lib.BuilderAt T e c.w0.heap.size b p bs w := ⟨h1, v, h2, h3, h4⟩
  rcases hp with rfl | rfl
  · exact .inl hb
  · exact .inr hb

theorem facts0 {F : List Fact} {w w' : World} {L : List Itm} (hF0 : AllF F c.D0 c.w0) (hown : Own c.w0.heap.size L w') (hb : Below c.w0.heap.size c.w0 w') : AllF F (dom c.D0 L) w' := by
  refine hF0.mono ⟨hb.size, fun k hk hD => ⟨?_, hb.block k hk⟩⟩
  rintro (h0 | ⟨it, hit, hbk⟩)
  · exact hD h0
  · have := (Itm.holds_lt (hown.holds it hit) hbk).1
    omega

theorem SpecI.bldPut {T e : TypeId} {b : Nat} {p q v u : Value} {bs bs' : List Value} {F : List Fact} {f : FuncId} {args : Array Value} (hF0 : AllF F c.D0 c.w0) (hp : p = .pointer none ∨ p = .pointer (some ⟨b, 0, none⟩))
    (h : ∀ w, Lib.IsBuilder T e c.w0.heap.size b bs w → c.w0.heap.size ≤ w.heap.size → Calls P f args w fun e' w' => e' = .returned u ∧ (Lib.BuilderAt T e c.w0.heap.size b q bs' w' ∧ Below c.w0.heap.size w w')) :
    SpecI c P f args (bld T e b p v bs) F (fun _ : Value => u) (fun v' => bld T e b q v' bs') (fun _ => F) := by
  intro w hw
  refine (h w (isBuilder_of hw hp) hw.below.size).mono ?_
  rintro e' w' ⟨rfl, ⟨hB, v', hh, hrow, hne⟩, hbel⟩
  have hbel' := hw.below.trans hbel
  have hown : Own c.w0.heap.size (bld T e b q v' bs') w' := by
    refine ⟨fun it hit => ?_, ?_⟩
    · simp only [List.mem_cons, List.not_mem_nil, or_false] at hit
      rcases hit with rfl | rfl
      · exact ⟨hB, hh⟩
      · exact hrow
    · refine List.pairwise_cons.2 ⟨fun y hy k hk hyk => ?_, List.pairwise_singleton ..⟩
      simp only [List.mem_cons, List.not_mem_nil, or_false] at hy
      subst hy
      simp only [Itm.blk, Option.some.injEq] at hk
      subst hk
      exact hne hyk
  exact ⟨v', rfl, hbel', hown, facts0 (w := w) hF0 hown hbel'⟩

theorem SpecI.bldEnd {T e : TypeId} {b : Nat} {p v u : Value} {bs : List Value} {F : List Fact} {f : FuncId} {args : Array Value} (hF0 : AllF F c.D0 c.w0) (hp : p = .pointer none ∨ p = .pointer (some ⟨b, 0, none⟩))
    (h : ∀ w, Lib.IsBuilder T e c.w0.heap.size b bs w → c.w0.heap.size ≤ w.heap.size → Calls P f args w fun e' w' => e' = .returned u ∧ Below c.w0.heap.size w w') :
    SpecI c P f args (bld T e b p v bs) F (fun _ : Unit => u) (fun _ => []) (fun _ => F) := by
  intro w hw
  refine (h w (isBuilder_of hw hp) hw.below.size).mono ?_
  rintro e' w' ⟨rfl, hbel⟩
  have hbel' := hw.below.trans hbel
  have hown : Own c.w0.heap.size [] w' := ⟨fun _ h => (by cases h), List.Pairwise.nil⟩
  exact ⟨(), rfl, hbel', hown, facts0 (w := w) hF0 hown hbel'⟩

variable {N : Nat} {m : Ent} {L : List Itm} {F : List Fact} {d : Option Tmp} {ty : TypeId} {pos : String} {aft : Array Edge} {g : Option (Nat × Bool)}
/-- a new variable, its type kept -/
theorem Ef.allocRaw {t : TypeId} {agg : Bool} {sz bytes : Nat} {z : Value} [ht : Ty P t agg sz bytes z] :
    Eff N c P ⟨d, .alloc t, ty, pos, aft, g⟩ m L F (fun b : Nat => .pointer (some ⟨b, 0, none⟩)) none (fun b => .raw b (.cells z.cells t (0, 0)) :: L) (fun _ => F) := fun a w hs K Q hK => by
  unfold Oper.wp
  simp only [execOp, Instr.alloc, Sem.run_bind, ht.zero_run, Result.andThen_ok, newVar, newRow, run_newObj, Sem.run_pure]
  exact hK w.heap.size _ (World.grownBy_alloc w _ none) (hs.ws.newRaw _)
end
theorem lift_lawG {C : Checked} {P : Program} (hP : C.prog = P) {os : Os} {f : FuncId} {fn : Func} {s : ChangeSpec} {conds : List PathCond} {H : Type} {enc : TypeId × Value → H} (own : ownKnob C.prog.godebug = none) (started : os.Started) (noInit : C.prog.inits.idxOf? f = none) (hfn : C.prog.funcs[f]? = some fn)
    (witness : ∃ (w : World) (tape : Tape) (i : Input), w.os = os ∧ (w.forCall tape i).Shaped C.prog ∧ i.vars = [] ∧ Input.okWide C.prog (w.forCall tape i) .any w.heap.size f i ∧
      s.pre6 enc C.prog fn conds false (w.forCall tape i).memory i.args ∧ Assume.holds {} C.prog (lone (Frame.enter C.prog f i.args .normal) [] (w.forCall tape i)))
    (laid : laidOutB C.prog = true) (hvars : s.vars = []) {ts : List TypeId} (hpar : fn.params.toList = ts) (hread : ts.all (fun t => C.prog.readableRec t && decide (t < C.prog.types.size)) = true)
    {tb : TypeId} (hres : fn.resultTypes = #[tb]) (htb : C.prog.underlying tb = some .bool) {α : Type} {vals : α → List Value} {ok : α → Prop} {fs : α → List Fact} [hA : OpnA P ts α vals ok fs]
    (hspec : ∀ ds : List (DataW H), ds.length = ts.length → s.fn H ds = { results := [.lit (.bool true)], args := ds })
    (G : List Fact) (hG : ∀ W : World, W.ShapedOpen C.prog → AllF G (fun _ => False) W)
    (h : ∀ a, ok a → ∃ (X : Type) (own : X → List Itm) (post : X → List Fact), FSpec P f (vals a).toArray (fs a ++ G) (fun _ : X => .bool true) own post) :
    ReturnsInHanded {} C os f .any (s.pre6 enc C.prog fn conds false) (s.post enc C.prog fn false true false false) := by
  subst hP
  refine returnsInHanded_of_change_shaped (C := C) own started noInit hfn witness ?_
  intro W base args ds gs before hval hW _ _ hsh _
  have hW' := hW
  obtain ⟨p, q, hT, hV, rfl, hfz, hnd⟩ := hW
  rw [hvars] at hV
  obtain ⟨rfl, rfl⟩ := trodVars_none hV
  have hT0 := hT
  rw [hpar] at hT
  obtain ⟨hl1, hl2, heach⟩ := trodAll_each hT
  obtain ⟨a, hargs, hok, hfs⟩ := hA.down W W base args.toList hl1 (fun j t v hj hv => by
    refine ⟨hval j t v (by rw [← hpar] at hj; simpa using hj) (by simpa using hv), ?_⟩
    obtain ⟨d, p, fuel, hf⟩ := heach j t v hj hv
    exact ⟨fuel, H, enc, _, hf⟩)
  obtain ⟨X, ow, post, hS⟩ := h a hok
  have hargs' : args = (vals a).toArray := by rw [← hargs]
  subst hargs'
  refine (hS (fun _ => False) W (fun _ hk => hk.elim) (hfs.append (hG W hsh))).mono fun e W' ⟨x, he, bel, _, _⟩ => ?_
  subst he
  have hsp := hspec ds hl2
  have hdg : ds ++ [] = ds := List.append_nil ds
  refine ⟨_, rfl, ds, [], p ++ [], [], p, [], hW', ?_, ?_, ?_, bel.frame _, fun h => by cases h⟩
  · rw [hdg, hsp, hres]
    exact trodAll_mk1 (shut_bool htb _)
  · rw [hdg, hsp, hpar]
    exact trodAll_again laid bel hread (by simpa using hT)
  · rw [hvars, hdg, hsp]
    rfl

end Go.Sym
