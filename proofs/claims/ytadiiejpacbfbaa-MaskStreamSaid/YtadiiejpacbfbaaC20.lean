/- Proved here: rules of our own engine for walking a program, part 20: two struct results. -/
import Derived.Test.YtadiiejpacbfbaaC19
namespace Go.Sym
open Go Go.RowKit

section
variable {N : Nat} {c : Ctx} {P : Program} {m : Ent} {L L' : List Itm} {F : List Fact}

theorem RetC.cc1 {fn : Func} {X : Type} {val : X → Value} {own : X → List Itm} {post : X → List Fact} {t u s : Tmp} {v : Value} {rt rt' : TypeId} {sz bytes sz' bytes' : Nat} {z z' : Value} [hty : Ty P rt true sz bytes z] [hty' : Ty P rt' true sz' bytes' z'] {b b' : Nat} {cs cs' : List Value} (x : X)
    (hr : fn.results = #[.cell t rt, .cell u rt', .tmp s]) (ht : get m t = some (.pointer (some ⟨b, 0, none⟩))) (hu : get m u = some (.pointer (some ⟨b', 0, none⟩)))
    (hsv : get m s = some v) [hb : HasBox L b cs] (hl : cs.length = sz) [hb' : HasBox L b' cs'] (hl' : cs'.length = sz') (hv : .tuple #[.agg cs.toArray, .agg cs'.toArray, v] = val x) (hL : SubL (own x) L) (hF : Ents F (post x)) :
    SP N c (Ret P fn c val own post .ret) m L F := fun a w hs => by
  refine ⟨hs.agree.defers, _, ?_, x, by rw [← hv], hs.ws.below, (hs.ws.less hL hF).own, (hs.ws.less hL hF).facts⟩
  have e1 := hs.agree.val t _ ht
  have e2 := hs.agree.val u _ hu
  have e3 := hs.agree.val s _ hsv
  simp only [Array.getD_eq_getD_getElem?] at e1 e2 e3
  simp [results, hr, e1, e2, e3, asAddr, box_result hty hs.ws hb hl, box_result hty' hs.ws hb' hl']

/-- a region that draws its order and writes two boxes -/
theorem SC.any2 {Q : Exit → Act → World → Prop} {id : Nat} {ops : Array Oper} (hq : QOut Q) (b b' : Nat) {cs cs' : List Value} {L1 L2 : List Itm} [hb : DelBox L b cs L1] [hb' : DelBox L1 b' cs' L2] (hm : P.follows .mixedOrders = true)
    (h : ∀ w1, Stays c [b, b'] w1 L2 F → QOut Q → SA N c P ops Q [b, b'] w1 ops.size (Array.replicate ops.size false) m L F) : SP N c ((Code.region id ops true).wp P Q) m L F :=
  SC.any (Lm := [.box b cs, .box b' cs']) (Ls := L2) (hb.perm.trans (hb'.perm.cons _)) hm fun w1 hs => h w1 hs hq
end
end Go.Sym
