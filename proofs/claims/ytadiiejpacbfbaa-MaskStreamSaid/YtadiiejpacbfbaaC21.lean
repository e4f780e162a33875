/- Proved here: rules of our own engine for walking a program, part 21: regions that draw their order and write a row and boxes. -/
import Derived.Test.YtadiiejpacbfbaaC20
namespace Go.Sym
open Go Go.RowKit

section
variable {N : Nat} {c : Ctx} {P : Program} {m : Ent} {L L' : List Itm} {F : List Fact}

theorem SC.anyR1 {Q : Exit → Act → World → Prop} {id : Nat} {ops : Array Oper} (hq : QOut Q) (v : Value) (b : Nat) {e sz n : Nat} {xs cs : List Value} {L1 L2 : List Itm} [hv : DelRow L v e sz n xs L1] [hb : DelBox L1 b cs L2] (hm : P.follows .mixedOrders = true)
    (h : ∀ w1, Stays c (blks [.row e sz v n xs, .box b cs]) w1 L2 F → QOut Q → SA N c P ops Q (blks [.row e sz v n xs, .box b cs]) w1 ops.size (Array.replicate ops.size false) m L F) : SP N c ((Code.region id ops true).wp P Q) m L F :=
  SC.any (Lm := [.row e sz v n xs, .box b cs]) (Ls := L2) (hv.perm.trans (hb.perm.cons _)) hm fun w1 hs => h w1 hs hq
theorem SC.anyR2 {Q : Exit → Act → World → Prop} {id : Nat} {ops : Array Oper} (hq : QOut Q) (v : Value) (b b' : Nat) {e sz n : Nat} {xs cs cs' : List Value} {L1 L2 L3 : List Itm} [hv : DelRow L v e sz n xs L1] [hb : DelBox L1 b cs L2] [hb' : DelBox L2 b' cs' L3] (hm : P.follows .mixedOrders = true)
    (h : ∀ w1, Stays c (blks [.row e sz v n xs, .box b cs, .box b' cs']) w1 L3 F → QOut Q → SA N c P ops Q (blks [.row e sz v n xs, .box b cs, .box b' cs']) w1 ops.size (Array.replicate ops.size false) m L F) : SP N c ((Code.region id ops true).wp P Q) m L F :=
  SC.any (Lm := [.row e sz v n xs, .box b cs, .box b' cs']) (Ls := L3) (hv.perm.trans ((hb.perm.trans (hb'.perm.cons _)).cons _)) hm fun w1 hs => h w1 hs hq
end
end Go.Sym
