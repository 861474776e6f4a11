/- A region that draws its order, taken by hand: one law for an operation that is taken first (a copy, a load that the held facts give, an operation whose guard says no). -/
import Derived.Deep.RegionHeld3
import Derived.Tactics
namespace Go.Proofs.Ytagciaanfjllnaa.Reg
open Go
theorem takeH {P : Program} {ops : Array Oper} {Q : Exit → Act → World → Prop} {md : Region.Mode} {S : World → Prop} {i : Nat} {N : Option Tmp} {oi : Oper} {v : Value} {fuel : Nat} {listed : Array Bool} {a : Act} {w : World}
    (hi : ops[i]? = some oi) (hN : oi.dst = N) (hs : Region.noSelect ops = true) (hf : Region.free md ops listed i = true) (hr : (Region.ready md ops listed).contains i = true)
    (hQ : ∀ c a w, Q (.panic c) (a.put oi.dst v) w → Q (.panic c) a w) (hy : YieldsIf P ops S oi v a) (hS : S w) {a' : Act} (ha : a.put N v = a')
    (h : wpAnyH P md ops Q S fuel (listed.setIfInBounds i true) a' w) : wpAnyH P md ops Q S (fuel + 1) listed a w := by
  subst hN
  subst ha
  exact wpAnyH_take hi hs hf hr hQ hy hS h
end Go.Proofs.Ytagciaanfjllnaa.Reg
