/- A region that draws its order: the list of what has come up, written anew. -/
import Derived.Test.YtagciaanfjllnaaRegion
namespace Go.Proofs.Ytagciaanfjllnaa.Reg
open Go
theorem relist {P : Program} {ops : Array Oper} {Q : Exit → Act → World → Prop} {md : Region.Mode} {S : World → Prop} {fuel : Nat} {listed : Array Bool} {a : Act} {w : World} (listed' : Array Bool) (fuel' : Nat)
    (h : (listed == listed') = true) (hf : (fuel == fuel') = true) (H : wpAnyH P md ops Q S fuel' listed' a w) : wpAnyH P md ops Q S fuel listed a w := by
  rw [eq_of_beq h, eq_of_beq hf]
  exact H
end Go.Proofs.Ytagciaanfjllnaa.Reg
