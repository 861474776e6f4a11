/- The walk of the law TopKeys: whatever the parts and the order, the Go function answers true. -/
import Derived.Test.YtagciaanfjllnaaKeysK
import Derived.Test.YtagciaanfjllnaaKeysL
namespace Go.Proofs.Ytagciaanfjllnaa.Walk
open Go Go.RowKit Go.Proofs.Ytagciaanfjllnaa.Opens
theorem TopKeys (A : Option Addr) (n c : Nat) (pa : Nat → Option Addr) (pc : Nat → Nat) (pl : Nat → List Int) (B : Option Addr) (m c2 : Nat) (z : Nat → Int) (W : World) (f : n ≤ c ∧ c ≤ maxLen ∧ Keys.Parts W A n pa pc pl) (g : m ≤ c2 ∧ c2 ≤ maxLen ∧ Nums .u8 W B m z) :
    Calls Try.prog 6 #[.slice A n c, .slice B m c2] W fun e w' => e = .returned (.bool true) ∧ Below W.heap.size W w' := by
  by_cases hn : 8 < n
  · exact Keys.keys_many A B n c m c2 W hn (Nat.le_trans f.1 f.2.1)
  by_cases hm : 80 < m
  · exact Keys.keys_long A B n c m c2 W hn hm
  exact Keys.keys_main (by omega) (by omega) f.2.2 g.2.2
end Go.Proofs.Ytagciaanfjllnaa.Walk
