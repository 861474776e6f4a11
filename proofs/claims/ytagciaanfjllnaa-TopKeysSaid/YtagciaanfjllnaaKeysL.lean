/- The law TopKeys: too many parts, or too long an order: true at once. -/
import Derived.Test.YtagciaanfjllnaaKeysA
namespace Go.Proofs.Ytagciaanfjllnaa.Keys
open Go Go.RowKit Go.Proofs.Ytagciaanfjllnaa.Base Go.Proofs.Ytagciaanfjllnaa.Opens Go.Proofs.Ytagciaanfjllnaa.Reg
set_option linter.unusedVariables false
set_option linter.unusedSimpArgs false
attribute [local go_sem ↓] Go.wp_at_zero Go.wp_at_succ
set_option maxHeartbeats 4000000 in
set_option maxRecDepth 100000 in
theorem keys_many (A B : Option Addr) (n c m c2 : Nat) (W : World) (h : 8 < n) (hn : n ≤ maxLen) :
    Calls Try.prog 6 #[.slice A n c, .slice B m c2] W fun e w' => e = .returned (.bool true) ∧ Below W.heap.size W w' := by
  have a1 : (8 : Int) < (n : Int) := by omega
  go_enter Try.func6, Try.ntmps6
  go_wp2_with fail
  go_ret
  exact ⟨rfl, Below.refl _ _⟩
set_option maxHeartbeats 4000000 in
set_option maxRecDepth 100000 in
theorem keys_long (A B : Option Addr) (n c m c2 : Nat) (W : World) (h : ¬ 8 < n) (hm : 80 < m) :
    Calls Try.prog 6 #[.slice A n c, .slice B m c2] W fun e w' => e = .returned (.bool true) ∧ Below W.heap.size W w' := by
  have a1 : ¬ (8 : Int) < (n : Int) := by omega
  have a2 : (80 : Int) < (m : Int) := by omega
  go_enter Try.func6, Try.ntmps6
  go_wp2_with fail
  go_ret
  exact ⟨rfl, Below.refl _ _⟩
end Go.Proofs.Ytagciaanfjllnaa.Keys
