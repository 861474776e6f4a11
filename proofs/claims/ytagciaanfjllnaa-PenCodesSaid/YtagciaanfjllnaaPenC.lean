/- The pen's contracts: the mark of a number, the marks that a number clears, what one number changes, a colour told by several. -/
import Derived.Test.YtagciaanfjllnaaBase
import Derived.Test.YtagciaanfjllnaaOpensNums
import Derived.Test.YtagciaanfjllnaaPPenCodesx1
import Derived.IntWalk
import Derived.Lib.SmallJoins
import Derived.OpenShut
import Derived.RegionTactic
import Derived.ChangeAlike
import Derived.BigRegion
import Derived.BigQuiet
namespace Go.Proofs.Ytagciaanfjllnaa.PenC
open Go Go.RowKit Go.Proofs.Ytagciaanfjllnaa.Base Go.Proofs.Ytagciaanfjllnaa.Opens
set_option linter.unusedVariables false

/-- the mark that a number sets; 0: none -/
def markF (n : Int) : Int := if n = 1 then 1 else if n = 2 then 2 else if n = 3 then 4 else if n = 4 then 8 else if n = 5 then 16 else if n = 7 then 32 else if n = 9 then 64 else 0
def tabV : Array Value := #[.int .i64 0, .int .i64 1, .int .i64 2, .int .i64 4, .int .i64 8, .int .i64 16, .int .i64 0, .int .i64 32, .int .i64 0, .int .i64 64]

set_option maxHeartbeats 1000000 in
set_option maxRecDepth 100000 in
theorem mark_c (n : Int) (W : World) : Calls Try.prog 67 #[.int .i64 n] W fun e w' => e = .returned (.int .i64 (markF n)) ∧ Below W.heap.size W w' := by
  by_cases h : n < 1 ∨ 10 ≤ n
  · have hm : markF n = 0 := by
      unfold markF
      repeat (rw [if_neg (by omega)])
    rw [hm]
    clear hm
    rcases h with h | h
    · go_enter Try.func67, Try.ntmps67
      go_wp2_with fail
      go_ret
      exact ⟨rfl, (Below.refl _ _).alloc (Nat.le_refl _) _⟩
    · have h2 : ¬ n < 1 := by omega
      go_enter Try.func67, Try.ntmps67
      go_wp2_with fail
      go_ret
      exact ⟨rfl, (Below.refl _ _).alloc (Nat.le_refl _) _⟩
  · rcases (show n = 1 ∨ n = 2 ∨ n = 3 ∨ n = 4 ∨ n = 5 ∨ n = 6 ∨ n = 7 ∨ n = 8 ∨ n = 9 by omega) with rfl | rfl | rfl | rfl | rfl | rfl | rfl | rfl | rfl
    all_goals
      clear h
      go_enter Try.func67, Try.ntmps67
      go_wp2_with fail
      go_ret
      exact ⟨rfl, (Below.refl _ _).alloc (Nat.le_refl _) _⟩

/-- the marks that a number takes away -/
def clearF (n : Int) : Int := if n = 22 then 3 else if n < 23 ∨ 29 < n then 0 else markF (n - 20)
set_option maxHeartbeats 1000000 in
set_option maxRecDepth 100000 in
theorem clear_c (n : Int) (W : World) : Calls Try.prog 76 #[.int .i64 n] W fun e w' => e = .returned (.int .i64 (clearF n)) ∧ Below W.heap.size W w' := by
  unfold clearF
  by_cases h : n = 22
  · subst h
    rw [if_pos rfl]
    go_enter Try.func76, Try.ntmps76
    go_wp2_with fail
    go_ret
    exact ⟨rfl, Below.refl _ _⟩
  · rw [if_neg h]
    by_cases h2 : n < 23
    · rw [if_pos (Or.inl h2)]
      go_enter Try.func76, Try.ntmps76
      go_wp2_with fail
      go_ret
      exact ⟨rfl, Below.refl _ _⟩
    · by_cases h3 : 29 < n
      · rw [if_pos (Or.inr h3)]
        go_enter Try.func76, Try.ntmps76
        go_wp2_with fail
        go_ret
        exact ⟨rfl, Below.refl _ _⟩
      · rw [if_neg (by omega)]
        have s : IntKind.i64.wrap (n - 20) = n - 20 := IntWalk.i64_in _ (by omega)
        go_enter Try.func76, Try.ntmps76
        go_wp2_with (go_at_call 67; refine (mark_c _ _).mono ?_; rintro _ w1 ⟨rfl, hb⟩)
        go_ret
        exact ⟨rfl, hb⟩
end Go.Proofs.Ytagciaanfjllnaa.PenC
