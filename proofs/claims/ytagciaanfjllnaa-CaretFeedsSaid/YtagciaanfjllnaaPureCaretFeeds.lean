/- The caret's printed functions about feeds, in plain words. -/
import Derived.Test.YtagciaanfjllnaaPCaretFeedsx2
import Derived.Test.YtagciaanfjllnaaPCaretFeedsx3
namespace Go.Proofs.Ytagciaanfjllnaa.Pure.CaretFeeds
open Go.RowKit Go.Proofs.Ytagciaanfjllnaa.PCaretFeeds Go.Proofs.YtagciaanfjllnaaW.PrintWords Go.Proofs.YtagciaanfjllnaaW.PrintLast Go.Proofs.YtagciaanfjllnaaW.PrintMore
set_option linter.unusedVariables false
theorem w64 {x : Int} (h0 : -1000 ≤ x) (h1 : x ≤ 1000) : wrap64 x = x := by unfold wrap64; omega

/-- a row down, one row, as the reference goes -/
def dn (R B r : Int) : Int := if r = B ∨ r = R - 1 then r else r + 1
def up1 (T r : Int) : Int := if r = T ∨ r = 0 then r else r - 1

theorem stop_ (k : Nat) (r y R C T B : Int) (o : Bool) : batonref14_Step.l0 (k + 1) r y 1 1 R C T B o = some r := by
  rw [batonref14_Step.l0, if_neg (by omega)]
theorem step_down {R C T B r : Int} (k : Nat) (o : Bool) (h1 : 1 ≤ R) (h2 : R ≤ 60) (hr : 0 ≤ r) (hr2 : r < R) : batonref14_Step.f (k + 1 + 1) R C T B o r 1 1 = some (dn R B r) := by
  have e : mn (mx 1 1) 300 = 1 := by unfold mn mx; simp
  unfold batonref14_Step.f dn
  rw [e, batonref14_Step.l0]
  rw [if_pos (by omega), if_neg (by omega), if_pos (by omega), w64 (x := R - 1) (by omega) (by omega), w64 (x := r + 1) (by omega) (by omega), w64 (x := (0 : Int) + 1) (by omega) (by omega)]
  by_cases g1 : r = B
  · rw [if_pos g1, if_pos (.inl g1)]
  · rw [if_neg g1]
    by_cases g2 : r = R - 1
    · rw [if_pos g2, if_pos (.inr g2)]
    · rw [if_neg g2, if_neg (by omega)]; exact stop_ _ _ _ _ _ _ _ _
theorem step_up {R C T B r : Int} (k : Nat) (o : Bool) (h1 : 1 ≤ R) (h2 : R ≤ 60) (hr : 0 ≤ r) (hr2 : r < R) : batonref14_Step.f (k + 1 + 1) R C T B o r (-1) 1 = some (up1 T r) := by
  have e : mn (mx 1 1) 300 = 1 := by unfold mn mx; simp
  unfold batonref14_Step.f up1
  rw [e, batonref14_Step.l0]
  rw [if_pos (by omega), if_pos (by omega), if_neg (show ¬ ((-1 : Int) > 0) by omega), w64 (x := r + -1) (by omega) (by omega), w64 (x := (0 : Int) + 1) (by omega) (by omega)]
  by_cases g1 : r = T
  · rw [if_pos g1, if_pos (.inl g1)]
  · rw [if_neg g1]
    by_cases g2 : r = 0
    · rw [if_pos g2, if_pos (.inr g2)]
    · rw [if_neg g2, if_neg (by omega)]; exact stop_ _ _ _ _ _ _ _ _
theorem feed_some {R C T B r c : Int} (o q : Bool) (h1 : 1 ≤ R) (h2 : R ≤ 60) (hr : 0 ≤ r) (hr2 : r < R) : caret_Feed.f R C T B o r c q = some (dn R B r, c, q, if r = B then 1 else 0) := by
  unfold caret_Feed.f dn mn
  rw [w64 (x := R - 1) (by omega) (by omega), w64 (x := r + 1) (by omega) (by omega)]
  by_cases g1 : r = B
  · rw [if_pos g1, if_pos (.inl g1), if_pos g1]
  · rw [if_neg g1, if_neg g1]
    by_cases g2 : r = R - 1
    · rw [if_pos (by omega), if_pos (.inr g2), g2]
    · rw [if_neg (by omega), if_neg (by omega)]
theorem back_some {R C T B r c : Int} (o q : Bool) (h1 : 1 ≤ R) (h2 : R ≤ 60) (hr : 0 ≤ r) (hr2 : r < R) : caret_Back.f R C T B o r c q = some (up1 T r, c, q, if r = T then 1 else 0) := by
  unfold caret_Back.f up1 mx
  rw [w64 (x := r - 1) (by omega) (by omega)]
  by_cases g1 : r = T
  · rw [if_pos g1, if_pos (.inl g1), if_pos g1]
  · rw [if_neg g1, if_neg g1]
    by_cases g2 : r = 0
    · rw [if_pos (by omega), if_pos (.inr g2), g2]
    · rw [if_neg (by omega), if_neg (by omega)]
theorem wrote_end {R C T B r c : Int} (o q s : Bool) (h3 : 1 ≤ C) (h4 : C ≤ 132) (hc : c = C - 1) : caret_Wrote.f R C T B o r c q s = some (r, c, s) := by
  unfold caret_Wrote.f
  rw [w64 (x := C - 1) (by omega) (by omega), if_pos hc]
theorem wrote_on {R C T B r c : Int} (o q s : Bool) (h3 : 1 ≤ C) (h4 : C ≤ 132) (hc0 : 0 ≤ c) (hc1 : c < C) (hc : c ≠ C - 1) : caret_Wrote.f R C T B o r c q s = some (r, c + 1, false) := by
  unfold caret_Wrote.f
  rw [w64 (x := C - 1) (by omega) (by omega), if_neg hc, w64 (x := c + 1) (by omega) (by omega)]
end Go.Proofs.Ytagciaanfjllnaa.Pure.CaretFeeds
