/- The caret's printed moves, in plain words: up, down, left and ahead lead where the reference's steps lead. -/
import Derived.Test.YtagciaanfjllnaaPCaretMovesx2
import Derived.Test.YtagciaanfjllnaaPCaretMovesx3
namespace Go.Proofs.Ytagciaanfjllnaa.Pure.CaretMoves
open Go.RowKit Go.Proofs.Ytagciaanfjllnaa.PCaretMoves Go.Proofs.YtagciaanfjllnaaW.PrintWords Go.Proofs.YtagciaanfjllnaaW.PrintLast Go.Proofs.YtagciaanfjllnaaW.PrintMore
set_option linter.unusedVariables false
theorem w64 {x : Int} (h0 : -1000 ≤ x) (h1 : x ≤ 1000) : wrap64 x = x := by unfold wrap64; omega
theorem mn_le {a b : Int} (h : a ≤ b) : mn a b = a := by unfold mn; rw [if_neg (by omega)]
theorem mn_ge {a b : Int} (h : b ≤ a) : mn a b = b := by unfold mn; split <;> omega
theorem mx_le {a b : Int} (h : a ≤ b) : mx a b = b := by unfold mx; split <;> omega
theorem mx_ge {a b : Int} (h : b ≤ a) : mx a b = a := by unfold mx; rw [if_neg (by omega)]

def kM (n : Int) : Int := mn (mx n 1) 300
theorem kM_bd (n : Int) : 1 ≤ kM n ∧ kM n ≤ 300 := by unfold kM mn mx; split <;> split at * <;> omega
def upM (T r m : Int) : Int := mx (r - m) (if T ≤ r then T else 0)
def dnM (R B r m : Int) : Int := mn (r + m) (if r ≤ B then B else R - 1)

/-- to be cut short by n rows (or columns) at the most, or by 300: the same where there are no more than 60 (132) -/
theorem cut_ (n R : Int) (h1 : 1 ≤ R) (h2 : R ≤ 132) : (mn (mx n 1) R = kM n) ∨ (mn (mx n 1) R = R ∧ R ≤ kM n) := by
  unfold kM
  by_cases h : mx n 1 ≤ R
  · left; rw [mn_le h, mn_le (by omega)]
  · right
    refine ⟨mn_ge (by omega), ?_⟩
    by_cases h3 : mx n 1 ≤ 300
    · rw [mn_le h3]; omega
    · rw [mn_ge (by omega)]; omega

theorem up_some {R C T B r c n : Int} (o q : Bool) (h1 : 1 ≤ R) (h2 : R ≤ 60) (hT : 0 ≤ T) (hr : 0 ≤ r) (hr2 : r < R) : caret_Up.f R C T B o r c q n = some (upM T r (kM n), c, false) := by
  have hk := kM_bd n
  unfold caret_Up.f upM
  rcases cut_ n R h1 (by omega) with h | ⟨h, h'⟩
  · rw [h, w64 (by omega) (by omega)]
    by_cases hc : T ≤ r
    · rw [if_pos hc, if_pos hc]
    · rw [if_neg hc, if_neg hc]
  · rw [h, w64 (by omega) (by omega)]
    by_cases hc : T ≤ r
    · rw [if_pos hc, if_pos hc, mx_le (by omega), mx_le (by omega)]
    · rw [if_neg hc, if_neg hc, mx_le (by omega), mx_le (by omega)]
theorem down_some {R C T B r c n : Int} (o q : Bool) (h1 : 1 ≤ R) (h2 : R ≤ 60) (hB : B < R) (hr : 0 ≤ r) (hr2 : r < R) : caret_Down.f R C T B o r c q n = some (dnM R B r (kM n), c, false) := by
  have hk := kM_bd n
  unfold caret_Down.f dnM
  rw [w64 (x := R - 1) (by omega) (by omega)]
  rcases cut_ n R h1 (by omega) with h | ⟨h, h'⟩
  · rw [h, w64 (by omega) (by omega)]
    by_cases hc : r ≤ B
    · rw [if_pos hc, if_pos hc]
    · rw [if_neg hc, if_neg hc]
  · rw [h, w64 (by omega) (by omega)]
    by_cases hc : r ≤ B
    · rw [if_pos hc, if_pos hc, mn_ge (by omega), mn_ge (by omega)]
    · rw [if_neg hc, if_neg hc, mn_ge (by omega), mn_ge (by omega)]
theorem left_some {R C T B r c n : Int} (o q : Bool) (h3 : 1 ≤ C) (h4 : C ≤ 132) (hc : 0 ≤ c) (hc2 : c < C) : caret_Left.f R C T B o r c q n = some (r, mx (c - kM n) 0, false) := by
  have hk := kM_bd n
  unfold caret_Left.f
  rcases cut_ n C h3 h4 with h | ⟨h, h'⟩
  · rw [h, w64 (by omega) (by omega)]
  · rw [h, w64 (by omega) (by omega), mx_le (by omega), mx_le (by omega)]
theorem ahead_some {R C T B r c n : Int} (o q : Bool) (h3 : 1 ≤ C) (h4 : C ≤ 132) (hc : 0 ≤ c) (hc2 : c < C) : caret_Ahead.f R C T B o r c q n = some (r, mn (c + kM n) (C - 1), false) := by
  have hk := kM_bd n
  unfold caret_Ahead.f
  rw [w64 (x := C - 1) (by omega) (by omega)]
  rcases cut_ n C h3 h4 with h | ⟨h, h'⟩
  · rw [h, w64 (by omega) (by omega)]
  · rw [h, w64 (by omega) (by omega), mn_ge (by omega), mn_ge (by omega)]
theorem hold_left {c k C : Int} (h : 0 ≤ c) (h2 : c < C) (hk : 1 ≤ k) : batonref14_Hold.f (c - k) 0 (C - 1) = some (mx (c - k) 0) := by
  unfold batonref14_Hold.f
  by_cases h : c - k < 0
  · rw [if_pos h, mx_le (by omega)]
  · rw [if_neg h, if_neg (by omega), mx_ge (by omega)]
theorem hold_ahead {c k C : Int} (h : 0 ≤ c) (h2 : c < C) (hk : 1 ≤ k) : batonref14_Hold.f (c + k) 0 (C - 1) = some (mn (c + k) (C - 1)) := by
  unfold batonref14_Hold.f
  rw [if_neg (by omega)]
  by_cases h : c + k > C - 1
  · rw [if_pos h, mn_ge (by omega)]
  · rw [if_neg h, mn_le (by omega)]

theorem upl {R C T B : Int} (o : Bool) (h1 : 1 ≤ R) (h2 : R ≤ 60) (hT : 0 ≤ T) (m : Int) (hm : m ≤ 300) (d : Nat) : ∀ (k : Nat) (r i : Int), 0 ≤ r → r < R → 0 ≤ i → i + d = m → d < k →
    batonref14_Step.l0 k r (-1) m i R C T B o = some (upM T r d) := by
  induction d with
  | zero =>
    intro k r i hr hr2 hi hd hk
    obtain ⟨k, rfl⟩ : ∃ j, k = j + 1 := ⟨k - 1, by omega⟩
    rw [batonref14_Step.l0, if_neg (by omega)]
    unfold upM
    by_cases hc : T ≤ r
    · rw [if_pos hc, mx_ge (by omega)]; simp
    · rw [if_neg hc, mx_ge (by omega)]; simp
  | succ d ih =>
    intro k r i hr hr2 hi hd hk
    obtain ⟨k, rfl⟩ : ∃ j, k = j + 1 := ⟨k - 1, by omega⟩
    rw [batonref14_Step.l0, if_pos (by omega), if_pos (by omega), if_neg (show ¬ ((-1 : Int) > 0) by omega), w64 (x := r + -1) (by omega) (by omega), w64 (x := i + 1) (by omega) (by omega)]
    by_cases g1 : r = T
    · rw [if_pos g1]
      unfold upM
      rw [if_pos (by omega), mx_le (by omega), g1]
    · rw [if_neg g1]
      by_cases g2 : r = 0
      · rw [if_pos g2]
        unfold upM
        rw [if_neg (by omega), mx_le (by omega), g2]
      · rw [if_neg g2, ih k (r + -1) (i + 1) (by omega) (by omega) (by omega) (by omega) (by omega)]
        unfold upM
        rw [show r + -1 - (d : Int) = r - ((d + 1 : Nat) : Int) by omega]
        by_cases hc : T ≤ r
        · rw [if_pos hc, if_pos (by omega)]
        · rw [if_neg hc, if_neg (by omega)]
theorem dnl {R C T B : Int} (o : Bool) (h1 : 1 ≤ R) (h2 : R ≤ 60) (hB : B < R) (m : Int) (hm : m ≤ 300) (d : Nat) : ∀ (k : Nat) (r i : Int), 0 ≤ r → r < R → 0 ≤ i → i + d = m → d < k →
    batonref14_Step.l0 k r 1 m i R C T B o = some (dnM R B r d) := by
  induction d with
  | zero =>
    intro k r i hr hr2 hi hd hk
    obtain ⟨k, rfl⟩ : ∃ j, k = j + 1 := ⟨k - 1, by omega⟩
    rw [batonref14_Step.l0, if_neg (by omega)]
    unfold dnM
    by_cases hc : r ≤ B
    · rw [if_pos hc, mn_le (by omega)]; simp
    · rw [if_neg hc, mn_le (by omega)]; simp
  | succ d ih =>
    intro k r i hr hr2 hi hd hk
    obtain ⟨k, rfl⟩ : ∃ j, k = j + 1 := ⟨k - 1, by omega⟩
    rw [batonref14_Step.l0, if_pos (by omega), if_neg (by omega), if_pos (by omega), w64 (x := R - 1) (by omega) (by omega), w64 (x := r + 1) (by omega) (by omega), w64 (x := i + 1) (by omega) (by omega)]
    by_cases g1 : r = B
    · rw [if_pos g1]
      unfold dnM
      rw [if_pos (by omega), mn_ge (by omega), g1]
    · rw [if_neg g1]
      by_cases g2 : r = R - 1
      · rw [if_pos g2]
        unfold dnM
        rw [if_neg (by omega), mn_ge (by omega), g2]
      · rw [if_neg g2, ih k (r + 1) (i + 1) (by omega) (by omega) (by omega) (by omega) (by omega)]
        unfold dnM
        rw [show r + 1 + (d : Int) = r + ((d + 1 : Nat) : Int) by omega]
        by_cases hc : r ≤ B
        · rw [if_pos hc, if_pos (by omega)]
        · rw [if_neg hc, if_neg (by omega)]
theorem step_up {R C T B r : Int} (n : Int) (o : Bool) (h1 : 1 ≤ R) (h2 : R ≤ 60) (hT : 0 ≤ T) (hr : 0 ≤ r) (hr2 : r < R) : batonref14_Step.f 400 R C T B o r (-1) n = some (upM T r (kM n)) := by
  have hk := kM_bd n
  have := upl (C := C) (B := B) o h1 h2 hT (kM n) hk.2 (kM n).toNat 400 r 0 hr hr2 (by omega) (by omega) (by omega)
  rw [show (((kM n).toNat : Nat) : Int) = kM n by omega] at this
  exact this
theorem step_down {R C T B r : Int} (n : Int) (o : Bool) (h1 : 1 ≤ R) (h2 : R ≤ 60) (hB : B < R) (hr : 0 ≤ r) (hr2 : r < R) : batonref14_Step.f 400 R C T B o r 1 n = some (dnM R B r (kM n)) := by
  have hk := kM_bd n
  have := dnl (C := C) (T := T) o h1 h2 hB (kM n) hk.2 (kM n).toNat 400 r 0 hr hr2 (by omega) (by omega) (by omega)
  rw [show (((kM n).toNat : Nat) : Int) = kM n by omega] at this
  exact this
end Go.Proofs.Ytagciaanfjllnaa.Pure.CaretMoves
