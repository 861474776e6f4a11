/- TimerOnce, without Go and memory: an armed timer of at most 300 ticks fires just once in as many ticks in a row as its span, wherever they begin. -/
import Derived.Test.YtagciaanfjllnaaPTimerOncex1
namespace Go.Proofs.Ytagciaanfjllnaa.Pure.TimerOnce
open Go.RowKit Go.Proofs.Ytagciaanfjllnaa.PTimerOnce
set_option linter.unusedVariables false

theorem right_some (b : Bool) (e l : Int) : timer_Right.f b e l = some (decide (1 ≤ e ∧ e ≤ 1000 ∧ 0 ≤ l ∧ l < e)) := by
  unfold timer_Right.f
  by_cases h1 : 1 ≤ e
  · by_cases h2 : e ≤ 1000
    · by_cases h3 : 0 ≤ l
      · rw [if_pos h1, if_pos h2, if_pos h3]; simp [h1, h2, h3]
      · rw [if_pos h1, if_pos h2, if_neg h3]; simp [h3]
    · rw [if_pos h1, if_neg h2]; simp [h2]
  · rw [if_neg h1]; simp [h1]

theorem tick_down {e l : Int} (h0 : 0 < l) (h1 : l ≤ 1000) : timer_Timer_Tick.f true e l = some (true, e, l - 1, false) := by
  have : wrap64 (l - 1) = l - 1 := by unfold wrap64; omega
  simp [timer_Timer_Tick.f, h0, this]
theorem tick_fire {e : Int} (h0 : 1 ≤ e) (h1 : e ≤ 1000) : timer_Timer_Tick.f true e 0 = some (true, e, e - 1, true) := by
  have : wrap64 (e - 1) = e - 1 := by unfold wrap64; omega
  simp [timer_Timer_Tick.f, this]
theorem w8 {x : Int} (h0 : 0 ≤ x) (h1 : x ≤ 2000) : wrap64 x = x := by unfold wrap64; omega
theorem awake_true : batonlaw30_awake.f = some true := by decide +kernel

/-- the counting loop: i ticks were made, m times it went off (0 or 1), c are left till the next time -/
theorem count {e l0 : Int} (he : 1 ≤ e) (he2 : e ≤ 300) (d : Nat) : ∀ (k : Nat) (i c m : Int), 0 ≤ i → i + d = e → d < k → 0 ≤ c → c < e → ((m = 0 ∧ c + i < e) ∨ (m = 1 ∧ e ≤ c + i)) →
    batonlaw30_TimerOnce.l1 k m true i true e l0 true e c = some true := by
  induction d with
  | zero =>
    intro k i c m hi hd hk hc hce h
    obtain ⟨k, rfl⟩ : ∃ m, k = m + 1 := ⟨k - 1, by omega⟩
    simp only [batonlaw30_TimerOnce.l1]
    rw [if_neg (by omega), if_pos (by omega)]
  | succ d ih =>
    intro k i c m hi hd hk hc hce h
    obtain ⟨k, rfl⟩ : ∃ m, k = m + 1 := ⟨k - 1, by omega⟩
    simp only [batonlaw30_TimerOnce.l1]
    rw [if_pos (by omega), w8 (x := i + 1) (by omega) (by omega)]
    by_cases h0 : c = 0
    · subst h0
      rw [tick_fire he (by omega)]
      simp only [Option.bind_some, if_true]
      rw [w8 (x := m + 1) (by omega) (by omega)]
      exact ih k (i + 1) (e - 1) (m + 1) (by omega) (by omega) (by omega) (by omega) (by omega) (by omega)
    · rw [tick_down (by omega) (by omega)]
      simp only [Option.bind_some]
      rw [if_neg (by decide)]
      exact ih k (i + 1) (c - 1) m (by omega) (by omega) (by omega) (by omega) (by omega) (by omega)

theorem skips {e l0 n : Int} (he : 1 ≤ e) (he2 : e ≤ 300) (hn0 : 0 ≤ n) (hn : n ≤ 255) (d : Nat) : ∀ (k : Nat) (i c : Int), 0 ≤ i → i + d = n → d + e.toNat + 2 < k → 0 ≤ c → c < e →
    batonlaw30_TimerOnce.l0 k n i true e l0 true e c = some true := by
  induction d with
  | zero =>
    intro k i c hi hd hk hc hce
    obtain ⟨k, rfl⟩ : ∃ m, k = m + 1 := ⟨k - 1, by omega⟩
    simp only [batonlaw30_TimerOnce.l0]
    rw [w8 hn0 (by omega), if_neg (by omega)]
    simp only [timer_Timer_Soon.f, Option.bind_some]
    rw [tick_fire he (by omega)]
    exact count he he2 e.toNat k 0 c 0 (by omega) (by omega) (by omega) hc hce (by omega)
  | succ d ih =>
    intro k i c hi hd hk hc hce
    obtain ⟨k, rfl⟩ : ∃ m, k = m + 1 := ⟨k - 1, by omega⟩
    simp only [batonlaw30_TimerOnce.l0]
    rw [w8 hn0 (by omega), if_pos (by omega), w8 (x := i + 1) (by omega) (by omega)]
    by_cases h0 : c = 0
    · subst h0
      rw [tick_fire he (by omega)]
      exact ih k (i + 1) (e - 1) (by omega) (by omega) (by omega) (by omega) (by omega)
    · rw [tick_down (by omega) (by omega)]
      exact ih k (i + 1) (c - 1) (by omega) (by omega) (by omega) (by omega) (by omega)

theorem j_true (k : Nat) (n : Int) (b : Bool) (e l : Int) : batonlaw30_TimerOnce.j0 (k + 1) n true b e l = some true := by simp [batonlaw30_TimerOnce.j0]

theorem pure (on : Bool) (e l n : Int) (hn0 : 0 ≤ n) (hn : n ≤ 255) : ∃ k, batonlaw30_TimerOnce.f k on e l n = some true := by
  refine ⟨1000 + 1, ?_⟩
  unfold batonlaw30_TimerOnce.f
  rw [awake_true, right_some]
  simp only [Option.bind_some, if_true]
  by_cases h : 1 ≤ e ∧ e ≤ 1000 ∧ 0 ≤ l ∧ l < e
  · rw [if_pos (decide_eq_true h)]
    cases on with
    | false => rw [if_neg (by decide)]; exact j_true _ _ _ _ _
    | true =>
      rw [if_pos rfl]
      by_cases h3 : e > 300
      · rw [decide_eq_true h3]; exact j_true _ _ _ _ _
      · rw [decide_eq_false h3]
        simp only [batonlaw30_TimerOnce.j0]
        rw [if_neg (by decide)]
        exact skips h.1 (by omega) hn0 hn n.toNat _ 0 l (by omega) (by omega) (by omega) h.2.2.1 h.2.2.2
  · rw [if_neg (by simp [h])]
    exact j_true _ _ _ _ _
end Go.Proofs.Ytagciaanfjllnaa.Pure.TimerOnce
