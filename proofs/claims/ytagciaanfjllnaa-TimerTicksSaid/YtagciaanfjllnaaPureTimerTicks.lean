/- The timer's printed functions, in plain words: which timers are right, what a tick does, and when the reference says that a timer goes off. -/
import Derived.Test.YtagciaanfjllnaaPTimerTicksx2
namespace Go.Proofs.Ytagciaanfjllnaa.Pure.TimerTicks
open Go.RowKit Go.Proofs.Ytagciaanfjllnaa.PTimerTicks
set_option linter.unusedVariables false

theorem right_true {b : Bool} {e l : Int} (h1 : 1 ≤ e) (h2 : e ≤ 1000) (h3 : 0 ≤ l) (h4 : l < e) : timer_Right.f b e l = some true := by
  unfold timer_Right.f
  rw [if_pos h1, if_pos h2, if_pos h3, decide_eq_true h4]

theorem right_some (b : Bool) (e l : Int) : timer_Right.f b e l = some (decide (1 ≤ e ∧ e ≤ 1000 ∧ 0 ≤ l ∧ l < e)) := by
  unfold timer_Right.f
  by_cases h1 : 1 ≤ e
  · by_cases h2 : e ≤ 1000
    · by_cases h3 : 0 ≤ l
      · rw [if_pos h1, if_pos h2, if_pos h3]; simp [h1, h2, h3]
      · rw [if_pos h1, if_pos h2, if_neg h3]; simp [h3]
    · rw [if_pos h1, if_neg h2]; simp [h2]
  · rw [if_neg h1]; simp [h1]

theorem tick_off {e l : Int} : timer_Timer_Tick.f false e l = some (false, e, l, false) := by simp [timer_Timer_Tick.f]
theorem tick_down {e l : Int} (h0 : 0 < l) (h1 : l ≤ 1000) : timer_Timer_Tick.f true e l = some (true, e, l - 1, false) := by
  have : wrap64 (l - 1) = l - 1 := by unfold wrap64; omega
  simp [timer_Timer_Tick.f, h0, this]
theorem tick_fire {e : Int} (h0 : 1 ≤ e) (h1 : e ≤ 1000) : timer_Timer_Tick.f true e 0 = some (true, e, e - 1, true) := by
  have : wrap64 (e - 1) = e - 1 := by unfold wrap64; omega
  simp [timer_Timer_Tick.f, this]

theorem w8 {x : Int} (h0 : 0 ≤ x) (h1 : x ≤ 2000) : wrap64 x = x := by unfold wrap64; omega

/-- when the reference says 'off', out of the timer's own state -/
theorem off_some {e l i c q : Int} (he : 1 ≤ e) (he2 : e ≤ 1000) (hl : 0 ≤ l) (hl2 : l < e) (hi : 0 ≤ i) (hi2 : i ≤ 255) (hc : 0 ≤ c) (hce : c < e) (hq : i + c - l = e * q) (hlow : i < l → 0 < c) :
    batonref30_Off.f e l i = some (decide (c = 0)) := by
  unfold batonref30_Off.f
  by_cases h : i ≥ l
  · rw [if_pos h, if_neg (by omega)]
    have w : wrap64 (i - l) = i - l := w8 (by omega) (by omega)
    rw [w, Int.tmod_eq_emod_of_nonneg (by omega)]
    have hil : i - l = (-c) + e * q := by omega
    rw [hil, Int.add_mul_emod_self_left]
    by_cases h0 : c = 0
    · subst h0; simp
    · have : (-c) % e = e - c := by
        rw [← Int.add_emod_right, Int.emod_eq_of_lt (by omega) (by omega)]; omega
      rw [this]
      have h1 : ¬ e - c = 0 := by omega
      simp [h0, h1]
  · rw [if_neg h]
    have := hlow (by omega)
    have h0 : ¬ c = 0 := by omega
    simp [h0]

theorem awake_true : batonlaw30_awake.f = some true := by decide +kernel

end Go.Proofs.Ytagciaanfjllnaa.Pure.TimerTicks
