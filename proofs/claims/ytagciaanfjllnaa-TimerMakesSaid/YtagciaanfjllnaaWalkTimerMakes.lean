/- TimerMakes, the walk: whatever the timer and the number, the call returns true and changes no old memory. -/
import Derived.Test.YtagciaanfjllnaaPTimerMakesx1
import Derived.Test.YtagciaanfjllnaaPTimerMakesx2
import Derived.Test.YtagciaanfjllnaaBase
import Derived.OpenShut
import Derived.Lib.SmallJoins
import Derived.Deep.RegionHeld3
import Derived.Deep.DrawnRows
namespace Go.Proofs.Ytagciaanfjllnaa.Walk
open Go.RowKit Go.Proofs.Ytagciaanfjllnaa.PTimerMakes Go.Proofs.Ytagciaanfjllnaa.Base
set_option linter.unusedVariables false
attribute [local go_sem high] eqA35
attribute [local go_sem ↓] Go.wp_at_zero Go.wp_at_succ

theorem right_some (b : Bool) (e l : Int) : timer_Right.f b e l = some (decide (1 ≤ e ∧ e ≤ 1000 ∧ 0 ≤ l ∧ l < e)) := by
  unfold timer_Right.f
  by_cases h1 : 1 ≤ e
  · by_cases h2 : e ≤ 1000
    · by_cases h3 : 0 ≤ l
      · rw [if_pos h1, if_pos h2, if_pos h3]; simp [h1, h2, h3]
      · rw [if_pos h1, if_pos h2, if_neg h3]; simp [h3]
    · rw [if_pos h1, if_neg h2]; simp [h2]
  · rw [if_neg h1]; simp [h1]
theorem below_open {w w' : World} {o : Obj} (h : Below (w.alloc o).heap.size (w.alloc o) w') : Below w.heap.size w w' :=
  ((Below.refl _ _).alloc (Nat.le_refl _) o).trans (h.mono (by simp))
theorem awake_c (w : World) : Calls Try.prog 20 #[] w fun e w' => e = .returned (.bool true) ∧ Below w.heap.size w w' := batonlaw30_awake.calls true w (by decide +kernel)
theorem right_yes {b : Bool} {e l : Int} (h : 1 ≤ e ∧ e ≤ 1000 ∧ 0 ≤ l ∧ l < e) (w : World) : Calls Try.prog 21 #[.agg #[.bool b, .int .i64 e, .int .i64 l]] w fun x w' => x = .returned (.bool true) ∧ Below w.heap.size w w' := timer_Right.calls b e l _ w (by rw [right_some, decide_eq_true h])
theorem right_no {b : Bool} {e l : Int} (h : ¬ (1 ≤ e ∧ e ≤ 1000 ∧ 0 ≤ l ∧ l < e)) (w : World) : Calls Try.prog 21 #[.agg #[.bool b, .int .i64 e, .int .i64 l]] w fun x w' => x = .returned (.bool false) ∧ Below w.heap.size w w' := timer_Right.calls b e l _ w (by rw [right_some, decide_eq_false h])
theorem new_no {n : Int} (h : n < 1 ∨ 1000 < n) (w : World) : Calls Try.prog 30 #[.int .i64 n] w fun x w' => x = .returned (.tuple #[.agg #[.bool false, .int .i64 0, .int .i64 0], .int .i64 1]) ∧ Below w.heap.size w w' :=
  timer_New.calls n _ _ _ _ w (by unfold timer_New.f; rw [right_some, decide_eq_false (by omega)]; simp)
theorem new_yes {n : Int} (h : 1 ≤ n) (h2 : n ≤ 1000) (w : World) : Calls Try.prog 30 #[.int .i64 n] w fun x w' => x = .returned (.tuple #[.agg #[.bool false, .int .i64 n, .int .i64 0], .int .i64 0]) ∧ Below w.heap.size w w' :=
  timer_New.calls n _ _ _ _ w (by unfold timer_New.f; rw [right_some, decide_eq_true (by omega)]; simp)
theorem soon_c (b : Bool) (e l : Int) (w : World) : Calls Try.prog 29 #[.agg #[.bool b, .int .i64 e, .int .i64 l]] w fun x w' => x = .returned (.agg #[.bool true, .int .i64 e, .int .i64 0]) ∧ Below w.heap.size w w' :=
  timer_Timer_Soon.calls b e l _ _ _ w rfl
theorem arm_on (e l : Int) (w : World) : Calls Try.prog 31 #[.agg #[.bool true, .int .i64 e, .int .i64 l]] w fun x w' => x = .returned (.agg #[.bool true, .int .i64 e, .int .i64 l]) ∧ Below w.heap.size w w' :=
  timer_Timer_Arm.calls true e l _ _ _ w rfl
theorem arm_off (e l : Int) (w : World) : Calls Try.prog 31 #[.agg #[.bool false, .int .i64 e, .int .i64 l]] w fun x w' => x = .returned (.agg #[.bool true, .int .i64 e, .int .i64 0]) ∧ Below w.heap.size w w' :=
  timer_Timer_Arm.calls false e l _ _ _ w rfl
theorem stop_c (b : Bool) (e l : Int) (w : World) : Calls Try.prog 32 #[.agg #[.bool b, .int .i64 e, .int .i64 l]] w fun x w' => x = .returned (.agg #[.bool false, .int .i64 e, .int .i64 0]) ∧ Below w.heap.size w w' :=
  timer_Timer_Stop.calls b e l _ _ _ w rfl

theorem S_of {W w : World} {g8 : Nat} {a b c a' b' c' : Value} (hB : Below W.heap.size W w) (h2 : Blk w W.heap.size 35 #[a, b, c]) (h8 : Blk w g8 35 #[a', b', c']) :
    Below W.heap.size W (w) ∧ Blk (w) W.heap.size 35 #[a, b, c] ∧ Blk (w) g8 35 #[a', b', c'] ∧ ((w).cell? ⟨W.heap.size, 0, none⟩ = some a ∧ (w).cell? ⟨W.heap.size, 1, none⟩ = some b ∧ (w).cell? ⟨W.heap.size, 2, none⟩ = some c) ∧
      (w).cell? ⟨g8, 0, none⟩ = some a' ∧ (w).cell? ⟨g8, 1, none⟩ = some b' ∧ (w).cell? ⟨g8, 2, none⟩ = some c' :=
  ⟨hB, h2, h8, ⟨h2.cell 0, h2.cell 1, h2.cell 2⟩, h8.cell 0, h8.cell 1, h8.cell 2⟩
theorem S_drew {W w : World} {g8 : Nat} {a b c a' b' c' : Value} (h : Below W.heap.size W (w) ∧ Blk (w) W.heap.size 35 #[a, b, c] ∧ Blk (w) g8 35 #[a', b', c'] ∧ ((w).cell? ⟨W.heap.size, 0, none⟩ = some a ∧ (w).cell? ⟨W.heap.size, 1, none⟩ = some b ∧ (w).cell? ⟨W.heap.size, 2, none⟩ = some c) ∧
      (w).cell? ⟨g8, 0, none⟩ = some a' ∧ (w).cell? ⟨g8, 1, none⟩ = some b' ∧ (w).cell? ⟨g8, 2, none⟩ = some c') :
    Below W.heap.size W (w.drew) ∧ Blk (w.drew) W.heap.size 35 #[a, b, c] ∧ Blk (w.drew) g8 35 #[a', b', c'] ∧ ((w.drew).cell? ⟨W.heap.size, 0, none⟩ = some a ∧ (w.drew).cell? ⟨W.heap.size, 1, none⟩ = some b ∧ (w.drew).cell? ⟨W.heap.size, 2, none⟩ = some c) ∧
      (w.drew).cell? ⟨g8, 0, none⟩ = some a' ∧ (w.drew).cell? ⟨g8, 1, none⟩ = some b' ∧ (w.drew).cell? ⟨g8, 2, none⟩ = some c' :=
  S_of (h.1.drew) h.2.1.drew h.2.2.1.drew
theorem S_stays {W w w' : World} {g8 : Nat} {a b c a' b' c' : Value} (hB : Below W.heap.size W w) (h2 : Blk w W.heap.size 35 #[a, b, c]) (h8 : Blk w g8 35 #[a', b', c']) (hb : Below w.heap.size w w') :
    Below W.heap.size W (w') ∧ Blk (w') W.heap.size 35 #[a, b, c] ∧ Blk (w') g8 35 #[a', b', c'] ∧ ((w').cell? ⟨W.heap.size, 0, none⟩ = some a ∧ (w').cell? ⟨W.heap.size, 1, none⟩ = some b ∧ (w').cell? ⟨W.heap.size, 2, none⟩ = some c) ∧
      (w').cell? ⟨g8, 0, none⟩ = some a' ∧ (w').cell? ⟨g8, 1, none⟩ = some b' ∧ (w').cell? ⟨g8, 2, none⟩ = some c' :=
  S_of (hB.trans (hb.mono hB.size)) (h2.stays hb) (h8.stays hb)
theorem ends_no {W w1 w2 w3 : World} {o o2 : Obj} (hb : Below (W.alloc o).heap.size (W.alloc o) w1) (hb2 : Below w1.heap.size w1 w2) (hb3 : Below (w2.alloc o2).heap.size (w2.alloc o2) w3) : Below W.heap.size W w3 := by
  have h1 := hb.size
  have h2 := hb2.size
  simp at h1
  exact ((below_open hb).trans (hb2.mono (by omega))).trans ((below_open hb3).mono (by omega))

set_option maxHeartbeats 2000000 in
set_option maxRecDepth 100000 in
theorem makes_no_low (on : Bool) (e l n : Int) (W : World) (h : ¬ (1 ≤ e ∧ e ≤ 1000 ∧ 0 ≤ l ∧ l < e)) (hn : n < 1) :
    Calls Try.prog 8 #[.agg #[.bool on, .int .i64 e, .int .i64 l], .int .i64 n] W fun e w' => e = .returned (.bool true) ∧ Below W.heap.size W w' := by
  have hr := fun w => right_no (b := on) h w
  have hw := fun w => new_no (n := n) (.inl hn) w
  have hcase : e < 1 ∨ (1 ≤ e ∧ 1000 < e) ∨ (1 ≤ e ∧ e ≤ 1000 ∧ l < 0) ∨ (1 ≤ e ∧ e ≤ 1000 ∧ 0 ≤ l ∧ e ≤ l ∧ decide (l < e) = false) := by
    by_cases q : e ≤ l
    · have : decide (l < e) = false := by simp; omega
      simp only [this, and_true]
      omega
    · omega
  clear h
  rcases hcase with h1 | ⟨h1, h2⟩ | ⟨h1, h2, h3⟩ | ⟨h1, h2, h3, h4, h5⟩
  all_goals
    go_enter Try.func8, Try.ntmps8
    go_wp2_with (first
      | (go_at_call 20; refine (awake_c _).mono ?_; rintro _ w1 ⟨rfl, hb⟩; have B1 := (Blk.new W 35 _).stays hb; obtain ⟨c0, c1, c2, -, -, -⟩ := B1.three)
      | (go_at_call 30; refine (hw _).mono ?_; rintro _ w2 ⟨rfl, hb2⟩; have B2 := (B1.stays hb2).alloc (.cells #[.bool false, .int .i64 (0), .int .i64 0] 35); clear c0 c1 c2; obtain ⟨c0, c1, c2, -, -, -⟩ := B2.three)
      | (go_at_call 21; refine (hr _).mono ?_; rintro _ w3 ⟨rfl, hb3⟩))
    go_ret
    exact ⟨rfl, ends_no hb hb2 hb3⟩

set_option maxHeartbeats 2000000 in
set_option maxRecDepth 100000 in
theorem makes_no_high (on : Bool) (e l n : Int) (W : World) (h : ¬ (1 ≤ e ∧ e ≤ 1000 ∧ 0 ≤ l ∧ l < e)) (hn0 : 1 ≤ n) (hn : 1000 < n) :
    Calls Try.prog 8 #[.agg #[.bool on, .int .i64 e, .int .i64 l], .int .i64 n] W fun e w' => e = .returned (.bool true) ∧ Below W.heap.size W w' := by
  have hr := fun w => right_no (b := on) h w
  have hw := fun w => new_no (n := n) (.inr hn) w
  have hcase : e < 1 ∨ (1 ≤ e ∧ 1000 < e) ∨ (1 ≤ e ∧ e ≤ 1000 ∧ l < 0) ∨ (1 ≤ e ∧ e ≤ 1000 ∧ 0 ≤ l ∧ e ≤ l ∧ decide (l < e) = false) := by
    by_cases q : e ≤ l
    · have : decide (l < e) = false := by simp; omega
      simp only [this, and_true]
      omega
    · omega
  clear h
  rcases hcase with h1 | ⟨h1, h2⟩ | ⟨h1, h2, h3⟩ | ⟨h1, h2, h3, h4, h5⟩
  all_goals
    go_enter Try.func8, Try.ntmps8
    go_wp2_with (first
      | (go_at_call 20; refine (awake_c _).mono ?_; rintro _ w1 ⟨rfl, hb⟩; have B1 := (Blk.new W 35 _).stays hb; obtain ⟨c0, c1, c2, -, -, -⟩ := B1.three)
      | (go_at_call 30; refine (hw _).mono ?_; rintro _ w2 ⟨rfl, hb2⟩; have B2 := (B1.stays hb2).alloc (.cells #[.bool false, .int .i64 (0), .int .i64 0] 35); clear c0 c1 c2; obtain ⟨c0, c1, c2, -, -, -⟩ := B2.three)
      | (go_at_call 21; refine (hr _).mono ?_; rintro _ w3 ⟨rfl, hb3⟩))
    go_ret
    exact ⟨rfl, ends_no hb hb2 hb3⟩

set_option maxHeartbeats 2000000 in
set_option maxRecDepth 100000 in
theorem makes_no_ok (on : Bool) (e l n : Int) (W : World) (h : ¬ (1 ≤ e ∧ e ≤ 1000 ∧ 0 ≤ l ∧ l < e)) (hn0 : 1 ≤ n) (hn : n ≤ 1000) :
    Calls Try.prog 8 #[.agg #[.bool on, .int .i64 e, .int .i64 l], .int .i64 n] W fun e w' => e = .returned (.bool true) ∧ Below W.heap.size W w' := by
  have hr := fun w => right_no (b := on) h w
  have hw := fun w => new_yes hn0 hn w
  have hcase : e < 1 ∨ (1 ≤ e ∧ 1000 < e) ∨ (1 ≤ e ∧ e ≤ 1000 ∧ l < 0) ∨ (1 ≤ e ∧ e ≤ 1000 ∧ 0 ≤ l ∧ e ≤ l ∧ decide (l < e) = false) := by
    by_cases q : e ≤ l
    · have : decide (l < e) = false := by simp; omega
      simp only [this, and_true]
      omega
    · omega
  clear h
  rcases hcase with h1 | ⟨h1, h2⟩ | ⟨h1, h2, h3⟩ | ⟨h1, h2, h3, h4, h5⟩
  all_goals
    go_enter Try.func8, Try.ntmps8
    go_wp2_with (first
      | (go_at_call 20; refine (awake_c _).mono ?_; rintro _ w1 ⟨rfl, hb⟩; have B1 := (Blk.new W 35 _).stays hb; obtain ⟨c0, c1, c2, -, -, -⟩ := B1.three)
      | (go_at_call 30; refine (hw _).mono ?_; rintro _ w2 ⟨rfl, hb2⟩; have B2 := (B1.stays hb2).alloc (.cells #[.bool false, .int .i64 (n), .int .i64 0] 35); clear c0 c1 c2; obtain ⟨c0, c1, c2, -, -, -⟩ := B2.three)
      | (go_at_call 21; refine (hr _).mono ?_; rintro _ w3 ⟨rfl, hb3⟩))
    go_ret
    exact ⟨rfl, ends_no hb hb2 hb3⟩

set_option maxHeartbeats 2000000 in
set_option maxRecDepth 100000 in
theorem makes_on_low (e l n : Int) (W : World) (h : 1 ≤ e ∧ e ≤ 1000 ∧ 0 ≤ l ∧ l < e) (hn : n < 1) :
    Calls Try.prog 8 #[.agg #[.bool true, .int .i64 e, .int .i64 l], .int .i64 n] W fun e w' => e = .returned (.bool true) ∧ Below W.heap.size W w' := by
  have hr := fun w => right_yes (b := true) h w
  have hw := fun w => new_no (n := n) (.inl hn) w
  have h5 : decide (l < e) = true := decide_eq_true h.2.2.2
  obtain ⟨h1, h2, h3, h4⟩ := h
  go_enter Try.func8, Try.ntmps8
  go_wp2_with (first
      | (go_at_call 20; refine (awake_c _).mono ?_; rintro _ w1 ⟨rfl, hb⟩; have B1 := (Blk.new W 35 _).stays hb; obtain ⟨c0, c1, c2, -, -, -⟩ := B1.three)
      | (go_at_call 30; refine (hw _).mono ?_; rintro _ w2 ⟨rfl, hb2⟩; have B2 := (B1.stays hb2).alloc (.cells #[.bool false, .int .i64 (0), .int .i64 0] 35); clear c0 c1 c2; obtain ⟨c0, c1, c2, -, -, -⟩ := B2.three)
      | (go_at_call 21; refine (hr _).mono ?_; rintro _ w3 ⟨rfl, hb3⟩; have B3 := B2.stays hb3; clear c0 c1 c2; obtain ⟨c0, c1, c2, -, -, -⟩ := B3.three; have hz := B3.lt))
  have B2' := B3.alloc (.cells #[.bool true, .int .i64 e, .int .i64 l] 35)
  have B8 := Blk.new w3 35 #[.bool true, .int .i64 e, .int .i64 l]
  have HB := ((below_open hb).trans (hb2.mono (by have := hb.size; simp at this; omega))).trans ((below_open hb3).mono (by have := hb.size; have := hb2.size; simp at *; omega))
  have HB' := HB.alloc (by omega) (.cells #[.bool true, .int .i64 e, .int .i64 l] 35)
  clear hb hb2 hb3 B1 B2 B3 c0 c1 c2
  have S0 := S_of HB' B2' B8
  clear B2' B8 HB HB'
  go_region_held3 (fun w' => Below W.heap.size W w' ∧ Blk w' W.heap.size 35 #[.bool true, .int .i64 e, .int .i64 l] ∧ Blk w' w3.heap.size 35 #[.bool true, .int .i64 e, .int .i64 l] ∧
      (w'.cell? ⟨W.heap.size, 0, none⟩ = some (.bool true) ∧ w'.cell? ⟨W.heap.size, 1, none⟩ = some (.int .i64 e) ∧ w'.cell? ⟨W.heap.size, 2, none⟩ = some (.int .i64 l)) ∧
      w'.cell? ⟨w3.heap.size, 0, none⟩ = some (.bool true) ∧ w'.cell? ⟨w3.heap.size, 1, none⟩ = some (.int .i64 e) ∧ w'.cell? ⟨w3.heap.size, 2, none⟩ = some (.int .i64 l))
    (first | exact S0 | exact S_drew S0 | (go_split_ands; exact S_stays (by assumption) (by assumption) (by assumption) (by assumption)))
    (first | (go_at_call 31; refine (arm_on e l _).mono ?_; rintro _ w' ⟨rfl, hb⟩) | (go_at_call 29; refine (soon_c true e l _).mono ?_; rintro _ w' ⟨rfl, hb⟩) | (go_at_call 32; refine (stop_c true e l _).mono ?_; rintro _ w' ⟨rfl, hb⟩))
  go_wp2
  go_ret
  go_split_ands
  exact ⟨rfl, by assumption⟩

set_option maxHeartbeats 2000000 in
set_option maxRecDepth 100000 in
theorem makes_on_high (e l n : Int) (W : World) (h : 1 ≤ e ∧ e ≤ 1000 ∧ 0 ≤ l ∧ l < e) (hn0 : 1 ≤ n) (hn : 1000 < n) :
    Calls Try.prog 8 #[.agg #[.bool true, .int .i64 e, .int .i64 l], .int .i64 n] W fun e w' => e = .returned (.bool true) ∧ Below W.heap.size W w' := by
  have hr := fun w => right_yes (b := true) h w
  have hw := fun w => new_no (n := n) (.inr hn) w
  have h5 : decide (l < e) = true := decide_eq_true h.2.2.2
  obtain ⟨h1, h2, h3, h4⟩ := h
  go_enter Try.func8, Try.ntmps8
  go_wp2_with (first
      | (go_at_call 20; refine (awake_c _).mono ?_; rintro _ w1 ⟨rfl, hb⟩; have B1 := (Blk.new W 35 _).stays hb; obtain ⟨c0, c1, c2, -, -, -⟩ := B1.three)
      | (go_at_call 30; refine (hw _).mono ?_; rintro _ w2 ⟨rfl, hb2⟩; have B2 := (B1.stays hb2).alloc (.cells #[.bool false, .int .i64 (0), .int .i64 0] 35); clear c0 c1 c2; obtain ⟨c0, c1, c2, -, -, -⟩ := B2.three)
      | (go_at_call 21; refine (hr _).mono ?_; rintro _ w3 ⟨rfl, hb3⟩; have B3 := B2.stays hb3; clear c0 c1 c2; obtain ⟨c0, c1, c2, -, -, -⟩ := B3.three; have hz := B3.lt))
  have B2' := B3.alloc (.cells #[.bool true, .int .i64 e, .int .i64 l] 35)
  have B8 := Blk.new w3 35 #[.bool true, .int .i64 e, .int .i64 l]
  have HB := ((below_open hb).trans (hb2.mono (by have := hb.size; simp at this; omega))).trans ((below_open hb3).mono (by have := hb.size; have := hb2.size; simp at *; omega))
  have HB' := HB.alloc (by omega) (.cells #[.bool true, .int .i64 e, .int .i64 l] 35)
  clear hb hb2 hb3 B1 B2 B3 c0 c1 c2
  have S0 := S_of HB' B2' B8
  clear B2' B8 HB HB'
  go_region_held3 (fun w' => Below W.heap.size W w' ∧ Blk w' W.heap.size 35 #[.bool true, .int .i64 e, .int .i64 l] ∧ Blk w' w3.heap.size 35 #[.bool true, .int .i64 e, .int .i64 l] ∧
      (w'.cell? ⟨W.heap.size, 0, none⟩ = some (.bool true) ∧ w'.cell? ⟨W.heap.size, 1, none⟩ = some (.int .i64 e) ∧ w'.cell? ⟨W.heap.size, 2, none⟩ = some (.int .i64 l)) ∧
      w'.cell? ⟨w3.heap.size, 0, none⟩ = some (.bool true) ∧ w'.cell? ⟨w3.heap.size, 1, none⟩ = some (.int .i64 e) ∧ w'.cell? ⟨w3.heap.size, 2, none⟩ = some (.int .i64 l))
    (first | exact S0 | exact S_drew S0 | (go_split_ands; exact S_stays (by assumption) (by assumption) (by assumption) (by assumption)))
    (first | (go_at_call 31; refine (arm_on e l _).mono ?_; rintro _ w' ⟨rfl, hb⟩) | (go_at_call 29; refine (soon_c true e l _).mono ?_; rintro _ w' ⟨rfl, hb⟩) | (go_at_call 32; refine (stop_c true e l _).mono ?_; rintro _ w' ⟨rfl, hb⟩))
  go_wp2
  go_ret
  go_split_ands
  exact ⟨rfl, by assumption⟩

set_option maxHeartbeats 2000000 in
set_option maxRecDepth 100000 in
theorem makes_on_ok (e l n : Int) (W : World) (h : 1 ≤ e ∧ e ≤ 1000 ∧ 0 ≤ l ∧ l < e) (hn0 : 1 ≤ n) (hn : n ≤ 1000) :
    Calls Try.prog 8 #[.agg #[.bool true, .int .i64 e, .int .i64 l], .int .i64 n] W fun e w' => e = .returned (.bool true) ∧ Below W.heap.size W w' := by
  have hr := fun w => right_yes (b := true) h w
  have hw := fun w => new_yes hn0 hn w
  have h5 : decide (l < e) = true := decide_eq_true h.2.2.2
  obtain ⟨h1, h2, h3, h4⟩ := h
  go_enter Try.func8, Try.ntmps8
  go_wp2_with (first
      | (go_at_call 20; refine (awake_c _).mono ?_; rintro _ w1 ⟨rfl, hb⟩; have B1 := (Blk.new W 35 _).stays hb; obtain ⟨c0, c1, c2, -, -, -⟩ := B1.three)
      | (go_at_call 30; refine (hw _).mono ?_; rintro _ w2 ⟨rfl, hb2⟩; have B2 := (B1.stays hb2).alloc (.cells #[.bool false, .int .i64 n, .int .i64 0] 35); clear c0 c1 c2; obtain ⟨c0, c1, c2, -, -, -⟩ := B2.three)
      | (go_at_call 21; refine (hr _).mono ?_; rintro _ w3 ⟨rfl, hb3⟩; have B3 := B2.stays hb3; clear c0 c1 c2; obtain ⟨c0, c1, c2, -, -, -⟩ := B3.three; have hz := B3.lt))
  have B2' := B3.alloc (.cells #[.bool true, .int .i64 e, .int .i64 l] 35)
  have B8 := Blk.new w3 35 #[.bool true, .int .i64 e, .int .i64 l]
  have HB := ((below_open hb).trans (hb2.mono (by have := hb.size; simp at this; omega))).trans ((below_open hb3).mono (by have := hb.size; have := hb2.size; simp at *; omega))
  have HB' := HB.alloc (by omega) (.cells #[.bool true, .int .i64 e, .int .i64 l] 35)
  clear hb hb2 hb3 B1 B2 B3 c0 c1 c2
  have S0 := S_of HB' B2' B8
  clear B2' B8 HB HB'
  go_region_held3 (fun w' => Below W.heap.size W w' ∧ Blk w' W.heap.size 35 #[.bool true, .int .i64 e, .int .i64 l] ∧ Blk w' w3.heap.size 35 #[.bool true, .int .i64 e, .int .i64 l] ∧
      (w'.cell? ⟨W.heap.size, 0, none⟩ = some (.bool true) ∧ w'.cell? ⟨W.heap.size, 1, none⟩ = some (.int .i64 e) ∧ w'.cell? ⟨W.heap.size, 2, none⟩ = some (.int .i64 l)) ∧
      w'.cell? ⟨w3.heap.size, 0, none⟩ = some (.bool true) ∧ w'.cell? ⟨w3.heap.size, 1, none⟩ = some (.int .i64 e) ∧ w'.cell? ⟨w3.heap.size, 2, none⟩ = some (.int .i64 l))
    (first | exact S0 | exact S_drew S0 | (go_split_ands; exact S_stays (by assumption) (by assumption) (by assumption) (by assumption)))
    (first | (go_at_call 31; refine (arm_on e l _).mono ?_; rintro _ w' ⟨rfl, hb⟩) | (go_at_call 29; refine (soon_c true e l _).mono ?_; rintro _ w' ⟨rfl, hb⟩) | (go_at_call 32; refine (stop_c true e l _).mono ?_; rintro _ w' ⟨rfl, hb⟩))
  go_wp2
  go_ret
  go_split_ands
  exact ⟨rfl, by assumption⟩

set_option maxHeartbeats 2000000 in
set_option maxRecDepth 100000 in
theorem makes_off_low (e l n : Int) (W : World) (h : 1 ≤ e ∧ e ≤ 1000 ∧ 0 ≤ l ∧ l < e) (hn : n < 1) :
    Calls Try.prog 8 #[.agg #[.bool false, .int .i64 e, .int .i64 l], .int .i64 n] W fun e w' => e = .returned (.bool true) ∧ Below W.heap.size W w' := by
  have hr := fun w => right_yes (b := false) h w
  have hw := fun w => new_no (n := n) (.inl hn) w
  have h5 : decide (l < e) = true := decide_eq_true h.2.2.2
  obtain ⟨h1, h2, h3, h4⟩ := h
  go_enter Try.func8, Try.ntmps8
  go_wp2_with (first
      | (go_at_call 20; refine (awake_c _).mono ?_; rintro _ w1 ⟨rfl, hb⟩; have B1 := (Blk.new W 35 _).stays hb; obtain ⟨c0, c1, c2, -, -, -⟩ := B1.three)
      | (go_at_call 30; refine (hw _).mono ?_; rintro _ w2 ⟨rfl, hb2⟩; have B2 := (B1.stays hb2).alloc (.cells #[.bool false, .int .i64 (0), .int .i64 0] 35); clear c0 c1 c2; obtain ⟨c0, c1, c2, -, -, -⟩ := B2.three)
      | (go_at_call 21; refine (hr _).mono ?_; rintro _ w3 ⟨rfl, hb3⟩; have B3 := B2.stays hb3; clear c0 c1 c2; obtain ⟨c0, c1, c2, -, -, -⟩ := B3.three; have hz := B3.lt))
  have B2' := B3.alloc (.cells #[.bool true, .int .i64 e, .int .i64 0] 35)
  have B8 := Blk.new w3 35 #[.bool true, .int .i64 e, .int .i64 0]
  have HB := ((below_open hb).trans (hb2.mono (by have := hb.size; simp at this; omega))).trans ((below_open hb3).mono (by have := hb.size; have := hb2.size; simp at *; omega))
  have HB' := HB.alloc (by omega) (.cells #[.bool true, .int .i64 e, .int .i64 0] 35)
  clear hb hb2 hb3 B1 B2 B3 c0 c1 c2
  have S0 := S_of HB' B2' B8
  clear B2' B8 HB HB'
  go_region_held3 (fun w' => Below W.heap.size W w' ∧ Blk w' W.heap.size 35 #[.bool false, .int .i64 e, .int .i64 l] ∧ Blk w' w3.heap.size 35 #[.bool true, .int .i64 e, .int .i64 0] ∧
      (w'.cell? ⟨W.heap.size, 0, none⟩ = some (.bool false) ∧ w'.cell? ⟨W.heap.size, 1, none⟩ = some (.int .i64 e) ∧ w'.cell? ⟨W.heap.size, 2, none⟩ = some (.int .i64 l)) ∧
      w'.cell? ⟨w3.heap.size, 0, none⟩ = some (.bool true) ∧ w'.cell? ⟨w3.heap.size, 1, none⟩ = some (.int .i64 e) ∧ w'.cell? ⟨w3.heap.size, 2, none⟩ = some (.int .i64 0))
    (first | exact S0 | exact S_drew S0 | (go_split_ands; exact S_stays (by assumption) (by assumption) (by assumption) (by assumption)))
    (first | (go_at_call 31; refine (arm_off e l _).mono ?_; rintro _ w' ⟨rfl, hb⟩) | (go_at_call 29; refine (soon_c false e l _).mono ?_; rintro _ w' ⟨rfl, hb⟩) | (go_at_call 32; refine (stop_c false e l _).mono ?_; rintro _ w' ⟨rfl, hb⟩))
  go_wp2
  go_ret
  go_split_ands
  exact ⟨rfl, by assumption⟩

set_option maxHeartbeats 2000000 in
set_option maxRecDepth 100000 in
theorem makes_off_high (e l n : Int) (W : World) (h : 1 ≤ e ∧ e ≤ 1000 ∧ 0 ≤ l ∧ l < e) (hn0 : 1 ≤ n) (hn : 1000 < n) :
    Calls Try.prog 8 #[.agg #[.bool false, .int .i64 e, .int .i64 l], .int .i64 n] W fun e w' => e = .returned (.bool true) ∧ Below W.heap.size W w' := by
  have hr := fun w => right_yes (b := false) h w
  have hw := fun w => new_no (n := n) (.inr hn) w
  have h5 : decide (l < e) = true := decide_eq_true h.2.2.2
  obtain ⟨h1, h2, h3, h4⟩ := h
  go_enter Try.func8, Try.ntmps8
  go_wp2_with (first
      | (go_at_call 20; refine (awake_c _).mono ?_; rintro _ w1 ⟨rfl, hb⟩; have B1 := (Blk.new W 35 _).stays hb; obtain ⟨c0, c1, c2, -, -, -⟩ := B1.three)
      | (go_at_call 30; refine (hw _).mono ?_; rintro _ w2 ⟨rfl, hb2⟩; have B2 := (B1.stays hb2).alloc (.cells #[.bool false, .int .i64 (0), .int .i64 0] 35); clear c0 c1 c2; obtain ⟨c0, c1, c2, -, -, -⟩ := B2.three)
      | (go_at_call 21; refine (hr _).mono ?_; rintro _ w3 ⟨rfl, hb3⟩; have B3 := B2.stays hb3; clear c0 c1 c2; obtain ⟨c0, c1, c2, -, -, -⟩ := B3.three; have hz := B3.lt))
  have B2' := B3.alloc (.cells #[.bool true, .int .i64 e, .int .i64 0] 35)
  have B8 := Blk.new w3 35 #[.bool true, .int .i64 e, .int .i64 0]
  have HB := ((below_open hb).trans (hb2.mono (by have := hb.size; simp at this; omega))).trans ((below_open hb3).mono (by have := hb.size; have := hb2.size; simp at *; omega))
  have HB' := HB.alloc (by omega) (.cells #[.bool true, .int .i64 e, .int .i64 0] 35)
  clear hb hb2 hb3 B1 B2 B3 c0 c1 c2
  have S0 := S_of HB' B2' B8
  clear B2' B8 HB HB'
  go_region_held3 (fun w' => Below W.heap.size W w' ∧ Blk w' W.heap.size 35 #[.bool false, .int .i64 e, .int .i64 l] ∧ Blk w' w3.heap.size 35 #[.bool true, .int .i64 e, .int .i64 0] ∧
      (w'.cell? ⟨W.heap.size, 0, none⟩ = some (.bool false) ∧ w'.cell? ⟨W.heap.size, 1, none⟩ = some (.int .i64 e) ∧ w'.cell? ⟨W.heap.size, 2, none⟩ = some (.int .i64 l)) ∧
      w'.cell? ⟨w3.heap.size, 0, none⟩ = some (.bool true) ∧ w'.cell? ⟨w3.heap.size, 1, none⟩ = some (.int .i64 e) ∧ w'.cell? ⟨w3.heap.size, 2, none⟩ = some (.int .i64 0))
    (first | exact S0 | exact S_drew S0 | (go_split_ands; exact S_stays (by assumption) (by assumption) (by assumption) (by assumption)))
    (first | (go_at_call 31; refine (arm_off e l _).mono ?_; rintro _ w' ⟨rfl, hb⟩) | (go_at_call 29; refine (soon_c false e l _).mono ?_; rintro _ w' ⟨rfl, hb⟩) | (go_at_call 32; refine (stop_c false e l _).mono ?_; rintro _ w' ⟨rfl, hb⟩))
  go_wp2
  go_ret
  go_split_ands
  exact ⟨rfl, by assumption⟩

set_option maxHeartbeats 2000000 in
set_option maxRecDepth 100000 in
theorem makes_off_ok (e l n : Int) (W : World) (h : 1 ≤ e ∧ e ≤ 1000 ∧ 0 ≤ l ∧ l < e) (hn0 : 1 ≤ n) (hn : n ≤ 1000) :
    Calls Try.prog 8 #[.agg #[.bool false, .int .i64 e, .int .i64 l], .int .i64 n] W fun e w' => e = .returned (.bool true) ∧ Below W.heap.size W w' := by
  have hr := fun w => right_yes (b := false) h w
  have hw := fun w => new_yes hn0 hn w
  have h5 : decide (l < e) = true := decide_eq_true h.2.2.2
  obtain ⟨h1, h2, h3, h4⟩ := h
  go_enter Try.func8, Try.ntmps8
  go_wp2_with (first
      | (go_at_call 20; refine (awake_c _).mono ?_; rintro _ w1 ⟨rfl, hb⟩; have B1 := (Blk.new W 35 _).stays hb; obtain ⟨c0, c1, c2, -, -, -⟩ := B1.three)
      | (go_at_call 30; refine (hw _).mono ?_; rintro _ w2 ⟨rfl, hb2⟩; have B2 := (B1.stays hb2).alloc (.cells #[.bool false, .int .i64 n, .int .i64 0] 35); clear c0 c1 c2; obtain ⟨c0, c1, c2, -, -, -⟩ := B2.three)
      | (go_at_call 21; refine (hr _).mono ?_; rintro _ w3 ⟨rfl, hb3⟩; have B3 := B2.stays hb3; clear c0 c1 c2; obtain ⟨c0, c1, c2, -, -, -⟩ := B3.three; have hz := B3.lt))
  have B2' := B3.alloc (.cells #[.bool true, .int .i64 e, .int .i64 0] 35)
  have B8 := Blk.new w3 35 #[.bool true, .int .i64 e, .int .i64 0]
  have HB := ((below_open hb).trans (hb2.mono (by have := hb.size; simp at this; omega))).trans ((below_open hb3).mono (by have := hb.size; have := hb2.size; simp at *; omega))
  have HB' := HB.alloc (by omega) (.cells #[.bool true, .int .i64 e, .int .i64 0] 35)
  clear hb hb2 hb3 B1 B2 B3 c0 c1 c2
  have S0 := S_of HB' B2' B8
  clear B2' B8 HB HB'
  go_region_held3 (fun w' => Below W.heap.size W w' ∧ Blk w' W.heap.size 35 #[.bool false, .int .i64 e, .int .i64 l] ∧ Blk w' w3.heap.size 35 #[.bool true, .int .i64 e, .int .i64 0] ∧
      (w'.cell? ⟨W.heap.size, 0, none⟩ = some (.bool false) ∧ w'.cell? ⟨W.heap.size, 1, none⟩ = some (.int .i64 e) ∧ w'.cell? ⟨W.heap.size, 2, none⟩ = some (.int .i64 l)) ∧
      w'.cell? ⟨w3.heap.size, 0, none⟩ = some (.bool true) ∧ w'.cell? ⟨w3.heap.size, 1, none⟩ = some (.int .i64 e) ∧ w'.cell? ⟨w3.heap.size, 2, none⟩ = some (.int .i64 0))
    (first | exact S0 | exact S_drew S0 | (go_split_ands; exact S_stays (by assumption) (by assumption) (by assumption) (by assumption)))
    (first | (go_at_call 31; refine (arm_off e l _).mono ?_; rintro _ w' ⟨rfl, hb⟩) | (go_at_call 29; refine (soon_c false e l _).mono ?_; rintro _ w' ⟨rfl, hb⟩) | (go_at_call 32; refine (stop_c false e l _).mono ?_; rintro _ w' ⟨rfl, hb⟩))
  go_wp2
  go_ret
  go_split_ands
  exact ⟨rfl, by assumption⟩

theorem TimerMakes (on : Bool) (e l n : Int) (W : World) (_he : (Lit.int .i64 e).wf = true) (_hl : (Lit.int .i64 l).wf = true) (_hn : (Lit.int .i64 n).wf = true) :
    Calls Try.prog 8 #[.agg #[.bool on, .int .i64 e, .int .i64 l], .int .i64 n] W fun e w' => e = .returned (.bool true) ∧ Below W.heap.size W w' := by
  by_cases h : 1 ≤ e ∧ e ≤ 1000 ∧ 0 ≤ l ∧ l < e
  · cases on with
    | true =>
      by_cases h1 : n < 1
      · exact makes_on_low e l n W h h1
      · by_cases h2 : 1000 < n
        · exact makes_on_high e l n W h (by omega) h2
        · exact makes_on_ok e l n W h (by omega) (by omega)
    | false =>
      by_cases h1 : n < 1
      · exact makes_off_low e l n W h h1
      · by_cases h2 : 1000 < n
        · exact makes_off_high e l n W h (by omega) h2
        · exact makes_off_ok e l n W h (by omega) (by omega)
  · by_cases h1 : n < 1
    · exact makes_no_low on e l n W h h1
    · by_cases h2 : 1000 < n
      · exact makes_no_high on e l n W h (by omega) h2
      · exact makes_no_ok on e l n W h (by omega) (by omega)
end Go.Proofs.Ytagciaanfjllnaa.Walk
