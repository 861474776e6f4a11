/- TimerTicks, the walk: whatever the timer and the number of ticks, the call returns true and changes no old memory. -/
import Derived.Test.YtagciaanfjllnaaPureTimerTicks
import Derived.Test.YtagciaanfjllnaaBase
import Derived.Test.YtagciaanfjllnaaPTimerTicksx1
import Derived.OpenShut
import Derived.Lib.SmallJoins
namespace Go.Proofs.Ytagciaanfjllnaa.Walk
open Go.RowKit Go.Proofs.Ytagciaanfjllnaa.PTimerTicks Go.Proofs.Ytagciaanfjllnaa.Pure.TimerTicks Go.Proofs.Ytagciaanfjllnaa.Base
set_option linter.unusedVariables false

theorem awake_c (w : World) : Calls Try.prog 20 #[] w fun e w' => e = .returned (.bool true) ∧ Below w.heap.size w w' := batonlaw30_awake.calls true w awake_true
theorem right_c (b : Bool) (e l : Int) (w : World) : Calls Try.prog 21 #[.agg #[.bool b, .int .i64 e, .int .i64 l]] w fun x w' => x = .returned (.bool (decide (1 ≤ e ∧ e ≤ 1000 ∧ 0 ≤ l ∧ l < e))) ∧ Below w.heap.size w w' := timer_Right.calls b e l _ w (right_some b e l)
theorem below_open {w w' : World} {o : Obj} (h : Below (w.alloc o).heap.size (w.alloc o) w') : Below w.heap.size w w' :=
  ((Below.refl _ _).alloc (Nat.le_refl _) o).trans (h.mono (by simp))

set_option maxHeartbeats 1000000 in
set_option maxRecDepth 100000 in
theorem ticks_no (on : Bool) (e l n : Int) (W : World) (h : ¬ (1 ≤ e ∧ e ≤ 1000 ∧ 0 ≤ l ∧ l < e)) :
    Calls Try.prog 5 #[.agg #[.bool on, .int .i64 e, .int .i64 l], .int .u8 n] W fun e w' => e = .returned (.bool true) ∧ Below W.heap.size W w' := by
  have hr := fun w => right_c on e l w
  rw [decide_eq_false h] at hr
  clear h
  go_enter Try.func5, Try.ntmps5
  go_wp2_with (first | (go_at_call 20; refine (awake_c _).mono ?_; rintro _ w1 ⟨rfl, hb⟩; obtain ⟨hc, hf⟩ := bcell hb; have hz : W.heap.size + 1 ≤ w1.heap.size := by have := hb.size; simpa using this) | (go_at_call 21; refine (hr _).mono ?_; rintro _ w2 ⟨rfl, hb2⟩))
  go_ret
  refine ⟨rfl, (below_open hb).trans (hb2.mono (by omega))⟩

def Inv (e l i c : Int) : Prop := 0 ≤ c ∧ c < e ∧ (∃ q, i + c - l = e * q) ∧ (i < l → c = l - i)
theorem Inv.start {e l : Int} (hl : 0 ≤ l) (hl2 : l < e) : Inv e l 0 l := ⟨hl, hl2, ⟨0, by omega⟩, fun _ => by omega⟩
theorem Inv.fire {e l i : Int} (he : 1 ≤ e) (hi : 0 ≤ i) (h : Inv e l i 0) : Inv e l (i + 1) (e - 1) := by
  obtain ⟨_, _, ⟨q, hq⟩, h2⟩ := h
  exact ⟨by omega, by omega, ⟨q + 1, by rw [Int.mul_add]; omega⟩, fun hh => by have := h2 (by omega); omega⟩
theorem Inv.down {e l i c : Int} (h0 : c ≠ 0) (h : Inv e l i c) : Inv e l (i + 1) (c - 1) := by
  obtain ⟨h1, h2, ⟨q, hq⟩, h3⟩ := h
  exact ⟨by omega, by omega, ⟨q, by omega⟩, fun hh => by have := h3 (by omega); omega⟩
theorem off_c {e l i c : Int} (he : 1 ≤ e) (he2 : e ≤ 1000) (hl : 0 ≤ l) (hl2 : l < e) (hi : 0 ≤ i) (hi2 : i ≤ 255) (h : Inv e l i c) (w : World) :
    Calls Try.prog 23 #[.int .i64 e, .int .i64 l, .int .i64 i] w fun x w' => x = .returned (.bool (decide (c = 0))) ∧ Below w.heap.size w w' := by
  obtain ⟨h1, h2, ⟨q, hq⟩, h3⟩ := h
  refine (batonref30_Off.calls e l i _ w (off_some he he2 hl hl2 hi hi2 h1 h2 hq (fun hh => by have := h3 hh; omega))).mono ?_
  rintro x w' ⟨rfl, n, rfl⟩
  exact ⟨rfl, Joins.below_draws _ _ _⟩
theorem tick_fire_c {e : Int} (he : 1 ≤ e) (he2 : e ≤ 1000) (w : World) : Calls Try.prog 22 #[.agg #[.bool true, .int .i64 e, .int .i64 0]] w fun x w' => x = .returned (.tuple #[.agg #[.bool true, .int .i64 e, .int .i64 (e - 1)], .bool true]) ∧ Below w.heap.size w w' :=
  timer_Timer_Tick.calls _ _ _ _ _ _ _ w (tick_fire he he2)
theorem tick_down_c {e c : Int} (h0 : 0 < c) (h1 : c ≤ 1000) (w : World) : Calls Try.prog 22 #[.agg #[.bool true, .int .i64 e, .int .i64 c]] w fun x w' => x = .returned (.tuple #[.agg #[.bool true, .int .i64 e, .int .i64 (c - 1)], .bool false]) ∧ Below w.heap.size w w' :=
  timer_Timer_Tick.calls _ _ _ _ _ _ _ w (tick_down h0 h1)

set_option maxHeartbeats 1000000 in
set_option maxRecDepth 100000 in
theorem ticks_on (e l n : Int) (W : World) (he : 1 ≤ e) (he2 : e ≤ 1000) (hl : 0 ≤ l) (hl2 : l < e) (hn0 : 0 ≤ n) (hn : n ≤ 255) :
    Calls Try.prog 5 #[.agg #[.bool true, .int .i64 e, .int .i64 l], .int .u8 n] W fun e w' => e = .returned (.bool true) ∧ Below W.heap.size W w' := by
  have hr := fun w => right_c true e l w
  rw [decide_eq_true (show 1 ≤ e ∧ e ≤ 1000 ∧ 0 ≤ l ∧ l < e from ⟨he, he2, hl, hl2⟩)] at hr
  go_enter Try.func5, Try.ntmps5
  go_wp2_with (first | (go_at_call 20; refine (awake_c _).mono ?_; rintro _ w1 ⟨rfl, hb⟩; have B1 := (Blk.new W 35 _).stays hb; obtain ⟨c0, c1, c2, -, -, -⟩ := B1.three) | (go_at_call 21; refine (hr _).mono ?_; rintro _ w2 ⟨rfl, hb2⟩; have B2 := B1.stays hb2; clear c0 c1 c2; obtain ⟨c0, c1, c2, -, -, -⟩ := B2.three))
  have HB := (below_open hb).trans (hb2.mono (by have := hb.size; simp at this; omega))
  have hlt := B2.lt
  have B2' := B2.alloc (.cells #[.bool true, .int .i64 e, .int .i64 l] 35)
  have B5 := Blk.new w2 35 #[.bool true, .int .i64 e, .int .i64 l]
  have HB' := HB.alloc (by omega) (.cells #[.bool true, .int .i64 e, .int .i64 l] 35)
  clear c0 c1 c2
  go_loopw [6, 7, 8] (fun v6 v7 v8 wr => ∃ i c : Int, v6 = .int .i64 i ∧ 0 ≤ i ∧ i ≤ n ∧ Inv e l i c ∧ Blk wr W.heap.size 35 #[.bool true, .int .i64 e, .int .i64 l] ∧ Blk wr w2.heap.size 35 #[.bool true, .int .i64 e, .int .i64 c] ∧ Below W.heap.size W wr)
    (fun v6 _ _ _ => (n - intOf v6).toNat)
  case atStart => exact ⟨0, l, rfl, by omega, by omega, Inv.start hl hl2, B2', B5, HB'⟩
  case round =>
    clear B2' B5 HB' HB B2 B1 hb hb2
    obtain ⟨i, c, rfl, hi0, hin, hI, B2, B5, HB⟩ := hrel
    obtain ⟨c0, c1, c2, f0, f1, f2⟩ := B2.three
    obtain ⟨d0, d1, d2, e0, e1, e2⟩ := B5.three
    by_cases hlt : i < n
    · have HI := Lib.hid hI
      by_cases h0 : c = 0
      · subst h0
        go_wp2_with (first
          | (go_at_call 22; refine (tick_fire_c he he2 _).mono ?_; rintro _ w3 ⟨rfl, hb3⟩; have G2 := (B2.stays hb3).alloc (.cells #[.bool true, .int .i64 e, .int .i64 (e - 1)] 35); have G5 := (B5.stays hb3).alloc (.cells #[.bool true, .int .i64 e, .int .i64 (e - 1)] 35); have G7 := Blk.new w3 35 #[.bool true, .int .i64 e, .int .i64 (e - 1)]; have GB := (HB.trans (hb3.mono (by have := HB.size; omega))).alloc (by have := HB.size; have := hb3.size; omega) (.cells #[.bool true, .int .i64 e, .int .i64 (e - 1)] 35); clear c0 c1 c2 f0 f1 f2 d0 d1 d2 e0 e1 e2; obtain ⟨c0, c1, c2, f0, f1, f2⟩ := (B2.stays hb3).three; have hz := (B5.stays hb3).lt; have hz2 := (B2.stays hb3).lt)
          | (go_at_call 23; refine (off_c he he2 hl hl2 hi0 (by omega) HI.out _).mono ?_; rintro _ w4 ⟨rfl, hb4⟩; have K2 := G2.stays hb4; have K5 := G5.stays hb4; have K7 := G7.stays hb4; have KB := GB.trans (hb4.mono GB.size); clear c0 c1 c2 f0 f1 f2 G2 G5 G7 GB hz hz2; obtain ⟨c0, c1, c2, f0, f1, f2⟩ := K2.three; obtain ⟨d0, d1, d2, e0, e1, e2⟩ := K7.three)
          | (go_at_call 21; refine (right_c true e (e - 1) _).mono ?_; rw [decide_eq_true (show 1 ≤ e ∧ e ≤ 1000 ∧ 0 ≤ (e - 1) ∧ (e - 1) < e from ⟨he, he2, by omega, by omega⟩)]; rintro _ w5 ⟨rfl, hb5⟩; have L2 := K2.stays hb5; have L5 := K5.stays hb5; have L7 := K7.stays hb5; have LB := KB.trans (hb5.mono KB.size); clear c0 c1 c2 f0 f1 f2 d0 d1 d2 e0 e1 e2 K2 K5 K7 KB; obtain ⟨c0, c1, c2, f0, f1, f2⟩ := L2.three; obtain ⟨d0, d1, d2, e0, e1, e2⟩ := L7.three; obtain ⟨g0, g1, g2, i0, i1, i2⟩ := L5.three))
        go_roundw
        case rel => exact ⟨i + 1, e - 1, rfl, by omega, by omega, Inv.fire he hi0 HI.out, L2.far3 (by omega) _ _ _, L5.set3 _ _ _, below_set3 LB (by omega) _ _ _⟩
        case measure => simp [intOf]; omega
      · have hc1 := hI.1
        have hc2 := hI.2.1
        clear hI
        go_wp2_with (first
          | (go_at_call 22; refine (tick_down_c (by omega) (by omega) _).mono ?_; rintro _ w3 ⟨rfl, hb3⟩; have G2 := (B2.stays hb3).alloc (.cells #[.bool true, .int .i64 e, .int .i64 (c - 1)] 35); have G5 := (B5.stays hb3).alloc (.cells #[.bool true, .int .i64 e, .int .i64 (c - 1)] 35); have G7 := Blk.new w3 35 #[.bool true, .int .i64 e, .int .i64 (c - 1)]; have GB := (HB.trans (hb3.mono (by have := HB.size; omega))).alloc (by have := HB.size; have := hb3.size; omega) (.cells #[.bool true, .int .i64 e, .int .i64 (c - 1)] 35); clear c0 c1 c2 f0 f1 f2 d0 d1 d2 e0 e1 e2; obtain ⟨c0, c1, c2, f0, f1, f2⟩ := (B2.stays hb3).three; have hz := (B5.stays hb3).lt; have hz2 := (B2.stays hb3).lt)
          | (go_at_call 23; refine (off_c he he2 hl hl2 hi0 (by omega) HI.out _).mono ?_; rintro _ w4 ⟨rfl, hb4⟩; have K2 := G2.stays hb4; have K5 := G5.stays hb4; have K7 := G7.stays hb4; have KB := GB.trans (hb4.mono GB.size); clear c0 c1 c2 f0 f1 f2 G2 G5 G7 GB hz hz2; obtain ⟨c0, c1, c2, f0, f1, f2⟩ := K2.three; obtain ⟨d0, d1, d2, e0, e1, e2⟩ := K7.three)
          | (go_at_call 21; refine (right_c true e (c - 1) _).mono ?_; rw [decide_eq_true (show 1 ≤ e ∧ e ≤ 1000 ∧ 0 ≤ (c - 1) ∧ (c - 1) < e from ⟨he, he2, by omega, by omega⟩)]; rintro _ w5 ⟨rfl, hb5⟩; have L2 := K2.stays hb5; have L5 := K5.stays hb5; have L7 := K7.stays hb5; have LB := KB.trans (hb5.mono KB.size); clear c0 c1 c2 f0 f1 f2 d0 d1 d2 e0 e1 e2 K2 K5 K7 KB; obtain ⟨c0, c1, c2, f0, f1, f2⟩ := L2.three; obtain ⟨d0, d1, d2, e0, e1, e2⟩ := L7.three; obtain ⟨g0, g1, g2, i0, i1, i2⟩ := L5.three))
        go_roundw
        case rel => exact ⟨i + 1, c - 1, rfl, by omega, by omega, Inv.down h0 HI.out, L2.far3 (by omega) _ _ _, L5.set3 _ _ _, below_set3 LB (by omega) _ _ _⟩
        case measure => simp [intOf]; omega
    · go_wp2
      go_ret
      exact ⟨rfl, HB⟩

attribute [local go_sem high] eqA35
set_option maxHeartbeats 1000000 in
set_option maxRecDepth 100000 in
theorem ticks_off (e l n : Int) (W : World) (he : 1 ≤ e) (he2 : e ≤ 1000) (hl : 0 ≤ l) (hl2 : l < e) (hn0 : 0 ≤ n) (hn : n ≤ 255) :
    Calls Try.prog 5 #[.agg #[.bool false, .int .i64 e, .int .i64 l], .int .u8 n] W fun e w' => e = .returned (.bool true) ∧ Below W.heap.size W w' := by
  have hr := fun w => right_c false e l w
  rw [decide_eq_true (show 1 ≤ e ∧ e ≤ 1000 ∧ 0 ≤ l ∧ l < e from ⟨he, he2, hl, hl2⟩)] at hr
  have ht := fun w => timer_Timer_Tick.calls _ _ _ _ _ _ _ w (tick_off (e := e) (l := l))
  go_enter Try.func5, Try.ntmps5
  go_wp2_with (first | (go_at_call 20; refine (awake_c _).mono ?_; rintro _ w1 ⟨rfl, hb⟩; have B1 := (Blk.new W 35 _).stays hb; obtain ⟨c0, c1, c2, -, -, -⟩ := B1.three) | (go_at_call 21; refine (hr _).mono ?_; rintro _ w2 ⟨rfl, hb2⟩; have B2 := B1.stays hb2; clear c0 c1 c2; obtain ⟨c0, c1, c2, -, -, -⟩ := B2.three))
  have HB := (below_open hb).trans (hb2.mono (by have := hb.size; simp at this; omega))
  have hlt := B2.lt
  have B2' := B2.alloc (.cells #[.bool false, .int .i64 e, .int .i64 l] 35)
  have B5 := Blk.new w2 35 #[.bool false, .int .i64 e, .int .i64 l]
  have HB' := HB.alloc (by omega) (.cells #[.bool false, .int .i64 e, .int .i64 l] 35)
  clear c0 c1 c2
  go_loopw [6, 7, 8] (fun v6 v7 v8 wr => ∃ i : Int, v6 = .int .i64 i ∧ 0 ≤ i ∧ i ≤ n ∧ Blk wr W.heap.size 35 #[.bool false, .int .i64 e, .int .i64 l] ∧ Blk wr w2.heap.size 35 #[.bool false, .int .i64 e, .int .i64 l] ∧ Below W.heap.size W wr)
    (fun v6 _ _ _ => (n - intOf v6).toNat)
  case atStart => exact ⟨0, rfl, by omega, by omega, B2', B5, HB'⟩
  case round =>
    clear B2' B5 HB' HB B2 B1 hb hb2
    obtain ⟨i, rfl, hi0, hin, B2, B5, HB⟩ := hrel
    obtain ⟨c0, c1, c2, f0, f1, f2⟩ := B2.three
    obtain ⟨d0, d1, d2, e0, e1, e2⟩ := B5.three
    by_cases hlt : i < n
    · go_wp2_with (first
        | (go_at_call 22; refine (ht _).mono ?_; rintro _ w3 ⟨rfl, hb3⟩; have G2 := (B2.stays hb3).alloc (.cells #[.bool false, .int .i64 e, .int .i64 l] 35); have G5 := (B5.stays hb3).alloc (.cells #[.bool false, .int .i64 e, .int .i64 l] 35); have G7 := Blk.new w3 35 #[.bool false, .int .i64 e, .int .i64 l]; have GB := (HB.trans (hb3.mono (by have := HB.size; omega))).alloc (by have := HB.size; have := hb3.size; omega) (.cells #[.bool false, .int .i64 e, .int .i64 l] 35); clear c0 c1 c2 f0 f1 f2 d0 d1 d2 e0 e1 e2; obtain ⟨c0, c1, c2, f0, f1, f2⟩ := (B2.stays hb3).three; have hz := (B5.stays hb3).lt; have hz2 := (B2.stays hb3).lt)
        | (go_at_call 21; refine (hr _).mono ?_; rintro _ w5 ⟨rfl, hb5⟩; have L2 := G2.stays hb5; have L5 := G5.stays hb5; have L7 := G7.stays hb5; have LB := GB.trans (hb5.mono GB.size); clear c0 c1 c2 f0 f1 f2 G2 G5 G7 GB; obtain ⟨c0, c1, c2, f0, f1, f2⟩ := L2.three; obtain ⟨d0, d1, d2, e0, e1, e2⟩ := L7.three; obtain ⟨g0, g1, g2, i0, i1, i2⟩ := L5.three))
      go_roundw
      case rel => exact ⟨i + 1, rfl, by omega, by omega, L2.far3 (by omega) _ _ _, L5.set3 _ _ _, below_set3 LB (by omega) _ _ _⟩
      case measure => simp [intOf]; omega
    · go_wp2
      go_ret
      exact ⟨rfl, HB⟩

theorem TimerTicks (on : Bool) (e l n : Int) (W : World) (_he : (Lit.int .i64 e).wf = true) (_hl : (Lit.int .i64 l).wf = true) (hn : (Lit.int .u8 n).wf = true) :
    Calls Try.prog 5 #[.agg #[.bool on, .int .i64 e, .int .i64 l], .int .u8 n] W fun e w' => e = .returned (.bool true) ∧ Below W.heap.size W w' := by
  obtain ⟨h0, h1⟩ := bounds_u8 hn
  by_cases h : 1 ≤ e ∧ e ≤ 1000 ∧ 0 ≤ l ∧ l < e
  · cases on with
    | true => exact ticks_on e l n W h.1 h.2.1 h.2.2.1 h.2.2.2 h0 h1
    | false => exact ticks_off e l n W h.1 h.2.1 h.2.2.1 h.2.2.2 h0 h1
  · exact ticks_no on e l n W h
end Go.Proofs.Ytagciaanfjllnaa.Walk
