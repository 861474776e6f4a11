/- The walk of the law PenColours: whatever the numbers, the Go function answers true. -/
import Derived.Test.YtagciaanfjllnaaPenG
namespace Go.Proofs.Ytagciaanfjllnaa.PenC
open Go Go.RowKit Go.Proofs.Ytagciaanfjllnaa.Base Go.Proofs.Ytagciaanfjllnaa.Opens Go.Proofs.Ytagciaanfjllnaa.Reg
set_option linter.unusedVariables false
set_option linter.unusedSimpArgs false
attribute [local go_sem ↓] Go.wp_at_zero Go.wp_at_succ

set_option maxHeartbeats 4000000 in
set_option maxRecDepth 100000 in
theorem colours_long (A : Option Addr) (n c : Nat) (W : World) (h : 20 < n) (hm : n ≤ maxLen) :
    Calls Try.prog 13 #[.slice A n c] W fun e w' => e = .returned (.bool true) ∧ Below W.heap.size W w' := by
  unfold maxLen at hm
  have h1 : (20 : Int) < (n : Int) := by omega
  go_enter Try.func13, Try.ntmps13
  go_wp2_with (go_at_call 51; refine (awake_c W).mono ?_; rintro _ w1 ⟨rfl, hb⟩)
  go_ret
  exact ⟨rfl, hb⟩

set_option maxHeartbeats 4000000 in
set_option maxRecDepth 100000 in
theorem colours_zero (A : Option Addr) (c : Nat) (W : World) :
    Calls Try.prog 13 #[.slice A 0 c] W fun e w' => e = .returned (.bool true) ∧ Below W.heap.size W w' := by
  have HC : ∀ w, Calls Try.prog 52 #[.slice A 0 c] w fun e w' => e = .returned (.tuple #[.int .i64 (-1), .int .i64 0]) ∧ Below w.heap.size w w' := fun w => colour_c (A := A) (n := 0) (c := c) (z := fun _ => 0) (fun h => absurd h (by omega)) (by unfold maxLen; omega)
  go_enter Try.func13, Try.ntmps13
  go_wp2_with (first | (go_at_call 51; refine (awake_c W).mono ?_; rintro _ w1 ⟨rfl, hb⟩) | (go_at_call 52; refine (HC _).mono ?_; rintro _ w2 ⟨rfl, hb2⟩; have hb3 := hb.trans (hb2.mono hb.size)))
  go_ret
  exact ⟨rfl, hb3⟩

set_option maxHeartbeats 4000000 in
set_option maxRecDepth 100000 in
theorem colours_two4 {A : Option Addr} {n c : Nat} {z : Nat → Int} {W : World} (hf : Nums .i64 W A n z) (hn : n ≤ 20) (hp : 0 < n) (h0 : z 0 = 2) (h1 : (n : Int) < 4) :
    Calls Try.prog 13 #[.slice A n c] W fun e w' => e = .returned (.bool true) ∧ Below W.heap.size W w' := by
  obtain ⟨bl, off, rfl, -, -⟩ := hf hp
  have HC : ∀ w, Nums .i64 w (some ⟨bl, off, none⟩) n z → Calls Try.prog 52 #[.slice (some ⟨bl, off, none⟩) n c] w fun e w' => e = .returned (.tuple #[.int .i64 (-1), .int .i64 (n : Int)]) ∧ Below w.heap.size w w' := by
    intro w hw
    have e : colF n (z 0) (z 1) = ((-1), (n : Int)) := by rw [colF, if_neg (by omega), if_pos h0, if_pos h1]
    have h := colour_c (c := c) hw (by unfold maxLen; omega)
    rw [e] at h
    exact h
  have hl : ¬ (20 : Int) < (n : Int) := by omega
  have hl0 : ((n : Int) == 0) = false := beq_ff (by omega)
  have g1 : ((n : Int) == 4) = false := beq_ff (by omega)
  have eh0 := Lib.hid h0
  have hi0 : (0 : Int) < (n : Int) := by omega
  clear hn
  go_enter Try.func13, Try.ntmps13
  go_wp2_with (first | (go_at_call 51; refine (awake_c W).mono ?_; rintro _ w1 ⟨rfl, hb⟩; have hN1 := nums_stays hf hb) | (go_at_call 52; refine (HC _ hN1).mono ?_; rintro _ w2 ⟨rfl, hb2⟩; have hb3 := hb.trans (hb2.mono hb.size); obtain ⟨bl2, off2, e2, hbl, hcell⟩ := nums_stays hN1 hb2 hp; cases e2; have z0 := (hcell 0 (by omega)).1; rw [Nat.add_zero, eh0.out] at z0; clear hcell))
  go_ret
  exact ⟨rfl, hb3⟩

set_option maxHeartbeats 4000000 in
set_option maxRecDepth 100000 in
theorem colours_two {A : Option Addr} {n c : Nat} {z : Nat → Int} {W : World} (hf : Nums .i64 W A n z) (hn : n ≤ 20) (hp : 0 < n) (h0 : z 0 = 2) (h1 : ¬ (n : Int) < 4) :
    Calls Try.prog 13 #[.slice A n c] W fun e w' => e = .returned (.bool true) ∧ Below W.heap.size W w' := by
  obtain ⟨bl, off, rfl, -, -⟩ := hf hp
  have HC : ∀ w, Nums .i64 w (some ⟨bl, off, none⟩) n z → Calls Try.prog 52 #[.slice (some ⟨bl, off, none⟩) n c] w fun e w' => e = .returned (.tuple #[.int .i64 (-1), .int .i64 4]) ∧ Below w.heap.size w w' := by
    intro w hw
    have e : colF n (z 0) (z 1) = ((-1), 4) := by rw [colF, if_neg (by omega), if_pos h0, if_neg h1]
    have h := colour_c (c := c) hw (by unfold maxLen; omega)
    rw [e] at h
    exact h
  have hl : ¬ (20 : Int) < (n : Int) := by omega
  have hl0 : ((n : Int) == 0) = false := beq_ff (by omega)
  have eh0 := Lib.hid h0
  have hi0 : (0 : Int) < (n : Int) := by omega
  clear hn
  go_enter Try.func13, Try.ntmps13
  go_wp2_with (first | (go_at_call 51; refine (awake_c W).mono ?_; rintro _ w1 ⟨rfl, hb⟩; have hN1 := nums_stays hf hb) | (go_at_call 52; refine (HC _ hN1).mono ?_; rintro _ w2 ⟨rfl, hb2⟩; have hb3 := hb.trans (hb2.mono hb.size); obtain ⟨bl2, off2, e2, hbl, hcell⟩ := nums_stays hN1 hb2 hp; cases e2; have z0 := (hcell 0 (by omega)).1; rw [Nat.add_zero, eh0.out] at z0; clear hcell))
  go_ret
  exact ⟨rfl, hb3⟩

set_option maxHeartbeats 4000000 in
set_option maxRecDepth 100000 in
theorem colours_not5 {A : Option Addr} {n c : Nat} {z : Nat → Int} {W : World} (hf : Nums .i64 W A n z) (hn : n ≤ 20) (hp : 0 < n) (h0 : z 0 ≠ 2) (h1 : z 0 ≠ 5) :
    Calls Try.prog 13 #[.slice A n c] W fun e w' => e = .returned (.bool true) ∧ Below W.heap.size W w' := by
  obtain ⟨bl, off, rfl, -, -⟩ := hf hp
  have HC : ∀ w, Nums .i64 w (some ⟨bl, off, none⟩) n z → Calls Try.prog 52 #[.slice (some ⟨bl, off, none⟩) n c] w fun e w' => e = .returned (.tuple #[.int .i64 (-1), .int .i64 1]) ∧ Below w.heap.size w w' := by
    intro w hw
    have e : colF n (z 0) (z 1) = ((-1), 1) := by rw [colF, if_neg (by omega), if_neg h0, if_pos (Or.inl h1)]
    have h := colour_c (c := c) hw (by unfold maxLen; omega)
    rw [e] at h
    exact h
  have hl : ¬ (20 : Int) < (n : Int) := by omega
  have hl0 : ((n : Int) == 0) = false := beq_ff (by omega)
  have g1 : (z 0 == 2) = false := beq_ff h0
  have g2 : (z 0 != 5) = true := bne_iff_ne.mpr h1
  have hi0 : (0 : Int) < (n : Int) := by omega
  clear hn
  go_enter Try.func13, Try.ntmps13
  go_wp2_with (first | (go_at_call 51; refine (awake_c W).mono ?_; rintro _ w1 ⟨rfl, hb⟩; have hN1 := nums_stays hf hb) | (go_at_call 52; refine (HC _ hN1).mono ?_; rintro _ w2 ⟨rfl, hb2⟩; have hb3 := hb.trans (hb2.mono hb.size); obtain ⟨bl2, off2, e2, hbl, hcell⟩ := nums_stays hN1 hb2 hp; cases e2; have z0 := (hcell 0 (by omega)).1; rw [Nat.add_zero] at z0; clear hcell))
  go_ret
  exact ⟨rfl, hb3⟩

set_option maxHeartbeats 4000000 in
set_option maxRecDepth 100000 in
theorem colours_one1 {A : Option Addr} {c : Nat} {z : Nat → Int} {W : World} (hf : Nums .i64 W A 1 z) (h0 : z 0 = 5) :
    Calls Try.prog 13 #[.slice A 1 c] W fun e w' => e = .returned (.bool true) ∧ Below W.heap.size W w' := by
  obtain ⟨bl, off, rfl, -, -⟩ := hf (by omega)
  have HC : ∀ w, Nums .i64 w (some ⟨bl, off, none⟩) 1 z → Calls Try.prog 52 #[.slice (some ⟨bl, off, none⟩) 1 c] w fun e w' => e = .returned (.tuple #[.int .i64 (-1), .int .i64 1]) ∧ Below w.heap.size w w' := by
    intro w hw
    have e : colF 1 (z 0) (z 1) = ((-1), 1) := by rw [colF, if_neg (by omega), if_neg (by omega), if_pos (Or.inr rfl)]
    have h := colour_c (c := c) hw (by unfold maxLen; omega)
    rw [e] at h
    exact h
  have eh0 := Lib.hid h0
  go_enter Try.func13, Try.ntmps13
  go_wp2_with (first | (go_at_call 51; refine (awake_c W).mono ?_; rintro _ w1 ⟨rfl, hb⟩; have hN1 := nums_stays hf hb) | (go_at_call 52; refine (HC _ hN1).mono ?_; rintro _ w2 ⟨rfl, hb2⟩; have hb3 := hb.trans (hb2.mono hb.size); obtain ⟨bl2, off2, e2, hbl, hcell⟩ := nums_stays hN1 hb2 (by omega); cases e2; have z0 := (hcell 0 (by omega)).1; rw [Nat.add_zero, eh0.out] at z0; clear hcell))
  go_ret
  exact ⟨rfl, hb3⟩

set_option maxHeartbeats 4000000 in
set_option maxRecDepth 100000 in
theorem colours_neg {A : Option Addr} {n c : Nat} {z : Nat → Int} {W : World} (hf : Nums .i64 W A n z) (hn : n ≤ 20) (hp : 0 < n) (h0 : z 0 = 5) (h1 : n ≠ 1) (h2 : z 1 < 0) :
    Calls Try.prog 13 #[.slice A n c] W fun e w' => e = .returned (.bool true) ∧ Below W.heap.size W w' := by
  obtain ⟨bl, off, rfl, -, -⟩ := hf hp
  have HC : ∀ w, Nums .i64 w (some ⟨bl, off, none⟩) n z → Calls Try.prog 52 #[.slice (some ⟨bl, off, none⟩) n c] w fun e w' => e = .returned (.tuple #[.int .i64 (-1), .int .i64 2]) ∧ Below w.heap.size w w' := by
    intro w hw
    have e : colF n (z 0) (z 1) = ((-1), 2) := by rw [colF, if_neg (by omega), if_neg (by omega), if_neg (by omega), if_pos (Or.inl h2)]
    have h := colour_c (c := c) hw (by unfold maxLen; omega)
    rw [e] at h
    exact h
  have hl : ¬ (20 : Int) < (n : Int) := by omega
  have hl0 : ((n : Int) == 0) = false := beq_ff (by omega)
  have g1 : ((n : Int) == 1) = false := beq_ff (by omega)
  have eh0 := Lib.hid h0
  have hi0 : (0 : Int) < (n : Int) := by omega
  have hi1 : (1 : Int) < (n : Int) := by omega
  clear hn
  go_enter Try.func13, Try.ntmps13
  go_wp2_with (first | (go_at_call 51; refine (awake_c W).mono ?_; rintro _ w1 ⟨rfl, hb⟩; have hN1 := nums_stays hf hb) | (go_at_call 52; refine (HC _ hN1).mono ?_; rintro _ w2 ⟨rfl, hb2⟩; have hb3 := hb.trans (hb2.mono hb.size); obtain ⟨bl2, off2, e2, hbl, hcell⟩ := nums_stays hN1 hb2 hp; cases e2; have z0 := (hcell 0 (by omega)).1; rw [Nat.add_zero, eh0.out] at z0; have z1 := (hcell 1 (by omega)).1; clear hcell))
  go_ret
  exact ⟨rfl, hb3⟩

set_option maxHeartbeats 4000000 in
set_option maxRecDepth 100000 in
theorem colours_big {A : Option Addr} {n c : Nat} {z : Nat → Int} {W : World} (hf : Nums .i64 W A n z) (hn : n ≤ 20) (hp : 0 < n) (h0 : z 0 = 5) (h1 : n ≠ 1) (h2 : ¬ z 1 < 0) (h3 : 255 < z 1) :
    Calls Try.prog 13 #[.slice A n c] W fun e w' => e = .returned (.bool true) ∧ Below W.heap.size W w' := by
  obtain ⟨bl, off, rfl, -, -⟩ := hf hp
  have HC : ∀ w, Nums .i64 w (some ⟨bl, off, none⟩) n z → Calls Try.prog 52 #[.slice (some ⟨bl, off, none⟩) n c] w fun e w' => e = .returned (.tuple #[.int .i64 (-1), .int .i64 2]) ∧ Below w.heap.size w w' := by
    intro w hw
    have e : colF n (z 0) (z 1) = ((-1), 2) := by rw [colF, if_neg (by omega), if_neg (by omega), if_neg (by omega), if_pos (Or.inr h3)]
    have h := colour_c (c := c) hw (by unfold maxLen; omega)
    rw [e] at h
    exact h
  have hl : ¬ (20 : Int) < (n : Int) := by omega
  have hl0 : ((n : Int) == 0) = false := beq_ff (by omega)
  have g1 : ((n : Int) == 1) = false := beq_ff (by omega)
  have eh0 := Lib.hid h0
  have hi0 : (0 : Int) < (n : Int) := by omega
  have hi1 : (1 : Int) < (n : Int) := by omega
  clear hn
  go_enter Try.func13, Try.ntmps13
  go_wp2_with (first | (go_at_call 51; refine (awake_c W).mono ?_; rintro _ w1 ⟨rfl, hb⟩; have hN1 := nums_stays hf hb) | (go_at_call 52; refine (HC _ hN1).mono ?_; rintro _ w2 ⟨rfl, hb2⟩; have hb3 := hb.trans (hb2.mono hb.size); obtain ⟨bl2, off2, e2, hbl, hcell⟩ := nums_stays hN1 hb2 hp; cases e2; have z0 := (hcell 0 (by omega)).1; rw [Nat.add_zero, eh0.out] at z0; have z1 := (hcell 1 (by omega)).1; clear hcell))
  go_ret
  exact ⟨rfl, hb3⟩

set_option maxHeartbeats 4000000 in
set_option maxRecDepth 100000 in
theorem colours_all {A : Option Addr} {n c : Nat} {z : Nat → Int} {W : World} (hf : Nums .i64 W A n z) (hn : n ≤ 20) (hp : 0 < n) (h0 : z 0 = 5) (h1 : n ≠ 1) (h2 : ¬ z 1 < 0) (h3 : ¬ 255 < z 1) :
    Calls Try.prog 13 #[.slice A n c] W fun e w' => e = .returned (.bool true) ∧ Below W.heap.size W w' := by
  obtain ⟨bl, off, rfl, -, -⟩ := hf hp
  have HC : ∀ w, Nums .i64 w (some ⟨bl, off, none⟩) n z → Calls Try.prog 52 #[.slice (some ⟨bl, off, none⟩) n c] w fun e w' => e = .returned (.tuple #[.int .i64 (z 1), .int .i64 2]) ∧ Below w.heap.size w w' := by
    intro w hw
    have e : colF n (z 0) (z 1) = ((z 1), 2) := by rw [colF, if_neg (by omega), if_neg (by omega), if_neg (by omega), if_neg (by omega)]
    have h := colour_c (c := c) hw (by unfold maxLen; omega)
    rw [e] at h
    exact h
  have hl : ¬ (20 : Int) < (n : Int) := by omega
  have hl0 : ((n : Int) == 0) = false := beq_ff (by omega)
  have g1 : ((n : Int) == 1) = false := beq_ff (by omega)
  have eh0 := Lib.hid h0
  have hi0 : (0 : Int) < (n : Int) := by omega
  have hi1 : (1 : Int) < (n : Int) := by omega
  clear hn
  go_enter Try.func13, Try.ntmps13
  go_wp2_with (first | (go_at_call 51; refine (awake_c W).mono ?_; rintro _ w1 ⟨rfl, hb⟩; have hN1 := nums_stays hf hb) | (go_at_call 52; refine (HC _ hN1).mono ?_; rintro _ w2 ⟨rfl, hb2⟩; have hb3 := hb.trans (hb2.mono hb.size); obtain ⟨bl2, off2, e2, hbl, hcell⟩ := nums_stays hN1 hb2 hp; cases e2; have z0 := (hcell 0 (by omega)).1; rw [Nat.add_zero, eh0.out] at z0; have z1 := (hcell 1 (by omega)).1; clear hcell))
  go_ret
  exact ⟨rfl, hb3⟩

theorem colours_all' {A : Option Addr} {n c : Nat} {z : Nat → Int} {W : World} (hf : Nums .i64 W A n z) (hm : n ≤ maxLen) :
    Calls Try.prog 13 #[.slice A n c] W fun e w' => e = .returned (.bool true) ∧ Below W.heap.size W w' := by
  by_cases h20 : 20 < n
  · exact colours_long A n c W h20 hm
  by_cases h0 : n = 0
  · subst h0; exact colours_zero A c W
  have hn : n ≤ 20 := by omega
  have hp : 0 < n := by omega
  by_cases c2 : z 0 = 2
  · by_cases c4 : (n : Int) < 4
    · exact colours_two4 hf hn hp c2 c4
    · exact colours_two hf hn hp c2 c4
  by_cases c5 : z 0 = 5
  · by_cases c1 : n = 1
    · subst c1; exact colours_one1 hf c5
    by_cases c6 : z 1 < 0
    · exact colours_neg hf hn hp c5 c1 c6
    by_cases c7 : 255 < z 1
    · exact colours_big hf hn hp c5 c1 c6 c7
    · exact colours_all hf hn hp c5 c1 c6 c7
  · exact colours_not5 hf hn hp c2 c5
end Go.Proofs.Ytagciaanfjllnaa.PenC
namespace Go.Proofs.Ytagciaanfjllnaa.Walk
open Go Go.RowKit Go.Proofs.Ytagciaanfjllnaa.Opens
theorem PenColours (A : Option Addr) (n c : Nat) (z : Nat → Int) (W : World) (f : n ≤ c ∧ c ≤ maxLen ∧ Nums .i64 W A n z) :
    Calls Try.prog 13 #[.slice A n c] W fun e w' => e = .returned (.bool true) ∧ Below W.heap.size W w' := PenC.colours_all' f.2.2 (Nat.le_trans f.1 f.2.1)
end Go.Proofs.Ytagciaanfjllnaa.Walk
