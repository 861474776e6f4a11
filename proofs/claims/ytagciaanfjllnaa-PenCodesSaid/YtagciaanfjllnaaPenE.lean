/- The pen's contracts: a colour told by several numbers. -/
import Derived.Test.YtagciaanfjllnaaPenD
namespace Go.Proofs.Ytagciaanfjllnaa.PenC
open Go Go.RowKit Go.Proofs.Ytagciaanfjllnaa.Base Go.Proofs.Ytagciaanfjllnaa.Opens Go.Proofs.Ytagciaanfjllnaa.Reg
set_option linter.unusedVariables false
attribute [local go_sem ↓] Go.wp_at_zero Go.wp_at_succ

/-- the colour that n numbers tell, the first two being a and b; how many of them it uses -/
def colF (n : Nat) (a b : Int) : Int × Int := if n = 0 then (-1, 0) else if a = 2 then (-1, if (n : Int) < 4 then n else 4) else if a ≠ 5 ∨ n = 1 then (-1, 1) else if b < 0 ∨ 255 < b then (-1, 2) else (b, 2)
theorem colF_bd (n : Nat) (a b : Int) : 0 ≤ (colF n a b).2 ∧ (colF n a b).2 ≤ n ∧ -1 ≤ (colF n a b).1 ∧ (colF n a b).1 ≤ 255 := by
  unfold colF
  by_cases h0 : n = 0
  · rw [if_pos h0]; simp
  · rw [if_neg h0]
    by_cases h1 : a = 2
    · rw [if_pos h1]; simp only; split <;> omega
    · rw [if_neg h1]
      by_cases h2 : a ≠ 5 ∨ n = 1
      · rw [if_pos h2]; simp only; omega
      · rw [if_neg h2]
        by_cases h3 : b < 0 ∨ 255 < b
        · rw [if_pos h3]; simp only; omega
        · rw [if_neg h3]; simp only; omega

set_option maxHeartbeats 4000000 in
set_option maxRecDepth 100000 in
theorem colour_c {A : Option Addr} {n c : Nat} {z : Nat → Int} {W : World} (hf : Nums .i64 W A n z) (hn : n ≤ maxLen) :
    Calls Try.prog 52 #[.slice A n c] W fun e w' => e = .returned (.tuple #[.int .i64 (colF n (z 0) (z 1)).1, .int .i64 (colF n (z 0) (z 1)).2]) ∧ Below W.heap.size W w' := by
  unfold maxLen at hn
  unfold colF
  by_cases h0 : n = 0
  · subst h0
    rw [if_pos rfl]
    go_enter Try.func52, Try.ntmps52
    go_wp2_with fail
    go_ret2
    exact ⟨rfl, Below.refl _ _⟩
  · rw [if_neg h0]
    obtain ⟨bl, off, rfl, hb, hc⟩ := hf (by omega)
    have z0 := (hc 0 (by omega)).1
    rw [Nat.add_zero] at z0
    generalize z 0 = a at *
    by_cases h1 : a = 2
    · subst h1
      rw [if_pos rfl]
      by_cases h4 : (n : Int) < 4
      · rw [if_pos h4]
        clear hc
        go_enter Try.func52, Try.ntmps52
        go_wp2_with fail
        go_ret2
        exact ⟨rfl, Below.refl _ _⟩
      · rw [if_neg h4]
        clear hc
        go_enter Try.func52, Try.ntmps52
        go_wp2_with fail
        go_ret2
        exact ⟨rfl, Below.refl _ _⟩
    · rw [if_neg h1]
      by_cases h5 : a = 5
      · subst h5
        by_cases h6 : n = 1
        · subst h6
          rw [if_pos (Or.inr rfl)]
          clear hc
          go_enter Try.func52, Try.ntmps52
          go_wp2_with fail
          go_ret2
          exact ⟨rfl, Below.refl _ _⟩
        · rw [if_neg (by omega)]
          have z1 := (hc 1 (by omega)).1
          clear hc
          generalize z 1 = b at *
          by_cases h7 : b < 0
          · rw [if_pos (Or.inl h7)]
            go_enter Try.func52, Try.ntmps52
            go_wp2_with fail
            go_ret2
            exact ⟨rfl, Below.refl _ _⟩
          · by_cases h8 : 255 < b
            · rw [if_pos (Or.inr h8)]
              go_enter Try.func52, Try.ntmps52
              go_wp2_with fail
              go_ret2
              exact ⟨rfl, Below.refl _ _⟩
            · rw [if_neg (by omega)]
              go_enter Try.func52, Try.ntmps52
              go_wp2_with fail
              go_ret2
              exact ⟨rfl, Below.refl _ _⟩
      · rw [if_pos (Or.inl h5)]
        clear hc
        go_enter Try.func52, Try.ntmps52
        go_wp2_with fail
        go_ret2
        exact ⟨rfl, Below.refl _ _⟩
end Go.Proofs.Ytagciaanfjllnaa.PenC
