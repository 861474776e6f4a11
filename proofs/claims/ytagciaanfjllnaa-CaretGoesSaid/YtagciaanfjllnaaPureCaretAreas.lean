/- The caret's printed functions about areas, in plain words. -/
import Derived.Test.YtagciaanfjllnaaPCaretAreasx2
namespace Go.Proofs.Ytagciaanfjllnaa.Pure.CaretAreas
open Go.RowKit Go.Proofs.Ytagciaanfjllnaa.PCaretAreas Go.Proofs.YtagciaanfjllnaaW.PrintWords Go.Proofs.YtagciaanfjllnaaW.PrintLast Go.Proofs.YtagciaanfjllnaaW.PrintMore
set_option linter.unusedVariables false

def areaB (R C T B : Int) : Bool := decide (1 ≤ R ∧ R ≤ 60 ∧ 1 ≤ C ∧ C ≤ 132 ∧ 0 ≤ T ∧ B < R ∧ (T < B ∨ (R = 1 ∧ T = 0 ∧ B = 0)))
theorem areaB_true {R C T B : Int} (h : 1 ≤ R ∧ R ≤ 60 ∧ 1 ≤ C ∧ C ≤ 132 ∧ 0 ≤ T ∧ B < R ∧ (T < B ∨ (R = 1 ∧ T = 0 ∧ B = 0))) : areaB R C T B = true := decide_eq_true h
theorem areaB_false {R C T B : Int} (h : ¬ (1 ≤ R ∧ R ≤ 60 ∧ 1 ≤ C ∧ C ≤ 132 ∧ 0 ≤ T ∧ B < R ∧ (T < B ∨ (R = 1 ∧ T = 0 ∧ B = 0)))) : areaB R C T B = false := decide_eq_false h
theorem areaB_spec {R C T B : Int} (h : areaB R C T B = true) : 1 ≤ R ∧ R ≤ 60 ∧ 1 ≤ C ∧ C ≤ 132 ∧ 0 ≤ T ∧ B < R ∧ (T < B ∨ (R = 1 ∧ T = 0 ∧ B = 0)) := of_decide_eq_true h

theorem zero_area {R C T B : Int} (h1 : 1 ≤ R) (h2 : R ≤ 60) (h3 : 1 ≤ C) (h4 : C ≤ 132) (h5 : T = 0) (h6 : R = 1) : (B == 0) = areaB R C T B := by
  by_cases hb : B = 0
  · rw [areaB_true (by omega)]; simp [hb]
  · rw [areaB_false (by omega)]; simp [hb]
theorem refRight_some (R C T B : Int) (o : Bool) : batonref14_Right.f R C T B o = some (areaB R C T B) := by
  unfold batonref14_Right.f
  repeat' split
  all_goals (first | (refine congrArg some (areaB_true ?_).symm; omega) | (refine congrArg some (areaB_false ?_).symm; omega) | exact congrArg some (zero_area (by omega) (by omega) (by omega) (by omega) (by omega) (by omega)))
theorem right_some (R C T B : Int) (o : Bool) : caret_Right.f R C T B o = some (areaB R C T B) := by
  unfold caret_Right.f
  repeat' split
  all_goals (first | (refine congrArg some (areaB_true ?_).symm; omega) | (refine congrArg some (areaB_false ?_).symm; omega) | exact congrArg some (zero_area (by omega) (by omega) (by omega) (by omega) (by omega) (by omega)))
theorem wsub {x : Int} (h0 : 0 ≤ x) (h1 : x ≤ 1000) : wrap64 (x - 1) = x - 1 := by unfold wrap64; omega
theorem whole_yes {R C : Int} (h : 1 ≤ R ∧ R ≤ 60 ∧ 1 ≤ C ∧ C ≤ 132) : caret_Whole.f R C = some (R, C, 0, R - 1, false, 0) := by
  unfold caret_Whole.f
  rw [wsub (by omega) (by omega), right_some, areaB_true (by omega)]
  rfl
theorem whole_no {R C : Int} (h : ¬ (1 ≤ R ∧ R ≤ 60 ∧ 1 ≤ C ∧ C ≤ 132)) : caret_Whole.f R C = some (0, 0, 0, 0, false, 22) := by
  unfold caret_Whole.f
  rw [right_some, areaB_false (by omega)]
  rfl
def fitsB (R C r c : Int) (q : Bool) : Bool := decide (0 ≤ r ∧ r < R ∧ 0 ≤ c ∧ c < C) && (!q || c == C - 1)
theorem fits_some {R C T B : Int} (hC : 1 ≤ C) (hC2 : C ≤ 132) (o : Bool) (r c : Int) (q : Bool) : caret_Fits.f R C T B o r c q = some (fitsB R C r c q) := by
  unfold caret_Fits.f fitsB
  rw [wsub (by omega) (by omega)]
  by_cases h1 : 0 ≤ r
  · by_cases h2 : r < R
    · by_cases h3 : 0 ≤ c
      · by_cases h4 : c < C
        · rw [if_pos h1, if_pos h2, if_pos h3, if_pos h4]
          cases q <;> simp [h1, h2, h3, h4]
        · rw [if_pos h1, if_pos h2, if_pos h3, if_neg h4]; simp [h4]
      · rw [if_pos h1, if_pos h2, if_neg h3]; simp [h3]
    · rw [if_pos h1, if_neg h2]; simp [h2]
  · rw [if_neg h1]; simp [h1]
def botM (R b : Int) : Int := if b < 1 ∨ R < b then R else b
def topM (t : Int) : Int := if t < 1 then 1 else t
theorem topM_bd (t b R : Int) (h : topM t < botM R b) (hR : 1 ≤ R) (hR2 : R ≤ 60) : 1 ≤ topM t ∧ topM t < botM R b ∧ botM R b ≤ R := by
  unfold topM botM at *
  by_cases h1 : t < 1 <;> by_cases h2 : (b < 1 ∨ R < b) <;> simp only [h1, h2, if_true, if_false] at h ⊢ <;> omega
theorem margins_some (R C T B : Int) (o : Bool) (t b : Int) (hR : 1 ≤ R) (hR2 : R ≤ 60) : ∃ k, caret_Margins.f k R C T B o t b = some (R, C, if topM t < botM R b then topM t - 1 else T, if topM t < botM R b then botM R b - 1 else B, o, decide (topM t < botM R b)) := by
  refine ⟨1000, ?_⟩
  have h1 : mx t 1 = topM t := by unfold mx topM; by_cases h : t < 1 <;> simp [h]
  have e : ∀ (z : Bool), z = decide (b < 1 ∨ R < b) → caret_Margins.j0 1000 (topM t) b z R C T B o = some (R, C, if topM t < botM R b then topM t - 1 else T, if topM t < botM R b then botM R b - 1 else B, o, decide (topM t < botM R b)) := by
    intro z hz
    simp only [caret_Margins.j0]
    have hb : (if z = true then R else b) = botM R b := by
      unfold botM; rw [hz]; simp
    by_cases hlt : topM t < botM R b
    · obtain ⟨g1, g2, g3⟩ := topM_bd t b R hlt hR hR2
      have w1 := wsub (x := topM t) (by omega) (by omega)
      have w2 := wsub (x := botM R b) (by omega) (by omega)
      rw [if_pos hlt, if_pos hlt, decide_eq_true hlt]
      cases z with
      | true =>
        simp only [if_true] at hb ⊢
        rw [← hb] at hlt w2 ⊢
        rw [if_neg (by omega), w1, w2]
      | false =>
        simp only [Bool.false_eq_true, if_false] at hb ⊢
        rw [← hb] at hlt w2 ⊢
        rw [if_neg (by omega), w1, w2]
    · rw [if_neg hlt, if_neg hlt, decide_eq_false hlt]
      cases z with
      | true =>
        simp only [if_true] at hb ⊢
        rw [← hb] at hlt
        rw [if_pos (by omega)]
      | false =>
        simp only [Bool.false_eq_true, if_false] at hb ⊢
        rw [← hb] at hlt
        rw [if_pos (by omega)]
  unfold caret_Margins.f
  rw [h1]
  by_cases hb : b < 1
  · rw [if_pos hb]; exact e _ (by simp [hb])
  · rw [if_neg hb]; exact e _ (by simp [hb])
end Go.Proofs.Ytagciaanfjllnaa.Pure.CaretAreas
