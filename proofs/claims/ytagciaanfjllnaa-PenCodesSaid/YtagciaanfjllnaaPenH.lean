/- The pen's contracts: may a pen be; the numbers one by one. -/
import Derived.Test.YtagciaanfjllnaaPenG
namespace Go.Proofs.Ytagciaanfjllnaa.PenC
open Go Go.RowKit Go.Proofs.Ytagciaanfjllnaa.Base Go.Proofs.Ytagciaanfjllnaa.Opens Go.Proofs.Ytagciaanfjllnaa.Reg Go.Proofs.Ytagciaanfjllnaa.PPenCodes Go.Proofs.YtagciaanfjllnaaW.PrintWords Go.Proofs.YtagciaanfjllnaaW.PrintMore
set_option linter.unusedVariables false

/-- a pen that may be -/
def RightP (p : Int × Int × Int) : Prop := 0 ≤ p.1 ∧ p.1 ≤ 256 ∧ 0 ≤ p.2.1 ∧ p.2.1 ≤ 256 ∧ 0 ≤ p.2.2 ∧ p.2.2 ≤ 127
instance (p : Int × Int × Int) : Decidable (RightP p) := by unfold RightP; infer_instance
theorem sign97 : ((batonref08_Sign.f (wrap64 97)).bind fun t => some t) = some true := by decide +kernel
theorem right_f (p : Int × Int × Int) : batonlaw12_right.f p.1 p.2.1 p.2.2 = some (decide (RightP p)) := by
  obtain ⟨f, b, m⟩ := p
  simp only [batonlaw12_right.f, batonref09_Right.f]
  rw [if_pos (show wrap64 97 ≥ 32 by decide +kernel), if_pos (show wrap64 97 ≤ 126 by decide +kernel), sign97]
  by_cases h1 : f < 0
  · rw [if_pos h1, decide_eq_false (p := RightP (f, b, m)) (fun h => by have h0 := h.1; simp only at h0; omega)]; rfl
  rw [if_neg h1]
  by_cases h2 : f > 256
  · rw [if_pos h2, decide_eq_false (p := RightP (f, b, m)) (fun h => by have h0 := h.2.1; simp only at h0; omega)]; rfl
  rw [if_neg h2]
  by_cases h3 : b < 0
  · rw [if_pos h3, decide_eq_false (p := RightP (f, b, m)) (fun h => by have h0 := h.2.2.1; simp only at h0; omega)]; rfl
  rw [if_neg h3]
  by_cases h4 : b > 256
  · rw [if_pos h4, decide_eq_false (p := RightP (f, b, m)) (fun h => by have h0 := h.2.2.2.1; simp only at h0; omega)]; rfl
  rw [if_neg h4]
  by_cases h5 : m < 0
  · rw [if_pos h5, decide_eq_false (p := RightP (f, b, m)) (fun h => by have h0 := h.2.2.2.2.1; simp only at h0; omega)]; rfl
  rw [if_neg h5]
  by_cases h6 : m > 127
  · rw [if_pos h6, decide_eq_false (p := RightP (f, b, m)) (fun h => by have h0 := h.2.2.2.2.2; simp only at h0; omega)]; rfl
  rw [if_neg h6, decide_eq_true (p := RightP (f, b, m)) ⟨by omega, by simp only; omega, by simp only; omega, by simp only; omega, by simp only; omega, by simp only; omega⟩]; rfl
theorem right_c (p : Int × Int × Int) (w : World) : Calls Try.prog 53 #[.agg #[.int .i64 p.1, .int .i64 p.2.1, .int .i64 p.2.2]] w fun e w' => e = .returned (.bool (decide (RightP p))) ∧ Below w.heap.size w w' := batonlaw12_right.calls _ _ _ _ w (right_f p)
theorem right_yes {p : Int × Int × Int} (h : RightP p) (w : World) : Calls Try.prog 53 #[.agg #[.int .i64 p.1, .int .i64 p.2.1, .int .i64 p.2.2]] w fun e w' => e = .returned (.bool true) ∧ Below w.heap.size w w' := by
  have := right_c p w
  rw [decide_eq_true h] at this
  exact this
theorem right_no {p : Int × Int × Int} (h : ¬ RightP p) (w : World) : Calls Try.prog 53 #[.agg #[.int .i64 p.1, .int .i64 p.2.1, .int .i64 p.2.2]] w fun e w' => e = .returned (.bool false) ∧ Below w.heap.size w w' := by
  have := right_c p w
  rw [decide_eq_false h] at this
  exact this
/-- one number alone -/
theorem apply_one {p : Int × Int × Int} {x : Int} (h1 : x ≠ 38) (h2 : x ≠ 48) : applyF (fun _ => x) 1 p = oneF p x := by
  rw [applyF, if_neg (by omega), run_one (by omega) h1 h2]
  rfl
theorem one_nums (w : World) (x : Int) (hx : (Lit.int .i64 x).wf = true) : Nums .i64 (w.alloc (.cells #[.int .i64 x] 3)) (some ⟨w.heap.size, 0, none⟩) 1 (fun _ => x) := fun _ => by
  have hB := Blk.new w 3 #[.int .i64 x]
  refine ⟨w.heap.size, 0, rfl, hB.lt, fun i hi => ?_⟩
  obtain rfl : i = 0 := by omega
  exact ⟨hB.cell 0, hx⟩
theorem one_call {q : Int × Int × Int} {x : Int} (h1 : x ≠ 38) (h2 : x ≠ 48) (hx : (Lit.int .i64 x).wf = true) (w : World) : Calls Try.prog 54 #[.agg #[.int .i64 q.1, .int .i64 q.2.1, .int .i64 q.2.2], .slice (some ⟨w.heap.size, 0, none⟩) 1 1] (w.alloc (.cells #[.int .i64 x] 3)) fun e w' => e = .returned (.agg #[.int .i64 (oneF q x).1, .int .i64 (oneF q x).2.1, .int .i64 (oneF q x).2.2]) ∧ Below w.heap.size w w' := by
  have h := apply_c (c := 1) (one_nums w x hx) (Nat.le_refl 1) (by unfold maxLen; omega) q
  rw [apply_one h1 h2] at h
  refine h.mono ?_
  rintro e w' ⟨he, hb⟩
  exact ⟨he, ((Below.refl _ _).alloc (Nat.le_refl _) _).trans (hb.mono (by simp [World.size_alloc]))⟩
end Go.Proofs.Ytagciaanfjllnaa.PenC
