/- The pen laws' first step: the page's example. -/
import Derived.Test.YtagciaanfjllnaaPenF
import Derived.Test.YtagciaanfjllnaaPCaretMovesx1
namespace Go.Proofs.Ytagciaanfjllnaa.PenC
open Go Go.RowKit Go.Proofs.Ytagciaanfjllnaa.Base Go.Proofs.Ytagciaanfjllnaa.Opens Go.Proofs.Ytagciaanfjllnaa.Reg Go.Proofs.YtagciaanfjllnaaW.PrintWords Go.Proofs.YtagciaanfjllnaaW.PrintMore
set_option linter.unusedVariables false
set_option linter.unusedSimpArgs false

theorem eqA90 (d : Nat) (w : World) (x0 y0 : Int) (x1 y1 : Int) (x2 y2 : Int) :
    (Op.equalIn (d + 2) 90 (.agg #[.int .i64 x0, .int .i64 x1, .int .i64 x2]) (.agg #[.int .i64 y0, .int .i64 y1, .int .i64 y2])).run Try.prog w = .ok (x0 == y0 && (x1 == y1 && (x2 == y2))) w := by
  refine eqA_of Try.underlying90 (by kernel_rfl) ?_
  refine eqf_cons (by rfl) (by go_simp; rfl) (by go_simp; rfl) (by go_simp) ?_
  refine eqf_cons (by rfl) (by go_simp; rfl) (by go_simp; rfl) (by go_simp) ?_
  exact eqf_last (by rfl) (by go_simp; rfl) (by go_simp; rfl) (by go_simp)
attribute [local go_sem high] eqA90

theorem ex_apply : applyF (fun j => if j = 0 then 1 else 31) 2 (0, 5, 0) = (2, 5, 1) := by decide +kernel
theorem ex_nums (W : World) : Nums .i64 (W.alloc (.cells #[.int .i64 1, .int .i64 31] 3)) (some ⟨W.heap.size, 0, none⟩) 2 (fun j => if j = 0 then 1 else 31) := fun _ => by
  have hB := Blk.new W 3 #[.int .i64 1, .int .i64 31]
  refine ⟨W.heap.size, 0, rfl, hB.lt, fun i hi => ?_⟩
  rcases (show i = 0 ∨ i = 1 by omega) with rfl | rfl
  · exact ⟨hB.cell 0, by decide +kernel⟩
  · exact ⟨hB.cell 1, by decide +kernel⟩
theorem ex_call (W : World) : Calls Try.prog 54 #[.agg #[.int .i64 0, .int .i64 5, .int .i64 0], .slice (some ⟨W.heap.size, 0, none⟩) 2 2] (W.alloc (.cells #[.int .i64 1, .int .i64 31] 3)) fun e w' => e = .returned (.agg #[.int .i64 2, .int .i64 5, .int .i64 1]) ∧ Below W.heap.size W w' := by
  have h := apply_c (c := 2) (ex_nums W) (Nat.le_refl 2) (by unfold maxLen; omega) (0, 5, 0)
  rw [ex_apply] at h
  refine h.mono ?_
  rintro e w' ⟨he, hb⟩
  exact ⟨he, ((Below.refl _ _).alloc (Nat.le_refl _) _).trans (hb.mono (by simp [World.size_alloc]))⟩

set_option maxHeartbeats 4000000 in
set_option maxRecDepth 100000 in
theorem awake_c (W : World) : Calls Try.prog 51 #[] W fun e w' => e = .returned (.bool true) ∧ Below W.heap.size W w' := by
  go_enter Try.func51, Try.ntmps51
  go_wp2_with (go_at_call 54; refine (ex_call W).mono ?_; rintro _ w1 ⟨rfl, hb⟩)
  go_ret
  exact ⟨rfl, hb⟩
end Go.Proofs.Ytagciaanfjllnaa.PenC
