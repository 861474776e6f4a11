/- The caret's contracts that several laws share: the page's example, which areas may be, which places fit, the whole area, margins; blocks of five and of two cells. -/
import Derived.Test.YtagciaanfjllnaaPureCaretAreas
import Derived.Test.YtagciaanfjllnaaBase
namespace Go.Proofs.Ytagciaanfjllnaa.CaretC
open Go.RowKit Go.Proofs.Ytagciaanfjllnaa.PCaretAreas Go.Proofs.Ytagciaanfjllnaa.Base Go.Proofs.Ytagciaanfjllnaa.Pure.CaretAreas
set_option linter.unusedVariables false
theorem Blk.five {w : World} {g : Nat} {t : TypeId} {a b c d e : Value} (h : Blk w g t #[a, b, c, d, e]) :
    w.cell? ⟨g, 0, none⟩ = some a ∧ w.cell? ⟨g, 1, none⟩ = some b ∧ w.cell? ⟨g, 2, none⟩ = some c ∧ w.cell? ⟨g, 3, none⟩ = some d ∧ w.cell? ⟨g, 4, none⟩ = some e :=
  ⟨h.cell 0, h.cell 1, h.cell 2, h.cell 3, h.cell 4⟩
theorem Blk.two {w : World} {g : Nat} {t : TypeId} {a b : Value} (h : Blk w g t #[a, b]) : w.cell? ⟨g, 0, none⟩ = some a ∧ w.cell? ⟨g, 1, none⟩ = some b := ⟨h.cell 0, h.cell 1⟩
theorem awake_c (w : World) : Calls Try.prog 33 #[] w fun e w' => e = .returned (.bool true) ∧ Below w.heap.size w w' := batonlaw14_awake.calls true w (by decide +kernel)
theorem ref_c (R C T B : Int) (o : Bool) (w : World) : Calls Try.prog 35 #[.agg #[.int .i64 R, .int .i64 C, .int .i64 T, .int .i64 B, .bool o]] w fun e w' => e = .returned (.agg #[.int .i64 R, .int .i64 C, .int .i64 T, .int .i64 B, .bool o]) ∧ Below w.heap.size w w' :=
  batonlaw14_Ref.calls R C T B o _ _ _ _ _ w rfl
theorem refright_c (R C T B : Int) (o : Bool) (w : World) : Calls Try.prog 34 #[.agg #[.int .i64 R, .int .i64 C, .int .i64 T, .int .i64 B, .bool o]] w fun e w' => e = .returned (.bool (areaB R C T B)) ∧ Below w.heap.size w w' :=
  batonref14_Right.calls R C T B o _ w (refRight_some R C T B o)
theorem right_c (R C T B : Int) (o : Bool) (w : World) : Calls Try.prog 37 #[.agg #[.int .i64 R, .int .i64 C, .int .i64 T, .int .i64 B, .bool o]] w fun e w' => e = .returned (.bool (areaB R C T B)) ∧ Below w.heap.size w w' :=
  caret_Right.calls R C T B o _ w (right_some R C T B o)
theorem whole_yes_c {R C : Int} (h : 1 ≤ R ∧ R ≤ 60 ∧ 1 ≤ C ∧ C ≤ 132) (w : World) : Calls Try.prog 36 #[.int .i64 R, .int .i64 C] w fun e w' => e = .returned (.tuple #[.agg #[.int .i64 R, .int .i64 C, .int .i64 0, .int .i64 (R - 1), .bool false], .int .i64 0]) ∧ Below w.heap.size w w' :=
  caret_Whole.calls R C _ _ _ _ _ _ w (whole_yes h)
theorem whole_no_c {R C : Int} (h : ¬ (1 ≤ R ∧ R ≤ 60 ∧ 1 ≤ C ∧ C ≤ 132)) (w : World) : Calls Try.prog 36 #[.int .i64 R, .int .i64 C] w fun e w' => e = .returned (.tuple #[.agg #[.int .i64 0, .int .i64 0, .int .i64 0, .int .i64 0, .bool false], .int .i64 22]) ∧ Below w.heap.size w w' :=
  caret_Whole.calls R C _ _ _ _ _ _ w (whole_no h)
theorem fits_c {R C T B : Int} (hC : 1 ≤ C) (hC2 : C ≤ 132) (o : Bool) (r c : Int) (q : Bool) (w : World) :
    Calls Try.prog 39 #[.agg #[.int .i64 R, .int .i64 C, .int .i64 T, .int .i64 B, .bool o], .agg #[.int .i64 r, .int .i64 c, .bool q]] w fun e w' => e = .returned (.bool (fitsB R C r c q)) ∧ Below w.heap.size w w' :=
  caret_Fits.calls R C T B o r c q _ w (fits_some hC hC2 o r c q)
theorem margins_c {R : Int} (C T B : Int) (o : Bool) (t b : Int) (hR : 1 ≤ R) (hR2 : R ≤ 60) (w : World) :
    Calls Try.prog 38 #[.agg #[.int .i64 R, .int .i64 C, .int .i64 T, .int .i64 B, .bool o], .int .i64 t, .int .i64 b] w fun e w' =>
      e = .returned (.tuple #[.agg #[.int .i64 R, .int .i64 C, .int .i64 (if topM t < botM R b then topM t - 1 else T), .int .i64 (if topM t < botM R b then botM R b - 1 else B), .bool o], .bool (decide (topM t < botM R b))]) ∧ Below w.heap.size w w' := by
  obtain ⟨k, h⟩ := margins_some R C T B o t b hR hR2
  exact caret_Margins.calls k R C T B o t b _ _ _ _ _ _ w h
end Go.Proofs.Ytagciaanfjllnaa.CaretC
