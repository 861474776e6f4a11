/- Arguments opened: an array of two whole numbers by value. -/
import Derived.Test.YtagciaanfjllnaaOpensPairs
namespace Go.Proofs.Ytagciaanfjllnaa.Opens
open Go.Joins Go.ChangeShapes Go.WideShapes Go.RowKit Go.Deep
theorem open_two {H : Type} {enc : TypeId × Value → H} {P : Program} {w : World} {base : Nat} {spare : Nat → Bool} {held : Bool} {r : Reach} {b0 : Nat} {e q : TypeId} {v : Value} {d : DataW H} {p : List MemPlace} (he : P.underlying e = some (.array 2 q)) (hq : P.underlying q = some (.int .i64)) (hce : P.cellsOf e = 2) (hcq : P.cellsOf q = 1)
    (hv : Value.okWide P w r b0 e v) (h : DataW.Trod enc P w base spare held e v d p) : ∃ m n, v = .agg #[.int .i64 m, .int .i64 n] ∧ (Lit.int .i64 m).wf = true ∧ (Lit.int .i64 n).wf = true := by
  simp only [Value.okWide, he] at hv
  obtain ⟨cs, rfl, hs, _⟩ := hv
  obtain ⟨fuel, hf⟩ := h
  obtain ⟨m, n, hcs, w0, w1⟩ := cells_pair he hq hce hcq hf
  simp [Value.cells] at hcs
  obtain ⟨l⟩ := cs
  simp at hcs
  subst hcs
  exact ⟨m, n, rfl, w0, w1⟩
end Go.Proofs.Ytagciaanfjllnaa.Opens
