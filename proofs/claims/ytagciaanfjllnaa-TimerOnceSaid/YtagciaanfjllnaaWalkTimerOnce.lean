/- TimerOnce, the walk as the row asks for it: the printed walk with the plain law put in. -/
import Derived.Test.YtagciaanfjllnaaPureTimerOnce
import Derived.OpenShut
namespace Go.Proofs.Ytagciaanfjllnaa.Walk
open Go.RowKit
theorem TimerOnce (on : Bool) (e l n : Int) (W : World) (_he : (Lit.int .i64 e).wf = true) (_hl : (Lit.int .i64 l).wf = true) (hn : (Lit.int .u8 n).wf = true) :
    Calls Try.prog 7 #[.agg #[.bool on, .int .i64 e, .int .i64 l], .int .u8 n] W fun e w' => e = .returned (.bool true) ∧ Below W.heap.size W w' := by
  obtain ⟨h0, h1⟩ := bounds_u8 hn
  obtain ⟨k, h⟩ := Pure.TimerOnce.pure on e l n h0 h1
  exact PTimerOnce.batonlaw30_TimerOnce.calls k on e l n true W h
end Go.Proofs.Ytagciaanfjllnaa.Walk
