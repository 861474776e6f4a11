/- CaretGoes: where a place leads that is told (caret.Goto), and the nearest place (caret.Hold). -/
import Derived.Test.YtagciaanfjllnaaCaretC
import Derived.Test.YtagciaanfjllnaaPureCaretMoves
import Derived.Test.YtagciaanfjllnaaRegionL
import Derived.IntWalk
import Derived.Lib.SmallJoins
import Derived.OpenShut
import Derived.RegionTactic
import Derived.ChangeAlike
import Derived.BigRegion
import Derived.BigQuiet
import Derived.Deep.RegionHeld3
import Derived.Deep.DrawnRows
import Derived.Deep.DeepCutAuto
namespace Go.Proofs.Ytagciaanfjllnaa.GoesC
open Go.RowKit Go.Proofs.YtagciaanfjllnaaW.PrintWords Go.Proofs.YtagciaanfjllnaaW.PrintMore Go.Proofs.Ytagciaanfjllnaa.Base Go.Proofs.Ytagciaanfjllnaa.CaretC Go.Proofs.Ytagciaanfjllnaa.Reg
set_option linter.unusedVariables false
attribute [local go_sem ↓] Go.wp_at_zero Go.wp_at_succ

theorem new2 (W : World) (a b : Array Value) (t u : TypeId) : Blk ((W.alloc (.cells a t)).alloc (.cells b u)) (W.heap.size + 1) u b := by
  have h := Blk.new (W.alloc (.cells a t)) u b
  rw [World.size_alloc] at h
  exact h
theorem new3 (W : World) (a b c : Array Value) (t u v : TypeId) : Blk (((W.alloc (.cells a t)).alloc (.cells b u)).alloc (.cells c v)) (W.heap.size + 2) v c := by
  have h := Blk.new ((W.alloc (.cells a t)).alloc (.cells b u)) v c
  rw [World.size_alloc, World.size_alloc] at h
  exact h
theorem new4 (W : World) (a b c d : Array Value) (t u v x : TypeId) : Blk ((((W.alloc (.cells a t)).alloc (.cells b u)).alloc (.cells c v)).alloc (.cells d x)) (W.heap.size + 3) x d := by
  have h := Blk.new (((W.alloc (.cells a t)).alloc (.cells b u)).alloc (.cells c v)) x d
  rw [World.size_alloc, World.size_alloc, World.size_alloc] at h
  exact h
theorem below4 (W : World) (a b c d : Obj) : Below W.heap.size W ((((W.alloc a).alloc b).alloc c).alloc d) :=
  ((Joins.below_alloc2 W a b).alloc (by simp [World.size_alloc]; omega) c).alloc (by simp [World.size_alloc]; omega) d

set_option maxHeartbeats 4000000 in
set_option maxRecDepth 100000 in
theorem goto_on (R C T B a1 a2 m1 k1 m2 k2 j : Int) (W : World) (hm1 : (if a1 < 1 then 1 else a1) = m1) (hk1 : (if R < m1 then R else m1) = k1) (hm2 : (if a2 < 1 then 1 else a2) = m2) (hk2 : (if C < m2 then C else m2) = k2)
    (s1 : IntKind.i64.wrap (R - 1) = R - 1) (s2 : IntKind.i64.wrap (T + k1) = T + k1) (s3 : IntKind.i64.wrap (T + k1 - 1) = T + k1 - 1) (s4 : IntKind.i64.wrap (k2 - 1) = k2 - 1) (hj : (if B < T + k1 - 1 then B else T + k1 - 1) = j) :
    Calls Try.prog 40 #[.agg #[.int .i64 R, .int .i64 C, .int .i64 T, .int .i64 B, .bool true], .int .i64 a1, .int .i64 a2] W fun e w' => e = .returned (.agg #[.int .i64 j, .int .i64 (k2 - 1), .bool false]) ∧ Below W.heap.size W w' := by
  have hu63 := Try.underlying63
  have hu65 := Try.underlying65
  go_enter Try.func40, Try.ntmps40
  go_wp2_with fail
  go_quiet (fail)
  go_wp2_with fail
  go_quiet (fail)
  go_wp2_with fail
  go_quiet (fail)
  go_wp2_with fail
  refine bodyPost_ret (results_cell_row rfl _ _ (W.heap.size + 1) 65 #[.int .i64 j, .int .i64 (k2 - 1), .bool false] (0, 0) _ rfl (((new2 W _ _ 63 65).drewN _).set3 _ _ _) Try.underlying65 rfl (by kernel_rfl)) rfl ?_
  exact ⟨rfl, below_set3 ((Joins.below_alloc2 W _ _).trans (Joins.below_draws W.heap.size _ _)) (by omega) _ _ _⟩
set_option maxHeartbeats 4000000 in
set_option maxRecDepth 100000 in
theorem goto_off (R C T B a1 a2 m1 k1 m2 k2 : Int) (W : World) (hm1 : (if a1 < 1 then 1 else a1) = m1) (hk1 : (if R < m1 then R else m1) = k1) (hm2 : (if a2 < 1 then 1 else a2) = m2) (hk2 : (if C < m2 then C else m2) = k2)
    (s1 : IntKind.i64.wrap (R - 1) = R - 1) (s2 : IntKind.i64.wrap (0 + k1) = k1) (s5 : IntKind.i64.wrap k1 = k1) (s3 : IntKind.i64.wrap (k1 - 1) = k1 - 1) (s4 : IntKind.i64.wrap (k2 - 1) = k2 - 1) :
    Calls Try.prog 40 #[.agg #[.int .i64 R, .int .i64 C, .int .i64 T, .int .i64 B, .bool false], .int .i64 a1, .int .i64 a2] W fun e w' => e = .returned (.agg #[.int .i64 (k1 - 1), .int .i64 (k2 - 1), .bool false]) ∧ Below W.heap.size W w' := by
  have hu63 := Try.underlying63
  have hu65 := Try.underlying65
  go_enter Try.func40, Try.ntmps40
  go_wp2_with fail
  go_quiet (fail)
  go_wp2_with fail
  go_quiet (fail)
  go_wp2_with fail
  refine bodyPost_ret (results_cell_row rfl _ _ (W.heap.size + 1) 65 #[.int .i64 (k1 - 1), .int .i64 (k2 - 1), .bool false] (0, 0) _ rfl (((new2 W _ _ 63 65).drewN _).set3 _ _ _) Try.underlying65 rfl (by kernel_rfl)) rfl ?_
  exact ⟨rfl, below_set3 ((Joins.below_alloc2 W _ _).trans (Joins.below_draws W.heap.size _ _)) (by omega) _ _ _⟩

set_option maxHeartbeats 4000000 in
set_option maxRecDepth 100000 in
theorem hold_no (R C T B r c m1 k1 m2 k2 : Int) (o : Bool) (W : World) (hm1 : (if r < 0 then 0 else r) = m1) (hk1 : (if R - 1 < m1 then R - 1 else m1) = k1) (hm2 : (if c < 0 then 0 else c) = m2) (hk2 : (if C - 1 < m2 then C - 1 else m2) = k2)
    (s1 : IntKind.i64.wrap (R - 1) = R - 1) (s4 : IntKind.i64.wrap (C - 1) = C - 1)  :
    Calls Try.prog 41 #[.agg #[.int .i64 R, .int .i64 C, .int .i64 T, .int .i64 B, .bool o], .agg #[.int .i64 r, .int .i64 c, .bool false]] W fun e w' => e = .returned (.agg #[.int .i64 k1, .int .i64 k2, .bool false]) ∧ Below W.heap.size W w' := by
  have hu63 := Try.underlying63
  have hu65 := Try.underlying65
  go_enter Try.func41, Try.ntmps41
  go_wp2_with fail
  refine bodyPost_ret (results_cell_row rfl _ _ (W.heap.size + 1 + 1) 65 #[.int .i64 k1, .int .i64 k2, .bool false] (0, 0) _ rfl ((new3 W _ _ _ 63 65 65).alloc _) Try.underlying65 rfl (by kernel_rfl)) rfl ?_
  exact ⟨rfl, below4 W _ _ _ _⟩

set_option maxHeartbeats 4000000 in
set_option maxRecDepth 100000 in
theorem hold_off (R C T B r c m1 k1 m2 k2 : Int) (o : Bool) (W : World) (hm1 : (if r < 0 then 0 else r) = m1) (hk1 : (if R - 1 < m1 then R - 1 else m1) = k1) (hm2 : (if c < 0 then 0 else c) = m2) (hk2 : (if C - 1 < m2 then C - 1 else m2) = k2)
    (s1 : IntKind.i64.wrap (R - 1) = R - 1) (s4 : IntKind.i64.wrap (C - 1) = C - 1) (e1 : (c == k2) = false) :
    Calls Try.prog 41 #[.agg #[.int .i64 R, .int .i64 C, .int .i64 T, .int .i64 B, .bool o], .agg #[.int .i64 r, .int .i64 c, .bool true]] W fun e w' => e = .returned (.agg #[.int .i64 k1, .int .i64 k2, .bool false]) ∧ Below W.heap.size W w' := by
  have hu63 := Try.underlying63
  have hu65 := Try.underlying65
  go_enter Try.func41, Try.ntmps41
  go_wp2_with fail
  refine bodyPost_ret (results_cell_row rfl _ _ (W.heap.size + 1 + 1) 65 #[.int .i64 k1, .int .i64 k2, .bool false] (0, 0) _ rfl ((new3 W _ _ _ 63 65 65).alloc _) Try.underlying65 rfl (by kernel_rfl)) rfl ?_
  exact ⟨rfl, below4 W _ _ _ _⟩

set_option maxHeartbeats 4000000 in
set_option maxRecDepth 100000 in
theorem hold_far (R C T B r c m1 k1 m2 k2 : Int) (o : Bool) (W : World) (hm1 : (if r < 0 then 0 else r) = m1) (hk1 : (if R - 1 < m1 then R - 1 else m1) = k1) (hm2 : (if c < 0 then 0 else c) = m2) (hk2 : (if C - 1 < m2 then C - 1 else m2) = k2)
    (s1 : IntKind.i64.wrap (R - 1) = R - 1) (s4 : IntKind.i64.wrap (C - 1) = C - 1) (e1 : (c == k2) = true) (e2 : (c == C - 1) = false) :
    Calls Try.prog 41 #[.agg #[.int .i64 R, .int .i64 C, .int .i64 T, .int .i64 B, .bool o], .agg #[.int .i64 r, .int .i64 c, .bool true]] W fun e w' => e = .returned (.agg #[.int .i64 k1, .int .i64 k2, .bool false]) ∧ Below W.heap.size W w' := by
  have hu63 := Try.underlying63
  have hu65 := Try.underlying65
  go_enter Try.func41, Try.ntmps41
  go_wp2_with fail
  refine bodyPost_ret (results_cell_row rfl _ _ (W.heap.size + 1 + 1) 65 #[.int .i64 k1, .int .i64 k2, .bool false] (0, 0) _ rfl ((new3 W _ _ _ 63 65 65).alloc _) Try.underlying65 rfl (by kernel_rfl)) rfl ?_
  exact ⟨rfl, below4 W _ _ _ _⟩

set_option maxHeartbeats 4000000 in
set_option maxRecDepth 100000 in
theorem hold_at (R C T B r c m1 k1 m2 k2 : Int) (o : Bool) (W : World) (hm1 : (if r < 0 then 0 else r) = m1) (hk1 : (if R - 1 < m1 then R - 1 else m1) = k1) (hm2 : (if c < 0 then 0 else c) = m2) (hk2 : (if C - 1 < m2 then C - 1 else m2) = k2)
    (s1 : IntKind.i64.wrap (R - 1) = R - 1) (s4 : IntKind.i64.wrap (C - 1) = C - 1) (e1 : (c == k2) = true) (e2 : (c == C - 1) = true) :
    Calls Try.prog 41 #[.agg #[.int .i64 R, .int .i64 C, .int .i64 T, .int .i64 B, .bool o], .agg #[.int .i64 r, .int .i64 c, .bool true]] W fun e w' => e = .returned (.agg #[.int .i64 k1, .int .i64 k2, .bool true]) ∧ Below W.heap.size W w' := by
  have hu63 := Try.underlying63
  have hu65 := Try.underlying65
  go_enter Try.func41, Try.ntmps41
  go_wp2_with fail
  refine bodyPost_ret (results_cell_row rfl _ _ (W.heap.size + 1 + 1) 65 #[.int .i64 k1, .int .i64 k2, .bool true] (0, 0) _ rfl ((new3 W _ _ _ 63 65 65).alloc _) Try.underlying65 rfl (by kernel_rfl)) rfl ?_
  exact ⟨rfl, below4 W _ _ _ _⟩

end Go.Proofs.Ytagciaanfjllnaa.GoesC
