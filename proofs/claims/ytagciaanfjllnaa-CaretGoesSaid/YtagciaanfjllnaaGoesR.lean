/- CaretGoes: the statement "x, h := .." draws its order: two calls, two new variables, two stores: one lemma for each set of operations that have come up. Written by wip/nodes.py. -/
import Derived.Test.YtagciaanfjllnaaCaretC
import Derived.Test.YtagciaanfjllnaaRegionN
import Derived.Deep.RegionHeld3
import Derived.Deep.DrawnRows
namespace Go.Proofs.Ytagciaanfjllnaa.GoesR
open Go Go.RowKit Go.Proofs.Ytagciaanfjllnaa.Base Go.Proofs.Ytagciaanfjllnaa.CaretC
set_option linter.unusedVariables false
set_option linter.unusedSectionVars false
attribute [local go_sem ↓] Go.wp_at_zero Go.wp_at_succ
theorem S_of {w0 w' : World} {g3 g4 g5 : Nat} {R C T B r c a b : Int} {o q : Bool} (N3 : Blk w0 g3 63 #[.int .i64 R, .int .i64 C, .int .i64 T, .int .i64 B, .bool o]) (N4 : Blk w0 g4 65 #[.int .i64 r, .int .i64 c, .bool q]) (N5 : Blk w0 g5 28 #[.int .i64 a, .int .i64 b]) (h : Below w0.heap.size w0 w') : (fun w' => Below w0.heap.size w0 w' ∧ (w'.cell? ⟨g3, 0, none⟩ = some (.int .i64 R) ∧ w'.cell? ⟨g3, 1, none⟩ = some (.int .i64 C) ∧ w'.cell? ⟨g3, 2, none⟩ = some (.int .i64 T) ∧ w'.cell? ⟨g3, 3, none⟩ = some (.int .i64 B) ∧ w'.cell? ⟨g3, 4, none⟩ = some (.bool o)) ∧ (w'.cell? ⟨g4, 0, none⟩ = some (.int .i64 r) ∧ w'.cell? ⟨g4, 1, none⟩ = some (.int .i64 c) ∧ w'.cell? ⟨g4, 2, none⟩ = some (.bool q)) ∧ (w'.cell? ⟨g5, 0, none⟩ = some (.int .i64 a) ∧ w'.cell? ⟨g5, 1, none⟩ = some (.int .i64 b))) w' :=
  ⟨h, Blk.five (N3.stays h), ⟨(N4.stays h).cell 0, (N4.stays h).cell 1, (N4.stays h).cell 2⟩, Blk.two (N5.stays h)⟩
theorem S_of2 {w0 w' : World} {g3 g4 g5 g7 g8 : Nat} {xr xc hr hc : Int} {hq : Bool} {R C T B r c a b : Int} {o q : Bool} (N3 : Blk w0 g3 63 #[.int .i64 R, .int .i64 C, .int .i64 T, .int .i64 B, .bool o]) (N4 : Blk w0 g4 65 #[.int .i64 r, .int .i64 c, .bool q]) (N5 : Blk w0 g5 28 #[.int .i64 a, .int .i64 b]) (b7 : Blk w0 g7 65 #[.int .i64 xr, .int .i64 xc, .bool false]) (b8 : Blk w0 g8 65 #[.int .i64 hr, .int .i64 hc, .bool hq]) (h : Below w0.heap.size w0 w') : (fun w' => Below w0.heap.size w0 w' ∧ (w'.cell? ⟨g3, 0, none⟩ = some (.int .i64 R) ∧ w'.cell? ⟨g3, 1, none⟩ = some (.int .i64 C) ∧ w'.cell? ⟨g3, 2, none⟩ = some (.int .i64 T) ∧ w'.cell? ⟨g3, 3, none⟩ = some (.int .i64 B) ∧ w'.cell? ⟨g3, 4, none⟩ = some (.bool o)) ∧ (w'.cell? ⟨g4, 0, none⟩ = some (.int .i64 r) ∧ w'.cell? ⟨g4, 1, none⟩ = some (.int .i64 c) ∧ w'.cell? ⟨g4, 2, none⟩ = some (.bool q)) ∧ (w'.cell? ⟨g5, 0, none⟩ = some (.int .i64 a) ∧ w'.cell? ⟨g5, 1, none⟩ = some (.int .i64 b)) ∧ (w'.cell? ⟨g7, 0, none⟩ = some (.int .i64 xr) ∧ w'.cell? ⟨g7, 1, none⟩ = some (.int .i64 xc) ∧ w'.cell? ⟨g7, 2, none⟩ = some (.bool false)) ∧ (w'.cell? ⟨g8, 0, none⟩ = some (.int .i64 hr) ∧ w'.cell? ⟨g8, 1, none⟩ = some (.int .i64 hc) ∧ w'.cell? ⟨g8, 2, none⟩ = some (.bool hq))) w' :=
  ⟨h, Blk.five (N3.stays h), ⟨(N4.stays h).cell 0, (N4.stays h).cell 1, (N4.stays h).cell 2⟩, Blk.two (N5.stays h), ⟨(b7.stays h).cell 0, (b7.stays h).cell 1, (b7.stays h).cell 2⟩, (b8.stays h).cell 0, (b8.stays h).cell 1, (b8.stays h).cell 2⟩
def tab : List (List Bool × List Nat) := [
  ([true, true, true, true, true, true, true, true, true, true, false, false, false], [10]),
  ([true, true, true, true, true, true, true, true, true, false, true, false, false], [9]),
  ([true, true, true, true, true, true, true, true, true, false, false, false, false], [9, 10]),
  ([true, true, true, true, true, true, true, true, false, true, true, false, false], [8]),
  ([true, true, true, true, true, true, true, true, false, true, false, false, false], [8, 10]),
  ([true, true, true, true, true, true, true, true, false, false, true, false, false], [8, 9]),
  ([true, true, true, true, true, true, true, true, false, false, false, false, false], [8, 9, 10]),
  ([true, true, true, true, true, false, true, true, false, true, true, false, false], [5]),
  ([true, true, true, true, true, false, true, true, false, true, false, false, false], [5, 10]),
  ([true, true, true, true, true, false, true, true, false, false, true, false, false], [5, 9]),
  ([true, true, true, true, true, false, true, true, false, false, false, false, false], [5, 9, 10]),
  ([true, true, true, true, true, true, true, true, true, true, true, false, false], [11]),
  ([true, true, true, true, true, true, true, true, true, true, true, true, false], [12]),
  ([true, true, true, true, true, true, true, true, true, true, true, true, true], [])]
theorem rdy_ {ops : Array Oper} (hR : tab.all (fun x => Region.ready .any ops x.1.toArray == x.2) = true) (i : Nat) (d : List Bool) (r : List Nat) (h : tab[i]? = some (d, r)) : Region.ready .any ops d.toArray = r :=
  eq_of_beq (List.all_eq_true.1 hR _ (List.mem_of_getElem? h))
variable {ops : Array Oper} {ts5 ts8 : Array TypeId}
section
variable {w0 : World} {g3 g4 g5 : Nat} {R C T B r c a b xr xc hr hc : Int} {o q hq : Bool} {x0 x1 x2 x6 x10 x11 x12 x13 x14 x15 : Value} {Q : Exit → Act → World → Prop} {S : World → Prop}
variable (hR : tab.all (fun x => Region.ready .any ops x.1.toArray == x.2) = true) (I9 : RegN.Is ops 9 (.alloc 65) (some 7)) (I10 : RegN.Is ops 10 (.alloc 65) (some 8)) (I5 : RegN.Is ops 5 (.call { callee := .value (.func 40), args := #[.tmp 16, .tmp 18, .tmp 20], argTypes := ts5 }) (some 21)) (I8 : RegN.Is ops 8 (.call { callee := .value (.func 41), args := #[.tmp 22, .tmp 23], argTypes := ts8 }) (some 24)) (I11 : RegN.Is ops 11 (.store 65 (.tmp 7) (.tmp 21)) none) (I12 : RegN.Is ops 12 (.store 65 (.tmp 8) (.tmp 24)) none) (hSof : ∀ w', Below w0.heap.size w0 w' → S w') (hgo : ∀ w, Calls Try.prog 40 #[.agg #[.int .i64 R, .int .i64 C, .int .i64 T, .int .i64 B, .bool o], .int .i64 a, .int .i64 b] w fun e w' => e = .returned (.agg #[.int .i64 xr, .int .i64 xc, .bool false]) ∧ Below w.heap.size w w') (hhold : ∀ w, Calls Try.prog 41 #[.agg #[.int .i64 R, .int .i64 C, .int .i64 T, .int .i64 B, .bool o], .agg #[.int .i64 r, .int .i64 c, .bool q]] w fun e w' => e = .returned (.agg #[.int .i64 hr, .int .i64 hc, .bool hq]) ∧ Below w.heap.size w w') (hQ : ∀ g7 g8 w', w0.heap.size ≤ g7 → w0.heap.size ≤ g8 → g7 ≠ g8 → Blk w' g7 65 #[.int .i64 xr, .int .i64 xc, .bool false] → Blk w' g8 65 #[.int .i64 hr, .int .i64 hc, .bool hq] → Below w0.heap.size w0 w' → Q .normal ({ tmps := #[x0, x1, x2, .pointer (some ⟨g3, 0, none⟩), .pointer (some ⟨g4, 0, none⟩), .pointer (some ⟨g5, 0, none⟩), x6, .pointer (some ⟨g7, 0, none⟩), .pointer (some ⟨g8, 0, none⟩), undef, x10, x11, x12, x13, x14, x15, (.agg #[.int .i64 R, .int .i64 C, .int .i64 T, .int .i64 B, .bool o]), .pointer (some ⟨g5, 0, none⟩), (.int .i64 a), .pointer (some ⟨g5, 1, none⟩), (.int .i64 b), .agg #[.int .i64 xr, .int .i64 xc, .bool false], (.agg #[.int .i64 R, .int .i64 C, .int .i64 T, .int .i64 B, .bool o]), (.agg #[.int .i64 r, .int .i64 c, .bool q]), .agg #[.int .i64 hr, .int .i64 hc, .bool hq], undef, undef, undef, undef, undef, undef, undef, undef, undef, undef, undef, undef, undef, undef, undef, undef, undef, undef, undef, undef, undef, undef, undef, undef, undef, undef, undef, undef, undef, undef, undef, undef, undef, undef, undef, undef, undef, undef, undef, undef, undef, undef, undef, undef, undef, undef, undef, undef, undef, undef, undef, undef, undef, undef, undef, undef, undef, undef, undef, undef, undef, undef, undef, undef, undef, undef], defers := [] }) w')
include hR I9 I10 I5 I8 I11 I12 hSof hgo hhold hQ
omit hgo hhold in
set_option maxRecDepth 100000 in
theorem node2_2x7x8 (g7 : Nat) (g8 : Nat) (w : World) (hB : Below w0.heap.size w0 w) (ge7 : w0.heap.size ≤ g7) (b7 : Blk w g7 65 #[.int .i64 0, .int .i64 0, .bool false]) (ge8 : w0.heap.size ≤ g8) (b8 : Blk w g8 65 #[.int .i64 0, .int .i64 0, .bool false]) (ne7_8 : g7 ≠ g8) :
    wpAnyH Try.prog .any ops Q S 2 #[true, true, true, true, true, true, true, true, true, true, true, false, false] ({ tmps := #[x0, x1, x2, .pointer (some ⟨g3, 0, none⟩), .pointer (some ⟨g4, 0, none⟩), .pointer (some ⟨g5, 0, none⟩), x6, .pointer (some ⟨g7, 0, none⟩), .pointer (some ⟨g8, 0, none⟩), undef, x10, x11, x12, x13, x14, x15, (.agg #[.int .i64 R, .int .i64 C, .int .i64 T, .int .i64 B, .bool o]), .pointer (some ⟨g5, 0, none⟩), (.int .i64 a), .pointer (some ⟨g5, 1, none⟩), (.int .i64 b), .agg #[.int .i64 xr, .int .i64 xc, .bool false], (.agg #[.int .i64 R, .int .i64 C, .int .i64 T, .int .i64 B, .bool o]), (.agg #[.int .i64 r, .int .i64 c, .bool q]), .agg #[.int .i64 hr, .int .i64 hc, .bool hq], undef, undef, undef, undef, undef, undef, undef, undef, undef, undef, undef, undef, undef, undef, undef, undef, undef, undef, undef, undef, undef, undef, undef, undef, undef, undef, undef, undef, undef, undef, undef, undef, undef, undef, undef, undef, undef, undef, undef, undef, undef, undef, undef, undef, undef, undef, undef, undef, undef, undef, undef, undef, undef, undef, undef, undef, undef, undef, undef, undef, undef, undef, undef, undef, undef, undef], defers := [] }) w := by
  have hHeld := (hSof _ hB)
  obtain ⟨o11, ho11, hg11, hp11, hd11⟩ := I11
  refine wpAnyH_ready (rs := [11]) (rdy_ hR 11 _ _ rfl) (by simp) ?_
  refine AllReadyH.cons ho11 (fun K hK => ?_) AllReadyH.nil
  refine RegN.store65 hg11 hp11 hd11 rfl rfl b7 ?_
  refine hK.out _ _ ((hSof _ (below_set3 hB ge7 _ _ _))) (fun _ => ?_)
  clear hK K hHeld
  have hB' := below_set3 hB ge7 (.int .i64 xr) (.int .i64 xc) (.bool false)
  have n7 := Blk.set3 b7 (.int .i64 xr) (.int .i64 xc) (.bool false)
  have n8 := Blk.far3 b8 (Ne.symm ne7_8) (.int .i64 xr) (.int .i64 xc) (.bool false)
  clear hB b7 b8
  generalize (((w.setCell ⟨g7, 0, none⟩ (.int .i64 xr)).setCell ⟨g7, 1, none⟩ (.int .i64 xc)).setCell ⟨g7, 2, none⟩ (.bool false)) = v0 at *
  have hB := hB'
  have b7 := n7
  have b8 := n8
  clear hB' n7 n8
  have hHeld := (hSof _ hB)
  obtain ⟨o12, ho12, hg12, hp12, hd12⟩ := I12
  refine wpAnyH_ready (rs := [12]) (rdy_ hR 12 _ _ rfl) (by simp) ?_
  refine AllReadyH.cons ho12 (fun K hK => ?_) AllReadyH.nil
  refine RegN.store65 hg12 hp12 hd12 rfl rfl b8 ?_
  refine hK.out _ _ ((hSof _ (below_set3 hB ge8 _ _ _))) (fun _ => ?_)
  clear hK K hHeld
  have hB' := below_set3 hB ge8 (.int .i64 hr) (.int .i64 hc) (.bool hq)
  have n7 := Blk.far3 b7 ne7_8 (.int .i64 hr) (.int .i64 hc) (.bool hq)
  have n8 := Blk.set3 b8 (.int .i64 hr) (.int .i64 hc) (.bool hq)
  clear hB b7 b8
  generalize (((v0.setCell ⟨g8, 0, none⟩ (.int .i64 hr)).setCell ⟨g8, 1, none⟩ (.int .i64 hc)).setCell ⟨g8, 2, none⟩ (.bool hq)) = v1 at *
  have hB := hB'
  have b7 := n7
  have b8 := n8
  clear hB' n7 n8
  have hHeld := (hSof _ hB)
  refine wpAnyH_done (rdy_ hR 13 _ _ rfl) ?_ _
  exact hQ g7 g8 _ ge7 ge8 ne7_8 b7 b8 hB
omit hgo hhold in
set_option maxRecDepth 100000 in
theorem node2_2x7 (g7 : Nat) (w : World) (hB : Below w0.heap.size w0 w) (ge7 : w0.heap.size ≤ g7) (b7 : Blk w g7 65 #[.int .i64 0, .int .i64 0, .bool false])  :
    wpAnyH Try.prog .any ops Q S 3 #[true, true, true, true, true, true, true, true, true, true, false, false, false] ({ tmps := #[x0, x1, x2, .pointer (some ⟨g3, 0, none⟩), .pointer (some ⟨g4, 0, none⟩), .pointer (some ⟨g5, 0, none⟩), x6, .pointer (some ⟨g7, 0, none⟩), undef, undef, x10, x11, x12, x13, x14, x15, (.agg #[.int .i64 R, .int .i64 C, .int .i64 T, .int .i64 B, .bool o]), .pointer (some ⟨g5, 0, none⟩), (.int .i64 a), .pointer (some ⟨g5, 1, none⟩), (.int .i64 b), .agg #[.int .i64 xr, .int .i64 xc, .bool false], (.agg #[.int .i64 R, .int .i64 C, .int .i64 T, .int .i64 B, .bool o]), (.agg #[.int .i64 r, .int .i64 c, .bool q]), .agg #[.int .i64 hr, .int .i64 hc, .bool hq], undef, undef, undef, undef, undef, undef, undef, undef, undef, undef, undef, undef, undef, undef, undef, undef, undef, undef, undef, undef, undef, undef, undef, undef, undef, undef, undef, undef, undef, undef, undef, undef, undef, undef, undef, undef, undef, undef, undef, undef, undef, undef, undef, undef, undef, undef, undef, undef, undef, undef, undef, undef, undef, undef, undef, undef, undef, undef, undef, undef, undef, undef, undef, undef, undef, undef], defers := [] }) w := by
  obtain ⟨o10, ho10, hg10, hp10, hd10⟩ := id I10
  refine wpAnyH_ready (rs := [10]) (rdy_ hR 0 _ _ rfl) (by simp) ?_
  refine AllReadyH.cons ho10 (fun K hK => ?_) ?_
  · refine RegN.alloc65 hg10 hp10 hd10 ?_
    simp only [Act.put, List.setIfInBounds_toArray, List.set_cons_zero, List.set_cons_succ]
    exact hK.out _ _ ((hSof _ (hB.alloc hB.size _))) (fun _ => node2_2x7x8 hR I9 I10 I5 I8 I11 I12 hSof hQ g7 w.heap.size _ (hB.alloc hB.size _) ge7 (b7.alloc _) hB.size (Blk.new w 65 _) (Nat.ne_of_lt b7.lt))
  exact AllReadyH.nil
omit hgo hhold in
set_option maxRecDepth 100000 in
theorem node2_2x8 (g8 : Nat) (w : World) (hB : Below w0.heap.size w0 w) (ge8 : w0.heap.size ≤ g8) (b8 : Blk w g8 65 #[.int .i64 0, .int .i64 0, .bool false])  :
    wpAnyH Try.prog .any ops Q S 3 #[true, true, true, true, true, true, true, true, true, false, true, false, false] ({ tmps := #[x0, x1, x2, .pointer (some ⟨g3, 0, none⟩), .pointer (some ⟨g4, 0, none⟩), .pointer (some ⟨g5, 0, none⟩), x6, undef, .pointer (some ⟨g8, 0, none⟩), undef, x10, x11, x12, x13, x14, x15, (.agg #[.int .i64 R, .int .i64 C, .int .i64 T, .int .i64 B, .bool o]), .pointer (some ⟨g5, 0, none⟩), (.int .i64 a), .pointer (some ⟨g5, 1, none⟩), (.int .i64 b), .agg #[.int .i64 xr, .int .i64 xc, .bool false], (.agg #[.int .i64 R, .int .i64 C, .int .i64 T, .int .i64 B, .bool o]), (.agg #[.int .i64 r, .int .i64 c, .bool q]), .agg #[.int .i64 hr, .int .i64 hc, .bool hq], undef, undef, undef, undef, undef, undef, undef, undef, undef, undef, undef, undef, undef, undef, undef, undef, undef, undef, undef, undef, undef, undef, undef, undef, undef, undef, undef, undef, undef, undef, undef, undef, undef, undef, undef, undef, undef, undef, undef, undef, undef, undef, undef, undef, undef, undef, undef, undef, undef, undef, undef, undef, undef, undef, undef, undef, undef, undef, undef, undef, undef, undef, undef, undef, undef, undef], defers := [] }) w := by
  obtain ⟨o9, ho9, hg9, hp9, hd9⟩ := id I9
  refine wpAnyH_ready (rs := [9]) (rdy_ hR 1 _ _ rfl) (by simp) ?_
  refine AllReadyH.cons ho9 (fun K hK => ?_) ?_
  · refine RegN.alloc65 hg9 hp9 hd9 ?_
    simp only [Act.put, List.setIfInBounds_toArray, List.set_cons_zero, List.set_cons_succ]
    exact hK.out _ _ ((hSof _ (hB.alloc hB.size _))) (fun _ => node2_2x7x8 hR I9 I10 I5 I8 I11 I12 hSof hQ w.heap.size g8 _ (hB.alloc hB.size _) hB.size (Blk.new w 65 _) ge8 (b8.alloc _) (Nat.ne_of_gt b8.lt))
  exact AllReadyH.nil
omit hgo hhold in
set_option maxRecDepth 100000 in
theorem node2_2  (w : World) (hB : Below w0.heap.size w0 w)   :
    wpAnyH Try.prog .any ops Q S 4 #[true, true, true, true, true, true, true, true, true, false, false, false, false] ({ tmps := #[x0, x1, x2, .pointer (some ⟨g3, 0, none⟩), .pointer (some ⟨g4, 0, none⟩), .pointer (some ⟨g5, 0, none⟩), x6, undef, undef, undef, x10, x11, x12, x13, x14, x15, (.agg #[.int .i64 R, .int .i64 C, .int .i64 T, .int .i64 B, .bool o]), .pointer (some ⟨g5, 0, none⟩), (.int .i64 a), .pointer (some ⟨g5, 1, none⟩), (.int .i64 b), .agg #[.int .i64 xr, .int .i64 xc, .bool false], (.agg #[.int .i64 R, .int .i64 C, .int .i64 T, .int .i64 B, .bool o]), (.agg #[.int .i64 r, .int .i64 c, .bool q]), .agg #[.int .i64 hr, .int .i64 hc, .bool hq], undef, undef, undef, undef, undef, undef, undef, undef, undef, undef, undef, undef, undef, undef, undef, undef, undef, undef, undef, undef, undef, undef, undef, undef, undef, undef, undef, undef, undef, undef, undef, undef, undef, undef, undef, undef, undef, undef, undef, undef, undef, undef, undef, undef, undef, undef, undef, undef, undef, undef, undef, undef, undef, undef, undef, undef, undef, undef, undef, undef, undef, undef, undef, undef, undef, undef], defers := [] }) w := by
  obtain ⟨o9, ho9, hg9, hp9, hd9⟩ := id I9
  obtain ⟨o10, ho10, hg10, hp10, hd10⟩ := id I10
  refine wpAnyH_ready (rs := [9, 10]) (rdy_ hR 2 _ _ rfl) (by simp) ?_
  refine AllReadyH.cons ho9 (fun K hK => ?_) ?_
  · refine RegN.alloc65 hg9 hp9 hd9 ?_
    simp only [Act.put, List.setIfInBounds_toArray, List.set_cons_zero, List.set_cons_succ]
    exact hK.out _ _ ((hSof _ (hB.alloc hB.size _))) (fun _ => node2_2x7 hR I9 I10 I5 I8 I11 I12 hSof hQ w.heap.size _ (hB.alloc hB.size _) hB.size (Blk.new w 65 _) )
  refine AllReadyH.cons ho10 (fun K hK => ?_) ?_
  · refine RegN.alloc65 hg10 hp10 hd10 ?_
    simp only [Act.put, List.setIfInBounds_toArray, List.set_cons_zero, List.set_cons_succ]
    exact hK.out _ _ ((hSof _ (hB.alloc hB.size _))) (fun _ => node2_2x8 hR I9 I10 I5 I8 I11 I12 hSof hQ w.heap.size _ (hB.alloc hB.size _) hB.size (Blk.new w 65 _) )
  exact AllReadyH.nil
omit hgo in
set_option maxRecDepth 100000 in
theorem node1_1x7x8 (g7 : Nat) (g8 : Nat) (w : World) (hB : Below w0.heap.size w0 w) (ge7 : w0.heap.size ≤ g7) (b7 : Blk w g7 65 #[.int .i64 0, .int .i64 0, .bool false]) (ge8 : w0.heap.size ≤ g8) (b8 : Blk w g8 65 #[.int .i64 0, .int .i64 0, .bool false]) (ne7_8 : g7 ≠ g8) :
    wpAnyH Try.prog .any ops Q S 3 #[true, true, true, true, true, true, true, true, false, true, true, false, false] ({ tmps := #[x0, x1, x2, .pointer (some ⟨g3, 0, none⟩), .pointer (some ⟨g4, 0, none⟩), .pointer (some ⟨g5, 0, none⟩), x6, .pointer (some ⟨g7, 0, none⟩), .pointer (some ⟨g8, 0, none⟩), undef, x10, x11, x12, x13, x14, x15, (.agg #[.int .i64 R, .int .i64 C, .int .i64 T, .int .i64 B, .bool o]), .pointer (some ⟨g5, 0, none⟩), (.int .i64 a), .pointer (some ⟨g5, 1, none⟩), (.int .i64 b), .agg #[.int .i64 xr, .int .i64 xc, .bool false], (.agg #[.int .i64 R, .int .i64 C, .int .i64 T, .int .i64 B, .bool o]), (.agg #[.int .i64 r, .int .i64 c, .bool q]), undef, undef, undef, undef, undef, undef, undef, undef, undef, undef, undef, undef, undef, undef, undef, undef, undef, undef, undef, undef, undef, undef, undef, undef, undef, undef, undef, undef, undef, undef, undef, undef, undef, undef, undef, undef, undef, undef, undef, undef, undef, undef, undef, undef, undef, undef, undef, undef, undef, undef, undef, undef, undef, undef, undef, undef, undef, undef, undef, undef, undef, undef, undef, undef, undef, undef, undef], defers := [] }) w := by
  obtain ⟨o8, ho8, hg8, hp8, hd8⟩ := id I8
  refine wpAnyH_ready (rs := [8]) (rdy_ hR 3 _ _ rfl) (by simp) ?_
  refine AllReadyH.cons ho8 (fun K hK => ?_) ?_
  · refine RegN.call41 hg8 hp8 hd8 (hhold _) (fun x hx => ?_)
    simp only [Act.put, List.setIfInBounds_toArray, List.set_cons_zero, List.set_cons_succ]
    exact hK.out _ _ ((hSof _ (hB.trans (hx.mono hB.size)))) (fun _ => node2_2x7x8 hR I9 I10 I5 I8 I11 I12 hSof hQ g7 g8 x (hB.trans (hx.mono hB.size)) ge7 (b7.stays hx) ge8 (b8.stays hx) ne7_8)
  exact AllReadyH.nil
omit hgo in
set_option maxRecDepth 100000 in
theorem node1_1x7 (g7 : Nat) (w : World) (hB : Below w0.heap.size w0 w) (ge7 : w0.heap.size ≤ g7) (b7 : Blk w g7 65 #[.int .i64 0, .int .i64 0, .bool false])  :
    wpAnyH Try.prog .any ops Q S 4 #[true, true, true, true, true, true, true, true, false, true, false, false, false] ({ tmps := #[x0, x1, x2, .pointer (some ⟨g3, 0, none⟩), .pointer (some ⟨g4, 0, none⟩), .pointer (some ⟨g5, 0, none⟩), x6, .pointer (some ⟨g7, 0, none⟩), undef, undef, x10, x11, x12, x13, x14, x15, (.agg #[.int .i64 R, .int .i64 C, .int .i64 T, .int .i64 B, .bool o]), .pointer (some ⟨g5, 0, none⟩), (.int .i64 a), .pointer (some ⟨g5, 1, none⟩), (.int .i64 b), .agg #[.int .i64 xr, .int .i64 xc, .bool false], (.agg #[.int .i64 R, .int .i64 C, .int .i64 T, .int .i64 B, .bool o]), (.agg #[.int .i64 r, .int .i64 c, .bool q]), undef, undef, undef, undef, undef, undef, undef, undef, undef, undef, undef, undef, undef, undef, undef, undef, undef, undef, undef, undef, undef, undef, undef, undef, undef, undef, undef, undef, undef, undef, undef, undef, undef, undef, undef, undef, undef, undef, undef, undef, undef, undef, undef, undef, undef, undef, undef, undef, undef, undef, undef, undef, undef, undef, undef, undef, undef, undef, undef, undef, undef, undef, undef, undef, undef, undef, undef], defers := [] }) w := by
  obtain ⟨o8, ho8, hg8, hp8, hd8⟩ := id I8
  obtain ⟨o10, ho10, hg10, hp10, hd10⟩ := id I10
  refine wpAnyH_ready (rs := [8, 10]) (rdy_ hR 4 _ _ rfl) (by simp) ?_
  refine AllReadyH.cons ho8 (fun K hK => ?_) ?_
  · refine RegN.call41 hg8 hp8 hd8 (hhold _) (fun x hx => ?_)
    simp only [Act.put, List.setIfInBounds_toArray, List.set_cons_zero, List.set_cons_succ]
    exact hK.out _ _ ((hSof _ (hB.trans (hx.mono hB.size)))) (fun _ => node2_2x7 hR I9 I10 I5 I8 I11 I12 hSof hQ g7 x (hB.trans (hx.mono hB.size)) ge7 (b7.stays hx) )
  refine AllReadyH.cons ho10 (fun K hK => ?_) ?_
  · refine RegN.alloc65 hg10 hp10 hd10 ?_
    simp only [Act.put, List.setIfInBounds_toArray, List.set_cons_zero, List.set_cons_succ]
    exact hK.out _ _ ((hSof _ (hB.alloc hB.size _))) (fun _ => node1_1x7x8 hR I9 I10 I5 I8 I11 I12 hSof hhold hQ g7 w.heap.size _ (hB.alloc hB.size _) ge7 (b7.alloc _) hB.size (Blk.new w 65 _) (Nat.ne_of_lt b7.lt))
  exact AllReadyH.nil
omit hgo in
set_option maxRecDepth 100000 in
theorem node1_1x8 (g8 : Nat) (w : World) (hB : Below w0.heap.size w0 w) (ge8 : w0.heap.size ≤ g8) (b8 : Blk w g8 65 #[.int .i64 0, .int .i64 0, .bool false])  :
    wpAnyH Try.prog .any ops Q S 4 #[true, true, true, true, true, true, true, true, false, false, true, false, false] ({ tmps := #[x0, x1, x2, .pointer (some ⟨g3, 0, none⟩), .pointer (some ⟨g4, 0, none⟩), .pointer (some ⟨g5, 0, none⟩), x6, undef, .pointer (some ⟨g8, 0, none⟩), undef, x10, x11, x12, x13, x14, x15, (.agg #[.int .i64 R, .int .i64 C, .int .i64 T, .int .i64 B, .bool o]), .pointer (some ⟨g5, 0, none⟩), (.int .i64 a), .pointer (some ⟨g5, 1, none⟩), (.int .i64 b), .agg #[.int .i64 xr, .int .i64 xc, .bool false], (.agg #[.int .i64 R, .int .i64 C, .int .i64 T, .int .i64 B, .bool o]), (.agg #[.int .i64 r, .int .i64 c, .bool q]), undef, undef, undef, undef, undef, undef, undef, undef, undef, undef, undef, undef, undef, undef, undef, undef, undef, undef, undef, undef, undef, undef, undef, undef, undef, undef, undef, undef, undef, undef, undef, undef, undef, undef, undef, undef, undef, undef, undef, undef, undef, undef, undef, undef, undef, undef, undef, undef, undef, undef, undef, undef, undef, undef, undef, undef, undef, undef, undef, undef, undef, undef, undef, undef, undef, undef, undef], defers := [] }) w := by
  obtain ⟨o8, ho8, hg8, hp8, hd8⟩ := id I8
  obtain ⟨o9, ho9, hg9, hp9, hd9⟩ := id I9
  refine wpAnyH_ready (rs := [8, 9]) (rdy_ hR 5 _ _ rfl) (by simp) ?_
  refine AllReadyH.cons ho8 (fun K hK => ?_) ?_
  · refine RegN.call41 hg8 hp8 hd8 (hhold _) (fun x hx => ?_)
    simp only [Act.put, List.setIfInBounds_toArray, List.set_cons_zero, List.set_cons_succ]
    exact hK.out _ _ ((hSof _ (hB.trans (hx.mono hB.size)))) (fun _ => node2_2x8 hR I9 I10 I5 I8 I11 I12 hSof hQ g8 x (hB.trans (hx.mono hB.size)) ge8 (b8.stays hx) )
  refine AllReadyH.cons ho9 (fun K hK => ?_) ?_
  · refine RegN.alloc65 hg9 hp9 hd9 ?_
    simp only [Act.put, List.setIfInBounds_toArray, List.set_cons_zero, List.set_cons_succ]
    exact hK.out _ _ ((hSof _ (hB.alloc hB.size _))) (fun _ => node1_1x7x8 hR I9 I10 I5 I8 I11 I12 hSof hhold hQ w.heap.size g8 _ (hB.alloc hB.size _) hB.size (Blk.new w 65 _) ge8 (b8.alloc _) (Nat.ne_of_gt b8.lt))
  exact AllReadyH.nil
omit hgo in
set_option maxRecDepth 100000 in
theorem node1_1  (w : World) (hB : Below w0.heap.size w0 w)   :
    wpAnyH Try.prog .any ops Q S 5 #[true, true, true, true, true, true, true, true, false, false, false, false, false] ({ tmps := #[x0, x1, x2, .pointer (some ⟨g3, 0, none⟩), .pointer (some ⟨g4, 0, none⟩), .pointer (some ⟨g5, 0, none⟩), x6, undef, undef, undef, x10, x11, x12, x13, x14, x15, (.agg #[.int .i64 R, .int .i64 C, .int .i64 T, .int .i64 B, .bool o]), .pointer (some ⟨g5, 0, none⟩), (.int .i64 a), .pointer (some ⟨g5, 1, none⟩), (.int .i64 b), .agg #[.int .i64 xr, .int .i64 xc, .bool false], (.agg #[.int .i64 R, .int .i64 C, .int .i64 T, .int .i64 B, .bool o]), (.agg #[.int .i64 r, .int .i64 c, .bool q]), undef, undef, undef, undef, undef, undef, undef, undef, undef, undef, undef, undef, undef, undef, undef, undef, undef, undef, undef, undef, undef, undef, undef, undef, undef, undef, undef, undef, undef, undef, undef, undef, undef, undef, undef, undef, undef, undef, undef, undef, undef, undef, undef, undef, undef, undef, undef, undef, undef, undef, undef, undef, undef, undef, undef, undef, undef, undef, undef, undef, undef, undef, undef, undef, undef, undef, undef], defers := [] }) w := by
  obtain ⟨o8, ho8, hg8, hp8, hd8⟩ := id I8
  obtain ⟨o9, ho9, hg9, hp9, hd9⟩ := id I9
  obtain ⟨o10, ho10, hg10, hp10, hd10⟩ := id I10
  refine wpAnyH_ready (rs := [8, 9, 10]) (rdy_ hR 6 _ _ rfl) (by simp) ?_
  refine AllReadyH.cons ho8 (fun K hK => ?_) ?_
  · refine RegN.call41 hg8 hp8 hd8 (hhold _) (fun x hx => ?_)
    simp only [Act.put, List.setIfInBounds_toArray, List.set_cons_zero, List.set_cons_succ]
    exact hK.out _ _ ((hSof _ (hB.trans (hx.mono hB.size)))) (fun _ => node2_2 hR I9 I10 I5 I8 I11 I12 hSof hQ  x (hB.trans (hx.mono hB.size))  )
  refine AllReadyH.cons ho9 (fun K hK => ?_) ?_
  · refine RegN.alloc65 hg9 hp9 hd9 ?_
    simp only [Act.put, List.setIfInBounds_toArray, List.set_cons_zero, List.set_cons_succ]
    exact hK.out _ _ ((hSof _ (hB.alloc hB.size _))) (fun _ => node1_1x7 hR I9 I10 I5 I8 I11 I12 hSof hhold hQ w.heap.size _ (hB.alloc hB.size _) hB.size (Blk.new w 65 _) )
  refine AllReadyH.cons ho10 (fun K hK => ?_) ?_
  · refine RegN.alloc65 hg10 hp10 hd10 ?_
    simp only [Act.put, List.setIfInBounds_toArray, List.set_cons_zero, List.set_cons_succ]
    exact hK.out _ _ ((hSof _ (hB.alloc hB.size _))) (fun _ => node1_1x8 hR I9 I10 I5 I8 I11 I12 hSof hhold hQ w.heap.size _ (hB.alloc hB.size _) hB.size (Blk.new w 65 _) )
  exact AllReadyH.nil
set_option maxRecDepth 100000 in
theorem node0_0x7x8 (g7 : Nat) (g8 : Nat) (w : World) (hB : Below w0.heap.size w0 w) (ge7 : w0.heap.size ≤ g7) (b7 : Blk w g7 65 #[.int .i64 0, .int .i64 0, .bool false]) (ge8 : w0.heap.size ≤ g8) (b8 : Blk w g8 65 #[.int .i64 0, .int .i64 0, .bool false]) (ne7_8 : g7 ≠ g8) :
    wpAnyH Try.prog .any ops Q S 4 #[true, true, true, true, true, false, true, true, false, true, true, false, false] ({ tmps := #[x0, x1, x2, .pointer (some ⟨g3, 0, none⟩), .pointer (some ⟨g4, 0, none⟩), .pointer (some ⟨g5, 0, none⟩), x6, .pointer (some ⟨g7, 0, none⟩), .pointer (some ⟨g8, 0, none⟩), undef, x10, x11, x12, x13, x14, x15, (.agg #[.int .i64 R, .int .i64 C, .int .i64 T, .int .i64 B, .bool o]), .pointer (some ⟨g5, 0, none⟩), (.int .i64 a), .pointer (some ⟨g5, 1, none⟩), (.int .i64 b), undef, (.agg #[.int .i64 R, .int .i64 C, .int .i64 T, .int .i64 B, .bool o]), (.agg #[.int .i64 r, .int .i64 c, .bool q]), undef, undef, undef, undef, undef, undef, undef, undef, undef, undef, undef, undef, undef, undef, undef, undef, undef, undef, undef, undef, undef, undef, undef, undef, undef, undef, undef, undef, undef, undef, undef, undef, undef, undef, undef, undef, undef, undef, undef, undef, undef, undef, undef, undef, undef, undef, undef, undef, undef, undef, undef, undef, undef, undef, undef, undef, undef, undef, undef, undef, undef, undef, undef, undef, undef, undef, undef], defers := [] }) w := by
  obtain ⟨o5, ho5, hg5, hp5, hd5⟩ := id I5
  refine wpAnyH_ready (rs := [5]) (rdy_ hR 7 _ _ rfl) (by simp) ?_
  refine AllReadyH.cons ho5 (fun K hK => ?_) ?_
  · refine RegN.call40 hg5 hp5 hd5 (hgo _) (fun x hx => ?_)
    simp only [Act.put, List.setIfInBounds_toArray, List.set_cons_zero, List.set_cons_succ]
    exact hK.out _ _ ((hSof _ (hB.trans (hx.mono hB.size)))) (fun _ => node1_1x7x8 hR I9 I10 I5 I8 I11 I12 hSof hhold hQ g7 g8 x (hB.trans (hx.mono hB.size)) ge7 (b7.stays hx) ge8 (b8.stays hx) ne7_8)
  exact AllReadyH.nil
set_option maxRecDepth 100000 in
theorem node0_0x7 (g7 : Nat) (w : World) (hB : Below w0.heap.size w0 w) (ge7 : w0.heap.size ≤ g7) (b7 : Blk w g7 65 #[.int .i64 0, .int .i64 0, .bool false])  :
    wpAnyH Try.prog .any ops Q S 5 #[true, true, true, true, true, false, true, true, false, true, false, false, false] ({ tmps := #[x0, x1, x2, .pointer (some ⟨g3, 0, none⟩), .pointer (some ⟨g4, 0, none⟩), .pointer (some ⟨g5, 0, none⟩), x6, .pointer (some ⟨g7, 0, none⟩), undef, undef, x10, x11, x12, x13, x14, x15, (.agg #[.int .i64 R, .int .i64 C, .int .i64 T, .int .i64 B, .bool o]), .pointer (some ⟨g5, 0, none⟩), (.int .i64 a), .pointer (some ⟨g5, 1, none⟩), (.int .i64 b), undef, (.agg #[.int .i64 R, .int .i64 C, .int .i64 T, .int .i64 B, .bool o]), (.agg #[.int .i64 r, .int .i64 c, .bool q]), undef, undef, undef, undef, undef, undef, undef, undef, undef, undef, undef, undef, undef, undef, undef, undef, undef, undef, undef, undef, undef, undef, undef, undef, undef, undef, undef, undef, undef, undef, undef, undef, undef, undef, undef, undef, undef, undef, undef, undef, undef, undef, undef, undef, undef, undef, undef, undef, undef, undef, undef, undef, undef, undef, undef, undef, undef, undef, undef, undef, undef, undef, undef, undef, undef, undef, undef], defers := [] }) w := by
  obtain ⟨o5, ho5, hg5, hp5, hd5⟩ := id I5
  obtain ⟨o10, ho10, hg10, hp10, hd10⟩ := id I10
  refine wpAnyH_ready (rs := [5, 10]) (rdy_ hR 8 _ _ rfl) (by simp) ?_
  refine AllReadyH.cons ho5 (fun K hK => ?_) ?_
  · refine RegN.call40 hg5 hp5 hd5 (hgo _) (fun x hx => ?_)
    simp only [Act.put, List.setIfInBounds_toArray, List.set_cons_zero, List.set_cons_succ]
    exact hK.out _ _ ((hSof _ (hB.trans (hx.mono hB.size)))) (fun _ => node1_1x7 hR I9 I10 I5 I8 I11 I12 hSof hhold hQ g7 x (hB.trans (hx.mono hB.size)) ge7 (b7.stays hx) )
  refine AllReadyH.cons ho10 (fun K hK => ?_) ?_
  · refine RegN.alloc65 hg10 hp10 hd10 ?_
    simp only [Act.put, List.setIfInBounds_toArray, List.set_cons_zero, List.set_cons_succ]
    exact hK.out _ _ ((hSof _ (hB.alloc hB.size _))) (fun _ => node0_0x7x8 hR I9 I10 I5 I8 I11 I12 hSof hgo hhold hQ g7 w.heap.size _ (hB.alloc hB.size _) ge7 (b7.alloc _) hB.size (Blk.new w 65 _) (Nat.ne_of_lt b7.lt))
  exact AllReadyH.nil
set_option maxRecDepth 100000 in
theorem node0_0x8 (g8 : Nat) (w : World) (hB : Below w0.heap.size w0 w) (ge8 : w0.heap.size ≤ g8) (b8 : Blk w g8 65 #[.int .i64 0, .int .i64 0, .bool false])  :
    wpAnyH Try.prog .any ops Q S 5 #[true, true, true, true, true, false, true, true, false, false, true, false, false] ({ tmps := #[x0, x1, x2, .pointer (some ⟨g3, 0, none⟩), .pointer (some ⟨g4, 0, none⟩), .pointer (some ⟨g5, 0, none⟩), x6, undef, .pointer (some ⟨g8, 0, none⟩), undef, x10, x11, x12, x13, x14, x15, (.agg #[.int .i64 R, .int .i64 C, .int .i64 T, .int .i64 B, .bool o]), .pointer (some ⟨g5, 0, none⟩), (.int .i64 a), .pointer (some ⟨g5, 1, none⟩), (.int .i64 b), undef, (.agg #[.int .i64 R, .int .i64 C, .int .i64 T, .int .i64 B, .bool o]), (.agg #[.int .i64 r, .int .i64 c, .bool q]), undef, undef, undef, undef, undef, undef, undef, undef, undef, undef, undef, undef, undef, undef, undef, undef, undef, undef, undef, undef, undef, undef, undef, undef, undef, undef, undef, undef, undef, undef, undef, undef, undef, undef, undef, undef, undef, undef, undef, undef, undef, undef, undef, undef, undef, undef, undef, undef, undef, undef, undef, undef, undef, undef, undef, undef, undef, undef, undef, undef, undef, undef, undef, undef, undef, undef, undef], defers := [] }) w := by
  obtain ⟨o5, ho5, hg5, hp5, hd5⟩ := id I5
  obtain ⟨o9, ho9, hg9, hp9, hd9⟩ := id I9
  refine wpAnyH_ready (rs := [5, 9]) (rdy_ hR 9 _ _ rfl) (by simp) ?_
  refine AllReadyH.cons ho5 (fun K hK => ?_) ?_
  · refine RegN.call40 hg5 hp5 hd5 (hgo _) (fun x hx => ?_)
    simp only [Act.put, List.setIfInBounds_toArray, List.set_cons_zero, List.set_cons_succ]
    exact hK.out _ _ ((hSof _ (hB.trans (hx.mono hB.size)))) (fun _ => node1_1x8 hR I9 I10 I5 I8 I11 I12 hSof hhold hQ g8 x (hB.trans (hx.mono hB.size)) ge8 (b8.stays hx) )
  refine AllReadyH.cons ho9 (fun K hK => ?_) ?_
  · refine RegN.alloc65 hg9 hp9 hd9 ?_
    simp only [Act.put, List.setIfInBounds_toArray, List.set_cons_zero, List.set_cons_succ]
    exact hK.out _ _ ((hSof _ (hB.alloc hB.size _))) (fun _ => node0_0x7x8 hR I9 I10 I5 I8 I11 I12 hSof hgo hhold hQ w.heap.size g8 _ (hB.alloc hB.size _) hB.size (Blk.new w 65 _) ge8 (b8.alloc _) (Nat.ne_of_gt b8.lt))
  exact AllReadyH.nil
set_option maxRecDepth 100000 in
theorem node0_0  (w : World) (hB : Below w0.heap.size w0 w)   :
    wpAnyH Try.prog .any ops Q S 6 #[true, true, true, true, true, false, true, true, false, false, false, false, false] ({ tmps := #[x0, x1, x2, .pointer (some ⟨g3, 0, none⟩), .pointer (some ⟨g4, 0, none⟩), .pointer (some ⟨g5, 0, none⟩), x6, undef, undef, undef, x10, x11, x12, x13, x14, x15, (.agg #[.int .i64 R, .int .i64 C, .int .i64 T, .int .i64 B, .bool o]), .pointer (some ⟨g5, 0, none⟩), (.int .i64 a), .pointer (some ⟨g5, 1, none⟩), (.int .i64 b), undef, (.agg #[.int .i64 R, .int .i64 C, .int .i64 T, .int .i64 B, .bool o]), (.agg #[.int .i64 r, .int .i64 c, .bool q]), undef, undef, undef, undef, undef, undef, undef, undef, undef, undef, undef, undef, undef, undef, undef, undef, undef, undef, undef, undef, undef, undef, undef, undef, undef, undef, undef, undef, undef, undef, undef, undef, undef, undef, undef, undef, undef, undef, undef, undef, undef, undef, undef, undef, undef, undef, undef, undef, undef, undef, undef, undef, undef, undef, undef, undef, undef, undef, undef, undef, undef, undef, undef, undef, undef, undef, undef], defers := [] }) w := by
  obtain ⟨o5, ho5, hg5, hp5, hd5⟩ := id I5
  obtain ⟨o9, ho9, hg9, hp9, hd9⟩ := id I9
  obtain ⟨o10, ho10, hg10, hp10, hd10⟩ := id I10
  refine wpAnyH_ready (rs := [5, 9, 10]) (rdy_ hR 10 _ _ rfl) (by simp) ?_
  refine AllReadyH.cons ho5 (fun K hK => ?_) ?_
  · refine RegN.call40 hg5 hp5 hd5 (hgo _) (fun x hx => ?_)
    simp only [Act.put, List.setIfInBounds_toArray, List.set_cons_zero, List.set_cons_succ]
    exact hK.out _ _ ((hSof _ (hB.trans (hx.mono hB.size)))) (fun _ => node1_1 hR I9 I10 I5 I8 I11 I12 hSof hhold hQ  x (hB.trans (hx.mono hB.size))  )
  refine AllReadyH.cons ho9 (fun K hK => ?_) ?_
  · refine RegN.alloc65 hg9 hp9 hd9 ?_
    simp only [Act.put, List.setIfInBounds_toArray, List.set_cons_zero, List.set_cons_succ]
    exact hK.out _ _ ((hSof _ (hB.alloc hB.size _))) (fun _ => node0_0x7 hR I9 I10 I5 I8 I11 I12 hSof hgo hhold hQ w.heap.size _ (hB.alloc hB.size _) hB.size (Blk.new w 65 _) )
  refine AllReadyH.cons ho10 (fun K hK => ?_) ?_
  · refine RegN.alloc65 hg10 hp10 hd10 ?_
    simp only [Act.put, List.setIfInBounds_toArray, List.set_cons_zero, List.set_cons_succ]
    exact hK.out _ _ ((hSof _ (hB.alloc hB.size _))) (fun _ => node0_0x8 hR I9 I10 I5 I8 I11 I12 hSof hgo hhold hQ w.heap.size _ (hB.alloc hB.size _) hB.size (Blk.new w 65 _) )
  exact AllReadyH.nil
end
end Go.Proofs.Ytagciaanfjllnaa.GoesR
