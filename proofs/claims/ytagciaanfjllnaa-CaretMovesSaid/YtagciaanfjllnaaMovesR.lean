/- CaretMoves: the statement "up, down, left, right := .." draws its order: four calls, four new variables, four stores: one lemma for each set of operations that have come up. Written by wip/nodes.py. -/
import Derived.Test.YtagciaanfjllnaaCaretC
import Derived.Test.YtagciaanfjllnaaRegionN
import Derived.Deep.RegionHeld3
import Derived.Deep.DrawnRows
namespace Go.Proofs.Ytagciaanfjllnaa.MovesR
open Go Go.RowKit Go.Proofs.Ytagciaanfjllnaa.Base Go.Proofs.Ytagciaanfjllnaa.CaretC
set_option linter.unusedVariables false
set_option linter.unusedSectionVars false
attribute [local go_sem ↓] Go.wp_at_zero Go.wp_at_succ
theorem S_of {w0 w' : World} {g3 g4 : Nat} {R C T B r c : Int} {o q : Bool} (N3 : Blk w0 g3 63 #[.int .i64 R, .int .i64 C, .int .i64 T, .int .i64 B, .bool o]) (N4 : Blk w0 g4 65 #[.int .i64 r, .int .i64 c, .bool q]) (h : Below w0.heap.size w0 w') : (fun w' => Below w0.heap.size w0 w' ∧ (w'.cell? ⟨g3, 0, none⟩ = some (.int .i64 R) ∧ w'.cell? ⟨g3, 1, none⟩ = some (.int .i64 C) ∧ w'.cell? ⟨g3, 2, none⟩ = some (.int .i64 T) ∧ w'.cell? ⟨g3, 3, none⟩ = some (.int .i64 B) ∧ w'.cell? ⟨g3, 4, none⟩ = some (.bool o)) ∧ w'.cell? ⟨g4, 0, none⟩ = some (.int .i64 r) ∧ w'.cell? ⟨g4, 1, none⟩ = some (.int .i64 c) ∧ w'.cell? ⟨g4, 2, none⟩ = some (.bool q)) w' :=
  ⟨h, Blk.five (N3.stays h), (N4.stays h).cell 0, (N4.stays h).cell 1, (N4.stays h).cell 2⟩
def tab : List (List Bool × List Nat) := [
  ([true, true, true, true, true, true, true, true, true, true, true, true, true, true, true, true, true, true, true, false, false, false, false, false], [19]),
  ([true, true, true, true, true, true, true, true, true, true, true, true, true, true, true, true, true, true, false, true, false, false, false, false], [18]),
  ([true, true, true, true, true, true, true, true, true, true, true, true, true, true, true, true, true, false, true, true, false, false, false, false], [17]),
  ([true, true, true, true, true, true, true, true, true, true, true, true, true, true, true, true, false, true, true, true, false, false, false, false], [16]),
  ([true, true, true, true, true, true, true, true, true, true, true, true, true, true, true, true, true, true, false, false, false, false, false, false], [18, 19]),
  ([true, true, true, true, true, true, true, true, true, true, true, true, true, true, true, true, true, false, true, false, false, false, false, false], [17, 19]),
  ([true, true, true, true, true, true, true, true, true, true, true, true, true, true, true, true, true, false, false, true, false, false, false, false], [17, 18]),
  ([true, true, true, true, true, true, true, true, true, true, true, true, true, true, true, true, false, true, true, false, false, false, false, false], [16, 19]),
  ([true, true, true, true, true, true, true, true, true, true, true, true, true, true, true, true, false, true, false, true, false, false, false, false], [16, 18]),
  ([true, true, true, true, true, true, true, true, true, true, true, true, true, true, true, true, false, false, true, true, false, false, false, false], [16, 17]),
  ([true, true, true, true, true, true, true, true, true, true, true, true, true, true, true, true, true, false, false, false, false, false, false, false], [17, 18, 19]),
  ([true, true, true, true, true, true, true, true, true, true, true, true, true, true, true, true, false, true, false, false, false, false, false, false], [16, 18, 19]),
  ([true, true, true, true, true, true, true, true, true, true, true, true, true, true, true, true, false, false, true, false, false, false, false, false], [16, 17, 19]),
  ([true, true, true, true, true, true, true, true, true, true, true, true, true, true, true, true, false, false, false, true, false, false, false, false], [16, 17, 18]),
  ([true, true, true, true, true, true, true, true, true, true, true, true, true, true, true, true, false, false, false, false, false, false, false, false], [16, 17, 18, 19]),
  ([true, true, true, true, true, true, true, true, true, true, true, true, true, true, true, false, true, true, true, true, false, false, false, false], [15]),
  ([true, true, true, true, true, true, true, true, true, true, true, true, true, true, true, false, true, true, true, false, false, false, false, false], [15, 19]),
  ([true, true, true, true, true, true, true, true, true, true, true, true, true, true, true, false, true, true, false, true, false, false, false, false], [15, 18]),
  ([true, true, true, true, true, true, true, true, true, true, true, true, true, true, true, false, true, false, true, true, false, false, false, false], [15, 17]),
  ([true, true, true, true, true, true, true, true, true, true, true, true, true, true, true, false, false, true, true, true, false, false, false, false], [15, 16]),
  ([true, true, true, true, true, true, true, true, true, true, true, true, true, true, true, false, true, true, false, false, false, false, false, false], [15, 18, 19]),
  ([true, true, true, true, true, true, true, true, true, true, true, true, true, true, true, false, true, false, true, false, false, false, false, false], [15, 17, 19]),
  ([true, true, true, true, true, true, true, true, true, true, true, true, true, true, true, false, true, false, false, true, false, false, false, false], [15, 17, 18]),
  ([true, true, true, true, true, true, true, true, true, true, true, true, true, true, true, false, false, true, true, false, false, false, false, false], [15, 16, 19]),
  ([true, true, true, true, true, true, true, true, true, true, true, true, true, true, true, false, false, true, false, true, false, false, false, false], [15, 16, 18]),
  ([true, true, true, true, true, true, true, true, true, true, true, true, true, true, true, false, false, false, true, true, false, false, false, false], [15, 16, 17]),
  ([true, true, true, true, true, true, true, true, true, true, true, true, true, true, true, false, true, false, false, false, false, false, false, false], [15, 17, 18, 19]),
  ([true, true, true, true, true, true, true, true, true, true, true, true, true, true, true, false, false, true, false, false, false, false, false, false], [15, 16, 18, 19]),
  ([true, true, true, true, true, true, true, true, true, true, true, true, true, true, true, false, false, false, true, false, false, false, false, false], [15, 16, 17, 19]),
  ([true, true, true, true, true, true, true, true, true, true, true, true, true, true, true, false, false, false, false, true, false, false, false, false], [15, 16, 17, 18]),
  ([true, true, true, true, true, true, true, true, true, true, true, true, true, true, true, false, false, false, false, false, false, false, false, false], [15, 16, 17, 18, 19]),
  ([true, true, true, true, true, true, true, true, true, true, true, false, true, true, true, false, true, true, true, true, false, false, false, false], [11]),
  ([true, true, true, true, true, true, true, true, true, true, true, false, true, true, true, false, true, true, true, false, false, false, false, false], [11, 19]),
  ([true, true, true, true, true, true, true, true, true, true, true, false, true, true, true, false, true, true, false, true, false, false, false, false], [11, 18]),
  ([true, true, true, true, true, true, true, true, true, true, true, false, true, true, true, false, true, false, true, true, false, false, false, false], [11, 17]),
  ([true, true, true, true, true, true, true, true, true, true, true, false, true, true, true, false, false, true, true, true, false, false, false, false], [11, 16]),
  ([true, true, true, true, true, true, true, true, true, true, true, false, true, true, true, false, true, true, false, false, false, false, false, false], [11, 18, 19]),
  ([true, true, true, true, true, true, true, true, true, true, true, false, true, true, true, false, true, false, true, false, false, false, false, false], [11, 17, 19]),
  ([true, true, true, true, true, true, true, true, true, true, true, false, true, true, true, false, true, false, false, true, false, false, false, false], [11, 17, 18]),
  ([true, true, true, true, true, true, true, true, true, true, true, false, true, true, true, false, false, true, true, false, false, false, false, false], [11, 16, 19]),
  ([true, true, true, true, true, true, true, true, true, true, true, false, true, true, true, false, false, true, false, true, false, false, false, false], [11, 16, 18]),
  ([true, true, true, true, true, true, true, true, true, true, true, false, true, true, true, false, false, false, true, true, false, false, false, false], [11, 16, 17]),
  ([true, true, true, true, true, true, true, true, true, true, true, false, true, true, true, false, true, false, false, false, false, false, false, false], [11, 17, 18, 19]),
  ([true, true, true, true, true, true, true, true, true, true, true, false, true, true, true, false, false, true, false, false, false, false, false, false], [11, 16, 18, 19]),
  ([true, true, true, true, true, true, true, true, true, true, true, false, true, true, true, false, false, false, true, false, false, false, false, false], [11, 16, 17, 19]),
  ([true, true, true, true, true, true, true, true, true, true, true, false, true, true, true, false, false, false, false, true, false, false, false, false], [11, 16, 17, 18]),
  ([true, true, true, true, true, true, true, true, true, true, true, false, true, true, true, false, false, false, false, false, false, false, false, false], [11, 16, 17, 18, 19]),
  ([true, true, true, true, true, true, true, false, true, true, true, false, true, true, true, false, true, true, true, true, false, false, false, false], [7]),
  ([true, true, true, true, true, true, true, false, true, true, true, false, true, true, true, false, true, true, true, false, false, false, false, false], [7, 19]),
  ([true, true, true, true, true, true, true, false, true, true, true, false, true, true, true, false, true, true, false, true, false, false, false, false], [7, 18]),
  ([true, true, true, true, true, true, true, false, true, true, true, false, true, true, true, false, true, false, true, true, false, false, false, false], [7, 17]),
  ([true, true, true, true, true, true, true, false, true, true, true, false, true, true, true, false, false, true, true, true, false, false, false, false], [7, 16]),
  ([true, true, true, true, true, true, true, false, true, true, true, false, true, true, true, false, true, true, false, false, false, false, false, false], [7, 18, 19]),
  ([true, true, true, true, true, true, true, false, true, true, true, false, true, true, true, false, true, false, true, false, false, false, false, false], [7, 17, 19]),
  ([true, true, true, true, true, true, true, false, true, true, true, false, true, true, true, false, true, false, false, true, false, false, false, false], [7, 17, 18]),
  ([true, true, true, true, true, true, true, false, true, true, true, false, true, true, true, false, false, true, true, false, false, false, false, false], [7, 16, 19]),
  ([true, true, true, true, true, true, true, false, true, true, true, false, true, true, true, false, false, true, false, true, false, false, false, false], [7, 16, 18]),
  ([true, true, true, true, true, true, true, false, true, true, true, false, true, true, true, false, false, false, true, true, false, false, false, false], [7, 16, 17]),
  ([true, true, true, true, true, true, true, false, true, true, true, false, true, true, true, false, true, false, false, false, false, false, false, false], [7, 17, 18, 19]),
  ([true, true, true, true, true, true, true, false, true, true, true, false, true, true, true, false, false, true, false, false, false, false, false, false], [7, 16, 18, 19]),
  ([true, true, true, true, true, true, true, false, true, true, true, false, true, true, true, false, false, false, true, false, false, false, false, false], [7, 16, 17, 19]),
  ([true, true, true, true, true, true, true, false, true, true, true, false, true, true, true, false, false, false, false, true, false, false, false, false], [7, 16, 17, 18]),
  ([true, true, true, true, true, true, true, false, true, true, true, false, true, true, true, false, false, false, false, false, false, false, false, false], [7, 16, 17, 18, 19]),
  ([true, true, true, false, true, true, true, false, true, true, true, false, true, true, true, false, true, true, true, true, false, false, false, false], [3]),
  ([true, true, true, false, true, true, true, false, true, true, true, false, true, true, true, false, true, true, true, false, false, false, false, false], [3, 19]),
  ([true, true, true, false, true, true, true, false, true, true, true, false, true, true, true, false, true, true, false, true, false, false, false, false], [3, 18]),
  ([true, true, true, false, true, true, true, false, true, true, true, false, true, true, true, false, true, false, true, true, false, false, false, false], [3, 17]),
  ([true, true, true, false, true, true, true, false, true, true, true, false, true, true, true, false, false, true, true, true, false, false, false, false], [3, 16]),
  ([true, true, true, false, true, true, true, false, true, true, true, false, true, true, true, false, true, true, false, false, false, false, false, false], [3, 18, 19]),
  ([true, true, true, false, true, true, true, false, true, true, true, false, true, true, true, false, true, false, true, false, false, false, false, false], [3, 17, 19]),
  ([true, true, true, false, true, true, true, false, true, true, true, false, true, true, true, false, true, false, false, true, false, false, false, false], [3, 17, 18]),
  ([true, true, true, false, true, true, true, false, true, true, true, false, true, true, true, false, false, true, true, false, false, false, false, false], [3, 16, 19]),
  ([true, true, true, false, true, true, true, false, true, true, true, false, true, true, true, false, false, true, false, true, false, false, false, false], [3, 16, 18]),
  ([true, true, true, false, true, true, true, false, true, true, true, false, true, true, true, false, false, false, true, true, false, false, false, false], [3, 16, 17]),
  ([true, true, true, false, true, true, true, false, true, true, true, false, true, true, true, false, true, false, false, false, false, false, false, false], [3, 17, 18, 19]),
  ([true, true, true, false, true, true, true, false, true, true, true, false, true, true, true, false, false, true, false, false, false, false, false, false], [3, 16, 18, 19]),
  ([true, true, true, false, true, true, true, false, true, true, true, false, true, true, true, false, false, false, true, false, false, false, false, false], [3, 16, 17, 19]),
  ([true, true, true, false, true, true, true, false, true, true, true, false, true, true, true, false, false, false, false, true, false, false, false, false], [3, 16, 17, 18]),
  ([true, true, true, false, true, true, true, false, true, true, true, false, true, true, true, false, false, false, false, false, false, false, false, false], [3, 16, 17, 18, 19]),
  ([true, true, true, true, true, true, true, true, true, true, true, true, true, true, true, true, true, true, true, true, false, false, false, false], [20]),
  ([true, true, true, true, true, true, true, true, true, true, true, true, true, true, true, true, true, true, true, true, true, false, false, false], [21]),
  ([true, true, true, true, true, true, true, true, true, true, true, true, true, true, true, true, true, true, true, true, true, true, false, false], [22]),
  ([true, true, true, true, true, true, true, true, true, true, true, true, true, true, true, true, true, true, true, true, true, true, true, false], [23]),
  ([true, true, true, true, true, true, true, true, true, true, true, true, true, true, true, true, true, true, true, true, true, true, true, true], [])]
theorem rdy_ {ops : Array Oper} (hR : tab.all (fun x => Region.ready .any ops x.1.toArray == x.2) = true) (i : Nat) (d : List Bool) (r : List Nat) (h : tab[i]? = some (d, r)) : Region.ready .any ops d.toArray = r :=
  eq_of_beq (List.all_eq_true.1 hR _ (List.mem_of_getElem? h))
variable {ops : Array Oper} {ts3 ts7 ts11 ts15 : Array TypeId}
section
variable {w0 : World} {g3 g4 : Nat} {R C T B r c n u d lc rc : Int} {o q : Bool} {x0 x1 x6 x12 x13 x14 x15 x16 x17 x18 x19 x20 x21 x22 x23 : Value} {Q : Exit → Act → World → Prop} {S : World → Prop}
variable (hR : tab.all (fun x => Region.ready .any ops x.1.toArray == x.2) = true) (I16 : RegN.Is ops 16 (.alloc 65) (some 7)) (I17 : RegN.Is ops 17 (.alloc 65) (some 8)) (I18 : RegN.Is ops 18 (.alloc 65) (some 9)) (I19 : RegN.Is ops 19 (.alloc 65) (some 10)) (I3 : RegN.Is ops 3 (.call { callee := .value (.func 47), args := #[.tmp 24, .tmp 25, .tmp 26], argTypes := ts3 }) (some 27)) (I7 : RegN.Is ops 7 (.call { callee := .value (.func 48), args := #[.tmp 28, .tmp 29, .tmp 30], argTypes := ts7 }) (some 31)) (I11 : RegN.Is ops 11 (.call { callee := .value (.func 49), args := #[.tmp 32, .tmp 33, .tmp 34], argTypes := ts11 }) (some 35)) (I15 : RegN.Is ops 15 (.call { callee := .value (.func 50), args := #[.tmp 36, .tmp 37, .tmp 38], argTypes := ts15 }) (some 39)) (I20 : RegN.Is ops 20 (.store 65 (.tmp 7) (.tmp 27)) none) (I21 : RegN.Is ops 21 (.store 65 (.tmp 8) (.tmp 31)) none) (I22 : RegN.Is ops 22 (.store 65 (.tmp 9) (.tmp 35)) none) (I23 : RegN.Is ops 23 (.store 65 (.tmp 10) (.tmp 39)) none) (hSof : ∀ w', Below w0.heap.size w0 w' → S w') (hup : ∀ w, Calls Try.prog 47 #[.agg #[.int .i64 R, .int .i64 C, .int .i64 T, .int .i64 B, .bool o], .agg #[.int .i64 r, .int .i64 c, .bool q], .int .i64 n] w fun e w' => e = .returned (.agg #[.int .i64 u, .int .i64 c, .bool false]) ∧ Below w.heap.size w w') (hdown : ∀ w, Calls Try.prog 48 #[.agg #[.int .i64 R, .int .i64 C, .int .i64 T, .int .i64 B, .bool o], .agg #[.int .i64 r, .int .i64 c, .bool q], .int .i64 n] w fun e w' => e = .returned (.agg #[.int .i64 d, .int .i64 c, .bool false]) ∧ Below w.heap.size w w') (hleft : ∀ w, Calls Try.prog 49 #[.agg #[.int .i64 R, .int .i64 C, .int .i64 T, .int .i64 B, .bool o], .agg #[.int .i64 r, .int .i64 c, .bool q], .int .i64 n] w fun e w' => e = .returned (.agg #[.int .i64 r, .int .i64 lc, .bool false]) ∧ Below w.heap.size w w') (hahead : ∀ w, Calls Try.prog 50 #[.agg #[.int .i64 R, .int .i64 C, .int .i64 T, .int .i64 B, .bool o], .agg #[.int .i64 r, .int .i64 c, .bool q], .int .i64 n] w fun e w' => e = .returned (.agg #[.int .i64 r, .int .i64 rc, .bool false]) ∧ Below w.heap.size w w') (hQ : ∀ g7 g8 g9 g10 w', w0.heap.size ≤ g7 → w0.heap.size ≤ g8 → w0.heap.size ≤ g9 → w0.heap.size ≤ g10 → g7 ≠ g8 → g7 ≠ g9 → g7 ≠ g10 → g8 ≠ g9 → g8 ≠ g10 → g9 ≠ g10 → Blk w' g7 65 #[.int .i64 u, .int .i64 c, .bool false] → Blk w' g8 65 #[.int .i64 d, .int .i64 c, .bool false] → Blk w' g9 65 #[.int .i64 r, .int .i64 lc, .bool false] → Blk w' g10 65 #[.int .i64 r, .int .i64 rc, .bool false] → Below w0.heap.size w0 w' → Q .normal ({ tmps := #[x0, x1, .int .i64 n, .pointer (some ⟨g3, 0, none⟩), .pointer (some ⟨g4, 0, none⟩), undef, x6, .pointer (some ⟨g7, 0, none⟩), .pointer (some ⟨g8, 0, none⟩), .pointer (some ⟨g9, 0, none⟩), .pointer (some ⟨g10, 0, none⟩), undef, x12, x13, x14, x15, x16, x17, x18, x19, x20, x21, x22, x23, (.agg #[.int .i64 R, .int .i64 C, .int .i64 T, .int .i64 B, .bool o]), (.agg #[.int .i64 r, .int .i64 c, .bool q]), (.int .i64 n), .agg #[.int .i64 u, .int .i64 c, .bool false], (.agg #[.int .i64 R, .int .i64 C, .int .i64 T, .int .i64 B, .bool o]), (.agg #[.int .i64 r, .int .i64 c, .bool q]), (.int .i64 n), .agg #[.int .i64 d, .int .i64 c, .bool false], (.agg #[.int .i64 R, .int .i64 C, .int .i64 T, .int .i64 B, .bool o]), (.agg #[.int .i64 r, .int .i64 c, .bool q]), (.int .i64 n), .agg #[.int .i64 r, .int .i64 lc, .bool false], (.agg #[.int .i64 R, .int .i64 C, .int .i64 T, .int .i64 B, .bool o]), (.agg #[.int .i64 r, .int .i64 c, .bool q]), (.int .i64 n), .agg #[.int .i64 r, .int .i64 rc, .bool false], undef, undef, undef, undef, undef, undef, undef, undef, undef, undef, undef, undef, undef, undef, undef, undef, undef, undef, undef, undef, undef, undef, undef, undef, undef, undef, undef, undef, undef, undef, undef, undef, undef, undef, undef, undef, undef, undef, undef, undef, undef, undef, undef, undef, undef, undef, undef, undef, undef, undef, undef, undef, undef, undef, undef, undef, undef], defers := [] }) w')
include hR I16 I17 I18 I19 I3 I7 I11 I15 I20 I21 I22 I23 hSof hup hdown hleft hahead hQ
omit hup hdown hleft hahead in
set_option maxRecDepth 100000 in
theorem node4_4x7x8x9x10 (g7 : Nat) (g8 : Nat) (g9 : Nat) (g10 : Nat) (w : World) (hB : Below w0.heap.size w0 w) (ge7 : w0.heap.size ≤ g7) (b7 : Blk w g7 65 #[.int .i64 0, .int .i64 0, .bool false]) (ge8 : w0.heap.size ≤ g8) (b8 : Blk w g8 65 #[.int .i64 0, .int .i64 0, .bool false]) (ge9 : w0.heap.size ≤ g9) (b9 : Blk w g9 65 #[.int .i64 0, .int .i64 0, .bool false]) (ge10 : w0.heap.size ≤ g10) (b10 : Blk w g10 65 #[.int .i64 0, .int .i64 0, .bool false]) (ne7_8 : g7 ≠ g8) (ne7_9 : g7 ≠ g9) (ne7_10 : g7 ≠ g10) (ne8_9 : g8 ≠ g9) (ne8_10 : g8 ≠ g10) (ne9_10 : g9 ≠ g10) :
    wpAnyH Try.prog .any ops Q S 4 #[true, true, true, true, true, true, true, true, true, true, true, true, true, true, true, true, true, true, true, true, false, false, false, false] ({ tmps := #[x0, x1, .int .i64 n, .pointer (some ⟨g3, 0, none⟩), .pointer (some ⟨g4, 0, none⟩), undef, x6, .pointer (some ⟨g7, 0, none⟩), .pointer (some ⟨g8, 0, none⟩), .pointer (some ⟨g9, 0, none⟩), .pointer (some ⟨g10, 0, none⟩), undef, x12, x13, x14, x15, x16, x17, x18, x19, x20, x21, x22, x23, (.agg #[.int .i64 R, .int .i64 C, .int .i64 T, .int .i64 B, .bool o]), (.agg #[.int .i64 r, .int .i64 c, .bool q]), (.int .i64 n), .agg #[.int .i64 u, .int .i64 c, .bool false], (.agg #[.int .i64 R, .int .i64 C, .int .i64 T, .int .i64 B, .bool o]), (.agg #[.int .i64 r, .int .i64 c, .bool q]), (.int .i64 n), .agg #[.int .i64 d, .int .i64 c, .bool false], (.agg #[.int .i64 R, .int .i64 C, .int .i64 T, .int .i64 B, .bool o]), (.agg #[.int .i64 r, .int .i64 c, .bool q]), (.int .i64 n), .agg #[.int .i64 r, .int .i64 lc, .bool false], (.agg #[.int .i64 R, .int .i64 C, .int .i64 T, .int .i64 B, .bool o]), (.agg #[.int .i64 r, .int .i64 c, .bool q]), (.int .i64 n), .agg #[.int .i64 r, .int .i64 rc, .bool false], undef, undef, undef, undef, undef, undef, undef, undef, undef, undef, undef, undef, undef, undef, undef, undef, undef, undef, undef, undef, undef, undef, undef, undef, undef, undef, undef, undef, undef, undef, undef, undef, undef, undef, undef, undef, undef, undef, undef, undef, undef, undef, undef, undef, undef, undef, undef, undef, undef, undef, undef, undef, undef, undef, undef, undef, undef], defers := [] }) w := by
  have hHeld := (hSof _ hB)
  obtain ⟨o20, ho20, hg20, hp20, hd20⟩ := I20
  refine wpAnyH_ready (rs := [20]) (rdy_ hR 79 _ _ rfl) (by simp) ?_
  refine AllReadyH.cons ho20 (fun K hK => ?_) AllReadyH.nil
  refine RegN.store65 hg20 hp20 hd20 rfl rfl b7 ?_
  refine hK.out _ _ ((hSof _ (below_set3 hB ge7 _ _ _))) (fun _ => ?_)
  clear hK K hHeld
  have hB' := below_set3 hB ge7 (.int .i64 u) (.int .i64 c) (.bool false)
  have n7 := Blk.set3 b7 (.int .i64 u) (.int .i64 c) (.bool false)
  have n8 := Blk.far3 b8 (Ne.symm ne7_8) (.int .i64 u) (.int .i64 c) (.bool false)
  have n9 := Blk.far3 b9 (Ne.symm ne7_9) (.int .i64 u) (.int .i64 c) (.bool false)
  have n10 := Blk.far3 b10 (Ne.symm ne7_10) (.int .i64 u) (.int .i64 c) (.bool false)
  clear hB b7 b8 b9 b10
  generalize (((w.setCell ⟨g7, 0, none⟩ (.int .i64 u)).setCell ⟨g7, 1, none⟩ (.int .i64 c)).setCell ⟨g7, 2, none⟩ (.bool false)) = v0 at *
  have hB := hB'
  have b7 := n7
  have b8 := n8
  have b9 := n9
  have b10 := n10
  clear hB' n7 n8 n9 n10
  have hHeld := (hSof _ hB)
  obtain ⟨o21, ho21, hg21, hp21, hd21⟩ := I21
  refine wpAnyH_ready (rs := [21]) (rdy_ hR 80 _ _ rfl) (by simp) ?_
  refine AllReadyH.cons ho21 (fun K hK => ?_) AllReadyH.nil
  refine RegN.store65 hg21 hp21 hd21 rfl rfl b8 ?_
  refine hK.out _ _ ((hSof _ (below_set3 hB ge8 _ _ _))) (fun _ => ?_)
  clear hK K hHeld
  have hB' := below_set3 hB ge8 (.int .i64 d) (.int .i64 c) (.bool false)
  have n7 := Blk.far3 b7 ne7_8 (.int .i64 d) (.int .i64 c) (.bool false)
  have n8 := Blk.set3 b8 (.int .i64 d) (.int .i64 c) (.bool false)
  have n9 := Blk.far3 b9 (Ne.symm ne8_9) (.int .i64 d) (.int .i64 c) (.bool false)
  have n10 := Blk.far3 b10 (Ne.symm ne8_10) (.int .i64 d) (.int .i64 c) (.bool false)
  clear hB b7 b8 b9 b10
  generalize (((v0.setCell ⟨g8, 0, none⟩ (.int .i64 d)).setCell ⟨g8, 1, none⟩ (.int .i64 c)).setCell ⟨g8, 2, none⟩ (.bool false)) = v1 at *
  have hB := hB'
  have b7 := n7
  have b8 := n8
  have b9 := n9
  have b10 := n10
  clear hB' n7 n8 n9 n10
  have hHeld := (hSof _ hB)
  obtain ⟨o22, ho22, hg22, hp22, hd22⟩ := I22
  refine wpAnyH_ready (rs := [22]) (rdy_ hR 81 _ _ rfl) (by simp) ?_
  refine AllReadyH.cons ho22 (fun K hK => ?_) AllReadyH.nil
  refine RegN.store65 hg22 hp22 hd22 rfl rfl b9 ?_
  refine hK.out _ _ ((hSof _ (below_set3 hB ge9 _ _ _))) (fun _ => ?_)
  clear hK K hHeld
  have hB' := below_set3 hB ge9 (.int .i64 r) (.int .i64 lc) (.bool false)
  have n7 := Blk.far3 b7 ne7_9 (.int .i64 r) (.int .i64 lc) (.bool false)
  have n8 := Blk.far3 b8 ne8_9 (.int .i64 r) (.int .i64 lc) (.bool false)
  have n9 := Blk.set3 b9 (.int .i64 r) (.int .i64 lc) (.bool false)
  have n10 := Blk.far3 b10 (Ne.symm ne9_10) (.int .i64 r) (.int .i64 lc) (.bool false)
  clear hB b7 b8 b9 b10
  generalize (((v1.setCell ⟨g9, 0, none⟩ (.int .i64 r)).setCell ⟨g9, 1, none⟩ (.int .i64 lc)).setCell ⟨g9, 2, none⟩ (.bool false)) = v2 at *
  have hB := hB'
  have b7 := n7
  have b8 := n8
  have b9 := n9
  have b10 := n10
  clear hB' n7 n8 n9 n10
  have hHeld := (hSof _ hB)
  obtain ⟨o23, ho23, hg23, hp23, hd23⟩ := I23
  refine wpAnyH_ready (rs := [23]) (rdy_ hR 82 _ _ rfl) (by simp) ?_
  refine AllReadyH.cons ho23 (fun K hK => ?_) AllReadyH.nil
  refine RegN.store65 hg23 hp23 hd23 rfl rfl b10 ?_
  refine hK.out _ _ ((hSof _ (below_set3 hB ge10 _ _ _))) (fun _ => ?_)
  clear hK K hHeld
  have hB' := below_set3 hB ge10 (.int .i64 r) (.int .i64 rc) (.bool false)
  have n7 := Blk.far3 b7 ne7_10 (.int .i64 r) (.int .i64 rc) (.bool false)
  have n8 := Blk.far3 b8 ne8_10 (.int .i64 r) (.int .i64 rc) (.bool false)
  have n9 := Blk.far3 b9 ne9_10 (.int .i64 r) (.int .i64 rc) (.bool false)
  have n10 := Blk.set3 b10 (.int .i64 r) (.int .i64 rc) (.bool false)
  clear hB b7 b8 b9 b10
  generalize (((v2.setCell ⟨g10, 0, none⟩ (.int .i64 r)).setCell ⟨g10, 1, none⟩ (.int .i64 rc)).setCell ⟨g10, 2, none⟩ (.bool false)) = v3 at *
  have hB := hB'
  have b7 := n7
  have b8 := n8
  have b9 := n9
  have b10 := n10
  clear hB' n7 n8 n9 n10
  have hHeld := (hSof _ hB)
  refine wpAnyH_done (rdy_ hR 83 _ _ rfl) ?_ _
  exact hQ g7 g8 g9 g10 _ ge7 ge8 ge9 ge10 ne7_8 ne7_9 ne7_10 ne8_9 ne8_10 ne9_10 b7 b8 b9 b10 hB
omit hup hdown hleft hahead in
set_option maxRecDepth 100000 in
theorem node4_4x7x8x9 (g7 : Nat) (g8 : Nat) (g9 : Nat) (w : World) (hB : Below w0.heap.size w0 w) (ge7 : w0.heap.size ≤ g7) (b7 : Blk w g7 65 #[.int .i64 0, .int .i64 0, .bool false]) (ge8 : w0.heap.size ≤ g8) (b8 : Blk w g8 65 #[.int .i64 0, .int .i64 0, .bool false]) (ge9 : w0.heap.size ≤ g9) (b9 : Blk w g9 65 #[.int .i64 0, .int .i64 0, .bool false]) (ne7_8 : g7 ≠ g8) (ne7_9 : g7 ≠ g9) (ne8_9 : g8 ≠ g9) :
    wpAnyH Try.prog .any ops Q S 5 #[true, true, true, true, true, true, true, true, true, true, true, true, true, true, true, true, true, true, true, false, false, false, false, false] ({ tmps := #[x0, x1, .int .i64 n, .pointer (some ⟨g3, 0, none⟩), .pointer (some ⟨g4, 0, none⟩), undef, x6, .pointer (some ⟨g7, 0, none⟩), .pointer (some ⟨g8, 0, none⟩), .pointer (some ⟨g9, 0, none⟩), undef, undef, x12, x13, x14, x15, x16, x17, x18, x19, x20, x21, x22, x23, (.agg #[.int .i64 R, .int .i64 C, .int .i64 T, .int .i64 B, .bool o]), (.agg #[.int .i64 r, .int .i64 c, .bool q]), (.int .i64 n), .agg #[.int .i64 u, .int .i64 c, .bool false], (.agg #[.int .i64 R, .int .i64 C, .int .i64 T, .int .i64 B, .bool o]), (.agg #[.int .i64 r, .int .i64 c, .bool q]), (.int .i64 n), .agg #[.int .i64 d, .int .i64 c, .bool false], (.agg #[.int .i64 R, .int .i64 C, .int .i64 T, .int .i64 B, .bool o]), (.agg #[.int .i64 r, .int .i64 c, .bool q]), (.int .i64 n), .agg #[.int .i64 r, .int .i64 lc, .bool false], (.agg #[.int .i64 R, .int .i64 C, .int .i64 T, .int .i64 B, .bool o]), (.agg #[.int .i64 r, .int .i64 c, .bool q]), (.int .i64 n), .agg #[.int .i64 r, .int .i64 rc, .bool false], undef, undef, undef, undef, undef, undef, undef, undef, undef, undef, undef, undef, undef, undef, undef, undef, undef, undef, undef, undef, undef, undef, undef, undef, undef, undef, undef, undef, undef, undef, undef, undef, undef, undef, undef, undef, undef, undef, undef, undef, undef, undef, undef, undef, undef, undef, undef, undef, undef, undef, undef, undef, undef, undef, undef, undef, undef], defers := [] }) w := by
  obtain ⟨o19, ho19, hg19, hp19, hd19⟩ := id I19
  refine wpAnyH_ready (rs := [19]) (rdy_ hR 0 _ _ rfl) (by simp) ?_
  refine AllReadyH.cons ho19 (fun K hK => ?_) ?_
  · refine RegN.alloc65 hg19 hp19 hd19 ?_
    simp only [Act.put, List.setIfInBounds_toArray, List.set_cons_zero, List.set_cons_succ]
    exact hK.out _ _ ((hSof _ (hB.alloc hB.size _))) (fun _ => node4_4x7x8x9x10 hR I16 I17 I18 I19 I3 I7 I11 I15 I20 I21 I22 I23 hSof hQ g7 g8 g9 w.heap.size _ (hB.alloc hB.size _) ge7 (b7.alloc _) ge8 (b8.alloc _) ge9 (b9.alloc _) hB.size (Blk.new w 65 _) ne7_8 ne7_9 (Nat.ne_of_lt b7.lt) ne8_9 (Nat.ne_of_lt b8.lt) (Nat.ne_of_lt b9.lt))
  exact AllReadyH.nil
omit hup hdown hleft hahead in
set_option maxRecDepth 100000 in
theorem node4_4x7x8x10 (g7 : Nat) (g8 : Nat) (g10 : Nat) (w : World) (hB : Below w0.heap.size w0 w) (ge7 : w0.heap.size ≤ g7) (b7 : Blk w g7 65 #[.int .i64 0, .int .i64 0, .bool false]) (ge8 : w0.heap.size ≤ g8) (b8 : Blk w g8 65 #[.int .i64 0, .int .i64 0, .bool false]) (ge10 : w0.heap.size ≤ g10) (b10 : Blk w g10 65 #[.int .i64 0, .int .i64 0, .bool false]) (ne7_8 : g7 ≠ g8) (ne7_10 : g7 ≠ g10) (ne8_10 : g8 ≠ g10) :
    wpAnyH Try.prog .any ops Q S 5 #[true, true, true, true, true, true, true, true, true, true, true, true, true, true, true, true, true, true, false, true, false, false, false, false] ({ tmps := #[x0, x1, .int .i64 n, .pointer (some ⟨g3, 0, none⟩), .pointer (some ⟨g4, 0, none⟩), undef, x6, .pointer (some ⟨g7, 0, none⟩), .pointer (some ⟨g8, 0, none⟩), undef, .pointer (some ⟨g10, 0, none⟩), undef, x12, x13, x14, x15, x16, x17, x18, x19, x20, x21, x22, x23, (.agg #[.int .i64 R, .int .i64 C, .int .i64 T, .int .i64 B, .bool o]), (.agg #[.int .i64 r, .int .i64 c, .bool q]), (.int .i64 n), .agg #[.int .i64 u, .int .i64 c, .bool false], (.agg #[.int .i64 R, .int .i64 C, .int .i64 T, .int .i64 B, .bool o]), (.agg #[.int .i64 r, .int .i64 c, .bool q]), (.int .i64 n), .agg #[.int .i64 d, .int .i64 c, .bool false], (.agg #[.int .i64 R, .int .i64 C, .int .i64 T, .int .i64 B, .bool o]), (.agg #[.int .i64 r, .int .i64 c, .bool q]), (.int .i64 n), .agg #[.int .i64 r, .int .i64 lc, .bool false], (.agg #[.int .i64 R, .int .i64 C, .int .i64 T, .int .i64 B, .bool o]), (.agg #[.int .i64 r, .int .i64 c, .bool q]), (.int .i64 n), .agg #[.int .i64 r, .int .i64 rc, .bool false], undef, undef, undef, undef, undef, undef, undef, undef, undef, undef, undef, undef, undef, undef, undef, undef, undef, undef, undef, undef, undef, undef, undef, undef, undef, undef, undef, undef, undef, undef, undef, undef, undef, undef, undef, undef, undef, undef, undef, undef, undef, undef, undef, undef, undef, undef, undef, undef, undef, undef, undef, undef, undef, undef, undef, undef, undef], defers := [] }) w := by
  obtain ⟨o18, ho18, hg18, hp18, hd18⟩ := id I18
  refine wpAnyH_ready (rs := [18]) (rdy_ hR 1 _ _ rfl) (by simp) ?_
  refine AllReadyH.cons ho18 (fun K hK => ?_) ?_
  · refine RegN.alloc65 hg18 hp18 hd18 ?_
    simp only [Act.put, List.setIfInBounds_toArray, List.set_cons_zero, List.set_cons_succ]
    exact hK.out _ _ ((hSof _ (hB.alloc hB.size _))) (fun _ => node4_4x7x8x9x10 hR I16 I17 I18 I19 I3 I7 I11 I15 I20 I21 I22 I23 hSof hQ g7 g8 w.heap.size g10 _ (hB.alloc hB.size _) ge7 (b7.alloc _) ge8 (b8.alloc _) hB.size (Blk.new w 65 _) ge10 (b10.alloc _) ne7_8 (Nat.ne_of_lt b7.lt) ne7_10 (Nat.ne_of_lt b8.lt) ne8_10 (Nat.ne_of_gt b10.lt))
  exact AllReadyH.nil
omit hup hdown hleft hahead in
set_option maxRecDepth 100000 in
theorem node4_4x7x9x10 (g7 : Nat) (g9 : Nat) (g10 : Nat) (w : World) (hB : Below w0.heap.size w0 w) (ge7 : w0.heap.size ≤ g7) (b7 : Blk w g7 65 #[.int .i64 0, .int .i64 0, .bool false]) (ge9 : w0.heap.size ≤ g9) (b9 : Blk w g9 65 #[.int .i64 0, .int .i64 0, .bool false]) (ge10 : w0.heap.size ≤ g10) (b10 : Blk w g10 65 #[.int .i64 0, .int .i64 0, .bool false]) (ne7_9 : g7 ≠ g9) (ne7_10 : g7 ≠ g10) (ne9_10 : g9 ≠ g10) :
    wpAnyH Try.prog .any ops Q S 5 #[true, true, true, true, true, true, true, true, true, true, true, true, true, true, true, true, true, false, true, true, false, false, false, false] ({ tmps := #[x0, x1, .int .i64 n, .pointer (some ⟨g3, 0, none⟩), .pointer (some ⟨g4, 0, none⟩), undef, x6, .pointer (some ⟨g7, 0, none⟩), undef, .pointer (some ⟨g9, 0, none⟩), .pointer (some ⟨g10, 0, none⟩), undef, x12, x13, x14, x15, x16, x17, x18, x19, x20, x21, x22, x23, (.agg #[.int .i64 R, .int .i64 C, .int .i64 T, .int .i64 B, .bool o]), (.agg #[.int .i64 r, .int .i64 c, .bool q]), (.int .i64 n), .agg #[.int .i64 u, .int .i64 c, .bool false], (.agg #[.int .i64 R, .int .i64 C, .int .i64 T, .int .i64 B, .bool o]), (.agg #[.int .i64 r, .int .i64 c, .bool q]), (.int .i64 n), .agg #[.int .i64 d, .int .i64 c, .bool false], (.agg #[.int .i64 R, .int .i64 C, .int .i64 T, .int .i64 B, .bool o]), (.agg #[.int .i64 r, .int .i64 c, .bool q]), (.int .i64 n), .agg #[.int .i64 r, .int .i64 lc, .bool false], (.agg #[.int .i64 R, .int .i64 C, .int .i64 T, .int .i64 B, .bool o]), (.agg #[.int .i64 r, .int .i64 c, .bool q]), (.int .i64 n), .agg #[.int .i64 r, .int .i64 rc, .bool false], undef, undef, undef, undef, undef, undef, undef, undef, undef, undef, undef, undef, undef, undef, undef, undef, undef, undef, undef, undef, undef, undef, undef, undef, undef, undef, undef, undef, undef, undef, undef, undef, undef, undef, undef, undef, undef, undef, undef, undef, undef, undef, undef, undef, undef, undef, undef, undef, undef, undef, undef, undef, undef, undef, undef, undef, undef], defers := [] }) w := by
  obtain ⟨o17, ho17, hg17, hp17, hd17⟩ := id I17
  refine wpAnyH_ready (rs := [17]) (rdy_ hR 2 _ _ rfl) (by simp) ?_
  refine AllReadyH.cons ho17 (fun K hK => ?_) ?_
  · refine RegN.alloc65 hg17 hp17 hd17 ?_
    simp only [Act.put, List.setIfInBounds_toArray, List.set_cons_zero, List.set_cons_succ]
    exact hK.out _ _ ((hSof _ (hB.alloc hB.size _))) (fun _ => node4_4x7x8x9x10 hR I16 I17 I18 I19 I3 I7 I11 I15 I20 I21 I22 I23 hSof hQ g7 w.heap.size g9 g10 _ (hB.alloc hB.size _) ge7 (b7.alloc _) hB.size (Blk.new w 65 _) ge9 (b9.alloc _) ge10 (b10.alloc _) (Nat.ne_of_lt b7.lt) ne7_9 ne7_10 (Nat.ne_of_gt b9.lt) (Nat.ne_of_gt b10.lt) ne9_10)
  exact AllReadyH.nil
omit hup hdown hleft hahead in
set_option maxRecDepth 100000 in
theorem node4_4x8x9x10 (g8 : Nat) (g9 : Nat) (g10 : Nat) (w : World) (hB : Below w0.heap.size w0 w) (ge8 : w0.heap.size ≤ g8) (b8 : Blk w g8 65 #[.int .i64 0, .int .i64 0, .bool false]) (ge9 : w0.heap.size ≤ g9) (b9 : Blk w g9 65 #[.int .i64 0, .int .i64 0, .bool false]) (ge10 : w0.heap.size ≤ g10) (b10 : Blk w g10 65 #[.int .i64 0, .int .i64 0, .bool false]) (ne8_9 : g8 ≠ g9) (ne8_10 : g8 ≠ g10) (ne9_10 : g9 ≠ g10) :
    wpAnyH Try.prog .any ops Q S 5 #[true, true, true, true, true, true, true, true, true, true, true, true, true, true, true, true, false, true, true, true, false, false, false, false] ({ tmps := #[x0, x1, .int .i64 n, .pointer (some ⟨g3, 0, none⟩), .pointer (some ⟨g4, 0, none⟩), undef, x6, undef, .pointer (some ⟨g8, 0, none⟩), .pointer (some ⟨g9, 0, none⟩), .pointer (some ⟨g10, 0, none⟩), undef, x12, x13, x14, x15, x16, x17, x18, x19, x20, x21, x22, x23, (.agg #[.int .i64 R, .int .i64 C, .int .i64 T, .int .i64 B, .bool o]), (.agg #[.int .i64 r, .int .i64 c, .bool q]), (.int .i64 n), .agg #[.int .i64 u, .int .i64 c, .bool false], (.agg #[.int .i64 R, .int .i64 C, .int .i64 T, .int .i64 B, .bool o]), (.agg #[.int .i64 r, .int .i64 c, .bool q]), (.int .i64 n), .agg #[.int .i64 d, .int .i64 c, .bool false], (.agg #[.int .i64 R, .int .i64 C, .int .i64 T, .int .i64 B, .bool o]), (.agg #[.int .i64 r, .int .i64 c, .bool q]), (.int .i64 n), .agg #[.int .i64 r, .int .i64 lc, .bool false], (.agg #[.int .i64 R, .int .i64 C, .int .i64 T, .int .i64 B, .bool o]), (.agg #[.int .i64 r, .int .i64 c, .bool q]), (.int .i64 n), .agg #[.int .i64 r, .int .i64 rc, .bool false], undef, undef, undef, undef, undef, undef, undef, undef, undef, undef, undef, undef, undef, undef, undef, undef, undef, undef, undef, undef, undef, undef, undef, undef, undef, undef, undef, undef, undef, undef, undef, undef, undef, undef, undef, undef, undef, undef, undef, undef, undef, undef, undef, undef, undef, undef, undef, undef, undef, undef, undef, undef, undef, undef, undef, undef, undef], defers := [] }) w := by
  obtain ⟨o16, ho16, hg16, hp16, hd16⟩ := id I16
  refine wpAnyH_ready (rs := [16]) (rdy_ hR 3 _ _ rfl) (by simp) ?_
  refine AllReadyH.cons ho16 (fun K hK => ?_) ?_
  · refine RegN.alloc65 hg16 hp16 hd16 ?_
    simp only [Act.put, List.setIfInBounds_toArray, List.set_cons_zero, List.set_cons_succ]
    exact hK.out _ _ ((hSof _ (hB.alloc hB.size _))) (fun _ => node4_4x7x8x9x10 hR I16 I17 I18 I19 I3 I7 I11 I15 I20 I21 I22 I23 hSof hQ w.heap.size g8 g9 g10 _ (hB.alloc hB.size _) hB.size (Blk.new w 65 _) ge8 (b8.alloc _) ge9 (b9.alloc _) ge10 (b10.alloc _) (Nat.ne_of_gt b8.lt) (Nat.ne_of_gt b9.lt) (Nat.ne_of_gt b10.lt) ne8_9 ne8_10 ne9_10)
  exact AllReadyH.nil
omit hup hdown hleft hahead in
set_option maxRecDepth 100000 in
theorem node4_4x7x8 (g7 : Nat) (g8 : Nat) (w : World) (hB : Below w0.heap.size w0 w) (ge7 : w0.heap.size ≤ g7) (b7 : Blk w g7 65 #[.int .i64 0, .int .i64 0, .bool false]) (ge8 : w0.heap.size ≤ g8) (b8 : Blk w g8 65 #[.int .i64 0, .int .i64 0, .bool false]) (ne7_8 : g7 ≠ g8) :
    wpAnyH Try.prog .any ops Q S 6 #[true, true, true, true, true, true, true, true, true, true, true, true, true, true, true, true, true, true, false, false, false, false, false, false] ({ tmps := #[x0, x1, .int .i64 n, .pointer (some ⟨g3, 0, none⟩), .pointer (some ⟨g4, 0, none⟩), undef, x6, .pointer (some ⟨g7, 0, none⟩), .pointer (some ⟨g8, 0, none⟩), undef, undef, undef, x12, x13, x14, x15, x16, x17, x18, x19, x20, x21, x22, x23, (.agg #[.int .i64 R, .int .i64 C, .int .i64 T, .int .i64 B, .bool o]), (.agg #[.int .i64 r, .int .i64 c, .bool q]), (.int .i64 n), .agg #[.int .i64 u, .int .i64 c, .bool false], (.agg #[.int .i64 R, .int .i64 C, .int .i64 T, .int .i64 B, .bool o]), (.agg #[.int .i64 r, .int .i64 c, .bool q]), (.int .i64 n), .agg #[.int .i64 d, .int .i64 c, .bool false], (.agg #[.int .i64 R, .int .i64 C, .int .i64 T, .int .i64 B, .bool o]), (.agg #[.int .i64 r, .int .i64 c, .bool q]), (.int .i64 n), .agg #[.int .i64 r, .int .i64 lc, .bool false], (.agg #[.int .i64 R, .int .i64 C, .int .i64 T, .int .i64 B, .bool o]), (.agg #[.int .i64 r, .int .i64 c, .bool q]), (.int .i64 n), .agg #[.int .i64 r, .int .i64 rc, .bool false], undef, undef, undef, undef, undef, undef, undef, undef, undef, undef, undef, undef, undef, undef, undef, undef, undef, undef, undef, undef, undef, undef, undef, undef, undef, undef, undef, undef, undef, undef, undef, undef, undef, undef, undef, undef, undef, undef, undef, undef, undef, undef, undef, undef, undef, undef, undef, undef, undef, undef, undef, undef, undef, undef, undef, undef, undef], defers := [] }) w := by
  obtain ⟨o18, ho18, hg18, hp18, hd18⟩ := id I18
  obtain ⟨o19, ho19, hg19, hp19, hd19⟩ := id I19
  refine wpAnyH_ready (rs := [18, 19]) (rdy_ hR 4 _ _ rfl) (by simp) ?_
  refine AllReadyH.cons ho18 (fun K hK => ?_) ?_
  · refine RegN.alloc65 hg18 hp18 hd18 ?_
    simp only [Act.put, List.setIfInBounds_toArray, List.set_cons_zero, List.set_cons_succ]
    exact hK.out _ _ ((hSof _ (hB.alloc hB.size _))) (fun _ => node4_4x7x8x9 hR I16 I17 I18 I19 I3 I7 I11 I15 I20 I21 I22 I23 hSof hQ g7 g8 w.heap.size _ (hB.alloc hB.size _) ge7 (b7.alloc _) ge8 (b8.alloc _) hB.size (Blk.new w 65 _) ne7_8 (Nat.ne_of_lt b7.lt) (Nat.ne_of_lt b8.lt))
  refine AllReadyH.cons ho19 (fun K hK => ?_) ?_
  · refine RegN.alloc65 hg19 hp19 hd19 ?_
    simp only [Act.put, List.setIfInBounds_toArray, List.set_cons_zero, List.set_cons_succ]
    exact hK.out _ _ ((hSof _ (hB.alloc hB.size _))) (fun _ => node4_4x7x8x10 hR I16 I17 I18 I19 I3 I7 I11 I15 I20 I21 I22 I23 hSof hQ g7 g8 w.heap.size _ (hB.alloc hB.size _) ge7 (b7.alloc _) ge8 (b8.alloc _) hB.size (Blk.new w 65 _) ne7_8 (Nat.ne_of_lt b7.lt) (Nat.ne_of_lt b8.lt))
  exact AllReadyH.nil
omit hup hdown hleft hahead in
set_option maxRecDepth 100000 in
theorem node4_4x7x9 (g7 : Nat) (g9 : Nat) (w : World) (hB : Below w0.heap.size w0 w) (ge7 : w0.heap.size ≤ g7) (b7 : Blk w g7 65 #[.int .i64 0, .int .i64 0, .bool false]) (ge9 : w0.heap.size ≤ g9) (b9 : Blk w g9 65 #[.int .i64 0, .int .i64 0, .bool false]) (ne7_9 : g7 ≠ g9) :
    wpAnyH Try.prog .any ops Q S 6 #[true, true, true, true, true, true, true, true, true, true, true, true, true, true, true, true, true, false, true, false, false, false, false, false] ({ tmps := #[x0, x1, .int .i64 n, .pointer (some ⟨g3, 0, none⟩), .pointer (some ⟨g4, 0, none⟩), undef, x6, .pointer (some ⟨g7, 0, none⟩), undef, .pointer (some ⟨g9, 0, none⟩), undef, undef, x12, x13, x14, x15, x16, x17, x18, x19, x20, x21, x22, x23, (.agg #[.int .i64 R, .int .i64 C, .int .i64 T, .int .i64 B, .bool o]), (.agg #[.int .i64 r, .int .i64 c, .bool q]), (.int .i64 n), .agg #[.int .i64 u, .int .i64 c, .bool false], (.agg #[.int .i64 R, .int .i64 C, .int .i64 T, .int .i64 B, .bool o]), (.agg #[.int .i64 r, .int .i64 c, .bool q]), (.int .i64 n), .agg #[.int .i64 d, .int .i64 c, .bool false], (.agg #[.int .i64 R, .int .i64 C, .int .i64 T, .int .i64 B, .bool o]), (.agg #[.int .i64 r, .int .i64 c, .bool q]), (.int .i64 n), .agg #[.int .i64 r, .int .i64 lc, .bool false], (.agg #[.int .i64 R, .int .i64 C, .int .i64 T, .int .i64 B, .bool o]), (.agg #[.int .i64 r, .int .i64 c, .bool q]), (.int .i64 n), .agg #[.int .i64 r, .int .i64 rc, .bool false], undef, undef, undef, undef, undef, undef, undef, undef, undef, undef, undef, undef, undef, undef, undef, undef, undef, undef, undef, undef, undef, undef, undef, undef, undef, undef, undef, undef, undef, undef, undef, undef, undef, undef, undef, undef, undef, undef, undef, undef, undef, undef, undef, undef, undef, undef, undef, undef, undef, undef, undef, undef, undef, undef, undef, undef, undef], defers := [] }) w := by
  obtain ⟨o17, ho17, hg17, hp17, hd17⟩ := id I17
  obtain ⟨o19, ho19, hg19, hp19, hd19⟩ := id I19
  refine wpAnyH_ready (rs := [17, 19]) (rdy_ hR 5 _ _ rfl) (by simp) ?_
  refine AllReadyH.cons ho17 (fun K hK => ?_) ?_
  · refine RegN.alloc65 hg17 hp17 hd17 ?_
    simp only [Act.put, List.setIfInBounds_toArray, List.set_cons_zero, List.set_cons_succ]
    exact hK.out _ _ ((hSof _ (hB.alloc hB.size _))) (fun _ => node4_4x7x8x9 hR I16 I17 I18 I19 I3 I7 I11 I15 I20 I21 I22 I23 hSof hQ g7 w.heap.size g9 _ (hB.alloc hB.size _) ge7 (b7.alloc _) hB.size (Blk.new w 65 _) ge9 (b9.alloc _) (Nat.ne_of_lt b7.lt) ne7_9 (Nat.ne_of_gt b9.lt))
  refine AllReadyH.cons ho19 (fun K hK => ?_) ?_
  · refine RegN.alloc65 hg19 hp19 hd19 ?_
    simp only [Act.put, List.setIfInBounds_toArray, List.set_cons_zero, List.set_cons_succ]
    exact hK.out _ _ ((hSof _ (hB.alloc hB.size _))) (fun _ => node4_4x7x9x10 hR I16 I17 I18 I19 I3 I7 I11 I15 I20 I21 I22 I23 hSof hQ g7 g9 w.heap.size _ (hB.alloc hB.size _) ge7 (b7.alloc _) ge9 (b9.alloc _) hB.size (Blk.new w 65 _) ne7_9 (Nat.ne_of_lt b7.lt) (Nat.ne_of_lt b9.lt))
  exact AllReadyH.nil
omit hup hdown hleft hahead in
set_option maxRecDepth 100000 in
theorem node4_4x7x10 (g7 : Nat) (g10 : Nat) (w : World) (hB : Below w0.heap.size w0 w) (ge7 : w0.heap.size ≤ g7) (b7 : Blk w g7 65 #[.int .i64 0, .int .i64 0, .bool false]) (ge10 : w0.heap.size ≤ g10) (b10 : Blk w g10 65 #[.int .i64 0, .int .i64 0, .bool false]) (ne7_10 : g7 ≠ g10) :
    wpAnyH Try.prog .any ops Q S 6 #[true, true, true, true, true, true, true, true, true, true, true, true, true, true, true, true, true, false, false, true, false, false, false, false] ({ tmps := #[x0, x1, .int .i64 n, .pointer (some ⟨g3, 0, none⟩), .pointer (some ⟨g4, 0, none⟩), undef, x6, .pointer (some ⟨g7, 0, none⟩), undef, undef, .pointer (some ⟨g10, 0, none⟩), undef, x12, x13, x14, x15, x16, x17, x18, x19, x20, x21, x22, x23, (.agg #[.int .i64 R, .int .i64 C, .int .i64 T, .int .i64 B, .bool o]), (.agg #[.int .i64 r, .int .i64 c, .bool q]), (.int .i64 n), .agg #[.int .i64 u, .int .i64 c, .bool false], (.agg #[.int .i64 R, .int .i64 C, .int .i64 T, .int .i64 B, .bool o]), (.agg #[.int .i64 r, .int .i64 c, .bool q]), (.int .i64 n), .agg #[.int .i64 d, .int .i64 c, .bool false], (.agg #[.int .i64 R, .int .i64 C, .int .i64 T, .int .i64 B, .bool o]), (.agg #[.int .i64 r, .int .i64 c, .bool q]), (.int .i64 n), .agg #[.int .i64 r, .int .i64 lc, .bool false], (.agg #[.int .i64 R, .int .i64 C, .int .i64 T, .int .i64 B, .bool o]), (.agg #[.int .i64 r, .int .i64 c, .bool q]), (.int .i64 n), .agg #[.int .i64 r, .int .i64 rc, .bool false], undef, undef, undef, undef, undef, undef, undef, undef, undef, undef, undef, undef, undef, undef, undef, undef, undef, undef, undef, undef, undef, undef, undef, undef, undef, undef, undef, undef, undef, undef, undef, undef, undef, undef, undef, undef, undef, undef, undef, undef, undef, undef, undef, undef, undef, undef, undef, undef, undef, undef, undef, undef, undef, undef, undef, undef, undef], defers := [] }) w := by
  obtain ⟨o17, ho17, hg17, hp17, hd17⟩ := id I17
  obtain ⟨o18, ho18, hg18, hp18, hd18⟩ := id I18
  refine wpAnyH_ready (rs := [17, 18]) (rdy_ hR 6 _ _ rfl) (by simp) ?_
  refine AllReadyH.cons ho17 (fun K hK => ?_) ?_
  · refine RegN.alloc65 hg17 hp17 hd17 ?_
    simp only [Act.put, List.setIfInBounds_toArray, List.set_cons_zero, List.set_cons_succ]
    exact hK.out _ _ ((hSof _ (hB.alloc hB.size _))) (fun _ => node4_4x7x8x10 hR I16 I17 I18 I19 I3 I7 I11 I15 I20 I21 I22 I23 hSof hQ g7 w.heap.size g10 _ (hB.alloc hB.size _) ge7 (b7.alloc _) hB.size (Blk.new w 65 _) ge10 (b10.alloc _) (Nat.ne_of_lt b7.lt) ne7_10 (Nat.ne_of_gt b10.lt))
  refine AllReadyH.cons ho18 (fun K hK => ?_) ?_
  · refine RegN.alloc65 hg18 hp18 hd18 ?_
    simp only [Act.put, List.setIfInBounds_toArray, List.set_cons_zero, List.set_cons_succ]
    exact hK.out _ _ ((hSof _ (hB.alloc hB.size _))) (fun _ => node4_4x7x9x10 hR I16 I17 I18 I19 I3 I7 I11 I15 I20 I21 I22 I23 hSof hQ g7 w.heap.size g10 _ (hB.alloc hB.size _) ge7 (b7.alloc _) hB.size (Blk.new w 65 _) ge10 (b10.alloc _) (Nat.ne_of_lt b7.lt) ne7_10 (Nat.ne_of_gt b10.lt))
  exact AllReadyH.nil
omit hup hdown hleft hahead in
set_option maxRecDepth 100000 in
theorem node4_4x8x9 (g8 : Nat) (g9 : Nat) (w : World) (hB : Below w0.heap.size w0 w) (ge8 : w0.heap.size ≤ g8) (b8 : Blk w g8 65 #[.int .i64 0, .int .i64 0, .bool false]) (ge9 : w0.heap.size ≤ g9) (b9 : Blk w g9 65 #[.int .i64 0, .int .i64 0, .bool false]) (ne8_9 : g8 ≠ g9) :
    wpAnyH Try.prog .any ops Q S 6 #[true, true, true, true, true, true, true, true, true, true, true, true, true, true, true, true, false, true, true, false, false, false, false, false] ({ tmps := #[x0, x1, .int .i64 n, .pointer (some ⟨g3, 0, none⟩), .pointer (some ⟨g4, 0, none⟩), undef, x6, undef, .pointer (some ⟨g8, 0, none⟩), .pointer (some ⟨g9, 0, none⟩), undef, undef, x12, x13, x14, x15, x16, x17, x18, x19, x20, x21, x22, x23, (.agg #[.int .i64 R, .int .i64 C, .int .i64 T, .int .i64 B, .bool o]), (.agg #[.int .i64 r, .int .i64 c, .bool q]), (.int .i64 n), .agg #[.int .i64 u, .int .i64 c, .bool false], (.agg #[.int .i64 R, .int .i64 C, .int .i64 T, .int .i64 B, .bool o]), (.agg #[.int .i64 r, .int .i64 c, .bool q]), (.int .i64 n), .agg #[.int .i64 d, .int .i64 c, .bool false], (.agg #[.int .i64 R, .int .i64 C, .int .i64 T, .int .i64 B, .bool o]), (.agg #[.int .i64 r, .int .i64 c, .bool q]), (.int .i64 n), .agg #[.int .i64 r, .int .i64 lc, .bool false], (.agg #[.int .i64 R, .int .i64 C, .int .i64 T, .int .i64 B, .bool o]), (.agg #[.int .i64 r, .int .i64 c, .bool q]), (.int .i64 n), .agg #[.int .i64 r, .int .i64 rc, .bool false], undef, undef, undef, undef, undef, undef, undef, undef, undef, undef, undef, undef, undef, undef, undef, undef, undef, undef, undef, undef, undef, undef, undef, undef, undef, undef, undef, undef, undef, undef, undef, undef, undef, undef, undef, undef, undef, undef, undef, undef, undef, undef, undef, undef, undef, undef, undef, undef, undef, undef, undef, undef, undef, undef, undef, undef, undef], defers := [] }) w := by
  obtain ⟨o16, ho16, hg16, hp16, hd16⟩ := id I16
  obtain ⟨o19, ho19, hg19, hp19, hd19⟩ := id I19
  refine wpAnyH_ready (rs := [16, 19]) (rdy_ hR 7 _ _ rfl) (by simp) ?_
  refine AllReadyH.cons ho16 (fun K hK => ?_) ?_
  · refine RegN.alloc65 hg16 hp16 hd16 ?_
    simp only [Act.put, List.setIfInBounds_toArray, List.set_cons_zero, List.set_cons_succ]
    exact hK.out _ _ ((hSof _ (hB.alloc hB.size _))) (fun _ => node4_4x7x8x9 hR I16 I17 I18 I19 I3 I7 I11 I15 I20 I21 I22 I23 hSof hQ w.heap.size g8 g9 _ (hB.alloc hB.size _) hB.size (Blk.new w 65 _) ge8 (b8.alloc _) ge9 (b9.alloc _) (Nat.ne_of_gt b8.lt) (Nat.ne_of_gt b9.lt) ne8_9)
  refine AllReadyH.cons ho19 (fun K hK => ?_) ?_
  · refine RegN.alloc65 hg19 hp19 hd19 ?_
    simp only [Act.put, List.setIfInBounds_toArray, List.set_cons_zero, List.set_cons_succ]
    exact hK.out _ _ ((hSof _ (hB.alloc hB.size _))) (fun _ => node4_4x8x9x10 hR I16 I17 I18 I19 I3 I7 I11 I15 I20 I21 I22 I23 hSof hQ g8 g9 w.heap.size _ (hB.alloc hB.size _) ge8 (b8.alloc _) ge9 (b9.alloc _) hB.size (Blk.new w 65 _) ne8_9 (Nat.ne_of_lt b8.lt) (Nat.ne_of_lt b9.lt))
  exact AllReadyH.nil
omit hup hdown hleft hahead in
set_option maxRecDepth 100000 in
theorem node4_4x8x10 (g8 : Nat) (g10 : Nat) (w : World) (hB : Below w0.heap.size w0 w) (ge8 : w0.heap.size ≤ g8) (b8 : Blk w g8 65 #[.int .i64 0, .int .i64 0, .bool false]) (ge10 : w0.heap.size ≤ g10) (b10 : Blk w g10 65 #[.int .i64 0, .int .i64 0, .bool false]) (ne8_10 : g8 ≠ g10) :
    wpAnyH Try.prog .any ops Q S 6 #[true, true, true, true, true, true, true, true, true, true, true, true, true, true, true, true, false, true, false, true, false, false, false, false] ({ tmps := #[x0, x1, .int .i64 n, .pointer (some ⟨g3, 0, none⟩), .pointer (some ⟨g4, 0, none⟩), undef, x6, undef, .pointer (some ⟨g8, 0, none⟩), undef, .pointer (some ⟨g10, 0, none⟩), undef, x12, x13, x14, x15, x16, x17, x18, x19, x20, x21, x22, x23, (.agg #[.int .i64 R, .int .i64 C, .int .i64 T, .int .i64 B, .bool o]), (.agg #[.int .i64 r, .int .i64 c, .bool q]), (.int .i64 n), .agg #[.int .i64 u, .int .i64 c, .bool false], (.agg #[.int .i64 R, .int .i64 C, .int .i64 T, .int .i64 B, .bool o]), (.agg #[.int .i64 r, .int .i64 c, .bool q]), (.int .i64 n), .agg #[.int .i64 d, .int .i64 c, .bool false], (.agg #[.int .i64 R, .int .i64 C, .int .i64 T, .int .i64 B, .bool o]), (.agg #[.int .i64 r, .int .i64 c, .bool q]), (.int .i64 n), .agg #[.int .i64 r, .int .i64 lc, .bool false], (.agg #[.int .i64 R, .int .i64 C, .int .i64 T, .int .i64 B, .bool o]), (.agg #[.int .i64 r, .int .i64 c, .bool q]), (.int .i64 n), .agg #[.int .i64 r, .int .i64 rc, .bool false], undef, undef, undef, undef, undef, undef, undef, undef, undef, undef, undef, undef, undef, undef, undef, undef, undef, undef, undef, undef, undef, undef, undef, undef, undef, undef, undef, undef, undef, undef, undef, undef, undef, undef, undef, undef, undef, undef, undef, undef, undef, undef, undef, undef, undef, undef, undef, undef, undef, undef, undef, undef, undef, undef, undef, undef, undef], defers := [] }) w := by
  obtain ⟨o16, ho16, hg16, hp16, hd16⟩ := id I16
  obtain ⟨o18, ho18, hg18, hp18, hd18⟩ := id I18
  refine wpAnyH_ready (rs := [16, 18]) (rdy_ hR 8 _ _ rfl) (by simp) ?_
  refine AllReadyH.cons ho16 (fun K hK => ?_) ?_
  · refine RegN.alloc65 hg16 hp16 hd16 ?_
    simp only [Act.put, List.setIfInBounds_toArray, List.set_cons_zero, List.set_cons_succ]
    exact hK.out _ _ ((hSof _ (hB.alloc hB.size _))) (fun _ => node4_4x7x8x10 hR I16 I17 I18 I19 I3 I7 I11 I15 I20 I21 I22 I23 hSof hQ w.heap.size g8 g10 _ (hB.alloc hB.size _) hB.size (Blk.new w 65 _) ge8 (b8.alloc _) ge10 (b10.alloc _) (Nat.ne_of_gt b8.lt) (Nat.ne_of_gt b10.lt) ne8_10)
  refine AllReadyH.cons ho18 (fun K hK => ?_) ?_
  · refine RegN.alloc65 hg18 hp18 hd18 ?_
    simp only [Act.put, List.setIfInBounds_toArray, List.set_cons_zero, List.set_cons_succ]
    exact hK.out _ _ ((hSof _ (hB.alloc hB.size _))) (fun _ => node4_4x8x9x10 hR I16 I17 I18 I19 I3 I7 I11 I15 I20 I21 I22 I23 hSof hQ g8 w.heap.size g10 _ (hB.alloc hB.size _) ge8 (b8.alloc _) hB.size (Blk.new w 65 _) ge10 (b10.alloc _) (Nat.ne_of_lt b8.lt) ne8_10 (Nat.ne_of_gt b10.lt))
  exact AllReadyH.nil
omit hup hdown hleft hahead in
set_option maxRecDepth 100000 in
theorem node4_4x9x10 (g9 : Nat) (g10 : Nat) (w : World) (hB : Below w0.heap.size w0 w) (ge9 : w0.heap.size ≤ g9) (b9 : Blk w g9 65 #[.int .i64 0, .int .i64 0, .bool false]) (ge10 : w0.heap.size ≤ g10) (b10 : Blk w g10 65 #[.int .i64 0, .int .i64 0, .bool false]) (ne9_10 : g9 ≠ g10) :
    wpAnyH Try.prog .any ops Q S 6 #[true, true, true, true, true, true, true, true, true, true, true, true, true, true, true, true, false, false, true, true, false, false, false, false] ({ tmps := #[x0, x1, .int .i64 n, .pointer (some ⟨g3, 0, none⟩), .pointer (some ⟨g4, 0, none⟩), undef, x6, undef, undef, .pointer (some ⟨g9, 0, none⟩), .pointer (some ⟨g10, 0, none⟩), undef, x12, x13, x14, x15, x16, x17, x18, x19, x20, x21, x22, x23, (.agg #[.int .i64 R, .int .i64 C, .int .i64 T, .int .i64 B, .bool o]), (.agg #[.int .i64 r, .int .i64 c, .bool q]), (.int .i64 n), .agg #[.int .i64 u, .int .i64 c, .bool false], (.agg #[.int .i64 R, .int .i64 C, .int .i64 T, .int .i64 B, .bool o]), (.agg #[.int .i64 r, .int .i64 c, .bool q]), (.int .i64 n), .agg #[.int .i64 d, .int .i64 c, .bool false], (.agg #[.int .i64 R, .int .i64 C, .int .i64 T, .int .i64 B, .bool o]), (.agg #[.int .i64 r, .int .i64 c, .bool q]), (.int .i64 n), .agg #[.int .i64 r, .int .i64 lc, .bool false], (.agg #[.int .i64 R, .int .i64 C, .int .i64 T, .int .i64 B, .bool o]), (.agg #[.int .i64 r, .int .i64 c, .bool q]), (.int .i64 n), .agg #[.int .i64 r, .int .i64 rc, .bool false], undef, undef, undef, undef, undef, undef, undef, undef, undef, undef, undef, undef, undef, undef, undef, undef, undef, undef, undef, undef, undef, undef, undef, undef, undef, undef, undef, undef, undef, undef, undef, undef, undef, undef, undef, undef, undef, undef, undef, undef, undef, undef, undef, undef, undef, undef, undef, undef, undef, undef, undef, undef, undef, undef, undef, undef, undef], defers := [] }) w := by
  obtain ⟨o16, ho16, hg16, hp16, hd16⟩ := id I16
  obtain ⟨o17, ho17, hg17, hp17, hd17⟩ := id I17
  refine wpAnyH_ready (rs := [16, 17]) (rdy_ hR 9 _ _ rfl) (by simp) ?_
  refine AllReadyH.cons ho16 (fun K hK => ?_) ?_
  · refine RegN.alloc65 hg16 hp16 hd16 ?_
    simp only [Act.put, List.setIfInBounds_toArray, List.set_cons_zero, List.set_cons_succ]
    exact hK.out _ _ ((hSof _ (hB.alloc hB.size _))) (fun _ => node4_4x7x9x10 hR I16 I17 I18 I19 I3 I7 I11 I15 I20 I21 I22 I23 hSof hQ w.heap.size g9 g10 _ (hB.alloc hB.size _) hB.size (Blk.new w 65 _) ge9 (b9.alloc _) ge10 (b10.alloc _) (Nat.ne_of_gt b9.lt) (Nat.ne_of_gt b10.lt) ne9_10)
  refine AllReadyH.cons ho17 (fun K hK => ?_) ?_
  · refine RegN.alloc65 hg17 hp17 hd17 ?_
    simp only [Act.put, List.setIfInBounds_toArray, List.set_cons_zero, List.set_cons_succ]
    exact hK.out _ _ ((hSof _ (hB.alloc hB.size _))) (fun _ => node4_4x8x9x10 hR I16 I17 I18 I19 I3 I7 I11 I15 I20 I21 I22 I23 hSof hQ w.heap.size g9 g10 _ (hB.alloc hB.size _) hB.size (Blk.new w 65 _) ge9 (b9.alloc _) ge10 (b10.alloc _) (Nat.ne_of_gt b9.lt) (Nat.ne_of_gt b10.lt) ne9_10)
  exact AllReadyH.nil
omit hup hdown hleft hahead in
set_option maxRecDepth 100000 in
theorem node4_4x7 (g7 : Nat) (w : World) (hB : Below w0.heap.size w0 w) (ge7 : w0.heap.size ≤ g7) (b7 : Blk w g7 65 #[.int .i64 0, .int .i64 0, .bool false])  :
    wpAnyH Try.prog .any ops Q S 7 #[true, true, true, true, true, true, true, true, true, true, true, true, true, true, true, true, true, false, false, false, false, false, false, false] ({ tmps := #[x0, x1, .int .i64 n, .pointer (some ⟨g3, 0, none⟩), .pointer (some ⟨g4, 0, none⟩), undef, x6, .pointer (some ⟨g7, 0, none⟩), undef, undef, undef, undef, x12, x13, x14, x15, x16, x17, x18, x19, x20, x21, x22, x23, (.agg #[.int .i64 R, .int .i64 C, .int .i64 T, .int .i64 B, .bool o]), (.agg #[.int .i64 r, .int .i64 c, .bool q]), (.int .i64 n), .agg #[.int .i64 u, .int .i64 c, .bool false], (.agg #[.int .i64 R, .int .i64 C, .int .i64 T, .int .i64 B, .bool o]), (.agg #[.int .i64 r, .int .i64 c, .bool q]), (.int .i64 n), .agg #[.int .i64 d, .int .i64 c, .bool false], (.agg #[.int .i64 R, .int .i64 C, .int .i64 T, .int .i64 B, .bool o]), (.agg #[.int .i64 r, .int .i64 c, .bool q]), (.int .i64 n), .agg #[.int .i64 r, .int .i64 lc, .bool false], (.agg #[.int .i64 R, .int .i64 C, .int .i64 T, .int .i64 B, .bool o]), (.agg #[.int .i64 r, .int .i64 c, .bool q]), (.int .i64 n), .agg #[.int .i64 r, .int .i64 rc, .bool false], undef, undef, undef, undef, undef, undef, undef, undef, undef, undef, undef, undef, undef, undef, undef, undef, undef, undef, undef, undef, undef, undef, undef, undef, undef, undef, undef, undef, undef, undef, undef, undef, undef, undef, undef, undef, undef, undef, undef, undef, undef, undef, undef, undef, undef, undef, undef, undef, undef, undef, undef, undef, undef, undef, undef, undef, undef], defers := [] }) w := by
  obtain ⟨o17, ho17, hg17, hp17, hd17⟩ := id I17
  obtain ⟨o18, ho18, hg18, hp18, hd18⟩ := id I18
  obtain ⟨o19, ho19, hg19, hp19, hd19⟩ := id I19
  refine wpAnyH_ready (rs := [17, 18, 19]) (rdy_ hR 10 _ _ rfl) (by simp) ?_
  refine AllReadyH.cons ho17 (fun K hK => ?_) ?_
  · refine RegN.alloc65 hg17 hp17 hd17 ?_
    simp only [Act.put, List.setIfInBounds_toArray, List.set_cons_zero, List.set_cons_succ]
    exact hK.out _ _ ((hSof _ (hB.alloc hB.size _))) (fun _ => node4_4x7x8 hR I16 I17 I18 I19 I3 I7 I11 I15 I20 I21 I22 I23 hSof hQ g7 w.heap.size _ (hB.alloc hB.size _) ge7 (b7.alloc _) hB.size (Blk.new w 65 _) (Nat.ne_of_lt b7.lt))
  refine AllReadyH.cons ho18 (fun K hK => ?_) ?_
  · refine RegN.alloc65 hg18 hp18 hd18 ?_
    simp only [Act.put, List.setIfInBounds_toArray, List.set_cons_zero, List.set_cons_succ]
    exact hK.out _ _ ((hSof _ (hB.alloc hB.size _))) (fun _ => node4_4x7x9 hR I16 I17 I18 I19 I3 I7 I11 I15 I20 I21 I22 I23 hSof hQ g7 w.heap.size _ (hB.alloc hB.size _) ge7 (b7.alloc _) hB.size (Blk.new w 65 _) (Nat.ne_of_lt b7.lt))
  refine AllReadyH.cons ho19 (fun K hK => ?_) ?_
  · refine RegN.alloc65 hg19 hp19 hd19 ?_
    simp only [Act.put, List.setIfInBounds_toArray, List.set_cons_zero, List.set_cons_succ]
    exact hK.out _ _ ((hSof _ (hB.alloc hB.size _))) (fun _ => node4_4x7x10 hR I16 I17 I18 I19 I3 I7 I11 I15 I20 I21 I22 I23 hSof hQ g7 w.heap.size _ (hB.alloc hB.size _) ge7 (b7.alloc _) hB.size (Blk.new w 65 _) (Nat.ne_of_lt b7.lt))
  exact AllReadyH.nil
omit hup hdown hleft hahead in
set_option maxRecDepth 100000 in
theorem node4_4x8 (g8 : Nat) (w : World) (hB : Below w0.heap.size w0 w) (ge8 : w0.heap.size ≤ g8) (b8 : Blk w g8 65 #[.int .i64 0, .int .i64 0, .bool false])  :
    wpAnyH Try.prog .any ops Q S 7 #[true, true, true, true, true, true, true, true, true, true, true, true, true, true, true, true, false, true, false, false, false, false, false, false] ({ tmps := #[x0, x1, .int .i64 n, .pointer (some ⟨g3, 0, none⟩), .pointer (some ⟨g4, 0, none⟩), undef, x6, undef, .pointer (some ⟨g8, 0, none⟩), undef, undef, undef, x12, x13, x14, x15, x16, x17, x18, x19, x20, x21, x22, x23, (.agg #[.int .i64 R, .int .i64 C, .int .i64 T, .int .i64 B, .bool o]), (.agg #[.int .i64 r, .int .i64 c, .bool q]), (.int .i64 n), .agg #[.int .i64 u, .int .i64 c, .bool false], (.agg #[.int .i64 R, .int .i64 C, .int .i64 T, .int .i64 B, .bool o]), (.agg #[.int .i64 r, .int .i64 c, .bool q]), (.int .i64 n), .agg #[.int .i64 d, .int .i64 c, .bool false], (.agg #[.int .i64 R, .int .i64 C, .int .i64 T, .int .i64 B, .bool o]), (.agg #[.int .i64 r, .int .i64 c, .bool q]), (.int .i64 n), .agg #[.int .i64 r, .int .i64 lc, .bool false], (.agg #[.int .i64 R, .int .i64 C, .int .i64 T, .int .i64 B, .bool o]), (.agg #[.int .i64 r, .int .i64 c, .bool q]), (.int .i64 n), .agg #[.int .i64 r, .int .i64 rc, .bool false], undef, undef, undef, undef, undef, undef, undef, undef, undef, undef, undef, undef, undef, undef, undef, undef, undef, undef, undef, undef, undef, undef, undef, undef, undef, undef, undef, undef, undef, undef, undef, undef, undef, undef, undef, undef, undef, undef, undef, undef, undef, undef, undef, undef, undef, undef, undef, undef, undef, undef, undef, undef, undef, undef, undef, undef, undef], defers := [] }) w := by
  obtain ⟨o16, ho16, hg16, hp16, hd16⟩ := id I16
  obtain ⟨o18, ho18, hg18, hp18, hd18⟩ := id I18
  obtain ⟨o19, ho19, hg19, hp19, hd19⟩ := id I19
  refine wpAnyH_ready (rs := [16, 18, 19]) (rdy_ hR 11 _ _ rfl) (by simp) ?_
  refine AllReadyH.cons ho16 (fun K hK => ?_) ?_
  · refine RegN.alloc65 hg16 hp16 hd16 ?_
    simp only [Act.put, List.setIfInBounds_toArray, List.set_cons_zero, List.set_cons_succ]
    exact hK.out _ _ ((hSof _ (hB.alloc hB.size _))) (fun _ => node4_4x7x8 hR I16 I17 I18 I19 I3 I7 I11 I15 I20 I21 I22 I23 hSof hQ w.heap.size g8 _ (hB.alloc hB.size _) hB.size (Blk.new w 65 _) ge8 (b8.alloc _) (Nat.ne_of_gt b8.lt))
  refine AllReadyH.cons ho18 (fun K hK => ?_) ?_
  · refine RegN.alloc65 hg18 hp18 hd18 ?_
    simp only [Act.put, List.setIfInBounds_toArray, List.set_cons_zero, List.set_cons_succ]
    exact hK.out _ _ ((hSof _ (hB.alloc hB.size _))) (fun _ => node4_4x8x9 hR I16 I17 I18 I19 I3 I7 I11 I15 I20 I21 I22 I23 hSof hQ g8 w.heap.size _ (hB.alloc hB.size _) ge8 (b8.alloc _) hB.size (Blk.new w 65 _) (Nat.ne_of_lt b8.lt))
  refine AllReadyH.cons ho19 (fun K hK => ?_) ?_
  · refine RegN.alloc65 hg19 hp19 hd19 ?_
    simp only [Act.put, List.setIfInBounds_toArray, List.set_cons_zero, List.set_cons_succ]
    exact hK.out _ _ ((hSof _ (hB.alloc hB.size _))) (fun _ => node4_4x8x10 hR I16 I17 I18 I19 I3 I7 I11 I15 I20 I21 I22 I23 hSof hQ g8 w.heap.size _ (hB.alloc hB.size _) ge8 (b8.alloc _) hB.size (Blk.new w 65 _) (Nat.ne_of_lt b8.lt))
  exact AllReadyH.nil
omit hup hdown hleft hahead in
set_option maxRecDepth 100000 in
theorem node4_4x9 (g9 : Nat) (w : World) (hB : Below w0.heap.size w0 w) (ge9 : w0.heap.size ≤ g9) (b9 : Blk w g9 65 #[.int .i64 0, .int .i64 0, .bool false])  :
    wpAnyH Try.prog .any ops Q S 7 #[true, true, true, true, true, true, true, true, true, true, true, true, true, true, true, true, false, false, true, false, false, false, false, false] ({ tmps := #[x0, x1, .int .i64 n, .pointer (some ⟨g3, 0, none⟩), .pointer (some ⟨g4, 0, none⟩), undef, x6, undef, undef, .pointer (some ⟨g9, 0, none⟩), undef, undef, x12, x13, x14, x15, x16, x17, x18, x19, x20, x21, x22, x23, (.agg #[.int .i64 R, .int .i64 C, .int .i64 T, .int .i64 B, .bool o]), (.agg #[.int .i64 r, .int .i64 c, .bool q]), (.int .i64 n), .agg #[.int .i64 u, .int .i64 c, .bool false], (.agg #[.int .i64 R, .int .i64 C, .int .i64 T, .int .i64 B, .bool o]), (.agg #[.int .i64 r, .int .i64 c, .bool q]), (.int .i64 n), .agg #[.int .i64 d, .int .i64 c, .bool false], (.agg #[.int .i64 R, .int .i64 C, .int .i64 T, .int .i64 B, .bool o]), (.agg #[.int .i64 r, .int .i64 c, .bool q]), (.int .i64 n), .agg #[.int .i64 r, .int .i64 lc, .bool false], (.agg #[.int .i64 R, .int .i64 C, .int .i64 T, .int .i64 B, .bool o]), (.agg #[.int .i64 r, .int .i64 c, .bool q]), (.int .i64 n), .agg #[.int .i64 r, .int .i64 rc, .bool false], undef, undef, undef, undef, undef, undef, undef, undef, undef, undef, undef, undef, undef, undef, undef, undef, undef, undef, undef, undef, undef, undef, undef, undef, undef, undef, undef, undef, undef, undef, undef, undef, undef, undef, undef, undef, undef, undef, undef, undef, undef, undef, undef, undef, undef, undef, undef, undef, undef, undef, undef, undef, undef, undef, undef, undef, undef], defers := [] }) w := by
  obtain ⟨o16, ho16, hg16, hp16, hd16⟩ := id I16
  obtain ⟨o17, ho17, hg17, hp17, hd17⟩ := id I17
  obtain ⟨o19, ho19, hg19, hp19, hd19⟩ := id I19
  refine wpAnyH_ready (rs := [16, 17, 19]) (rdy_ hR 12 _ _ rfl) (by simp) ?_
  refine AllReadyH.cons ho16 (fun K hK => ?_) ?_
  · refine RegN.alloc65 hg16 hp16 hd16 ?_
    simp only [Act.put, List.setIfInBounds_toArray, List.set_cons_zero, List.set_cons_succ]
    exact hK.out _ _ ((hSof _ (hB.alloc hB.size _))) (fun _ => node4_4x7x9 hR I16 I17 I18 I19 I3 I7 I11 I15 I20 I21 I22 I23 hSof hQ w.heap.size g9 _ (hB.alloc hB.size _) hB.size (Blk.new w 65 _) ge9 (b9.alloc _) (Nat.ne_of_gt b9.lt))
  refine AllReadyH.cons ho17 (fun K hK => ?_) ?_
  · refine RegN.alloc65 hg17 hp17 hd17 ?_
    simp only [Act.put, List.setIfInBounds_toArray, List.set_cons_zero, List.set_cons_succ]
    exact hK.out _ _ ((hSof _ (hB.alloc hB.size _))) (fun _ => node4_4x8x9 hR I16 I17 I18 I19 I3 I7 I11 I15 I20 I21 I22 I23 hSof hQ w.heap.size g9 _ (hB.alloc hB.size _) hB.size (Blk.new w 65 _) ge9 (b9.alloc _) (Nat.ne_of_gt b9.lt))
  refine AllReadyH.cons ho19 (fun K hK => ?_) ?_
  · refine RegN.alloc65 hg19 hp19 hd19 ?_
    simp only [Act.put, List.setIfInBounds_toArray, List.set_cons_zero, List.set_cons_succ]
    exact hK.out _ _ ((hSof _ (hB.alloc hB.size _))) (fun _ => node4_4x9x10 hR I16 I17 I18 I19 I3 I7 I11 I15 I20 I21 I22 I23 hSof hQ g9 w.heap.size _ (hB.alloc hB.size _) ge9 (b9.alloc _) hB.size (Blk.new w 65 _) (Nat.ne_of_lt b9.lt))
  exact AllReadyH.nil
omit hup hdown hleft hahead in
set_option maxRecDepth 100000 in
theorem node4_4x10 (g10 : Nat) (w : World) (hB : Below w0.heap.size w0 w) (ge10 : w0.heap.size ≤ g10) (b10 : Blk w g10 65 #[.int .i64 0, .int .i64 0, .bool false])  :
    wpAnyH Try.prog .any ops Q S 7 #[true, true, true, true, true, true, true, true, true, true, true, true, true, true, true, true, false, false, false, true, false, false, false, false] ({ tmps := #[x0, x1, .int .i64 n, .pointer (some ⟨g3, 0, none⟩), .pointer (some ⟨g4, 0, none⟩), undef, x6, undef, undef, undef, .pointer (some ⟨g10, 0, none⟩), undef, x12, x13, x14, x15, x16, x17, x18, x19, x20, x21, x22, x23, (.agg #[.int .i64 R, .int .i64 C, .int .i64 T, .int .i64 B, .bool o]), (.agg #[.int .i64 r, .int .i64 c, .bool q]), (.int .i64 n), .agg #[.int .i64 u, .int .i64 c, .bool false], (.agg #[.int .i64 R, .int .i64 C, .int .i64 T, .int .i64 B, .bool o]), (.agg #[.int .i64 r, .int .i64 c, .bool q]), (.int .i64 n), .agg #[.int .i64 d, .int .i64 c, .bool false], (.agg #[.int .i64 R, .int .i64 C, .int .i64 T, .int .i64 B, .bool o]), (.agg #[.int .i64 r, .int .i64 c, .bool q]), (.int .i64 n), .agg #[.int .i64 r, .int .i64 lc, .bool false], (.agg #[.int .i64 R, .int .i64 C, .int .i64 T, .int .i64 B, .bool o]), (.agg #[.int .i64 r, .int .i64 c, .bool q]), (.int .i64 n), .agg #[.int .i64 r, .int .i64 rc, .bool false], undef, undef, undef, undef, undef, undef, undef, undef, undef, undef, undef, undef, undef, undef, undef, undef, undef, undef, undef, undef, undef, undef, undef, undef, undef, undef, undef, undef, undef, undef, undef, undef, undef, undef, undef, undef, undef, undef, undef, undef, undef, undef, undef, undef, undef, undef, undef, undef, undef, undef, undef, undef, undef, undef, undef, undef, undef], defers := [] }) w := by
  obtain ⟨o16, ho16, hg16, hp16, hd16⟩ := id I16
  obtain ⟨o17, ho17, hg17, hp17, hd17⟩ := id I17
  obtain ⟨o18, ho18, hg18, hp18, hd18⟩ := id I18
  refine wpAnyH_ready (rs := [16, 17, 18]) (rdy_ hR 13 _ _ rfl) (by simp) ?_
  refine AllReadyH.cons ho16 (fun K hK => ?_) ?_
  · refine RegN.alloc65 hg16 hp16 hd16 ?_
    simp only [Act.put, List.setIfInBounds_toArray, List.set_cons_zero, List.set_cons_succ]
    exact hK.out _ _ ((hSof _ (hB.alloc hB.size _))) (fun _ => node4_4x7x10 hR I16 I17 I18 I19 I3 I7 I11 I15 I20 I21 I22 I23 hSof hQ w.heap.size g10 _ (hB.alloc hB.size _) hB.size (Blk.new w 65 _) ge10 (b10.alloc _) (Nat.ne_of_gt b10.lt))
  refine AllReadyH.cons ho17 (fun K hK => ?_) ?_
  · refine RegN.alloc65 hg17 hp17 hd17 ?_
    simp only [Act.put, List.setIfInBounds_toArray, List.set_cons_zero, List.set_cons_succ]
    exact hK.out _ _ ((hSof _ (hB.alloc hB.size _))) (fun _ => node4_4x8x10 hR I16 I17 I18 I19 I3 I7 I11 I15 I20 I21 I22 I23 hSof hQ w.heap.size g10 _ (hB.alloc hB.size _) hB.size (Blk.new w 65 _) ge10 (b10.alloc _) (Nat.ne_of_gt b10.lt))
  refine AllReadyH.cons ho18 (fun K hK => ?_) ?_
  · refine RegN.alloc65 hg18 hp18 hd18 ?_
    simp only [Act.put, List.setIfInBounds_toArray, List.set_cons_zero, List.set_cons_succ]
    exact hK.out _ _ ((hSof _ (hB.alloc hB.size _))) (fun _ => node4_4x9x10 hR I16 I17 I18 I19 I3 I7 I11 I15 I20 I21 I22 I23 hSof hQ w.heap.size g10 _ (hB.alloc hB.size _) hB.size (Blk.new w 65 _) ge10 (b10.alloc _) (Nat.ne_of_gt b10.lt))
  exact AllReadyH.nil
omit hup hdown hleft hahead in
set_option maxRecDepth 100000 in
theorem node4_4  (w : World) (hB : Below w0.heap.size w0 w)   :
    wpAnyH Try.prog .any ops Q S 8 #[true, true, true, true, true, true, true, true, true, true, true, true, true, true, true, true, false, false, false, false, false, false, false, false] ({ tmps := #[x0, x1, .int .i64 n, .pointer (some ⟨g3, 0, none⟩), .pointer (some ⟨g4, 0, none⟩), undef, x6, undef, undef, undef, undef, undef, x12, x13, x14, x15, x16, x17, x18, x19, x20, x21, x22, x23, (.agg #[.int .i64 R, .int .i64 C, .int .i64 T, .int .i64 B, .bool o]), (.agg #[.int .i64 r, .int .i64 c, .bool q]), (.int .i64 n), .agg #[.int .i64 u, .int .i64 c, .bool false], (.agg #[.int .i64 R, .int .i64 C, .int .i64 T, .int .i64 B, .bool o]), (.agg #[.int .i64 r, .int .i64 c, .bool q]), (.int .i64 n), .agg #[.int .i64 d, .int .i64 c, .bool false], (.agg #[.int .i64 R, .int .i64 C, .int .i64 T, .int .i64 B, .bool o]), (.agg #[.int .i64 r, .int .i64 c, .bool q]), (.int .i64 n), .agg #[.int .i64 r, .int .i64 lc, .bool false], (.agg #[.int .i64 R, .int .i64 C, .int .i64 T, .int .i64 B, .bool o]), (.agg #[.int .i64 r, .int .i64 c, .bool q]), (.int .i64 n), .agg #[.int .i64 r, .int .i64 rc, .bool false], undef, undef, undef, undef, undef, undef, undef, undef, undef, undef, undef, undef, undef, undef, undef, undef, undef, undef, undef, undef, undef, undef, undef, undef, undef, undef, undef, undef, undef, undef, undef, undef, undef, undef, undef, undef, undef, undef, undef, undef, undef, undef, undef, undef, undef, undef, undef, undef, undef, undef, undef, undef, undef, undef, undef, undef, undef], defers := [] }) w := by
  obtain ⟨o16, ho16, hg16, hp16, hd16⟩ := id I16
  obtain ⟨o17, ho17, hg17, hp17, hd17⟩ := id I17
  obtain ⟨o18, ho18, hg18, hp18, hd18⟩ := id I18
  obtain ⟨o19, ho19, hg19, hp19, hd19⟩ := id I19
  refine wpAnyH_ready (rs := [16, 17, 18, 19]) (rdy_ hR 14 _ _ rfl) (by simp) ?_
  refine AllReadyH.cons ho16 (fun K hK => ?_) ?_
  · refine RegN.alloc65 hg16 hp16 hd16 ?_
    simp only [Act.put, List.setIfInBounds_toArray, List.set_cons_zero, List.set_cons_succ]
    exact hK.out _ _ ((hSof _ (hB.alloc hB.size _))) (fun _ => node4_4x7 hR I16 I17 I18 I19 I3 I7 I11 I15 I20 I21 I22 I23 hSof hQ w.heap.size _ (hB.alloc hB.size _) hB.size (Blk.new w 65 _) )
  refine AllReadyH.cons ho17 (fun K hK => ?_) ?_
  · refine RegN.alloc65 hg17 hp17 hd17 ?_
    simp only [Act.put, List.setIfInBounds_toArray, List.set_cons_zero, List.set_cons_succ]
    exact hK.out _ _ ((hSof _ (hB.alloc hB.size _))) (fun _ => node4_4x8 hR I16 I17 I18 I19 I3 I7 I11 I15 I20 I21 I22 I23 hSof hQ w.heap.size _ (hB.alloc hB.size _) hB.size (Blk.new w 65 _) )
  refine AllReadyH.cons ho18 (fun K hK => ?_) ?_
  · refine RegN.alloc65 hg18 hp18 hd18 ?_
    simp only [Act.put, List.setIfInBounds_toArray, List.set_cons_zero, List.set_cons_succ]
    exact hK.out _ _ ((hSof _ (hB.alloc hB.size _))) (fun _ => node4_4x9 hR I16 I17 I18 I19 I3 I7 I11 I15 I20 I21 I22 I23 hSof hQ w.heap.size _ (hB.alloc hB.size _) hB.size (Blk.new w 65 _) )
  refine AllReadyH.cons ho19 (fun K hK => ?_) ?_
  · refine RegN.alloc65 hg19 hp19 hd19 ?_
    simp only [Act.put, List.setIfInBounds_toArray, List.set_cons_zero, List.set_cons_succ]
    exact hK.out _ _ ((hSof _ (hB.alloc hB.size _))) (fun _ => node4_4x10 hR I16 I17 I18 I19 I3 I7 I11 I15 I20 I21 I22 I23 hSof hQ w.heap.size _ (hB.alloc hB.size _) hB.size (Blk.new w 65 _) )
  exact AllReadyH.nil
omit hup hdown hleft in
set_option maxRecDepth 100000 in
theorem node3_3x7x8x9x10 (g7 : Nat) (g8 : Nat) (g9 : Nat) (g10 : Nat) (w : World) (hB : Below w0.heap.size w0 w) (ge7 : w0.heap.size ≤ g7) (b7 : Blk w g7 65 #[.int .i64 0, .int .i64 0, .bool false]) (ge8 : w0.heap.size ≤ g8) (b8 : Blk w g8 65 #[.int .i64 0, .int .i64 0, .bool false]) (ge9 : w0.heap.size ≤ g9) (b9 : Blk w g9 65 #[.int .i64 0, .int .i64 0, .bool false]) (ge10 : w0.heap.size ≤ g10) (b10 : Blk w g10 65 #[.int .i64 0, .int .i64 0, .bool false]) (ne7_8 : g7 ≠ g8) (ne7_9 : g7 ≠ g9) (ne7_10 : g7 ≠ g10) (ne8_9 : g8 ≠ g9) (ne8_10 : g8 ≠ g10) (ne9_10 : g9 ≠ g10) :
    wpAnyH Try.prog .any ops Q S 5 #[true, true, true, true, true, true, true, true, true, true, true, true, true, true, true, false, true, true, true, true, false, false, false, false] ({ tmps := #[x0, x1, .int .i64 n, .pointer (some ⟨g3, 0, none⟩), .pointer (some ⟨g4, 0, none⟩), undef, x6, .pointer (some ⟨g7, 0, none⟩), .pointer (some ⟨g8, 0, none⟩), .pointer (some ⟨g9, 0, none⟩), .pointer (some ⟨g10, 0, none⟩), undef, x12, x13, x14, x15, x16, x17, x18, x19, x20, x21, x22, x23, (.agg #[.int .i64 R, .int .i64 C, .int .i64 T, .int .i64 B, .bool o]), (.agg #[.int .i64 r, .int .i64 c, .bool q]), (.int .i64 n), .agg #[.int .i64 u, .int .i64 c, .bool false], (.agg #[.int .i64 R, .int .i64 C, .int .i64 T, .int .i64 B, .bool o]), (.agg #[.int .i64 r, .int .i64 c, .bool q]), (.int .i64 n), .agg #[.int .i64 d, .int .i64 c, .bool false], (.agg #[.int .i64 R, .int .i64 C, .int .i64 T, .int .i64 B, .bool o]), (.agg #[.int .i64 r, .int .i64 c, .bool q]), (.int .i64 n), .agg #[.int .i64 r, .int .i64 lc, .bool false], (.agg #[.int .i64 R, .int .i64 C, .int .i64 T, .int .i64 B, .bool o]), (.agg #[.int .i64 r, .int .i64 c, .bool q]), (.int .i64 n), undef, undef, undef, undef, undef, undef, undef, undef, undef, undef, undef, undef, undef, undef, undef, undef, undef, undef, undef, undef, undef, undef, undef, undef, undef, undef, undef, undef, undef, undef, undef, undef, undef, undef, undef, undef, undef, undef, undef, undef, undef, undef, undef, undef, undef, undef, undef, undef, undef, undef, undef, undef, undef, undef, undef, undef, undef, undef], defers := [] }) w := by
  obtain ⟨o15, ho15, hg15, hp15, hd15⟩ := id I15
  refine wpAnyH_ready (rs := [15]) (rdy_ hR 15 _ _ rfl) (by simp) ?_
  refine AllReadyH.cons ho15 (fun K hK => ?_) ?_
  · refine RegN.call50 hg15 hp15 hd15 (hahead _) (fun x hx => ?_)
    simp only [Act.put, List.setIfInBounds_toArray, List.set_cons_zero, List.set_cons_succ]
    exact hK.out _ _ ((hSof _ (hB.trans (hx.mono hB.size)))) (fun _ => node4_4x7x8x9x10 hR I16 I17 I18 I19 I3 I7 I11 I15 I20 I21 I22 I23 hSof hQ g7 g8 g9 g10 x (hB.trans (hx.mono hB.size)) ge7 (b7.stays hx) ge8 (b8.stays hx) ge9 (b9.stays hx) ge10 (b10.stays hx) ne7_8 ne7_9 ne7_10 ne8_9 ne8_10 ne9_10)
  exact AllReadyH.nil
omit hup hdown hleft in
set_option maxRecDepth 100000 in
theorem node3_3x7x8x9 (g7 : Nat) (g8 : Nat) (g9 : Nat) (w : World) (hB : Below w0.heap.size w0 w) (ge7 : w0.heap.size ≤ g7) (b7 : Blk w g7 65 #[.int .i64 0, .int .i64 0, .bool false]) (ge8 : w0.heap.size ≤ g8) (b8 : Blk w g8 65 #[.int .i64 0, .int .i64 0, .bool false]) (ge9 : w0.heap.size ≤ g9) (b9 : Blk w g9 65 #[.int .i64 0, .int .i64 0, .bool false]) (ne7_8 : g7 ≠ g8) (ne7_9 : g7 ≠ g9) (ne8_9 : g8 ≠ g9) :
    wpAnyH Try.prog .any ops Q S 6 #[true, true, true, true, true, true, true, true, true, true, true, true, true, true, true, false, true, true, true, false, false, false, false, false] ({ tmps := #[x0, x1, .int .i64 n, .pointer (some ⟨g3, 0, none⟩), .pointer (some ⟨g4, 0, none⟩), undef, x6, .pointer (some ⟨g7, 0, none⟩), .pointer (some ⟨g8, 0, none⟩), .pointer (some ⟨g9, 0, none⟩), undef, undef, x12, x13, x14, x15, x16, x17, x18, x19, x20, x21, x22, x23, (.agg #[.int .i64 R, .int .i64 C, .int .i64 T, .int .i64 B, .bool o]), (.agg #[.int .i64 r, .int .i64 c, .bool q]), (.int .i64 n), .agg #[.int .i64 u, .int .i64 c, .bool false], (.agg #[.int .i64 R, .int .i64 C, .int .i64 T, .int .i64 B, .bool o]), (.agg #[.int .i64 r, .int .i64 c, .bool q]), (.int .i64 n), .agg #[.int .i64 d, .int .i64 c, .bool false], (.agg #[.int .i64 R, .int .i64 C, .int .i64 T, .int .i64 B, .bool o]), (.agg #[.int .i64 r, .int .i64 c, .bool q]), (.int .i64 n), .agg #[.int .i64 r, .int .i64 lc, .bool false], (.agg #[.int .i64 R, .int .i64 C, .int .i64 T, .int .i64 B, .bool o]), (.agg #[.int .i64 r, .int .i64 c, .bool q]), (.int .i64 n), undef, undef, undef, undef, undef, undef, undef, undef, undef, undef, undef, undef, undef, undef, undef, undef, undef, undef, undef, undef, undef, undef, undef, undef, undef, undef, undef, undef, undef, undef, undef, undef, undef, undef, undef, undef, undef, undef, undef, undef, undef, undef, undef, undef, undef, undef, undef, undef, undef, undef, undef, undef, undef, undef, undef, undef, undef, undef], defers := [] }) w := by
  obtain ⟨o15, ho15, hg15, hp15, hd15⟩ := id I15
  obtain ⟨o19, ho19, hg19, hp19, hd19⟩ := id I19
  refine wpAnyH_ready (rs := [15, 19]) (rdy_ hR 16 _ _ rfl) (by simp) ?_
  refine AllReadyH.cons ho15 (fun K hK => ?_) ?_
  · refine RegN.call50 hg15 hp15 hd15 (hahead _) (fun x hx => ?_)
    simp only [Act.put, List.setIfInBounds_toArray, List.set_cons_zero, List.set_cons_succ]
    exact hK.out _ _ ((hSof _ (hB.trans (hx.mono hB.size)))) (fun _ => node4_4x7x8x9 hR I16 I17 I18 I19 I3 I7 I11 I15 I20 I21 I22 I23 hSof hQ g7 g8 g9 x (hB.trans (hx.mono hB.size)) ge7 (b7.stays hx) ge8 (b8.stays hx) ge9 (b9.stays hx) ne7_8 ne7_9 ne8_9)
  refine AllReadyH.cons ho19 (fun K hK => ?_) ?_
  · refine RegN.alloc65 hg19 hp19 hd19 ?_
    simp only [Act.put, List.setIfInBounds_toArray, List.set_cons_zero, List.set_cons_succ]
    exact hK.out _ _ ((hSof _ (hB.alloc hB.size _))) (fun _ => node3_3x7x8x9x10 hR I16 I17 I18 I19 I3 I7 I11 I15 I20 I21 I22 I23 hSof hahead hQ g7 g8 g9 w.heap.size _ (hB.alloc hB.size _) ge7 (b7.alloc _) ge8 (b8.alloc _) ge9 (b9.alloc _) hB.size (Blk.new w 65 _) ne7_8 ne7_9 (Nat.ne_of_lt b7.lt) ne8_9 (Nat.ne_of_lt b8.lt) (Nat.ne_of_lt b9.lt))
  exact AllReadyH.nil
omit hup hdown hleft in
set_option maxRecDepth 100000 in
theorem node3_3x7x8x10 (g7 : Nat) (g8 : Nat) (g10 : Nat) (w : World) (hB : Below w0.heap.size w0 w) (ge7 : w0.heap.size ≤ g7) (b7 : Blk w g7 65 #[.int .i64 0, .int .i64 0, .bool false]) (ge8 : w0.heap.size ≤ g8) (b8 : Blk w g8 65 #[.int .i64 0, .int .i64 0, .bool false]) (ge10 : w0.heap.size ≤ g10) (b10 : Blk w g10 65 #[.int .i64 0, .int .i64 0, .bool false]) (ne7_8 : g7 ≠ g8) (ne7_10 : g7 ≠ g10) (ne8_10 : g8 ≠ g10) :
    wpAnyH Try.prog .any ops Q S 6 #[true, true, true, true, true, true, true, true, true, true, true, true, true, true, true, false, true, true, false, true, false, false, false, false] ({ tmps := #[x0, x1, .int .i64 n, .pointer (some ⟨g3, 0, none⟩), .pointer (some ⟨g4, 0, none⟩), undef, x6, .pointer (some ⟨g7, 0, none⟩), .pointer (some ⟨g8, 0, none⟩), undef, .pointer (some ⟨g10, 0, none⟩), undef, x12, x13, x14, x15, x16, x17, x18, x19, x20, x21, x22, x23, (.agg #[.int .i64 R, .int .i64 C, .int .i64 T, .int .i64 B, .bool o]), (.agg #[.int .i64 r, .int .i64 c, .bool q]), (.int .i64 n), .agg #[.int .i64 u, .int .i64 c, .bool false], (.agg #[.int .i64 R, .int .i64 C, .int .i64 T, .int .i64 B, .bool o]), (.agg #[.int .i64 r, .int .i64 c, .bool q]), (.int .i64 n), .agg #[.int .i64 d, .int .i64 c, .bool false], (.agg #[.int .i64 R, .int .i64 C, .int .i64 T, .int .i64 B, .bool o]), (.agg #[.int .i64 r, .int .i64 c, .bool q]), (.int .i64 n), .agg #[.int .i64 r, .int .i64 lc, .bool false], (.agg #[.int .i64 R, .int .i64 C, .int .i64 T, .int .i64 B, .bool o]), (.agg #[.int .i64 r, .int .i64 c, .bool q]), (.int .i64 n), undef, undef, undef, undef, undef, undef, undef, undef, undef, undef, undef, undef, undef, undef, undef, undef, undef, undef, undef, undef, undef, undef, undef, undef, undef, undef, undef, undef, undef, undef, undef, undef, undef, undef, undef, undef, undef, undef, undef, undef, undef, undef, undef, undef, undef, undef, undef, undef, undef, undef, undef, undef, undef, undef, undef, undef, undef, undef], defers := [] }) w := by
  obtain ⟨o15, ho15, hg15, hp15, hd15⟩ := id I15
  obtain ⟨o18, ho18, hg18, hp18, hd18⟩ := id I18
  refine wpAnyH_ready (rs := [15, 18]) (rdy_ hR 17 _ _ rfl) (by simp) ?_
  refine AllReadyH.cons ho15 (fun K hK => ?_) ?_
  · refine RegN.call50 hg15 hp15 hd15 (hahead _) (fun x hx => ?_)
    simp only [Act.put, List.setIfInBounds_toArray, List.set_cons_zero, List.set_cons_succ]
    exact hK.out _ _ ((hSof _ (hB.trans (hx.mono hB.size)))) (fun _ => node4_4x7x8x10 hR I16 I17 I18 I19 I3 I7 I11 I15 I20 I21 I22 I23 hSof hQ g7 g8 g10 x (hB.trans (hx.mono hB.size)) ge7 (b7.stays hx) ge8 (b8.stays hx) ge10 (b10.stays hx) ne7_8 ne7_10 ne8_10)
  refine AllReadyH.cons ho18 (fun K hK => ?_) ?_
  · refine RegN.alloc65 hg18 hp18 hd18 ?_
    simp only [Act.put, List.setIfInBounds_toArray, List.set_cons_zero, List.set_cons_succ]
    exact hK.out _ _ ((hSof _ (hB.alloc hB.size _))) (fun _ => node3_3x7x8x9x10 hR I16 I17 I18 I19 I3 I7 I11 I15 I20 I21 I22 I23 hSof hahead hQ g7 g8 w.heap.size g10 _ (hB.alloc hB.size _) ge7 (b7.alloc _) ge8 (b8.alloc _) hB.size (Blk.new w 65 _) ge10 (b10.alloc _) ne7_8 (Nat.ne_of_lt b7.lt) ne7_10 (Nat.ne_of_lt b8.lt) ne8_10 (Nat.ne_of_gt b10.lt))
  exact AllReadyH.nil
omit hup hdown hleft in
set_option maxRecDepth 100000 in
theorem node3_3x7x9x10 (g7 : Nat) (g9 : Nat) (g10 : Nat) (w : World) (hB : Below w0.heap.size w0 w) (ge7 : w0.heap.size ≤ g7) (b7 : Blk w g7 65 #[.int .i64 0, .int .i64 0, .bool false]) (ge9 : w0.heap.size ≤ g9) (b9 : Blk w g9 65 #[.int .i64 0, .int .i64 0, .bool false]) (ge10 : w0.heap.size ≤ g10) (b10 : Blk w g10 65 #[.int .i64 0, .int .i64 0, .bool false]) (ne7_9 : g7 ≠ g9) (ne7_10 : g7 ≠ g10) (ne9_10 : g9 ≠ g10) :
    wpAnyH Try.prog .any ops Q S 6 #[true, true, true, true, true, true, true, true, true, true, true, true, true, true, true, false, true, false, true, true, false, false, false, false] ({ tmps := #[x0, x1, .int .i64 n, .pointer (some ⟨g3, 0, none⟩), .pointer (some ⟨g4, 0, none⟩), undef, x6, .pointer (some ⟨g7, 0, none⟩), undef, .pointer (some ⟨g9, 0, none⟩), .pointer (some ⟨g10, 0, none⟩), undef, x12, x13, x14, x15, x16, x17, x18, x19, x20, x21, x22, x23, (.agg #[.int .i64 R, .int .i64 C, .int .i64 T, .int .i64 B, .bool o]), (.agg #[.int .i64 r, .int .i64 c, .bool q]), (.int .i64 n), .agg #[.int .i64 u, .int .i64 c, .bool false], (.agg #[.int .i64 R, .int .i64 C, .int .i64 T, .int .i64 B, .bool o]), (.agg #[.int .i64 r, .int .i64 c, .bool q]), (.int .i64 n), .agg #[.int .i64 d, .int .i64 c, .bool false], (.agg #[.int .i64 R, .int .i64 C, .int .i64 T, .int .i64 B, .bool o]), (.agg #[.int .i64 r, .int .i64 c, .bool q]), (.int .i64 n), .agg #[.int .i64 r, .int .i64 lc, .bool false], (.agg #[.int .i64 R, .int .i64 C, .int .i64 T, .int .i64 B, .bool o]), (.agg #[.int .i64 r, .int .i64 c, .bool q]), (.int .i64 n), undef, undef, undef, undef, undef, undef, undef, undef, undef, undef, undef, undef, undef, undef, undef, undef, undef, undef, undef, undef, undef, undef, undef, undef, undef, undef, undef, undef, undef, undef, undef, undef, undef, undef, undef, undef, undef, undef, undef, undef, undef, undef, undef, undef, undef, undef, undef, undef, undef, undef, undef, undef, undef, undef, undef, undef, undef, undef], defers := [] }) w := by
  obtain ⟨o15, ho15, hg15, hp15, hd15⟩ := id I15
  obtain ⟨o17, ho17, hg17, hp17, hd17⟩ := id I17
  refine wpAnyH_ready (rs := [15, 17]) (rdy_ hR 18 _ _ rfl) (by simp) ?_
  refine AllReadyH.cons ho15 (fun K hK => ?_) ?_
  · refine RegN.call50 hg15 hp15 hd15 (hahead _) (fun x hx => ?_)
    simp only [Act.put, List.setIfInBounds_toArray, List.set_cons_zero, List.set_cons_succ]
    exact hK.out _ _ ((hSof _ (hB.trans (hx.mono hB.size)))) (fun _ => node4_4x7x9x10 hR I16 I17 I18 I19 I3 I7 I11 I15 I20 I21 I22 I23 hSof hQ g7 g9 g10 x (hB.trans (hx.mono hB.size)) ge7 (b7.stays hx) ge9 (b9.stays hx) ge10 (b10.stays hx) ne7_9 ne7_10 ne9_10)
  refine AllReadyH.cons ho17 (fun K hK => ?_) ?_
  · refine RegN.alloc65 hg17 hp17 hd17 ?_
    simp only [Act.put, List.setIfInBounds_toArray, List.set_cons_zero, List.set_cons_succ]
    exact hK.out _ _ ((hSof _ (hB.alloc hB.size _))) (fun _ => node3_3x7x8x9x10 hR I16 I17 I18 I19 I3 I7 I11 I15 I20 I21 I22 I23 hSof hahead hQ g7 w.heap.size g9 g10 _ (hB.alloc hB.size _) ge7 (b7.alloc _) hB.size (Blk.new w 65 _) ge9 (b9.alloc _) ge10 (b10.alloc _) (Nat.ne_of_lt b7.lt) ne7_9 ne7_10 (Nat.ne_of_gt b9.lt) (Nat.ne_of_gt b10.lt) ne9_10)
  exact AllReadyH.nil
omit hup hdown hleft in
set_option maxRecDepth 100000 in
theorem node3_3x8x9x10 (g8 : Nat) (g9 : Nat) (g10 : Nat) (w : World) (hB : Below w0.heap.size w0 w) (ge8 : w0.heap.size ≤ g8) (b8 : Blk w g8 65 #[.int .i64 0, .int .i64 0, .bool false]) (ge9 : w0.heap.size ≤ g9) (b9 : Blk w g9 65 #[.int .i64 0, .int .i64 0, .bool false]) (ge10 : w0.heap.size ≤ g10) (b10 : Blk w g10 65 #[.int .i64 0, .int .i64 0, .bool false]) (ne8_9 : g8 ≠ g9) (ne8_10 : g8 ≠ g10) (ne9_10 : g9 ≠ g10) :
    wpAnyH Try.prog .any ops Q S 6 #[true, true, true, true, true, true, true, true, true, true, true, true, true, true, true, false, false, true, true, true, false, false, false, false] ({ tmps := #[x0, x1, .int .i64 n, .pointer (some ⟨g3, 0, none⟩), .pointer (some ⟨g4, 0, none⟩), undef, x6, undef, .pointer (some ⟨g8, 0, none⟩), .pointer (some ⟨g9, 0, none⟩), .pointer (some ⟨g10, 0, none⟩), undef, x12, x13, x14, x15, x16, x17, x18, x19, x20, x21, x22, x23, (.agg #[.int .i64 R, .int .i64 C, .int .i64 T, .int .i64 B, .bool o]), (.agg #[.int .i64 r, .int .i64 c, .bool q]), (.int .i64 n), .agg #[.int .i64 u, .int .i64 c, .bool false], (.agg #[.int .i64 R, .int .i64 C, .int .i64 T, .int .i64 B, .bool o]), (.agg #[.int .i64 r, .int .i64 c, .bool q]), (.int .i64 n), .agg #[.int .i64 d, .int .i64 c, .bool false], (.agg #[.int .i64 R, .int .i64 C, .int .i64 T, .int .i64 B, .bool o]), (.agg #[.int .i64 r, .int .i64 c, .bool q]), (.int .i64 n), .agg #[.int .i64 r, .int .i64 lc, .bool false], (.agg #[.int .i64 R, .int .i64 C, .int .i64 T, .int .i64 B, .bool o]), (.agg #[.int .i64 r, .int .i64 c, .bool q]), (.int .i64 n), undef, undef, undef, undef, undef, undef, undef, undef, undef, undef, undef, undef, undef, undef, undef, undef, undef, undef, undef, undef, undef, undef, undef, undef, undef, undef, undef, undef, undef, undef, undef, undef, undef, undef, undef, undef, undef, undef, undef, undef, undef, undef, undef, undef, undef, undef, undef, undef, undef, undef, undef, undef, undef, undef, undef, undef, undef, undef], defers := [] }) w := by
  obtain ⟨o15, ho15, hg15, hp15, hd15⟩ := id I15
  obtain ⟨o16, ho16, hg16, hp16, hd16⟩ := id I16
  refine wpAnyH_ready (rs := [15, 16]) (rdy_ hR 19 _ _ rfl) (by simp) ?_
  refine AllReadyH.cons ho15 (fun K hK => ?_) ?_
  · refine RegN.call50 hg15 hp15 hd15 (hahead _) (fun x hx => ?_)
    simp only [Act.put, List.setIfInBounds_toArray, List.set_cons_zero, List.set_cons_succ]
    exact hK.out _ _ ((hSof _ (hB.trans (hx.mono hB.size)))) (fun _ => node4_4x8x9x10 hR I16 I17 I18 I19 I3 I7 I11 I15 I20 I21 I22 I23 hSof hQ g8 g9 g10 x (hB.trans (hx.mono hB.size)) ge8 (b8.stays hx) ge9 (b9.stays hx) ge10 (b10.stays hx) ne8_9 ne8_10 ne9_10)
  refine AllReadyH.cons ho16 (fun K hK => ?_) ?_
  · refine RegN.alloc65 hg16 hp16 hd16 ?_
    simp only [Act.put, List.setIfInBounds_toArray, List.set_cons_zero, List.set_cons_succ]
    exact hK.out _ _ ((hSof _ (hB.alloc hB.size _))) (fun _ => node3_3x7x8x9x10 hR I16 I17 I18 I19 I3 I7 I11 I15 I20 I21 I22 I23 hSof hahead hQ w.heap.size g8 g9 g10 _ (hB.alloc hB.size _) hB.size (Blk.new w 65 _) ge8 (b8.alloc _) ge9 (b9.alloc _) ge10 (b10.alloc _) (Nat.ne_of_gt b8.lt) (Nat.ne_of_gt b9.lt) (Nat.ne_of_gt b10.lt) ne8_9 ne8_10 ne9_10)
  exact AllReadyH.nil
omit hup hdown hleft in
set_option maxRecDepth 100000 in
theorem node3_3x7x8 (g7 : Nat) (g8 : Nat) (w : World) (hB : Below w0.heap.size w0 w) (ge7 : w0.heap.size ≤ g7) (b7 : Blk w g7 65 #[.int .i64 0, .int .i64 0, .bool false]) (ge8 : w0.heap.size ≤ g8) (b8 : Blk w g8 65 #[.int .i64 0, .int .i64 0, .bool false]) (ne7_8 : g7 ≠ g8) :
    wpAnyH Try.prog .any ops Q S 7 #[true, true, true, true, true, true, true, true, true, true, true, true, true, true, true, false, true, true, false, false, false, false, false, false] ({ tmps := #[x0, x1, .int .i64 n, .pointer (some ⟨g3, 0, none⟩), .pointer (some ⟨g4, 0, none⟩), undef, x6, .pointer (some ⟨g7, 0, none⟩), .pointer (some ⟨g8, 0, none⟩), undef, undef, undef, x12, x13, x14, x15, x16, x17, x18, x19, x20, x21, x22, x23, (.agg #[.int .i64 R, .int .i64 C, .int .i64 T, .int .i64 B, .bool o]), (.agg #[.int .i64 r, .int .i64 c, .bool q]), (.int .i64 n), .agg #[.int .i64 u, .int .i64 c, .bool false], (.agg #[.int .i64 R, .int .i64 C, .int .i64 T, .int .i64 B, .bool o]), (.agg #[.int .i64 r, .int .i64 c, .bool q]), (.int .i64 n), .agg #[.int .i64 d, .int .i64 c, .bool false], (.agg #[.int .i64 R, .int .i64 C, .int .i64 T, .int .i64 B, .bool o]), (.agg #[.int .i64 r, .int .i64 c, .bool q]), (.int .i64 n), .agg #[.int .i64 r, .int .i64 lc, .bool false], (.agg #[.int .i64 R, .int .i64 C, .int .i64 T, .int .i64 B, .bool o]), (.agg #[.int .i64 r, .int .i64 c, .bool q]), (.int .i64 n), undef, undef, undef, undef, undef, undef, undef, undef, undef, undef, undef, undef, undef, undef, undef, undef, undef, undef, undef, undef, undef, undef, undef, undef, undef, undef, undef, undef, undef, undef, undef, undef, undef, undef, undef, undef, undef, undef, undef, undef, undef, undef, undef, undef, undef, undef, undef, undef, undef, undef, undef, undef, undef, undef, undef, undef, undef, undef], defers := [] }) w := by
  obtain ⟨o15, ho15, hg15, hp15, hd15⟩ := id I15
  obtain ⟨o18, ho18, hg18, hp18, hd18⟩ := id I18
  obtain ⟨o19, ho19, hg19, hp19, hd19⟩ := id I19
  refine wpAnyH_ready (rs := [15, 18, 19]) (rdy_ hR 20 _ _ rfl) (by simp) ?_
  refine AllReadyH.cons ho15 (fun K hK => ?_) ?_
  · refine RegN.call50 hg15 hp15 hd15 (hahead _) (fun x hx => ?_)
    simp only [Act.put, List.setIfInBounds_toArray, List.set_cons_zero, List.set_cons_succ]
    exact hK.out _ _ ((hSof _ (hB.trans (hx.mono hB.size)))) (fun _ => node4_4x7x8 hR I16 I17 I18 I19 I3 I7 I11 I15 I20 I21 I22 I23 hSof hQ g7 g8 x (hB.trans (hx.mono hB.size)) ge7 (b7.stays hx) ge8 (b8.stays hx) ne7_8)
  refine AllReadyH.cons ho18 (fun K hK => ?_) ?_
  · refine RegN.alloc65 hg18 hp18 hd18 ?_
    simp only [Act.put, List.setIfInBounds_toArray, List.set_cons_zero, List.set_cons_succ]
    exact hK.out _ _ ((hSof _ (hB.alloc hB.size _))) (fun _ => node3_3x7x8x9 hR I16 I17 I18 I19 I3 I7 I11 I15 I20 I21 I22 I23 hSof hahead hQ g7 g8 w.heap.size _ (hB.alloc hB.size _) ge7 (b7.alloc _) ge8 (b8.alloc _) hB.size (Blk.new w 65 _) ne7_8 (Nat.ne_of_lt b7.lt) (Nat.ne_of_lt b8.lt))
  refine AllReadyH.cons ho19 (fun K hK => ?_) ?_
  · refine RegN.alloc65 hg19 hp19 hd19 ?_
    simp only [Act.put, List.setIfInBounds_toArray, List.set_cons_zero, List.set_cons_succ]
    exact hK.out _ _ ((hSof _ (hB.alloc hB.size _))) (fun _ => node3_3x7x8x10 hR I16 I17 I18 I19 I3 I7 I11 I15 I20 I21 I22 I23 hSof hahead hQ g7 g8 w.heap.size _ (hB.alloc hB.size _) ge7 (b7.alloc _) ge8 (b8.alloc _) hB.size (Blk.new w 65 _) ne7_8 (Nat.ne_of_lt b7.lt) (Nat.ne_of_lt b8.lt))
  exact AllReadyH.nil
omit hup hdown hleft in
set_option maxRecDepth 100000 in
theorem node3_3x7x9 (g7 : Nat) (g9 : Nat) (w : World) (hB : Below w0.heap.size w0 w) (ge7 : w0.heap.size ≤ g7) (b7 : Blk w g7 65 #[.int .i64 0, .int .i64 0, .bool false]) (ge9 : w0.heap.size ≤ g9) (b9 : Blk w g9 65 #[.int .i64 0, .int .i64 0, .bool false]) (ne7_9 : g7 ≠ g9) :
    wpAnyH Try.prog .any ops Q S 7 #[true, true, true, true, true, true, true, true, true, true, true, true, true, true, true, false, true, false, true, false, false, false, false, false] ({ tmps := #[x0, x1, .int .i64 n, .pointer (some ⟨g3, 0, none⟩), .pointer (some ⟨g4, 0, none⟩), undef, x6, .pointer (some ⟨g7, 0, none⟩), undef, .pointer (some ⟨g9, 0, none⟩), undef, undef, x12, x13, x14, x15, x16, x17, x18, x19, x20, x21, x22, x23, (.agg #[.int .i64 R, .int .i64 C, .int .i64 T, .int .i64 B, .bool o]), (.agg #[.int .i64 r, .int .i64 c, .bool q]), (.int .i64 n), .agg #[.int .i64 u, .int .i64 c, .bool false], (.agg #[.int .i64 R, .int .i64 C, .int .i64 T, .int .i64 B, .bool o]), (.agg #[.int .i64 r, .int .i64 c, .bool q]), (.int .i64 n), .agg #[.int .i64 d, .int .i64 c, .bool false], (.agg #[.int .i64 R, .int .i64 C, .int .i64 T, .int .i64 B, .bool o]), (.agg #[.int .i64 r, .int .i64 c, .bool q]), (.int .i64 n), .agg #[.int .i64 r, .int .i64 lc, .bool false], (.agg #[.int .i64 R, .int .i64 C, .int .i64 T, .int .i64 B, .bool o]), (.agg #[.int .i64 r, .int .i64 c, .bool q]), (.int .i64 n), undef, undef, undef, undef, undef, undef, undef, undef, undef, undef, undef, undef, undef, undef, undef, undef, undef, undef, undef, undef, undef, undef, undef, undef, undef, undef, undef, undef, undef, undef, undef, undef, undef, undef, undef, undef, undef, undef, undef, undef, undef, undef, undef, undef, undef, undef, undef, undef, undef, undef, undef, undef, undef, undef, undef, undef, undef, undef], defers := [] }) w := by
  obtain ⟨o15, ho15, hg15, hp15, hd15⟩ := id I15
  obtain ⟨o17, ho17, hg17, hp17, hd17⟩ := id I17
  obtain ⟨o19, ho19, hg19, hp19, hd19⟩ := id I19
  refine wpAnyH_ready (rs := [15, 17, 19]) (rdy_ hR 21 _ _ rfl) (by simp) ?_
  refine AllReadyH.cons ho15 (fun K hK => ?_) ?_
  · refine RegN.call50 hg15 hp15 hd15 (hahead _) (fun x hx => ?_)
    simp only [Act.put, List.setIfInBounds_toArray, List.set_cons_zero, List.set_cons_succ]
    exact hK.out _ _ ((hSof _ (hB.trans (hx.mono hB.size)))) (fun _ => node4_4x7x9 hR I16 I17 I18 I19 I3 I7 I11 I15 I20 I21 I22 I23 hSof hQ g7 g9 x (hB.trans (hx.mono hB.size)) ge7 (b7.stays hx) ge9 (b9.stays hx) ne7_9)
  refine AllReadyH.cons ho17 (fun K hK => ?_) ?_
  · refine RegN.alloc65 hg17 hp17 hd17 ?_
    simp only [Act.put, List.setIfInBounds_toArray, List.set_cons_zero, List.set_cons_succ]
    exact hK.out _ _ ((hSof _ (hB.alloc hB.size _))) (fun _ => node3_3x7x8x9 hR I16 I17 I18 I19 I3 I7 I11 I15 I20 I21 I22 I23 hSof hahead hQ g7 w.heap.size g9 _ (hB.alloc hB.size _) ge7 (b7.alloc _) hB.size (Blk.new w 65 _) ge9 (b9.alloc _) (Nat.ne_of_lt b7.lt) ne7_9 (Nat.ne_of_gt b9.lt))
  refine AllReadyH.cons ho19 (fun K hK => ?_) ?_
  · refine RegN.alloc65 hg19 hp19 hd19 ?_
    simp only [Act.put, List.setIfInBounds_toArray, List.set_cons_zero, List.set_cons_succ]
    exact hK.out _ _ ((hSof _ (hB.alloc hB.size _))) (fun _ => node3_3x7x9x10 hR I16 I17 I18 I19 I3 I7 I11 I15 I20 I21 I22 I23 hSof hahead hQ g7 g9 w.heap.size _ (hB.alloc hB.size _) ge7 (b7.alloc _) ge9 (b9.alloc _) hB.size (Blk.new w 65 _) ne7_9 (Nat.ne_of_lt b7.lt) (Nat.ne_of_lt b9.lt))
  exact AllReadyH.nil
omit hup hdown hleft in
set_option maxRecDepth 100000 in
theorem node3_3x7x10 (g7 : Nat) (g10 : Nat) (w : World) (hB : Below w0.heap.size w0 w) (ge7 : w0.heap.size ≤ g7) (b7 : Blk w g7 65 #[.int .i64 0, .int .i64 0, .bool false]) (ge10 : w0.heap.size ≤ g10) (b10 : Blk w g10 65 #[.int .i64 0, .int .i64 0, .bool false]) (ne7_10 : g7 ≠ g10) :
    wpAnyH Try.prog .any ops Q S 7 #[true, true, true, true, true, true, true, true, true, true, true, true, true, true, true, false, true, false, false, true, false, false, false, false] ({ tmps := #[x0, x1, .int .i64 n, .pointer (some ⟨g3, 0, none⟩), .pointer (some ⟨g4, 0, none⟩), undef, x6, .pointer (some ⟨g7, 0, none⟩), undef, undef, .pointer (some ⟨g10, 0, none⟩), undef, x12, x13, x14, x15, x16, x17, x18, x19, x20, x21, x22, x23, (.agg #[.int .i64 R, .int .i64 C, .int .i64 T, .int .i64 B, .bool o]), (.agg #[.int .i64 r, .int .i64 c, .bool q]), (.int .i64 n), .agg #[.int .i64 u, .int .i64 c, .bool false], (.agg #[.int .i64 R, .int .i64 C, .int .i64 T, .int .i64 B, .bool o]), (.agg #[.int .i64 r, .int .i64 c, .bool q]), (.int .i64 n), .agg #[.int .i64 d, .int .i64 c, .bool false], (.agg #[.int .i64 R, .int .i64 C, .int .i64 T, .int .i64 B, .bool o]), (.agg #[.int .i64 r, .int .i64 c, .bool q]), (.int .i64 n), .agg #[.int .i64 r, .int .i64 lc, .bool false], (.agg #[.int .i64 R, .int .i64 C, .int .i64 T, .int .i64 B, .bool o]), (.agg #[.int .i64 r, .int .i64 c, .bool q]), (.int .i64 n), undef, undef, undef, undef, undef, undef, undef, undef, undef, undef, undef, undef, undef, undef, undef, undef, undef, undef, undef, undef, undef, undef, undef, undef, undef, undef, undef, undef, undef, undef, undef, undef, undef, undef, undef, undef, undef, undef, undef, undef, undef, undef, undef, undef, undef, undef, undef, undef, undef, undef, undef, undef, undef, undef, undef, undef, undef, undef], defers := [] }) w := by
  obtain ⟨o15, ho15, hg15, hp15, hd15⟩ := id I15
  obtain ⟨o17, ho17, hg17, hp17, hd17⟩ := id I17
  obtain ⟨o18, ho18, hg18, hp18, hd18⟩ := id I18
  refine wpAnyH_ready (rs := [15, 17, 18]) (rdy_ hR 22 _ _ rfl) (by simp) ?_
  refine AllReadyH.cons ho15 (fun K hK => ?_) ?_
  · refine RegN.call50 hg15 hp15 hd15 (hahead _) (fun x hx => ?_)
    simp only [Act.put, List.setIfInBounds_toArray, List.set_cons_zero, List.set_cons_succ]
    exact hK.out _ _ ((hSof _ (hB.trans (hx.mono hB.size)))) (fun _ => node4_4x7x10 hR I16 I17 I18 I19 I3 I7 I11 I15 I20 I21 I22 I23 hSof hQ g7 g10 x (hB.trans (hx.mono hB.size)) ge7 (b7.stays hx) ge10 (b10.stays hx) ne7_10)
  refine AllReadyH.cons ho17 (fun K hK => ?_) ?_
  · refine RegN.alloc65 hg17 hp17 hd17 ?_
    simp only [Act.put, List.setIfInBounds_toArray, List.set_cons_zero, List.set_cons_succ]
    exact hK.out _ _ ((hSof _ (hB.alloc hB.size _))) (fun _ => node3_3x7x8x10 hR I16 I17 I18 I19 I3 I7 I11 I15 I20 I21 I22 I23 hSof hahead hQ g7 w.heap.size g10 _ (hB.alloc hB.size _) ge7 (b7.alloc _) hB.size (Blk.new w 65 _) ge10 (b10.alloc _) (Nat.ne_of_lt b7.lt) ne7_10 (Nat.ne_of_gt b10.lt))
  refine AllReadyH.cons ho18 (fun K hK => ?_) ?_
  · refine RegN.alloc65 hg18 hp18 hd18 ?_
    simp only [Act.put, List.setIfInBounds_toArray, List.set_cons_zero, List.set_cons_succ]
    exact hK.out _ _ ((hSof _ (hB.alloc hB.size _))) (fun _ => node3_3x7x9x10 hR I16 I17 I18 I19 I3 I7 I11 I15 I20 I21 I22 I23 hSof hahead hQ g7 w.heap.size g10 _ (hB.alloc hB.size _) ge7 (b7.alloc _) hB.size (Blk.new w 65 _) ge10 (b10.alloc _) (Nat.ne_of_lt b7.lt) ne7_10 (Nat.ne_of_gt b10.lt))
  exact AllReadyH.nil
omit hup hdown hleft in
set_option maxRecDepth 100000 in
theorem node3_3x8x9 (g8 : Nat) (g9 : Nat) (w : World) (hB : Below w0.heap.size w0 w) (ge8 : w0.heap.size ≤ g8) (b8 : Blk w g8 65 #[.int .i64 0, .int .i64 0, .bool false]) (ge9 : w0.heap.size ≤ g9) (b9 : Blk w g9 65 #[.int .i64 0, .int .i64 0, .bool false]) (ne8_9 : g8 ≠ g9) :
    wpAnyH Try.prog .any ops Q S 7 #[true, true, true, true, true, true, true, true, true, true, true, true, true, true, true, false, false, true, true, false, false, false, false, false] ({ tmps := #[x0, x1, .int .i64 n, .pointer (some ⟨g3, 0, none⟩), .pointer (some ⟨g4, 0, none⟩), undef, x6, undef, .pointer (some ⟨g8, 0, none⟩), .pointer (some ⟨g9, 0, none⟩), undef, undef, x12, x13, x14, x15, x16, x17, x18, x19, x20, x21, x22, x23, (.agg #[.int .i64 R, .int .i64 C, .int .i64 T, .int .i64 B, .bool o]), (.agg #[.int .i64 r, .int .i64 c, .bool q]), (.int .i64 n), .agg #[.int .i64 u, .int .i64 c, .bool false], (.agg #[.int .i64 R, .int .i64 C, .int .i64 T, .int .i64 B, .bool o]), (.agg #[.int .i64 r, .int .i64 c, .bool q]), (.int .i64 n), .agg #[.int .i64 d, .int .i64 c, .bool false], (.agg #[.int .i64 R, .int .i64 C, .int .i64 T, .int .i64 B, .bool o]), (.agg #[.int .i64 r, .int .i64 c, .bool q]), (.int .i64 n), .agg #[.int .i64 r, .int .i64 lc, .bool false], (.agg #[.int .i64 R, .int .i64 C, .int .i64 T, .int .i64 B, .bool o]), (.agg #[.int .i64 r, .int .i64 c, .bool q]), (.int .i64 n), undef, undef, undef, undef, undef, undef, undef, undef, undef, undef, undef, undef, undef, undef, undef, undef, undef, undef, undef, undef, undef, undef, undef, undef, undef, undef, undef, undef, undef, undef, undef, undef, undef, undef, undef, undef, undef, undef, undef, undef, undef, undef, undef, undef, undef, undef, undef, undef, undef, undef, undef, undef, undef, undef, undef, undef, undef, undef], defers := [] }) w := by
  obtain ⟨o15, ho15, hg15, hp15, hd15⟩ := id I15
  obtain ⟨o16, ho16, hg16, hp16, hd16⟩ := id I16
  obtain ⟨o19, ho19, hg19, hp19, hd19⟩ := id I19
  refine wpAnyH_ready (rs := [15, 16, 19]) (rdy_ hR 23 _ _ rfl) (by simp) ?_
  refine AllReadyH.cons ho15 (fun K hK => ?_) ?_
  · refine RegN.call50 hg15 hp15 hd15 (hahead _) (fun x hx => ?_)
    simp only [Act.put, List.setIfInBounds_toArray, List.set_cons_zero, List.set_cons_succ]
    exact hK.out _ _ ((hSof _ (hB.trans (hx.mono hB.size)))) (fun _ => node4_4x8x9 hR I16 I17 I18 I19 I3 I7 I11 I15 I20 I21 I22 I23 hSof hQ g8 g9 x (hB.trans (hx.mono hB.size)) ge8 (b8.stays hx) ge9 (b9.stays hx) ne8_9)
  refine AllReadyH.cons ho16 (fun K hK => ?_) ?_
  · refine RegN.alloc65 hg16 hp16 hd16 ?_
    simp only [Act.put, List.setIfInBounds_toArray, List.set_cons_zero, List.set_cons_succ]
    exact hK.out _ _ ((hSof _ (hB.alloc hB.size _))) (fun _ => node3_3x7x8x9 hR I16 I17 I18 I19 I3 I7 I11 I15 I20 I21 I22 I23 hSof hahead hQ w.heap.size g8 g9 _ (hB.alloc hB.size _) hB.size (Blk.new w 65 _) ge8 (b8.alloc _) ge9 (b9.alloc _) (Nat.ne_of_gt b8.lt) (Nat.ne_of_gt b9.lt) ne8_9)
  refine AllReadyH.cons ho19 (fun K hK => ?_) ?_
  · refine RegN.alloc65 hg19 hp19 hd19 ?_
    simp only [Act.put, List.setIfInBounds_toArray, List.set_cons_zero, List.set_cons_succ]
    exact hK.out _ _ ((hSof _ (hB.alloc hB.size _))) (fun _ => node3_3x8x9x10 hR I16 I17 I18 I19 I3 I7 I11 I15 I20 I21 I22 I23 hSof hahead hQ g8 g9 w.heap.size _ (hB.alloc hB.size _) ge8 (b8.alloc _) ge9 (b9.alloc _) hB.size (Blk.new w 65 _) ne8_9 (Nat.ne_of_lt b8.lt) (Nat.ne_of_lt b9.lt))
  exact AllReadyH.nil
omit hup hdown hleft in
set_option maxRecDepth 100000 in
theorem node3_3x8x10 (g8 : Nat) (g10 : Nat) (w : World) (hB : Below w0.heap.size w0 w) (ge8 : w0.heap.size ≤ g8) (b8 : Blk w g8 65 #[.int .i64 0, .int .i64 0, .bool false]) (ge10 : w0.heap.size ≤ g10) (b10 : Blk w g10 65 #[.int .i64 0, .int .i64 0, .bool false]) (ne8_10 : g8 ≠ g10) :
    wpAnyH Try.prog .any ops Q S 7 #[true, true, true, true, true, true, true, true, true, true, true, true, true, true, true, false, false, true, false, true, false, false, false, false] ({ tmps := #[x0, x1, .int .i64 n, .pointer (some ⟨g3, 0, none⟩), .pointer (some ⟨g4, 0, none⟩), undef, x6, undef, .pointer (some ⟨g8, 0, none⟩), undef, .pointer (some ⟨g10, 0, none⟩), undef, x12, x13, x14, x15, x16, x17, x18, x19, x20, x21, x22, x23, (.agg #[.int .i64 R, .int .i64 C, .int .i64 T, .int .i64 B, .bool o]), (.agg #[.int .i64 r, .int .i64 c, .bool q]), (.int .i64 n), .agg #[.int .i64 u, .int .i64 c, .bool false], (.agg #[.int .i64 R, .int .i64 C, .int .i64 T, .int .i64 B, .bool o]), (.agg #[.int .i64 r, .int .i64 c, .bool q]), (.int .i64 n), .agg #[.int .i64 d, .int .i64 c, .bool false], (.agg #[.int .i64 R, .int .i64 C, .int .i64 T, .int .i64 B, .bool o]), (.agg #[.int .i64 r, .int .i64 c, .bool q]), (.int .i64 n), .agg #[.int .i64 r, .int .i64 lc, .bool false], (.agg #[.int .i64 R, .int .i64 C, .int .i64 T, .int .i64 B, .bool o]), (.agg #[.int .i64 r, .int .i64 c, .bool q]), (.int .i64 n), undef, undef, undef, undef, undef, undef, undef, undef, undef, undef, undef, undef, undef, undef, undef, undef, undef, undef, undef, undef, undef, undef, undef, undef, undef, undef, undef, undef, undef, undef, undef, undef, undef, undef, undef, undef, undef, undef, undef, undef, undef, undef, undef, undef, undef, undef, undef, undef, undef, undef, undef, undef, undef, undef, undef, undef, undef, undef], defers := [] }) w := by
  obtain ⟨o15, ho15, hg15, hp15, hd15⟩ := id I15
  obtain ⟨o16, ho16, hg16, hp16, hd16⟩ := id I16
  obtain ⟨o18, ho18, hg18, hp18, hd18⟩ := id I18
  refine wpAnyH_ready (rs := [15, 16, 18]) (rdy_ hR 24 _ _ rfl) (by simp) ?_
  refine AllReadyH.cons ho15 (fun K hK => ?_) ?_
  · refine RegN.call50 hg15 hp15 hd15 (hahead _) (fun x hx => ?_)
    simp only [Act.put, List.setIfInBounds_toArray, List.set_cons_zero, List.set_cons_succ]
    exact hK.out _ _ ((hSof _ (hB.trans (hx.mono hB.size)))) (fun _ => node4_4x8x10 hR I16 I17 I18 I19 I3 I7 I11 I15 I20 I21 I22 I23 hSof hQ g8 g10 x (hB.trans (hx.mono hB.size)) ge8 (b8.stays hx) ge10 (b10.stays hx) ne8_10)
  refine AllReadyH.cons ho16 (fun K hK => ?_) ?_
  · refine RegN.alloc65 hg16 hp16 hd16 ?_
    simp only [Act.put, List.setIfInBounds_toArray, List.set_cons_zero, List.set_cons_succ]
    exact hK.out _ _ ((hSof _ (hB.alloc hB.size _))) (fun _ => node3_3x7x8x10 hR I16 I17 I18 I19 I3 I7 I11 I15 I20 I21 I22 I23 hSof hahead hQ w.heap.size g8 g10 _ (hB.alloc hB.size _) hB.size (Blk.new w 65 _) ge8 (b8.alloc _) ge10 (b10.alloc _) (Nat.ne_of_gt b8.lt) (Nat.ne_of_gt b10.lt) ne8_10)
  refine AllReadyH.cons ho18 (fun K hK => ?_) ?_
  · refine RegN.alloc65 hg18 hp18 hd18 ?_
    simp only [Act.put, List.setIfInBounds_toArray, List.set_cons_zero, List.set_cons_succ]
    exact hK.out _ _ ((hSof _ (hB.alloc hB.size _))) (fun _ => node3_3x8x9x10 hR I16 I17 I18 I19 I3 I7 I11 I15 I20 I21 I22 I23 hSof hahead hQ g8 w.heap.size g10 _ (hB.alloc hB.size _) ge8 (b8.alloc _) hB.size (Blk.new w 65 _) ge10 (b10.alloc _) (Nat.ne_of_lt b8.lt) ne8_10 (Nat.ne_of_gt b10.lt))
  exact AllReadyH.nil
omit hup hdown hleft in
set_option maxRecDepth 100000 in
theorem node3_3x9x10 (g9 : Nat) (g10 : Nat) (w : World) (hB : Below w0.heap.size w0 w) (ge9 : w0.heap.size ≤ g9) (b9 : Blk w g9 65 #[.int .i64 0, .int .i64 0, .bool false]) (ge10 : w0.heap.size ≤ g10) (b10 : Blk w g10 65 #[.int .i64 0, .int .i64 0, .bool false]) (ne9_10 : g9 ≠ g10) :
    wpAnyH Try.prog .any ops Q S 7 #[true, true, true, true, true, true, true, true, true, true, true, true, true, true, true, false, false, false, true, true, false, false, false, false] ({ tmps := #[x0, x1, .int .i64 n, .pointer (some ⟨g3, 0, none⟩), .pointer (some ⟨g4, 0, none⟩), undef, x6, undef, undef, .pointer (some ⟨g9, 0, none⟩), .pointer (some ⟨g10, 0, none⟩), undef, x12, x13, x14, x15, x16, x17, x18, x19, x20, x21, x22, x23, (.agg #[.int .i64 R, .int .i64 C, .int .i64 T, .int .i64 B, .bool o]), (.agg #[.int .i64 r, .int .i64 c, .bool q]), (.int .i64 n), .agg #[.int .i64 u, .int .i64 c, .bool false], (.agg #[.int .i64 R, .int .i64 C, .int .i64 T, .int .i64 B, .bool o]), (.agg #[.int .i64 r, .int .i64 c, .bool q]), (.int .i64 n), .agg #[.int .i64 d, .int .i64 c, .bool false], (.agg #[.int .i64 R, .int .i64 C, .int .i64 T, .int .i64 B, .bool o]), (.agg #[.int .i64 r, .int .i64 c, .bool q]), (.int .i64 n), .agg #[.int .i64 r, .int .i64 lc, .bool false], (.agg #[.int .i64 R, .int .i64 C, .int .i64 T, .int .i64 B, .bool o]), (.agg #[.int .i64 r, .int .i64 c, .bool q]), (.int .i64 n), undef, undef, undef, undef, undef, undef, undef, undef, undef, undef, undef, undef, undef, undef, undef, undef, undef, undef, undef, undef, undef, undef, undef, undef, undef, undef, undef, undef, undef, undef, undef, undef, undef, undef, undef, undef, undef, undef, undef, undef, undef, undef, undef, undef, undef, undef, undef, undef, undef, undef, undef, undef, undef, undef, undef, undef, undef, undef], defers := [] }) w := by
  obtain ⟨o15, ho15, hg15, hp15, hd15⟩ := id I15
  obtain ⟨o16, ho16, hg16, hp16, hd16⟩ := id I16
  obtain ⟨o17, ho17, hg17, hp17, hd17⟩ := id I17
  refine wpAnyH_ready (rs := [15, 16, 17]) (rdy_ hR 25 _ _ rfl) (by simp) ?_
  refine AllReadyH.cons ho15 (fun K hK => ?_) ?_
  · refine RegN.call50 hg15 hp15 hd15 (hahead _) (fun x hx => ?_)
    simp only [Act.put, List.setIfInBounds_toArray, List.set_cons_zero, List.set_cons_succ]
    exact hK.out _ _ ((hSof _ (hB.trans (hx.mono hB.size)))) (fun _ => node4_4x9x10 hR I16 I17 I18 I19 I3 I7 I11 I15 I20 I21 I22 I23 hSof hQ g9 g10 x (hB.trans (hx.mono hB.size)) ge9 (b9.stays hx) ge10 (b10.stays hx) ne9_10)
  refine AllReadyH.cons ho16 (fun K hK => ?_) ?_
  · refine RegN.alloc65 hg16 hp16 hd16 ?_
    simp only [Act.put, List.setIfInBounds_toArray, List.set_cons_zero, List.set_cons_succ]
    exact hK.out _ _ ((hSof _ (hB.alloc hB.size _))) (fun _ => node3_3x7x9x10 hR I16 I17 I18 I19 I3 I7 I11 I15 I20 I21 I22 I23 hSof hahead hQ w.heap.size g9 g10 _ (hB.alloc hB.size _) hB.size (Blk.new w 65 _) ge9 (b9.alloc _) ge10 (b10.alloc _) (Nat.ne_of_gt b9.lt) (Nat.ne_of_gt b10.lt) ne9_10)
  refine AllReadyH.cons ho17 (fun K hK => ?_) ?_
  · refine RegN.alloc65 hg17 hp17 hd17 ?_
    simp only [Act.put, List.setIfInBounds_toArray, List.set_cons_zero, List.set_cons_succ]
    exact hK.out _ _ ((hSof _ (hB.alloc hB.size _))) (fun _ => node3_3x8x9x10 hR I16 I17 I18 I19 I3 I7 I11 I15 I20 I21 I22 I23 hSof hahead hQ w.heap.size g9 g10 _ (hB.alloc hB.size _) hB.size (Blk.new w 65 _) ge9 (b9.alloc _) ge10 (b10.alloc _) (Nat.ne_of_gt b9.lt) (Nat.ne_of_gt b10.lt) ne9_10)
  exact AllReadyH.nil
omit hup hdown hleft in
set_option maxRecDepth 100000 in
theorem node3_3x7 (g7 : Nat) (w : World) (hB : Below w0.heap.size w0 w) (ge7 : w0.heap.size ≤ g7) (b7 : Blk w g7 65 #[.int .i64 0, .int .i64 0, .bool false])  :
    wpAnyH Try.prog .any ops Q S 8 #[true, true, true, true, true, true, true, true, true, true, true, true, true, true, true, false, true, false, false, false, false, false, false, false] ({ tmps := #[x0, x1, .int .i64 n, .pointer (some ⟨g3, 0, none⟩), .pointer (some ⟨g4, 0, none⟩), undef, x6, .pointer (some ⟨g7, 0, none⟩), undef, undef, undef, undef, x12, x13, x14, x15, x16, x17, x18, x19, x20, x21, x22, x23, (.agg #[.int .i64 R, .int .i64 C, .int .i64 T, .int .i64 B, .bool o]), (.agg #[.int .i64 r, .int .i64 c, .bool q]), (.int .i64 n), .agg #[.int .i64 u, .int .i64 c, .bool false], (.agg #[.int .i64 R, .int .i64 C, .int .i64 T, .int .i64 B, .bool o]), (.agg #[.int .i64 r, .int .i64 c, .bool q]), (.int .i64 n), .agg #[.int .i64 d, .int .i64 c, .bool false], (.agg #[.int .i64 R, .int .i64 C, .int .i64 T, .int .i64 B, .bool o]), (.agg #[.int .i64 r, .int .i64 c, .bool q]), (.int .i64 n), .agg #[.int .i64 r, .int .i64 lc, .bool false], (.agg #[.int .i64 R, .int .i64 C, .int .i64 T, .int .i64 B, .bool o]), (.agg #[.int .i64 r, .int .i64 c, .bool q]), (.int .i64 n), undef, undef, undef, undef, undef, undef, undef, undef, undef, undef, undef, undef, undef, undef, undef, undef, undef, undef, undef, undef, undef, undef, undef, undef, undef, undef, undef, undef, undef, undef, undef, undef, undef, undef, undef, undef, undef, undef, undef, undef, undef, undef, undef, undef, undef, undef, undef, undef, undef, undef, undef, undef, undef, undef, undef, undef, undef, undef], defers := [] }) w := by
  obtain ⟨o15, ho15, hg15, hp15, hd15⟩ := id I15
  obtain ⟨o17, ho17, hg17, hp17, hd17⟩ := id I17
  obtain ⟨o18, ho18, hg18, hp18, hd18⟩ := id I18
  obtain ⟨o19, ho19, hg19, hp19, hd19⟩ := id I19
  refine wpAnyH_ready (rs := [15, 17, 18, 19]) (rdy_ hR 26 _ _ rfl) (by simp) ?_
  refine AllReadyH.cons ho15 (fun K hK => ?_) ?_
  · refine RegN.call50 hg15 hp15 hd15 (hahead _) (fun x hx => ?_)
    simp only [Act.put, List.setIfInBounds_toArray, List.set_cons_zero, List.set_cons_succ]
    exact hK.out _ _ ((hSof _ (hB.trans (hx.mono hB.size)))) (fun _ => node4_4x7 hR I16 I17 I18 I19 I3 I7 I11 I15 I20 I21 I22 I23 hSof hQ g7 x (hB.trans (hx.mono hB.size)) ge7 (b7.stays hx) )
  refine AllReadyH.cons ho17 (fun K hK => ?_) ?_
  · refine RegN.alloc65 hg17 hp17 hd17 ?_
    simp only [Act.put, List.setIfInBounds_toArray, List.set_cons_zero, List.set_cons_succ]
    exact hK.out _ _ ((hSof _ (hB.alloc hB.size _))) (fun _ => node3_3x7x8 hR I16 I17 I18 I19 I3 I7 I11 I15 I20 I21 I22 I23 hSof hahead hQ g7 w.heap.size _ (hB.alloc hB.size _) ge7 (b7.alloc _) hB.size (Blk.new w 65 _) (Nat.ne_of_lt b7.lt))
  refine AllReadyH.cons ho18 (fun K hK => ?_) ?_
  · refine RegN.alloc65 hg18 hp18 hd18 ?_
    simp only [Act.put, List.setIfInBounds_toArray, List.set_cons_zero, List.set_cons_succ]
    exact hK.out _ _ ((hSof _ (hB.alloc hB.size _))) (fun _ => node3_3x7x9 hR I16 I17 I18 I19 I3 I7 I11 I15 I20 I21 I22 I23 hSof hahead hQ g7 w.heap.size _ (hB.alloc hB.size _) ge7 (b7.alloc _) hB.size (Blk.new w 65 _) (Nat.ne_of_lt b7.lt))
  refine AllReadyH.cons ho19 (fun K hK => ?_) ?_
  · refine RegN.alloc65 hg19 hp19 hd19 ?_
    simp only [Act.put, List.setIfInBounds_toArray, List.set_cons_zero, List.set_cons_succ]
    exact hK.out _ _ ((hSof _ (hB.alloc hB.size _))) (fun _ => node3_3x7x10 hR I16 I17 I18 I19 I3 I7 I11 I15 I20 I21 I22 I23 hSof hahead hQ g7 w.heap.size _ (hB.alloc hB.size _) ge7 (b7.alloc _) hB.size (Blk.new w 65 _) (Nat.ne_of_lt b7.lt))
  exact AllReadyH.nil
omit hup hdown hleft in
set_option maxRecDepth 100000 in
theorem node3_3x8 (g8 : Nat) (w : World) (hB : Below w0.heap.size w0 w) (ge8 : w0.heap.size ≤ g8) (b8 : Blk w g8 65 #[.int .i64 0, .int .i64 0, .bool false])  :
    wpAnyH Try.prog .any ops Q S 8 #[true, true, true, true, true, true, true, true, true, true, true, true, true, true, true, false, false, true, false, false, false, false, false, false] ({ tmps := #[x0, x1, .int .i64 n, .pointer (some ⟨g3, 0, none⟩), .pointer (some ⟨g4, 0, none⟩), undef, x6, undef, .pointer (some ⟨g8, 0, none⟩), undef, undef, undef, x12, x13, x14, x15, x16, x17, x18, x19, x20, x21, x22, x23, (.agg #[.int .i64 R, .int .i64 C, .int .i64 T, .int .i64 B, .bool o]), (.agg #[.int .i64 r, .int .i64 c, .bool q]), (.int .i64 n), .agg #[.int .i64 u, .int .i64 c, .bool false], (.agg #[.int .i64 R, .int .i64 C, .int .i64 T, .int .i64 B, .bool o]), (.agg #[.int .i64 r, .int .i64 c, .bool q]), (.int .i64 n), .agg #[.int .i64 d, .int .i64 c, .bool false], (.agg #[.int .i64 R, .int .i64 C, .int .i64 T, .int .i64 B, .bool o]), (.agg #[.int .i64 r, .int .i64 c, .bool q]), (.int .i64 n), .agg #[.int .i64 r, .int .i64 lc, .bool false], (.agg #[.int .i64 R, .int .i64 C, .int .i64 T, .int .i64 B, .bool o]), (.agg #[.int .i64 r, .int .i64 c, .bool q]), (.int .i64 n), undef, undef, undef, undef, undef, undef, undef, undef, undef, undef, undef, undef, undef, undef, undef, undef, undef, undef, undef, undef, undef, undef, undef, undef, undef, undef, undef, undef, undef, undef, undef, undef, undef, undef, undef, undef, undef, undef, undef, undef, undef, undef, undef, undef, undef, undef, undef, undef, undef, undef, undef, undef, undef, undef, undef, undef, undef, undef], defers := [] }) w := by
  obtain ⟨o15, ho15, hg15, hp15, hd15⟩ := id I15
  obtain ⟨o16, ho16, hg16, hp16, hd16⟩ := id I16
  obtain ⟨o18, ho18, hg18, hp18, hd18⟩ := id I18
  obtain ⟨o19, ho19, hg19, hp19, hd19⟩ := id I19
  refine wpAnyH_ready (rs := [15, 16, 18, 19]) (rdy_ hR 27 _ _ rfl) (by simp) ?_
  refine AllReadyH.cons ho15 (fun K hK => ?_) ?_
  · refine RegN.call50 hg15 hp15 hd15 (hahead _) (fun x hx => ?_)
    simp only [Act.put, List.setIfInBounds_toArray, List.set_cons_zero, List.set_cons_succ]
    exact hK.out _ _ ((hSof _ (hB.trans (hx.mono hB.size)))) (fun _ => node4_4x8 hR I16 I17 I18 I19 I3 I7 I11 I15 I20 I21 I22 I23 hSof hQ g8 x (hB.trans (hx.mono hB.size)) ge8 (b8.stays hx) )
  refine AllReadyH.cons ho16 (fun K hK => ?_) ?_
  · refine RegN.alloc65 hg16 hp16 hd16 ?_
    simp only [Act.put, List.setIfInBounds_toArray, List.set_cons_zero, List.set_cons_succ]
    exact hK.out _ _ ((hSof _ (hB.alloc hB.size _))) (fun _ => node3_3x7x8 hR I16 I17 I18 I19 I3 I7 I11 I15 I20 I21 I22 I23 hSof hahead hQ w.heap.size g8 _ (hB.alloc hB.size _) hB.size (Blk.new w 65 _) ge8 (b8.alloc _) (Nat.ne_of_gt b8.lt))
  refine AllReadyH.cons ho18 (fun K hK => ?_) ?_
  · refine RegN.alloc65 hg18 hp18 hd18 ?_
    simp only [Act.put, List.setIfInBounds_toArray, List.set_cons_zero, List.set_cons_succ]
    exact hK.out _ _ ((hSof _ (hB.alloc hB.size _))) (fun _ => node3_3x8x9 hR I16 I17 I18 I19 I3 I7 I11 I15 I20 I21 I22 I23 hSof hahead hQ g8 w.heap.size _ (hB.alloc hB.size _) ge8 (b8.alloc _) hB.size (Blk.new w 65 _) (Nat.ne_of_lt b8.lt))
  refine AllReadyH.cons ho19 (fun K hK => ?_) ?_
  · refine RegN.alloc65 hg19 hp19 hd19 ?_
    simp only [Act.put, List.setIfInBounds_toArray, List.set_cons_zero, List.set_cons_succ]
    exact hK.out _ _ ((hSof _ (hB.alloc hB.size _))) (fun _ => node3_3x8x10 hR I16 I17 I18 I19 I3 I7 I11 I15 I20 I21 I22 I23 hSof hahead hQ g8 w.heap.size _ (hB.alloc hB.size _) ge8 (b8.alloc _) hB.size (Blk.new w 65 _) (Nat.ne_of_lt b8.lt))
  exact AllReadyH.nil
omit hup hdown hleft in
set_option maxRecDepth 100000 in
theorem node3_3x9 (g9 : Nat) (w : World) (hB : Below w0.heap.size w0 w) (ge9 : w0.heap.size ≤ g9) (b9 : Blk w g9 65 #[.int .i64 0, .int .i64 0, .bool false])  :
    wpAnyH Try.prog .any ops Q S 8 #[true, true, true, true, true, true, true, true, true, true, true, true, true, true, true, false, false, false, true, false, false, false, false, false] ({ tmps := #[x0, x1, .int .i64 n, .pointer (some ⟨g3, 0, none⟩), .pointer (some ⟨g4, 0, none⟩), undef, x6, undef, undef, .pointer (some ⟨g9, 0, none⟩), undef, undef, x12, x13, x14, x15, x16, x17, x18, x19, x20, x21, x22, x23, (.agg #[.int .i64 R, .int .i64 C, .int .i64 T, .int .i64 B, .bool o]), (.agg #[.int .i64 r, .int .i64 c, .bool q]), (.int .i64 n), .agg #[.int .i64 u, .int .i64 c, .bool false], (.agg #[.int .i64 R, .int .i64 C, .int .i64 T, .int .i64 B, .bool o]), (.agg #[.int .i64 r, .int .i64 c, .bool q]), (.int .i64 n), .agg #[.int .i64 d, .int .i64 c, .bool false], (.agg #[.int .i64 R, .int .i64 C, .int .i64 T, .int .i64 B, .bool o]), (.agg #[.int .i64 r, .int .i64 c, .bool q]), (.int .i64 n), .agg #[.int .i64 r, .int .i64 lc, .bool false], (.agg #[.int .i64 R, .int .i64 C, .int .i64 T, .int .i64 B, .bool o]), (.agg #[.int .i64 r, .int .i64 c, .bool q]), (.int .i64 n), undef, undef, undef, undef, undef, undef, undef, undef, undef, undef, undef, undef, undef, undef, undef, undef, undef, undef, undef, undef, undef, undef, undef, undef, undef, undef, undef, undef, undef, undef, undef, undef, undef, undef, undef, undef, undef, undef, undef, undef, undef, undef, undef, undef, undef, undef, undef, undef, undef, undef, undef, undef, undef, undef, undef, undef, undef, undef], defers := [] }) w := by
  obtain ⟨o15, ho15, hg15, hp15, hd15⟩ := id I15
  obtain ⟨o16, ho16, hg16, hp16, hd16⟩ := id I16
  obtain ⟨o17, ho17, hg17, hp17, hd17⟩ := id I17
  obtain ⟨o19, ho19, hg19, hp19, hd19⟩ := id I19
  refine wpAnyH_ready (rs := [15, 16, 17, 19]) (rdy_ hR 28 _ _ rfl) (by simp) ?_
  refine AllReadyH.cons ho15 (fun K hK => ?_) ?_
  · refine RegN.call50 hg15 hp15 hd15 (hahead _) (fun x hx => ?_)
    simp only [Act.put, List.setIfInBounds_toArray, List.set_cons_zero, List.set_cons_succ]
    exact hK.out _ _ ((hSof _ (hB.trans (hx.mono hB.size)))) (fun _ => node4_4x9 hR I16 I17 I18 I19 I3 I7 I11 I15 I20 I21 I22 I23 hSof hQ g9 x (hB.trans (hx.mono hB.size)) ge9 (b9.stays hx) )
  refine AllReadyH.cons ho16 (fun K hK => ?_) ?_
  · refine RegN.alloc65 hg16 hp16 hd16 ?_
    simp only [Act.put, List.setIfInBounds_toArray, List.set_cons_zero, List.set_cons_succ]
    exact hK.out _ _ ((hSof _ (hB.alloc hB.size _))) (fun _ => node3_3x7x9 hR I16 I17 I18 I19 I3 I7 I11 I15 I20 I21 I22 I23 hSof hahead hQ w.heap.size g9 _ (hB.alloc hB.size _) hB.size (Blk.new w 65 _) ge9 (b9.alloc _) (Nat.ne_of_gt b9.lt))
  refine AllReadyH.cons ho17 (fun K hK => ?_) ?_
  · refine RegN.alloc65 hg17 hp17 hd17 ?_
    simp only [Act.put, List.setIfInBounds_toArray, List.set_cons_zero, List.set_cons_succ]
    exact hK.out _ _ ((hSof _ (hB.alloc hB.size _))) (fun _ => node3_3x8x9 hR I16 I17 I18 I19 I3 I7 I11 I15 I20 I21 I22 I23 hSof hahead hQ w.heap.size g9 _ (hB.alloc hB.size _) hB.size (Blk.new w 65 _) ge9 (b9.alloc _) (Nat.ne_of_gt b9.lt))
  refine AllReadyH.cons ho19 (fun K hK => ?_) ?_
  · refine RegN.alloc65 hg19 hp19 hd19 ?_
    simp only [Act.put, List.setIfInBounds_toArray, List.set_cons_zero, List.set_cons_succ]
    exact hK.out _ _ ((hSof _ (hB.alloc hB.size _))) (fun _ => node3_3x9x10 hR I16 I17 I18 I19 I3 I7 I11 I15 I20 I21 I22 I23 hSof hahead hQ g9 w.heap.size _ (hB.alloc hB.size _) ge9 (b9.alloc _) hB.size (Blk.new w 65 _) (Nat.ne_of_lt b9.lt))
  exact AllReadyH.nil
omit hup hdown hleft in
set_option maxRecDepth 100000 in
theorem node3_3x10 (g10 : Nat) (w : World) (hB : Below w0.heap.size w0 w) (ge10 : w0.heap.size ≤ g10) (b10 : Blk w g10 65 #[.int .i64 0, .int .i64 0, .bool false])  :
    wpAnyH Try.prog .any ops Q S 8 #[true, true, true, true, true, true, true, true, true, true, true, true, true, true, true, false, false, false, false, true, false, false, false, false] ({ tmps := #[x0, x1, .int .i64 n, .pointer (some ⟨g3, 0, none⟩), .pointer (some ⟨g4, 0, none⟩), undef, x6, undef, undef, undef, .pointer (some ⟨g10, 0, none⟩), undef, x12, x13, x14, x15, x16, x17, x18, x19, x20, x21, x22, x23, (.agg #[.int .i64 R, .int .i64 C, .int .i64 T, .int .i64 B, .bool o]), (.agg #[.int .i64 r, .int .i64 c, .bool q]), (.int .i64 n), .agg #[.int .i64 u, .int .i64 c, .bool false], (.agg #[.int .i64 R, .int .i64 C, .int .i64 T, .int .i64 B, .bool o]), (.agg #[.int .i64 r, .int .i64 c, .bool q]), (.int .i64 n), .agg #[.int .i64 d, .int .i64 c, .bool false], (.agg #[.int .i64 R, .int .i64 C, .int .i64 T, .int .i64 B, .bool o]), (.agg #[.int .i64 r, .int .i64 c, .bool q]), (.int .i64 n), .agg #[.int .i64 r, .int .i64 lc, .bool false], (.agg #[.int .i64 R, .int .i64 C, .int .i64 T, .int .i64 B, .bool o]), (.agg #[.int .i64 r, .int .i64 c, .bool q]), (.int .i64 n), undef, undef, undef, undef, undef, undef, undef, undef, undef, undef, undef, undef, undef, undef, undef, undef, undef, undef, undef, undef, undef, undef, undef, undef, undef, undef, undef, undef, undef, undef, undef, undef, undef, undef, undef, undef, undef, undef, undef, undef, undef, undef, undef, undef, undef, undef, undef, undef, undef, undef, undef, undef, undef, undef, undef, undef, undef, undef], defers := [] }) w := by
  obtain ⟨o15, ho15, hg15, hp15, hd15⟩ := id I15
  obtain ⟨o16, ho16, hg16, hp16, hd16⟩ := id I16
  obtain ⟨o17, ho17, hg17, hp17, hd17⟩ := id I17
  obtain ⟨o18, ho18, hg18, hp18, hd18⟩ := id I18
  refine wpAnyH_ready (rs := [15, 16, 17, 18]) (rdy_ hR 29 _ _ rfl) (by simp) ?_
  refine AllReadyH.cons ho15 (fun K hK => ?_) ?_
  · refine RegN.call50 hg15 hp15 hd15 (hahead _) (fun x hx => ?_)
    simp only [Act.put, List.setIfInBounds_toArray, List.set_cons_zero, List.set_cons_succ]
    exact hK.out _ _ ((hSof _ (hB.trans (hx.mono hB.size)))) (fun _ => node4_4x10 hR I16 I17 I18 I19 I3 I7 I11 I15 I20 I21 I22 I23 hSof hQ g10 x (hB.trans (hx.mono hB.size)) ge10 (b10.stays hx) )
  refine AllReadyH.cons ho16 (fun K hK => ?_) ?_
  · refine RegN.alloc65 hg16 hp16 hd16 ?_
    simp only [Act.put, List.setIfInBounds_toArray, List.set_cons_zero, List.set_cons_succ]
    exact hK.out _ _ ((hSof _ (hB.alloc hB.size _))) (fun _ => node3_3x7x10 hR I16 I17 I18 I19 I3 I7 I11 I15 I20 I21 I22 I23 hSof hahead hQ w.heap.size g10 _ (hB.alloc hB.size _) hB.size (Blk.new w 65 _) ge10 (b10.alloc _) (Nat.ne_of_gt b10.lt))
  refine AllReadyH.cons ho17 (fun K hK => ?_) ?_
  · refine RegN.alloc65 hg17 hp17 hd17 ?_
    simp only [Act.put, List.setIfInBounds_toArray, List.set_cons_zero, List.set_cons_succ]
    exact hK.out _ _ ((hSof _ (hB.alloc hB.size _))) (fun _ => node3_3x8x10 hR I16 I17 I18 I19 I3 I7 I11 I15 I20 I21 I22 I23 hSof hahead hQ w.heap.size g10 _ (hB.alloc hB.size _) hB.size (Blk.new w 65 _) ge10 (b10.alloc _) (Nat.ne_of_gt b10.lt))
  refine AllReadyH.cons ho18 (fun K hK => ?_) ?_
  · refine RegN.alloc65 hg18 hp18 hd18 ?_
    simp only [Act.put, List.setIfInBounds_toArray, List.set_cons_zero, List.set_cons_succ]
    exact hK.out _ _ ((hSof _ (hB.alloc hB.size _))) (fun _ => node3_3x9x10 hR I16 I17 I18 I19 I3 I7 I11 I15 I20 I21 I22 I23 hSof hahead hQ w.heap.size g10 _ (hB.alloc hB.size _) hB.size (Blk.new w 65 _) ge10 (b10.alloc _) (Nat.ne_of_gt b10.lt))
  exact AllReadyH.nil
omit hup hdown hleft in
set_option maxRecDepth 100000 in
theorem node3_3  (w : World) (hB : Below w0.heap.size w0 w)   :
    wpAnyH Try.prog .any ops Q S 9 #[true, true, true, true, true, true, true, true, true, true, true, true, true, true, true, false, false, false, false, false, false, false, false, false] ({ tmps := #[x0, x1, .int .i64 n, .pointer (some ⟨g3, 0, none⟩), .pointer (some ⟨g4, 0, none⟩), undef, x6, undef, undef, undef, undef, undef, x12, x13, x14, x15, x16, x17, x18, x19, x20, x21, x22, x23, (.agg #[.int .i64 R, .int .i64 C, .int .i64 T, .int .i64 B, .bool o]), (.agg #[.int .i64 r, .int .i64 c, .bool q]), (.int .i64 n), .agg #[.int .i64 u, .int .i64 c, .bool false], (.agg #[.int .i64 R, .int .i64 C, .int .i64 T, .int .i64 B, .bool o]), (.agg #[.int .i64 r, .int .i64 c, .bool q]), (.int .i64 n), .agg #[.int .i64 d, .int .i64 c, .bool false], (.agg #[.int .i64 R, .int .i64 C, .int .i64 T, .int .i64 B, .bool o]), (.agg #[.int .i64 r, .int .i64 c, .bool q]), (.int .i64 n), .agg #[.int .i64 r, .int .i64 lc, .bool false], (.agg #[.int .i64 R, .int .i64 C, .int .i64 T, .int .i64 B, .bool o]), (.agg #[.int .i64 r, .int .i64 c, .bool q]), (.int .i64 n), undef, undef, undef, undef, undef, undef, undef, undef, undef, undef, undef, undef, undef, undef, undef, undef, undef, undef, undef, undef, undef, undef, undef, undef, undef, undef, undef, undef, undef, undef, undef, undef, undef, undef, undef, undef, undef, undef, undef, undef, undef, undef, undef, undef, undef, undef, undef, undef, undef, undef, undef, undef, undef, undef, undef, undef, undef, undef], defers := [] }) w := by
  obtain ⟨o15, ho15, hg15, hp15, hd15⟩ := id I15
  obtain ⟨o16, ho16, hg16, hp16, hd16⟩ := id I16
  obtain ⟨o17, ho17, hg17, hp17, hd17⟩ := id I17
  obtain ⟨o18, ho18, hg18, hp18, hd18⟩ := id I18
  obtain ⟨o19, ho19, hg19, hp19, hd19⟩ := id I19
  refine wpAnyH_ready (rs := [15, 16, 17, 18, 19]) (rdy_ hR 30 _ _ rfl) (by simp) ?_
  refine AllReadyH.cons ho15 (fun K hK => ?_) ?_
  · refine RegN.call50 hg15 hp15 hd15 (hahead _) (fun x hx => ?_)
    simp only [Act.put, List.setIfInBounds_toArray, List.set_cons_zero, List.set_cons_succ]
    exact hK.out _ _ ((hSof _ (hB.trans (hx.mono hB.size)))) (fun _ => node4_4 hR I16 I17 I18 I19 I3 I7 I11 I15 I20 I21 I22 I23 hSof hQ  x (hB.trans (hx.mono hB.size))  )
  refine AllReadyH.cons ho16 (fun K hK => ?_) ?_
  · refine RegN.alloc65 hg16 hp16 hd16 ?_
    simp only [Act.put, List.setIfInBounds_toArray, List.set_cons_zero, List.set_cons_succ]
    exact hK.out _ _ ((hSof _ (hB.alloc hB.size _))) (fun _ => node3_3x7 hR I16 I17 I18 I19 I3 I7 I11 I15 I20 I21 I22 I23 hSof hahead hQ w.heap.size _ (hB.alloc hB.size _) hB.size (Blk.new w 65 _) )
  refine AllReadyH.cons ho17 (fun K hK => ?_) ?_
  · refine RegN.alloc65 hg17 hp17 hd17 ?_
    simp only [Act.put, List.setIfInBounds_toArray, List.set_cons_zero, List.set_cons_succ]
    exact hK.out _ _ ((hSof _ (hB.alloc hB.size _))) (fun _ => node3_3x8 hR I16 I17 I18 I19 I3 I7 I11 I15 I20 I21 I22 I23 hSof hahead hQ w.heap.size _ (hB.alloc hB.size _) hB.size (Blk.new w 65 _) )
  refine AllReadyH.cons ho18 (fun K hK => ?_) ?_
  · refine RegN.alloc65 hg18 hp18 hd18 ?_
    simp only [Act.put, List.setIfInBounds_toArray, List.set_cons_zero, List.set_cons_succ]
    exact hK.out _ _ ((hSof _ (hB.alloc hB.size _))) (fun _ => node3_3x9 hR I16 I17 I18 I19 I3 I7 I11 I15 I20 I21 I22 I23 hSof hahead hQ w.heap.size _ (hB.alloc hB.size _) hB.size (Blk.new w 65 _) )
  refine AllReadyH.cons ho19 (fun K hK => ?_) ?_
  · refine RegN.alloc65 hg19 hp19 hd19 ?_
    simp only [Act.put, List.setIfInBounds_toArray, List.set_cons_zero, List.set_cons_succ]
    exact hK.out _ _ ((hSof _ (hB.alloc hB.size _))) (fun _ => node3_3x10 hR I16 I17 I18 I19 I3 I7 I11 I15 I20 I21 I22 I23 hSof hahead hQ w.heap.size _ (hB.alloc hB.size _) hB.size (Blk.new w 65 _) )
  exact AllReadyH.nil
omit hup hdown in
set_option maxRecDepth 100000 in
theorem node2_2x7x8x9x10 (g7 : Nat) (g8 : Nat) (g9 : Nat) (g10 : Nat) (w : World) (hB : Below w0.heap.size w0 w) (ge7 : w0.heap.size ≤ g7) (b7 : Blk w g7 65 #[.int .i64 0, .int .i64 0, .bool false]) (ge8 : w0.heap.size ≤ g8) (b8 : Blk w g8 65 #[.int .i64 0, .int .i64 0, .bool false]) (ge9 : w0.heap.size ≤ g9) (b9 : Blk w g9 65 #[.int .i64 0, .int .i64 0, .bool false]) (ge10 : w0.heap.size ≤ g10) (b10 : Blk w g10 65 #[.int .i64 0, .int .i64 0, .bool false]) (ne7_8 : g7 ≠ g8) (ne7_9 : g7 ≠ g9) (ne7_10 : g7 ≠ g10) (ne8_9 : g8 ≠ g9) (ne8_10 : g8 ≠ g10) (ne9_10 : g9 ≠ g10) :
    wpAnyH Try.prog .any ops Q S 6 #[true, true, true, true, true, true, true, true, true, true, true, false, true, true, true, false, true, true, true, true, false, false, false, false] ({ tmps := #[x0, x1, .int .i64 n, .pointer (some ⟨g3, 0, none⟩), .pointer (some ⟨g4, 0, none⟩), undef, x6, .pointer (some ⟨g7, 0, none⟩), .pointer (some ⟨g8, 0, none⟩), .pointer (some ⟨g9, 0, none⟩), .pointer (some ⟨g10, 0, none⟩), undef, x12, x13, x14, x15, x16, x17, x18, x19, x20, x21, x22, x23, (.agg #[.int .i64 R, .int .i64 C, .int .i64 T, .int .i64 B, .bool o]), (.agg #[.int .i64 r, .int .i64 c, .bool q]), (.int .i64 n), .agg #[.int .i64 u, .int .i64 c, .bool false], (.agg #[.int .i64 R, .int .i64 C, .int .i64 T, .int .i64 B, .bool o]), (.agg #[.int .i64 r, .int .i64 c, .bool q]), (.int .i64 n), .agg #[.int .i64 d, .int .i64 c, .bool false], (.agg #[.int .i64 R, .int .i64 C, .int .i64 T, .int .i64 B, .bool o]), (.agg #[.int .i64 r, .int .i64 c, .bool q]), (.int .i64 n), undef, (.agg #[.int .i64 R, .int .i64 C, .int .i64 T, .int .i64 B, .bool o]), (.agg #[.int .i64 r, .int .i64 c, .bool q]), (.int .i64 n), undef, undef, undef, undef, undef, undef, undef, undef, undef, undef, undef, undef, undef, undef, undef, undef, undef, undef, undef, undef, undef, undef, undef, undef, undef, undef, undef, undef, undef, undef, undef, undef, undef, undef, undef, undef, undef, undef, undef, undef, undef, undef, undef, undef, undef, undef, undef, undef, undef, undef, undef, undef, undef, undef, undef, undef, undef, undef], defers := [] }) w := by
  obtain ⟨o11, ho11, hg11, hp11, hd11⟩ := id I11
  refine wpAnyH_ready (rs := [11]) (rdy_ hR 31 _ _ rfl) (by simp) ?_
  refine AllReadyH.cons ho11 (fun K hK => ?_) ?_
  · refine RegN.call49 hg11 hp11 hd11 (hleft _) (fun x hx => ?_)
    simp only [Act.put, List.setIfInBounds_toArray, List.set_cons_zero, List.set_cons_succ]
    exact hK.out _ _ ((hSof _ (hB.trans (hx.mono hB.size)))) (fun _ => node3_3x7x8x9x10 hR I16 I17 I18 I19 I3 I7 I11 I15 I20 I21 I22 I23 hSof hahead hQ g7 g8 g9 g10 x (hB.trans (hx.mono hB.size)) ge7 (b7.stays hx) ge8 (b8.stays hx) ge9 (b9.stays hx) ge10 (b10.stays hx) ne7_8 ne7_9 ne7_10 ne8_9 ne8_10 ne9_10)
  exact AllReadyH.nil
omit hup hdown in
set_option maxRecDepth 100000 in
theorem node2_2x7x8x9 (g7 : Nat) (g8 : Nat) (g9 : Nat) (w : World) (hB : Below w0.heap.size w0 w) (ge7 : w0.heap.size ≤ g7) (b7 : Blk w g7 65 #[.int .i64 0, .int .i64 0, .bool false]) (ge8 : w0.heap.size ≤ g8) (b8 : Blk w g8 65 #[.int .i64 0, .int .i64 0, .bool false]) (ge9 : w0.heap.size ≤ g9) (b9 : Blk w g9 65 #[.int .i64 0, .int .i64 0, .bool false]) (ne7_8 : g7 ≠ g8) (ne7_9 : g7 ≠ g9) (ne8_9 : g8 ≠ g9) :
    wpAnyH Try.prog .any ops Q S 7 #[true, true, true, true, true, true, true, true, true, true, true, false, true, true, true, false, true, true, true, false, false, false, false, false] ({ tmps := #[x0, x1, .int .i64 n, .pointer (some ⟨g3, 0, none⟩), .pointer (some ⟨g4, 0, none⟩), undef, x6, .pointer (some ⟨g7, 0, none⟩), .pointer (some ⟨g8, 0, none⟩), .pointer (some ⟨g9, 0, none⟩), undef, undef, x12, x13, x14, x15, x16, x17, x18, x19, x20, x21, x22, x23, (.agg #[.int .i64 R, .int .i64 C, .int .i64 T, .int .i64 B, .bool o]), (.agg #[.int .i64 r, .int .i64 c, .bool q]), (.int .i64 n), .agg #[.int .i64 u, .int .i64 c, .bool false], (.agg #[.int .i64 R, .int .i64 C, .int .i64 T, .int .i64 B, .bool o]), (.agg #[.int .i64 r, .int .i64 c, .bool q]), (.int .i64 n), .agg #[.int .i64 d, .int .i64 c, .bool false], (.agg #[.int .i64 R, .int .i64 C, .int .i64 T, .int .i64 B, .bool o]), (.agg #[.int .i64 r, .int .i64 c, .bool q]), (.int .i64 n), undef, (.agg #[.int .i64 R, .int .i64 C, .int .i64 T, .int .i64 B, .bool o]), (.agg #[.int .i64 r, .int .i64 c, .bool q]), (.int .i64 n), undef, undef, undef, undef, undef, undef, undef, undef, undef, undef, undef, undef, undef, undef, undef, undef, undef, undef, undef, undef, undef, undef, undef, undef, undef, undef, undef, undef, undef, undef, undef, undef, undef, undef, undef, undef, undef, undef, undef, undef, undef, undef, undef, undef, undef, undef, undef, undef, undef, undef, undef, undef, undef, undef, undef, undef, undef, undef], defers := [] }) w := by
  obtain ⟨o11, ho11, hg11, hp11, hd11⟩ := id I11
  obtain ⟨o19, ho19, hg19, hp19, hd19⟩ := id I19
  refine wpAnyH_ready (rs := [11, 19]) (rdy_ hR 32 _ _ rfl) (by simp) ?_
  refine AllReadyH.cons ho11 (fun K hK => ?_) ?_
  · refine RegN.call49 hg11 hp11 hd11 (hleft _) (fun x hx => ?_)
    simp only [Act.put, List.setIfInBounds_toArray, List.set_cons_zero, List.set_cons_succ]
    exact hK.out _ _ ((hSof _ (hB.trans (hx.mono hB.size)))) (fun _ => node3_3x7x8x9 hR I16 I17 I18 I19 I3 I7 I11 I15 I20 I21 I22 I23 hSof hahead hQ g7 g8 g9 x (hB.trans (hx.mono hB.size)) ge7 (b7.stays hx) ge8 (b8.stays hx) ge9 (b9.stays hx) ne7_8 ne7_9 ne8_9)
  refine AllReadyH.cons ho19 (fun K hK => ?_) ?_
  · refine RegN.alloc65 hg19 hp19 hd19 ?_
    simp only [Act.put, List.setIfInBounds_toArray, List.set_cons_zero, List.set_cons_succ]
    exact hK.out _ _ ((hSof _ (hB.alloc hB.size _))) (fun _ => node2_2x7x8x9x10 hR I16 I17 I18 I19 I3 I7 I11 I15 I20 I21 I22 I23 hSof hleft hahead hQ g7 g8 g9 w.heap.size _ (hB.alloc hB.size _) ge7 (b7.alloc _) ge8 (b8.alloc _) ge9 (b9.alloc _) hB.size (Blk.new w 65 _) ne7_8 ne7_9 (Nat.ne_of_lt b7.lt) ne8_9 (Nat.ne_of_lt b8.lt) (Nat.ne_of_lt b9.lt))
  exact AllReadyH.nil
omit hup hdown in
set_option maxRecDepth 100000 in
theorem node2_2x7x8x10 (g7 : Nat) (g8 : Nat) (g10 : Nat) (w : World) (hB : Below w0.heap.size w0 w) (ge7 : w0.heap.size ≤ g7) (b7 : Blk w g7 65 #[.int .i64 0, .int .i64 0, .bool false]) (ge8 : w0.heap.size ≤ g8) (b8 : Blk w g8 65 #[.int .i64 0, .int .i64 0, .bool false]) (ge10 : w0.heap.size ≤ g10) (b10 : Blk w g10 65 #[.int .i64 0, .int .i64 0, .bool false]) (ne7_8 : g7 ≠ g8) (ne7_10 : g7 ≠ g10) (ne8_10 : g8 ≠ g10) :
    wpAnyH Try.prog .any ops Q S 7 #[true, true, true, true, true, true, true, true, true, true, true, false, true, true, true, false, true, true, false, true, false, false, false, false] ({ tmps := #[x0, x1, .int .i64 n, .pointer (some ⟨g3, 0, none⟩), .pointer (some ⟨g4, 0, none⟩), undef, x6, .pointer (some ⟨g7, 0, none⟩), .pointer (some ⟨g8, 0, none⟩), undef, .pointer (some ⟨g10, 0, none⟩), undef, x12, x13, x14, x15, x16, x17, x18, x19, x20, x21, x22, x23, (.agg #[.int .i64 R, .int .i64 C, .int .i64 T, .int .i64 B, .bool o]), (.agg #[.int .i64 r, .int .i64 c, .bool q]), (.int .i64 n), .agg #[.int .i64 u, .int .i64 c, .bool false], (.agg #[.int .i64 R, .int .i64 C, .int .i64 T, .int .i64 B, .bool o]), (.agg #[.int .i64 r, .int .i64 c, .bool q]), (.int .i64 n), .agg #[.int .i64 d, .int .i64 c, .bool false], (.agg #[.int .i64 R, .int .i64 C, .int .i64 T, .int .i64 B, .bool o]), (.agg #[.int .i64 r, .int .i64 c, .bool q]), (.int .i64 n), undef, (.agg #[.int .i64 R, .int .i64 C, .int .i64 T, .int .i64 B, .bool o]), (.agg #[.int .i64 r, .int .i64 c, .bool q]), (.int .i64 n), undef, undef, undef, undef, undef, undef, undef, undef, undef, undef, undef, undef, undef, undef, undef, undef, undef, undef, undef, undef, undef, undef, undef, undef, undef, undef, undef, undef, undef, undef, undef, undef, undef, undef, undef, undef, undef, undef, undef, undef, undef, undef, undef, undef, undef, undef, undef, undef, undef, undef, undef, undef, undef, undef, undef, undef, undef, undef], defers := [] }) w := by
  obtain ⟨o11, ho11, hg11, hp11, hd11⟩ := id I11
  obtain ⟨o18, ho18, hg18, hp18, hd18⟩ := id I18
  refine wpAnyH_ready (rs := [11, 18]) (rdy_ hR 33 _ _ rfl) (by simp) ?_
  refine AllReadyH.cons ho11 (fun K hK => ?_) ?_
  · refine RegN.call49 hg11 hp11 hd11 (hleft _) (fun x hx => ?_)
    simp only [Act.put, List.setIfInBounds_toArray, List.set_cons_zero, List.set_cons_succ]
    exact hK.out _ _ ((hSof _ (hB.trans (hx.mono hB.size)))) (fun _ => node3_3x7x8x10 hR I16 I17 I18 I19 I3 I7 I11 I15 I20 I21 I22 I23 hSof hahead hQ g7 g8 g10 x (hB.trans (hx.mono hB.size)) ge7 (b7.stays hx) ge8 (b8.stays hx) ge10 (b10.stays hx) ne7_8 ne7_10 ne8_10)
  refine AllReadyH.cons ho18 (fun K hK => ?_) ?_
  · refine RegN.alloc65 hg18 hp18 hd18 ?_
    simp only [Act.put, List.setIfInBounds_toArray, List.set_cons_zero, List.set_cons_succ]
    exact hK.out _ _ ((hSof _ (hB.alloc hB.size _))) (fun _ => node2_2x7x8x9x10 hR I16 I17 I18 I19 I3 I7 I11 I15 I20 I21 I22 I23 hSof hleft hahead hQ g7 g8 w.heap.size g10 _ (hB.alloc hB.size _) ge7 (b7.alloc _) ge8 (b8.alloc _) hB.size (Blk.new w 65 _) ge10 (b10.alloc _) ne7_8 (Nat.ne_of_lt b7.lt) ne7_10 (Nat.ne_of_lt b8.lt) ne8_10 (Nat.ne_of_gt b10.lt))
  exact AllReadyH.nil
omit hup hdown in
set_option maxRecDepth 100000 in
theorem node2_2x7x9x10 (g7 : Nat) (g9 : Nat) (g10 : Nat) (w : World) (hB : Below w0.heap.size w0 w) (ge7 : w0.heap.size ≤ g7) (b7 : Blk w g7 65 #[.int .i64 0, .int .i64 0, .bool false]) (ge9 : w0.heap.size ≤ g9) (b9 : Blk w g9 65 #[.int .i64 0, .int .i64 0, .bool false]) (ge10 : w0.heap.size ≤ g10) (b10 : Blk w g10 65 #[.int .i64 0, .int .i64 0, .bool false]) (ne7_9 : g7 ≠ g9) (ne7_10 : g7 ≠ g10) (ne9_10 : g9 ≠ g10) :
    wpAnyH Try.prog .any ops Q S 7 #[true, true, true, true, true, true, true, true, true, true, true, false, true, true, true, false, true, false, true, true, false, false, false, false] ({ tmps := #[x0, x1, .int .i64 n, .pointer (some ⟨g3, 0, none⟩), .pointer (some ⟨g4, 0, none⟩), undef, x6, .pointer (some ⟨g7, 0, none⟩), undef, .pointer (some ⟨g9, 0, none⟩), .pointer (some ⟨g10, 0, none⟩), undef, x12, x13, x14, x15, x16, x17, x18, x19, x20, x21, x22, x23, (.agg #[.int .i64 R, .int .i64 C, .int .i64 T, .int .i64 B, .bool o]), (.agg #[.int .i64 r, .int .i64 c, .bool q]), (.int .i64 n), .agg #[.int .i64 u, .int .i64 c, .bool false], (.agg #[.int .i64 R, .int .i64 C, .int .i64 T, .int .i64 B, .bool o]), (.agg #[.int .i64 r, .int .i64 c, .bool q]), (.int .i64 n), .agg #[.int .i64 d, .int .i64 c, .bool false], (.agg #[.int .i64 R, .int .i64 C, .int .i64 T, .int .i64 B, .bool o]), (.agg #[.int .i64 r, .int .i64 c, .bool q]), (.int .i64 n), undef, (.agg #[.int .i64 R, .int .i64 C, .int .i64 T, .int .i64 B, .bool o]), (.agg #[.int .i64 r, .int .i64 c, .bool q]), (.int .i64 n), undef, undef, undef, undef, undef, undef, undef, undef, undef, undef, undef, undef, undef, undef, undef, undef, undef, undef, undef, undef, undef, undef, undef, undef, undef, undef, undef, undef, undef, undef, undef, undef, undef, undef, undef, undef, undef, undef, undef, undef, undef, undef, undef, undef, undef, undef, undef, undef, undef, undef, undef, undef, undef, undef, undef, undef, undef, undef], defers := [] }) w := by
  obtain ⟨o11, ho11, hg11, hp11, hd11⟩ := id I11
  obtain ⟨o17, ho17, hg17, hp17, hd17⟩ := id I17
  refine wpAnyH_ready (rs := [11, 17]) (rdy_ hR 34 _ _ rfl) (by simp) ?_
  refine AllReadyH.cons ho11 (fun K hK => ?_) ?_
  · refine RegN.call49 hg11 hp11 hd11 (hleft _) (fun x hx => ?_)
    simp only [Act.put, List.setIfInBounds_toArray, List.set_cons_zero, List.set_cons_succ]
    exact hK.out _ _ ((hSof _ (hB.trans (hx.mono hB.size)))) (fun _ => node3_3x7x9x10 hR I16 I17 I18 I19 I3 I7 I11 I15 I20 I21 I22 I23 hSof hahead hQ g7 g9 g10 x (hB.trans (hx.mono hB.size)) ge7 (b7.stays hx) ge9 (b9.stays hx) ge10 (b10.stays hx) ne7_9 ne7_10 ne9_10)
  refine AllReadyH.cons ho17 (fun K hK => ?_) ?_
  · refine RegN.alloc65 hg17 hp17 hd17 ?_
    simp only [Act.put, List.setIfInBounds_toArray, List.set_cons_zero, List.set_cons_succ]
    exact hK.out _ _ ((hSof _ (hB.alloc hB.size _))) (fun _ => node2_2x7x8x9x10 hR I16 I17 I18 I19 I3 I7 I11 I15 I20 I21 I22 I23 hSof hleft hahead hQ g7 w.heap.size g9 g10 _ (hB.alloc hB.size _) ge7 (b7.alloc _) hB.size (Blk.new w 65 _) ge9 (b9.alloc _) ge10 (b10.alloc _) (Nat.ne_of_lt b7.lt) ne7_9 ne7_10 (Nat.ne_of_gt b9.lt) (Nat.ne_of_gt b10.lt) ne9_10)
  exact AllReadyH.nil
omit hup hdown in
set_option maxRecDepth 100000 in
theorem node2_2x8x9x10 (g8 : Nat) (g9 : Nat) (g10 : Nat) (w : World) (hB : Below w0.heap.size w0 w) (ge8 : w0.heap.size ≤ g8) (b8 : Blk w g8 65 #[.int .i64 0, .int .i64 0, .bool false]) (ge9 : w0.heap.size ≤ g9) (b9 : Blk w g9 65 #[.int .i64 0, .int .i64 0, .bool false]) (ge10 : w0.heap.size ≤ g10) (b10 : Blk w g10 65 #[.int .i64 0, .int .i64 0, .bool false]) (ne8_9 : g8 ≠ g9) (ne8_10 : g8 ≠ g10) (ne9_10 : g9 ≠ g10) :
    wpAnyH Try.prog .any ops Q S 7 #[true, true, true, true, true, true, true, true, true, true, true, false, true, true, true, false, false, true, true, true, false, false, false, false] ({ tmps := #[x0, x1, .int .i64 n, .pointer (some ⟨g3, 0, none⟩), .pointer (some ⟨g4, 0, none⟩), undef, x6, undef, .pointer (some ⟨g8, 0, none⟩), .pointer (some ⟨g9, 0, none⟩), .pointer (some ⟨g10, 0, none⟩), undef, x12, x13, x14, x15, x16, x17, x18, x19, x20, x21, x22, x23, (.agg #[.int .i64 R, .int .i64 C, .int .i64 T, .int .i64 B, .bool o]), (.agg #[.int .i64 r, .int .i64 c, .bool q]), (.int .i64 n), .agg #[.int .i64 u, .int .i64 c, .bool false], (.agg #[.int .i64 R, .int .i64 C, .int .i64 T, .int .i64 B, .bool o]), (.agg #[.int .i64 r, .int .i64 c, .bool q]), (.int .i64 n), .agg #[.int .i64 d, .int .i64 c, .bool false], (.agg #[.int .i64 R, .int .i64 C, .int .i64 T, .int .i64 B, .bool o]), (.agg #[.int .i64 r, .int .i64 c, .bool q]), (.int .i64 n), undef, (.agg #[.int .i64 R, .int .i64 C, .int .i64 T, .int .i64 B, .bool o]), (.agg #[.int .i64 r, .int .i64 c, .bool q]), (.int .i64 n), undef, undef, undef, undef, undef, undef, undef, undef, undef, undef, undef, undef, undef, undef, undef, undef, undef, undef, undef, undef, undef, undef, undef, undef, undef, undef, undef, undef, undef, undef, undef, undef, undef, undef, undef, undef, undef, undef, undef, undef, undef, undef, undef, undef, undef, undef, undef, undef, undef, undef, undef, undef, undef, undef, undef, undef, undef, undef], defers := [] }) w := by
  obtain ⟨o11, ho11, hg11, hp11, hd11⟩ := id I11
  obtain ⟨o16, ho16, hg16, hp16, hd16⟩ := id I16
  refine wpAnyH_ready (rs := [11, 16]) (rdy_ hR 35 _ _ rfl) (by simp) ?_
  refine AllReadyH.cons ho11 (fun K hK => ?_) ?_
  · refine RegN.call49 hg11 hp11 hd11 (hleft _) (fun x hx => ?_)
    simp only [Act.put, List.setIfInBounds_toArray, List.set_cons_zero, List.set_cons_succ]
    exact hK.out _ _ ((hSof _ (hB.trans (hx.mono hB.size)))) (fun _ => node3_3x8x9x10 hR I16 I17 I18 I19 I3 I7 I11 I15 I20 I21 I22 I23 hSof hahead hQ g8 g9 g10 x (hB.trans (hx.mono hB.size)) ge8 (b8.stays hx) ge9 (b9.stays hx) ge10 (b10.stays hx) ne8_9 ne8_10 ne9_10)
  refine AllReadyH.cons ho16 (fun K hK => ?_) ?_
  · refine RegN.alloc65 hg16 hp16 hd16 ?_
    simp only [Act.put, List.setIfInBounds_toArray, List.set_cons_zero, List.set_cons_succ]
    exact hK.out _ _ ((hSof _ (hB.alloc hB.size _))) (fun _ => node2_2x7x8x9x10 hR I16 I17 I18 I19 I3 I7 I11 I15 I20 I21 I22 I23 hSof hleft hahead hQ w.heap.size g8 g9 g10 _ (hB.alloc hB.size _) hB.size (Blk.new w 65 _) ge8 (b8.alloc _) ge9 (b9.alloc _) ge10 (b10.alloc _) (Nat.ne_of_gt b8.lt) (Nat.ne_of_gt b9.lt) (Nat.ne_of_gt b10.lt) ne8_9 ne8_10 ne9_10)
  exact AllReadyH.nil
omit hup hdown in
set_option maxRecDepth 100000 in
theorem node2_2x7x8 (g7 : Nat) (g8 : Nat) (w : World) (hB : Below w0.heap.size w0 w) (ge7 : w0.heap.size ≤ g7) (b7 : Blk w g7 65 #[.int .i64 0, .int .i64 0, .bool false]) (ge8 : w0.heap.size ≤ g8) (b8 : Blk w g8 65 #[.int .i64 0, .int .i64 0, .bool false]) (ne7_8 : g7 ≠ g8) :
    wpAnyH Try.prog .any ops Q S 8 #[true, true, true, true, true, true, true, true, true, true, true, false, true, true, true, false, true, true, false, false, false, false, false, false] ({ tmps := #[x0, x1, .int .i64 n, .pointer (some ⟨g3, 0, none⟩), .pointer (some ⟨g4, 0, none⟩), undef, x6, .pointer (some ⟨g7, 0, none⟩), .pointer (some ⟨g8, 0, none⟩), undef, undef, undef, x12, x13, x14, x15, x16, x17, x18, x19, x20, x21, x22, x23, (.agg #[.int .i64 R, .int .i64 C, .int .i64 T, .int .i64 B, .bool o]), (.agg #[.int .i64 r, .int .i64 c, .bool q]), (.int .i64 n), .agg #[.int .i64 u, .int .i64 c, .bool false], (.agg #[.int .i64 R, .int .i64 C, .int .i64 T, .int .i64 B, .bool o]), (.agg #[.int .i64 r, .int .i64 c, .bool q]), (.int .i64 n), .agg #[.int .i64 d, .int .i64 c, .bool false], (.agg #[.int .i64 R, .int .i64 C, .int .i64 T, .int .i64 B, .bool o]), (.agg #[.int .i64 r, .int .i64 c, .bool q]), (.int .i64 n), undef, (.agg #[.int .i64 R, .int .i64 C, .int .i64 T, .int .i64 B, .bool o]), (.agg #[.int .i64 r, .int .i64 c, .bool q]), (.int .i64 n), undef, undef, undef, undef, undef, undef, undef, undef, undef, undef, undef, undef, undef, undef, undef, undef, undef, undef, undef, undef, undef, undef, undef, undef, undef, undef, undef, undef, undef, undef, undef, undef, undef, undef, undef, undef, undef, undef, undef, undef, undef, undef, undef, undef, undef, undef, undef, undef, undef, undef, undef, undef, undef, undef, undef, undef, undef, undef], defers := [] }) w := by
  obtain ⟨o11, ho11, hg11, hp11, hd11⟩ := id I11
  obtain ⟨o18, ho18, hg18, hp18, hd18⟩ := id I18
  obtain ⟨o19, ho19, hg19, hp19, hd19⟩ := id I19
  refine wpAnyH_ready (rs := [11, 18, 19]) (rdy_ hR 36 _ _ rfl) (by simp) ?_
  refine AllReadyH.cons ho11 (fun K hK => ?_) ?_
  · refine RegN.call49 hg11 hp11 hd11 (hleft _) (fun x hx => ?_)
    simp only [Act.put, List.setIfInBounds_toArray, List.set_cons_zero, List.set_cons_succ]
    exact hK.out _ _ ((hSof _ (hB.trans (hx.mono hB.size)))) (fun _ => node3_3x7x8 hR I16 I17 I18 I19 I3 I7 I11 I15 I20 I21 I22 I23 hSof hahead hQ g7 g8 x (hB.trans (hx.mono hB.size)) ge7 (b7.stays hx) ge8 (b8.stays hx) ne7_8)
  refine AllReadyH.cons ho18 (fun K hK => ?_) ?_
  · refine RegN.alloc65 hg18 hp18 hd18 ?_
    simp only [Act.put, List.setIfInBounds_toArray, List.set_cons_zero, List.set_cons_succ]
    exact hK.out _ _ ((hSof _ (hB.alloc hB.size _))) (fun _ => node2_2x7x8x9 hR I16 I17 I18 I19 I3 I7 I11 I15 I20 I21 I22 I23 hSof hleft hahead hQ g7 g8 w.heap.size _ (hB.alloc hB.size _) ge7 (b7.alloc _) ge8 (b8.alloc _) hB.size (Blk.new w 65 _) ne7_8 (Nat.ne_of_lt b7.lt) (Nat.ne_of_lt b8.lt))
  refine AllReadyH.cons ho19 (fun K hK => ?_) ?_
  · refine RegN.alloc65 hg19 hp19 hd19 ?_
    simp only [Act.put, List.setIfInBounds_toArray, List.set_cons_zero, List.set_cons_succ]
    exact hK.out _ _ ((hSof _ (hB.alloc hB.size _))) (fun _ => node2_2x7x8x10 hR I16 I17 I18 I19 I3 I7 I11 I15 I20 I21 I22 I23 hSof hleft hahead hQ g7 g8 w.heap.size _ (hB.alloc hB.size _) ge7 (b7.alloc _) ge8 (b8.alloc _) hB.size (Blk.new w 65 _) ne7_8 (Nat.ne_of_lt b7.lt) (Nat.ne_of_lt b8.lt))
  exact AllReadyH.nil
omit hup hdown in
set_option maxRecDepth 100000 in
theorem node2_2x7x9 (g7 : Nat) (g9 : Nat) (w : World) (hB : Below w0.heap.size w0 w) (ge7 : w0.heap.size ≤ g7) (b7 : Blk w g7 65 #[.int .i64 0, .int .i64 0, .bool false]) (ge9 : w0.heap.size ≤ g9) (b9 : Blk w g9 65 #[.int .i64 0, .int .i64 0, .bool false]) (ne7_9 : g7 ≠ g9) :
    wpAnyH Try.prog .any ops Q S 8 #[true, true, true, true, true, true, true, true, true, true, true, false, true, true, true, false, true, false, true, false, false, false, false, false] ({ tmps := #[x0, x1, .int .i64 n, .pointer (some ⟨g3, 0, none⟩), .pointer (some ⟨g4, 0, none⟩), undef, x6, .pointer (some ⟨g7, 0, none⟩), undef, .pointer (some ⟨g9, 0, none⟩), undef, undef, x12, x13, x14, x15, x16, x17, x18, x19, x20, x21, x22, x23, (.agg #[.int .i64 R, .int .i64 C, .int .i64 T, .int .i64 B, .bool o]), (.agg #[.int .i64 r, .int .i64 c, .bool q]), (.int .i64 n), .agg #[.int .i64 u, .int .i64 c, .bool false], (.agg #[.int .i64 R, .int .i64 C, .int .i64 T, .int .i64 B, .bool o]), (.agg #[.int .i64 r, .int .i64 c, .bool q]), (.int .i64 n), .agg #[.int .i64 d, .int .i64 c, .bool false], (.agg #[.int .i64 R, .int .i64 C, .int .i64 T, .int .i64 B, .bool o]), (.agg #[.int .i64 r, .int .i64 c, .bool q]), (.int .i64 n), undef, (.agg #[.int .i64 R, .int .i64 C, .int .i64 T, .int .i64 B, .bool o]), (.agg #[.int .i64 r, .int .i64 c, .bool q]), (.int .i64 n), undef, undef, undef, undef, undef, undef, undef, undef, undef, undef, undef, undef, undef, undef, undef, undef, undef, undef, undef, undef, undef, undef, undef, undef, undef, undef, undef, undef, undef, undef, undef, undef, undef, undef, undef, undef, undef, undef, undef, undef, undef, undef, undef, undef, undef, undef, undef, undef, undef, undef, undef, undef, undef, undef, undef, undef, undef, undef], defers := [] }) w := by
  obtain ⟨o11, ho11, hg11, hp11, hd11⟩ := id I11
  obtain ⟨o17, ho17, hg17, hp17, hd17⟩ := id I17
  obtain ⟨o19, ho19, hg19, hp19, hd19⟩ := id I19
  refine wpAnyH_ready (rs := [11, 17, 19]) (rdy_ hR 37 _ _ rfl) (by simp) ?_
  refine AllReadyH.cons ho11 (fun K hK => ?_) ?_
  · refine RegN.call49 hg11 hp11 hd11 (hleft _) (fun x hx => ?_)
    simp only [Act.put, List.setIfInBounds_toArray, List.set_cons_zero, List.set_cons_succ]
    exact hK.out _ _ ((hSof _ (hB.trans (hx.mono hB.size)))) (fun _ => node3_3x7x9 hR I16 I17 I18 I19 I3 I7 I11 I15 I20 I21 I22 I23 hSof hahead hQ g7 g9 x (hB.trans (hx.mono hB.size)) ge7 (b7.stays hx) ge9 (b9.stays hx) ne7_9)
  refine AllReadyH.cons ho17 (fun K hK => ?_) ?_
  · refine RegN.alloc65 hg17 hp17 hd17 ?_
    simp only [Act.put, List.setIfInBounds_toArray, List.set_cons_zero, List.set_cons_succ]
    exact hK.out _ _ ((hSof _ (hB.alloc hB.size _))) (fun _ => node2_2x7x8x9 hR I16 I17 I18 I19 I3 I7 I11 I15 I20 I21 I22 I23 hSof hleft hahead hQ g7 w.heap.size g9 _ (hB.alloc hB.size _) ge7 (b7.alloc _) hB.size (Blk.new w 65 _) ge9 (b9.alloc _) (Nat.ne_of_lt b7.lt) ne7_9 (Nat.ne_of_gt b9.lt))
  refine AllReadyH.cons ho19 (fun K hK => ?_) ?_
  · refine RegN.alloc65 hg19 hp19 hd19 ?_
    simp only [Act.put, List.setIfInBounds_toArray, List.set_cons_zero, List.set_cons_succ]
    exact hK.out _ _ ((hSof _ (hB.alloc hB.size _))) (fun _ => node2_2x7x9x10 hR I16 I17 I18 I19 I3 I7 I11 I15 I20 I21 I22 I23 hSof hleft hahead hQ g7 g9 w.heap.size _ (hB.alloc hB.size _) ge7 (b7.alloc _) ge9 (b9.alloc _) hB.size (Blk.new w 65 _) ne7_9 (Nat.ne_of_lt b7.lt) (Nat.ne_of_lt b9.lt))
  exact AllReadyH.nil
omit hup hdown in
set_option maxRecDepth 100000 in
theorem node2_2x7x10 (g7 : Nat) (g10 : Nat) (w : World) (hB : Below w0.heap.size w0 w) (ge7 : w0.heap.size ≤ g7) (b7 : Blk w g7 65 #[.int .i64 0, .int .i64 0, .bool false]) (ge10 : w0.heap.size ≤ g10) (b10 : Blk w g10 65 #[.int .i64 0, .int .i64 0, .bool false]) (ne7_10 : g7 ≠ g10) :
    wpAnyH Try.prog .any ops Q S 8 #[true, true, true, true, true, true, true, true, true, true, true, false, true, true, true, false, true, false, false, true, false, false, false, false] ({ tmps := #[x0, x1, .int .i64 n, .pointer (some ⟨g3, 0, none⟩), .pointer (some ⟨g4, 0, none⟩), undef, x6, .pointer (some ⟨g7, 0, none⟩), undef, undef, .pointer (some ⟨g10, 0, none⟩), undef, x12, x13, x14, x15, x16, x17, x18, x19, x20, x21, x22, x23, (.agg #[.int .i64 R, .int .i64 C, .int .i64 T, .int .i64 B, .bool o]), (.agg #[.int .i64 r, .int .i64 c, .bool q]), (.int .i64 n), .agg #[.int .i64 u, .int .i64 c, .bool false], (.agg #[.int .i64 R, .int .i64 C, .int .i64 T, .int .i64 B, .bool o]), (.agg #[.int .i64 r, .int .i64 c, .bool q]), (.int .i64 n), .agg #[.int .i64 d, .int .i64 c, .bool false], (.agg #[.int .i64 R, .int .i64 C, .int .i64 T, .int .i64 B, .bool o]), (.agg #[.int .i64 r, .int .i64 c, .bool q]), (.int .i64 n), undef, (.agg #[.int .i64 R, .int .i64 C, .int .i64 T, .int .i64 B, .bool o]), (.agg #[.int .i64 r, .int .i64 c, .bool q]), (.int .i64 n), undef, undef, undef, undef, undef, undef, undef, undef, undef, undef, undef, undef, undef, undef, undef, undef, undef, undef, undef, undef, undef, undef, undef, undef, undef, undef, undef, undef, undef, undef, undef, undef, undef, undef, undef, undef, undef, undef, undef, undef, undef, undef, undef, undef, undef, undef, undef, undef, undef, undef, undef, undef, undef, undef, undef, undef, undef, undef], defers := [] }) w := by
  obtain ⟨o11, ho11, hg11, hp11, hd11⟩ := id I11
  obtain ⟨o17, ho17, hg17, hp17, hd17⟩ := id I17
  obtain ⟨o18, ho18, hg18, hp18, hd18⟩ := id I18
  refine wpAnyH_ready (rs := [11, 17, 18]) (rdy_ hR 38 _ _ rfl) (by simp) ?_
  refine AllReadyH.cons ho11 (fun K hK => ?_) ?_
  · refine RegN.call49 hg11 hp11 hd11 (hleft _) (fun x hx => ?_)
    simp only [Act.put, List.setIfInBounds_toArray, List.set_cons_zero, List.set_cons_succ]
    exact hK.out _ _ ((hSof _ (hB.trans (hx.mono hB.size)))) (fun _ => node3_3x7x10 hR I16 I17 I18 I19 I3 I7 I11 I15 I20 I21 I22 I23 hSof hahead hQ g7 g10 x (hB.trans (hx.mono hB.size)) ge7 (b7.stays hx) ge10 (b10.stays hx) ne7_10)
  refine AllReadyH.cons ho17 (fun K hK => ?_) ?_
  · refine RegN.alloc65 hg17 hp17 hd17 ?_
    simp only [Act.put, List.setIfInBounds_toArray, List.set_cons_zero, List.set_cons_succ]
    exact hK.out _ _ ((hSof _ (hB.alloc hB.size _))) (fun _ => node2_2x7x8x10 hR I16 I17 I18 I19 I3 I7 I11 I15 I20 I21 I22 I23 hSof hleft hahead hQ g7 w.heap.size g10 _ (hB.alloc hB.size _) ge7 (b7.alloc _) hB.size (Blk.new w 65 _) ge10 (b10.alloc _) (Nat.ne_of_lt b7.lt) ne7_10 (Nat.ne_of_gt b10.lt))
  refine AllReadyH.cons ho18 (fun K hK => ?_) ?_
  · refine RegN.alloc65 hg18 hp18 hd18 ?_
    simp only [Act.put, List.setIfInBounds_toArray, List.set_cons_zero, List.set_cons_succ]
    exact hK.out _ _ ((hSof _ (hB.alloc hB.size _))) (fun _ => node2_2x7x9x10 hR I16 I17 I18 I19 I3 I7 I11 I15 I20 I21 I22 I23 hSof hleft hahead hQ g7 w.heap.size g10 _ (hB.alloc hB.size _) ge7 (b7.alloc _) hB.size (Blk.new w 65 _) ge10 (b10.alloc _) (Nat.ne_of_lt b7.lt) ne7_10 (Nat.ne_of_gt b10.lt))
  exact AllReadyH.nil
omit hup hdown in
set_option maxRecDepth 100000 in
theorem node2_2x8x9 (g8 : Nat) (g9 : Nat) (w : World) (hB : Below w0.heap.size w0 w) (ge8 : w0.heap.size ≤ g8) (b8 : Blk w g8 65 #[.int .i64 0, .int .i64 0, .bool false]) (ge9 : w0.heap.size ≤ g9) (b9 : Blk w g9 65 #[.int .i64 0, .int .i64 0, .bool false]) (ne8_9 : g8 ≠ g9) :
    wpAnyH Try.prog .any ops Q S 8 #[true, true, true, true, true, true, true, true, true, true, true, false, true, true, true, false, false, true, true, false, false, false, false, false] ({ tmps := #[x0, x1, .int .i64 n, .pointer (some ⟨g3, 0, none⟩), .pointer (some ⟨g4, 0, none⟩), undef, x6, undef, .pointer (some ⟨g8, 0, none⟩), .pointer (some ⟨g9, 0, none⟩), undef, undef, x12, x13, x14, x15, x16, x17, x18, x19, x20, x21, x22, x23, (.agg #[.int .i64 R, .int .i64 C, .int .i64 T, .int .i64 B, .bool o]), (.agg #[.int .i64 r, .int .i64 c, .bool q]), (.int .i64 n), .agg #[.int .i64 u, .int .i64 c, .bool false], (.agg #[.int .i64 R, .int .i64 C, .int .i64 T, .int .i64 B, .bool o]), (.agg #[.int .i64 r, .int .i64 c, .bool q]), (.int .i64 n), .agg #[.int .i64 d, .int .i64 c, .bool false], (.agg #[.int .i64 R, .int .i64 C, .int .i64 T, .int .i64 B, .bool o]), (.agg #[.int .i64 r, .int .i64 c, .bool q]), (.int .i64 n), undef, (.agg #[.int .i64 R, .int .i64 C, .int .i64 T, .int .i64 B, .bool o]), (.agg #[.int .i64 r, .int .i64 c, .bool q]), (.int .i64 n), undef, undef, undef, undef, undef, undef, undef, undef, undef, undef, undef, undef, undef, undef, undef, undef, undef, undef, undef, undef, undef, undef, undef, undef, undef, undef, undef, undef, undef, undef, undef, undef, undef, undef, undef, undef, undef, undef, undef, undef, undef, undef, undef, undef, undef, undef, undef, undef, undef, undef, undef, undef, undef, undef, undef, undef, undef, undef], defers := [] }) w := by
  obtain ⟨o11, ho11, hg11, hp11, hd11⟩ := id I11
  obtain ⟨o16, ho16, hg16, hp16, hd16⟩ := id I16
  obtain ⟨o19, ho19, hg19, hp19, hd19⟩ := id I19
  refine wpAnyH_ready (rs := [11, 16, 19]) (rdy_ hR 39 _ _ rfl) (by simp) ?_
  refine AllReadyH.cons ho11 (fun K hK => ?_) ?_
  · refine RegN.call49 hg11 hp11 hd11 (hleft _) (fun x hx => ?_)
    simp only [Act.put, List.setIfInBounds_toArray, List.set_cons_zero, List.set_cons_succ]
    exact hK.out _ _ ((hSof _ (hB.trans (hx.mono hB.size)))) (fun _ => node3_3x8x9 hR I16 I17 I18 I19 I3 I7 I11 I15 I20 I21 I22 I23 hSof hahead hQ g8 g9 x (hB.trans (hx.mono hB.size)) ge8 (b8.stays hx) ge9 (b9.stays hx) ne8_9)
  refine AllReadyH.cons ho16 (fun K hK => ?_) ?_
  · refine RegN.alloc65 hg16 hp16 hd16 ?_
    simp only [Act.put, List.setIfInBounds_toArray, List.set_cons_zero, List.set_cons_succ]
    exact hK.out _ _ ((hSof _ (hB.alloc hB.size _))) (fun _ => node2_2x7x8x9 hR I16 I17 I18 I19 I3 I7 I11 I15 I20 I21 I22 I23 hSof hleft hahead hQ w.heap.size g8 g9 _ (hB.alloc hB.size _) hB.size (Blk.new w 65 _) ge8 (b8.alloc _) ge9 (b9.alloc _) (Nat.ne_of_gt b8.lt) (Nat.ne_of_gt b9.lt) ne8_9)
  refine AllReadyH.cons ho19 (fun K hK => ?_) ?_
  · refine RegN.alloc65 hg19 hp19 hd19 ?_
    simp only [Act.put, List.setIfInBounds_toArray, List.set_cons_zero, List.set_cons_succ]
    exact hK.out _ _ ((hSof _ (hB.alloc hB.size _))) (fun _ => node2_2x8x9x10 hR I16 I17 I18 I19 I3 I7 I11 I15 I20 I21 I22 I23 hSof hleft hahead hQ g8 g9 w.heap.size _ (hB.alloc hB.size _) ge8 (b8.alloc _) ge9 (b9.alloc _) hB.size (Blk.new w 65 _) ne8_9 (Nat.ne_of_lt b8.lt) (Nat.ne_of_lt b9.lt))
  exact AllReadyH.nil
omit hup hdown in
set_option maxRecDepth 100000 in
theorem node2_2x8x10 (g8 : Nat) (g10 : Nat) (w : World) (hB : Below w0.heap.size w0 w) (ge8 : w0.heap.size ≤ g8) (b8 : Blk w g8 65 #[.int .i64 0, .int .i64 0, .bool false]) (ge10 : w0.heap.size ≤ g10) (b10 : Blk w g10 65 #[.int .i64 0, .int .i64 0, .bool false]) (ne8_10 : g8 ≠ g10) :
    wpAnyH Try.prog .any ops Q S 8 #[true, true, true, true, true, true, true, true, true, true, true, false, true, true, true, false, false, true, false, true, false, false, false, false] ({ tmps := #[x0, x1, .int .i64 n, .pointer (some ⟨g3, 0, none⟩), .pointer (some ⟨g4, 0, none⟩), undef, x6, undef, .pointer (some ⟨g8, 0, none⟩), undef, .pointer (some ⟨g10, 0, none⟩), undef, x12, x13, x14, x15, x16, x17, x18, x19, x20, x21, x22, x23, (.agg #[.int .i64 R, .int .i64 C, .int .i64 T, .int .i64 B, .bool o]), (.agg #[.int .i64 r, .int .i64 c, .bool q]), (.int .i64 n), .agg #[.int .i64 u, .int .i64 c, .bool false], (.agg #[.int .i64 R, .int .i64 C, .int .i64 T, .int .i64 B, .bool o]), (.agg #[.int .i64 r, .int .i64 c, .bool q]), (.int .i64 n), .agg #[.int .i64 d, .int .i64 c, .bool false], (.agg #[.int .i64 R, .int .i64 C, .int .i64 T, .int .i64 B, .bool o]), (.agg #[.int .i64 r, .int .i64 c, .bool q]), (.int .i64 n), undef, (.agg #[.int .i64 R, .int .i64 C, .int .i64 T, .int .i64 B, .bool o]), (.agg #[.int .i64 r, .int .i64 c, .bool q]), (.int .i64 n), undef, undef, undef, undef, undef, undef, undef, undef, undef, undef, undef, undef, undef, undef, undef, undef, undef, undef, undef, undef, undef, undef, undef, undef, undef, undef, undef, undef, undef, undef, undef, undef, undef, undef, undef, undef, undef, undef, undef, undef, undef, undef, undef, undef, undef, undef, undef, undef, undef, undef, undef, undef, undef, undef, undef, undef, undef, undef], defers := [] }) w := by
  obtain ⟨o11, ho11, hg11, hp11, hd11⟩ := id I11
  obtain ⟨o16, ho16, hg16, hp16, hd16⟩ := id I16
  obtain ⟨o18, ho18, hg18, hp18, hd18⟩ := id I18
  refine wpAnyH_ready (rs := [11, 16, 18]) (rdy_ hR 40 _ _ rfl) (by simp) ?_
  refine AllReadyH.cons ho11 (fun K hK => ?_) ?_
  · refine RegN.call49 hg11 hp11 hd11 (hleft _) (fun x hx => ?_)
    simp only [Act.put, List.setIfInBounds_toArray, List.set_cons_zero, List.set_cons_succ]
    exact hK.out _ _ ((hSof _ (hB.trans (hx.mono hB.size)))) (fun _ => node3_3x8x10 hR I16 I17 I18 I19 I3 I7 I11 I15 I20 I21 I22 I23 hSof hahead hQ g8 g10 x (hB.trans (hx.mono hB.size)) ge8 (b8.stays hx) ge10 (b10.stays hx) ne8_10)
  refine AllReadyH.cons ho16 (fun K hK => ?_) ?_
  · refine RegN.alloc65 hg16 hp16 hd16 ?_
    simp only [Act.put, List.setIfInBounds_toArray, List.set_cons_zero, List.set_cons_succ]
    exact hK.out _ _ ((hSof _ (hB.alloc hB.size _))) (fun _ => node2_2x7x8x10 hR I16 I17 I18 I19 I3 I7 I11 I15 I20 I21 I22 I23 hSof hleft hahead hQ w.heap.size g8 g10 _ (hB.alloc hB.size _) hB.size (Blk.new w 65 _) ge8 (b8.alloc _) ge10 (b10.alloc _) (Nat.ne_of_gt b8.lt) (Nat.ne_of_gt b10.lt) ne8_10)
  refine AllReadyH.cons ho18 (fun K hK => ?_) ?_
  · refine RegN.alloc65 hg18 hp18 hd18 ?_
    simp only [Act.put, List.setIfInBounds_toArray, List.set_cons_zero, List.set_cons_succ]
    exact hK.out _ _ ((hSof _ (hB.alloc hB.size _))) (fun _ => node2_2x8x9x10 hR I16 I17 I18 I19 I3 I7 I11 I15 I20 I21 I22 I23 hSof hleft hahead hQ g8 w.heap.size g10 _ (hB.alloc hB.size _) ge8 (b8.alloc _) hB.size (Blk.new w 65 _) ge10 (b10.alloc _) (Nat.ne_of_lt b8.lt) ne8_10 (Nat.ne_of_gt b10.lt))
  exact AllReadyH.nil
omit hup hdown in
set_option maxRecDepth 100000 in
theorem node2_2x9x10 (g9 : Nat) (g10 : Nat) (w : World) (hB : Below w0.heap.size w0 w) (ge9 : w0.heap.size ≤ g9) (b9 : Blk w g9 65 #[.int .i64 0, .int .i64 0, .bool false]) (ge10 : w0.heap.size ≤ g10) (b10 : Blk w g10 65 #[.int .i64 0, .int .i64 0, .bool false]) (ne9_10 : g9 ≠ g10) :
    wpAnyH Try.prog .any ops Q S 8 #[true, true, true, true, true, true, true, true, true, true, true, false, true, true, true, false, false, false, true, true, false, false, false, false] ({ tmps := #[x0, x1, .int .i64 n, .pointer (some ⟨g3, 0, none⟩), .pointer (some ⟨g4, 0, none⟩), undef, x6, undef, undef, .pointer (some ⟨g9, 0, none⟩), .pointer (some ⟨g10, 0, none⟩), undef, x12, x13, x14, x15, x16, x17, x18, x19, x20, x21, x22, x23, (.agg #[.int .i64 R, .int .i64 C, .int .i64 T, .int .i64 B, .bool o]), (.agg #[.int .i64 r, .int .i64 c, .bool q]), (.int .i64 n), .agg #[.int .i64 u, .int .i64 c, .bool false], (.agg #[.int .i64 R, .int .i64 C, .int .i64 T, .int .i64 B, .bool o]), (.agg #[.int .i64 r, .int .i64 c, .bool q]), (.int .i64 n), .agg #[.int .i64 d, .int .i64 c, .bool false], (.agg #[.int .i64 R, .int .i64 C, .int .i64 T, .int .i64 B, .bool o]), (.agg #[.int .i64 r, .int .i64 c, .bool q]), (.int .i64 n), undef, (.agg #[.int .i64 R, .int .i64 C, .int .i64 T, .int .i64 B, .bool o]), (.agg #[.int .i64 r, .int .i64 c, .bool q]), (.int .i64 n), undef, undef, undef, undef, undef, undef, undef, undef, undef, undef, undef, undef, undef, undef, undef, undef, undef, undef, undef, undef, undef, undef, undef, undef, undef, undef, undef, undef, undef, undef, undef, undef, undef, undef, undef, undef, undef, undef, undef, undef, undef, undef, undef, undef, undef, undef, undef, undef, undef, undef, undef, undef, undef, undef, undef, undef, undef, undef], defers := [] }) w := by
  obtain ⟨o11, ho11, hg11, hp11, hd11⟩ := id I11
  obtain ⟨o16, ho16, hg16, hp16, hd16⟩ := id I16
  obtain ⟨o17, ho17, hg17, hp17, hd17⟩ := id I17
  refine wpAnyH_ready (rs := [11, 16, 17]) (rdy_ hR 41 _ _ rfl) (by simp) ?_
  refine AllReadyH.cons ho11 (fun K hK => ?_) ?_
  · refine RegN.call49 hg11 hp11 hd11 (hleft _) (fun x hx => ?_)
    simp only [Act.put, List.setIfInBounds_toArray, List.set_cons_zero, List.set_cons_succ]
    exact hK.out _ _ ((hSof _ (hB.trans (hx.mono hB.size)))) (fun _ => node3_3x9x10 hR I16 I17 I18 I19 I3 I7 I11 I15 I20 I21 I22 I23 hSof hahead hQ g9 g10 x (hB.trans (hx.mono hB.size)) ge9 (b9.stays hx) ge10 (b10.stays hx) ne9_10)
  refine AllReadyH.cons ho16 (fun K hK => ?_) ?_
  · refine RegN.alloc65 hg16 hp16 hd16 ?_
    simp only [Act.put, List.setIfInBounds_toArray, List.set_cons_zero, List.set_cons_succ]
    exact hK.out _ _ ((hSof _ (hB.alloc hB.size _))) (fun _ => node2_2x7x9x10 hR I16 I17 I18 I19 I3 I7 I11 I15 I20 I21 I22 I23 hSof hleft hahead hQ w.heap.size g9 g10 _ (hB.alloc hB.size _) hB.size (Blk.new w 65 _) ge9 (b9.alloc _) ge10 (b10.alloc _) (Nat.ne_of_gt b9.lt) (Nat.ne_of_gt b10.lt) ne9_10)
  refine AllReadyH.cons ho17 (fun K hK => ?_) ?_
  · refine RegN.alloc65 hg17 hp17 hd17 ?_
    simp only [Act.put, List.setIfInBounds_toArray, List.set_cons_zero, List.set_cons_succ]
    exact hK.out _ _ ((hSof _ (hB.alloc hB.size _))) (fun _ => node2_2x8x9x10 hR I16 I17 I18 I19 I3 I7 I11 I15 I20 I21 I22 I23 hSof hleft hahead hQ w.heap.size g9 g10 _ (hB.alloc hB.size _) hB.size (Blk.new w 65 _) ge9 (b9.alloc _) ge10 (b10.alloc _) (Nat.ne_of_gt b9.lt) (Nat.ne_of_gt b10.lt) ne9_10)
  exact AllReadyH.nil
omit hup hdown in
set_option maxRecDepth 100000 in
theorem node2_2x7 (g7 : Nat) (w : World) (hB : Below w0.heap.size w0 w) (ge7 : w0.heap.size ≤ g7) (b7 : Blk w g7 65 #[.int .i64 0, .int .i64 0, .bool false])  :
    wpAnyH Try.prog .any ops Q S 9 #[true, true, true, true, true, true, true, true, true, true, true, false, true, true, true, false, true, false, false, false, false, false, false, false] ({ tmps := #[x0, x1, .int .i64 n, .pointer (some ⟨g3, 0, none⟩), .pointer (some ⟨g4, 0, none⟩), undef, x6, .pointer (some ⟨g7, 0, none⟩), undef, undef, undef, undef, x12, x13, x14, x15, x16, x17, x18, x19, x20, x21, x22, x23, (.agg #[.int .i64 R, .int .i64 C, .int .i64 T, .int .i64 B, .bool o]), (.agg #[.int .i64 r, .int .i64 c, .bool q]), (.int .i64 n), .agg #[.int .i64 u, .int .i64 c, .bool false], (.agg #[.int .i64 R, .int .i64 C, .int .i64 T, .int .i64 B, .bool o]), (.agg #[.int .i64 r, .int .i64 c, .bool q]), (.int .i64 n), .agg #[.int .i64 d, .int .i64 c, .bool false], (.agg #[.int .i64 R, .int .i64 C, .int .i64 T, .int .i64 B, .bool o]), (.agg #[.int .i64 r, .int .i64 c, .bool q]), (.int .i64 n), undef, (.agg #[.int .i64 R, .int .i64 C, .int .i64 T, .int .i64 B, .bool o]), (.agg #[.int .i64 r, .int .i64 c, .bool q]), (.int .i64 n), undef, undef, undef, undef, undef, undef, undef, undef, undef, undef, undef, undef, undef, undef, undef, undef, undef, undef, undef, undef, undef, undef, undef, undef, undef, undef, undef, undef, undef, undef, undef, undef, undef, undef, undef, undef, undef, undef, undef, undef, undef, undef, undef, undef, undef, undef, undef, undef, undef, undef, undef, undef, undef, undef, undef, undef, undef, undef], defers := [] }) w := by
  obtain ⟨o11, ho11, hg11, hp11, hd11⟩ := id I11
  obtain ⟨o17, ho17, hg17, hp17, hd17⟩ := id I17
  obtain ⟨o18, ho18, hg18, hp18, hd18⟩ := id I18
  obtain ⟨o19, ho19, hg19, hp19, hd19⟩ := id I19
  refine wpAnyH_ready (rs := [11, 17, 18, 19]) (rdy_ hR 42 _ _ rfl) (by simp) ?_
  refine AllReadyH.cons ho11 (fun K hK => ?_) ?_
  · refine RegN.call49 hg11 hp11 hd11 (hleft _) (fun x hx => ?_)
    simp only [Act.put, List.setIfInBounds_toArray, List.set_cons_zero, List.set_cons_succ]
    exact hK.out _ _ ((hSof _ (hB.trans (hx.mono hB.size)))) (fun _ => node3_3x7 hR I16 I17 I18 I19 I3 I7 I11 I15 I20 I21 I22 I23 hSof hahead hQ g7 x (hB.trans (hx.mono hB.size)) ge7 (b7.stays hx) )
  refine AllReadyH.cons ho17 (fun K hK => ?_) ?_
  · refine RegN.alloc65 hg17 hp17 hd17 ?_
    simp only [Act.put, List.setIfInBounds_toArray, List.set_cons_zero, List.set_cons_succ]
    exact hK.out _ _ ((hSof _ (hB.alloc hB.size _))) (fun _ => node2_2x7x8 hR I16 I17 I18 I19 I3 I7 I11 I15 I20 I21 I22 I23 hSof hleft hahead hQ g7 w.heap.size _ (hB.alloc hB.size _) ge7 (b7.alloc _) hB.size (Blk.new w 65 _) (Nat.ne_of_lt b7.lt))
  refine AllReadyH.cons ho18 (fun K hK => ?_) ?_
  · refine RegN.alloc65 hg18 hp18 hd18 ?_
    simp only [Act.put, List.setIfInBounds_toArray, List.set_cons_zero, List.set_cons_succ]
    exact hK.out _ _ ((hSof _ (hB.alloc hB.size _))) (fun _ => node2_2x7x9 hR I16 I17 I18 I19 I3 I7 I11 I15 I20 I21 I22 I23 hSof hleft hahead hQ g7 w.heap.size _ (hB.alloc hB.size _) ge7 (b7.alloc _) hB.size (Blk.new w 65 _) (Nat.ne_of_lt b7.lt))
  refine AllReadyH.cons ho19 (fun K hK => ?_) ?_
  · refine RegN.alloc65 hg19 hp19 hd19 ?_
    simp only [Act.put, List.setIfInBounds_toArray, List.set_cons_zero, List.set_cons_succ]
    exact hK.out _ _ ((hSof _ (hB.alloc hB.size _))) (fun _ => node2_2x7x10 hR I16 I17 I18 I19 I3 I7 I11 I15 I20 I21 I22 I23 hSof hleft hahead hQ g7 w.heap.size _ (hB.alloc hB.size _) ge7 (b7.alloc _) hB.size (Blk.new w 65 _) (Nat.ne_of_lt b7.lt))
  exact AllReadyH.nil
omit hup hdown in
set_option maxRecDepth 100000 in
theorem node2_2x8 (g8 : Nat) (w : World) (hB : Below w0.heap.size w0 w) (ge8 : w0.heap.size ≤ g8) (b8 : Blk w g8 65 #[.int .i64 0, .int .i64 0, .bool false])  :
    wpAnyH Try.prog .any ops Q S 9 #[true, true, true, true, true, true, true, true, true, true, true, false, true, true, true, false, false, true, false, false, false, false, false, false] ({ tmps := #[x0, x1, .int .i64 n, .pointer (some ⟨g3, 0, none⟩), .pointer (some ⟨g4, 0, none⟩), undef, x6, undef, .pointer (some ⟨g8, 0, none⟩), undef, undef, undef, x12, x13, x14, x15, x16, x17, x18, x19, x20, x21, x22, x23, (.agg #[.int .i64 R, .int .i64 C, .int .i64 T, .int .i64 B, .bool o]), (.agg #[.int .i64 r, .int .i64 c, .bool q]), (.int .i64 n), .agg #[.int .i64 u, .int .i64 c, .bool false], (.agg #[.int .i64 R, .int .i64 C, .int .i64 T, .int .i64 B, .bool o]), (.agg #[.int .i64 r, .int .i64 c, .bool q]), (.int .i64 n), .agg #[.int .i64 d, .int .i64 c, .bool false], (.agg #[.int .i64 R, .int .i64 C, .int .i64 T, .int .i64 B, .bool o]), (.agg #[.int .i64 r, .int .i64 c, .bool q]), (.int .i64 n), undef, (.agg #[.int .i64 R, .int .i64 C, .int .i64 T, .int .i64 B, .bool o]), (.agg #[.int .i64 r, .int .i64 c, .bool q]), (.int .i64 n), undef, undef, undef, undef, undef, undef, undef, undef, undef, undef, undef, undef, undef, undef, undef, undef, undef, undef, undef, undef, undef, undef, undef, undef, undef, undef, undef, undef, undef, undef, undef, undef, undef, undef, undef, undef, undef, undef, undef, undef, undef, undef, undef, undef, undef, undef, undef, undef, undef, undef, undef, undef, undef, undef, undef, undef, undef, undef], defers := [] }) w := by
  obtain ⟨o11, ho11, hg11, hp11, hd11⟩ := id I11
  obtain ⟨o16, ho16, hg16, hp16, hd16⟩ := id I16
  obtain ⟨o18, ho18, hg18, hp18, hd18⟩ := id I18
  obtain ⟨o19, ho19, hg19, hp19, hd19⟩ := id I19
  refine wpAnyH_ready (rs := [11, 16, 18, 19]) (rdy_ hR 43 _ _ rfl) (by simp) ?_
  refine AllReadyH.cons ho11 (fun K hK => ?_) ?_
  · refine RegN.call49 hg11 hp11 hd11 (hleft _) (fun x hx => ?_)
    simp only [Act.put, List.setIfInBounds_toArray, List.set_cons_zero, List.set_cons_succ]
    exact hK.out _ _ ((hSof _ (hB.trans (hx.mono hB.size)))) (fun _ => node3_3x8 hR I16 I17 I18 I19 I3 I7 I11 I15 I20 I21 I22 I23 hSof hahead hQ g8 x (hB.trans (hx.mono hB.size)) ge8 (b8.stays hx) )
  refine AllReadyH.cons ho16 (fun K hK => ?_) ?_
  · refine RegN.alloc65 hg16 hp16 hd16 ?_
    simp only [Act.put, List.setIfInBounds_toArray, List.set_cons_zero, List.set_cons_succ]
    exact hK.out _ _ ((hSof _ (hB.alloc hB.size _))) (fun _ => node2_2x7x8 hR I16 I17 I18 I19 I3 I7 I11 I15 I20 I21 I22 I23 hSof hleft hahead hQ w.heap.size g8 _ (hB.alloc hB.size _) hB.size (Blk.new w 65 _) ge8 (b8.alloc _) (Nat.ne_of_gt b8.lt))
  refine AllReadyH.cons ho18 (fun K hK => ?_) ?_
  · refine RegN.alloc65 hg18 hp18 hd18 ?_
    simp only [Act.put, List.setIfInBounds_toArray, List.set_cons_zero, List.set_cons_succ]
    exact hK.out _ _ ((hSof _ (hB.alloc hB.size _))) (fun _ => node2_2x8x9 hR I16 I17 I18 I19 I3 I7 I11 I15 I20 I21 I22 I23 hSof hleft hahead hQ g8 w.heap.size _ (hB.alloc hB.size _) ge8 (b8.alloc _) hB.size (Blk.new w 65 _) (Nat.ne_of_lt b8.lt))
  refine AllReadyH.cons ho19 (fun K hK => ?_) ?_
  · refine RegN.alloc65 hg19 hp19 hd19 ?_
    simp only [Act.put, List.setIfInBounds_toArray, List.set_cons_zero, List.set_cons_succ]
    exact hK.out _ _ ((hSof _ (hB.alloc hB.size _))) (fun _ => node2_2x8x10 hR I16 I17 I18 I19 I3 I7 I11 I15 I20 I21 I22 I23 hSof hleft hahead hQ g8 w.heap.size _ (hB.alloc hB.size _) ge8 (b8.alloc _) hB.size (Blk.new w 65 _) (Nat.ne_of_lt b8.lt))
  exact AllReadyH.nil
omit hup hdown in
set_option maxRecDepth 100000 in
theorem node2_2x9 (g9 : Nat) (w : World) (hB : Below w0.heap.size w0 w) (ge9 : w0.heap.size ≤ g9) (b9 : Blk w g9 65 #[.int .i64 0, .int .i64 0, .bool false])  :
    wpAnyH Try.prog .any ops Q S 9 #[true, true, true, true, true, true, true, true, true, true, true, false, true, true, true, false, false, false, true, false, false, false, false, false] ({ tmps := #[x0, x1, .int .i64 n, .pointer (some ⟨g3, 0, none⟩), .pointer (some ⟨g4, 0, none⟩), undef, x6, undef, undef, .pointer (some ⟨g9, 0, none⟩), undef, undef, x12, x13, x14, x15, x16, x17, x18, x19, x20, x21, x22, x23, (.agg #[.int .i64 R, .int .i64 C, .int .i64 T, .int .i64 B, .bool o]), (.agg #[.int .i64 r, .int .i64 c, .bool q]), (.int .i64 n), .agg #[.int .i64 u, .int .i64 c, .bool false], (.agg #[.int .i64 R, .int .i64 C, .int .i64 T, .int .i64 B, .bool o]), (.agg #[.int .i64 r, .int .i64 c, .bool q]), (.int .i64 n), .agg #[.int .i64 d, .int .i64 c, .bool false], (.agg #[.int .i64 R, .int .i64 C, .int .i64 T, .int .i64 B, .bool o]), (.agg #[.int .i64 r, .int .i64 c, .bool q]), (.int .i64 n), undef, (.agg #[.int .i64 R, .int .i64 C, .int .i64 T, .int .i64 B, .bool o]), (.agg #[.int .i64 r, .int .i64 c, .bool q]), (.int .i64 n), undef, undef, undef, undef, undef, undef, undef, undef, undef, undef, undef, undef, undef, undef, undef, undef, undef, undef, undef, undef, undef, undef, undef, undef, undef, undef, undef, undef, undef, undef, undef, undef, undef, undef, undef, undef, undef, undef, undef, undef, undef, undef, undef, undef, undef, undef, undef, undef, undef, undef, undef, undef, undef, undef, undef, undef, undef, undef], defers := [] }) w := by
  obtain ⟨o11, ho11, hg11, hp11, hd11⟩ := id I11
  obtain ⟨o16, ho16, hg16, hp16, hd16⟩ := id I16
  obtain ⟨o17, ho17, hg17, hp17, hd17⟩ := id I17
  obtain ⟨o19, ho19, hg19, hp19, hd19⟩ := id I19
  refine wpAnyH_ready (rs := [11, 16, 17, 19]) (rdy_ hR 44 _ _ rfl) (by simp) ?_
  refine AllReadyH.cons ho11 (fun K hK => ?_) ?_
  · refine RegN.call49 hg11 hp11 hd11 (hleft _) (fun x hx => ?_)
    simp only [Act.put, List.setIfInBounds_toArray, List.set_cons_zero, List.set_cons_succ]
    exact hK.out _ _ ((hSof _ (hB.trans (hx.mono hB.size)))) (fun _ => node3_3x9 hR I16 I17 I18 I19 I3 I7 I11 I15 I20 I21 I22 I23 hSof hahead hQ g9 x (hB.trans (hx.mono hB.size)) ge9 (b9.stays hx) )
  refine AllReadyH.cons ho16 (fun K hK => ?_) ?_
  · refine RegN.alloc65 hg16 hp16 hd16 ?_
    simp only [Act.put, List.setIfInBounds_toArray, List.set_cons_zero, List.set_cons_succ]
    exact hK.out _ _ ((hSof _ (hB.alloc hB.size _))) (fun _ => node2_2x7x9 hR I16 I17 I18 I19 I3 I7 I11 I15 I20 I21 I22 I23 hSof hleft hahead hQ w.heap.size g9 _ (hB.alloc hB.size _) hB.size (Blk.new w 65 _) ge9 (b9.alloc _) (Nat.ne_of_gt b9.lt))
  refine AllReadyH.cons ho17 (fun K hK => ?_) ?_
  · refine RegN.alloc65 hg17 hp17 hd17 ?_
    simp only [Act.put, List.setIfInBounds_toArray, List.set_cons_zero, List.set_cons_succ]
    exact hK.out _ _ ((hSof _ (hB.alloc hB.size _))) (fun _ => node2_2x8x9 hR I16 I17 I18 I19 I3 I7 I11 I15 I20 I21 I22 I23 hSof hleft hahead hQ w.heap.size g9 _ (hB.alloc hB.size _) hB.size (Blk.new w 65 _) ge9 (b9.alloc _) (Nat.ne_of_gt b9.lt))
  refine AllReadyH.cons ho19 (fun K hK => ?_) ?_
  · refine RegN.alloc65 hg19 hp19 hd19 ?_
    simp only [Act.put, List.setIfInBounds_toArray, List.set_cons_zero, List.set_cons_succ]
    exact hK.out _ _ ((hSof _ (hB.alloc hB.size _))) (fun _ => node2_2x9x10 hR I16 I17 I18 I19 I3 I7 I11 I15 I20 I21 I22 I23 hSof hleft hahead hQ g9 w.heap.size _ (hB.alloc hB.size _) ge9 (b9.alloc _) hB.size (Blk.new w 65 _) (Nat.ne_of_lt b9.lt))
  exact AllReadyH.nil
omit hup hdown in
set_option maxRecDepth 100000 in
theorem node2_2x10 (g10 : Nat) (w : World) (hB : Below w0.heap.size w0 w) (ge10 : w0.heap.size ≤ g10) (b10 : Blk w g10 65 #[.int .i64 0, .int .i64 0, .bool false])  :
    wpAnyH Try.prog .any ops Q S 9 #[true, true, true, true, true, true, true, true, true, true, true, false, true, true, true, false, false, false, false, true, false, false, false, false] ({ tmps := #[x0, x1, .int .i64 n, .pointer (some ⟨g3, 0, none⟩), .pointer (some ⟨g4, 0, none⟩), undef, x6, undef, undef, undef, .pointer (some ⟨g10, 0, none⟩), undef, x12, x13, x14, x15, x16, x17, x18, x19, x20, x21, x22, x23, (.agg #[.int .i64 R, .int .i64 C, .int .i64 T, .int .i64 B, .bool o]), (.agg #[.int .i64 r, .int .i64 c, .bool q]), (.int .i64 n), .agg #[.int .i64 u, .int .i64 c, .bool false], (.agg #[.int .i64 R, .int .i64 C, .int .i64 T, .int .i64 B, .bool o]), (.agg #[.int .i64 r, .int .i64 c, .bool q]), (.int .i64 n), .agg #[.int .i64 d, .int .i64 c, .bool false], (.agg #[.int .i64 R, .int .i64 C, .int .i64 T, .int .i64 B, .bool o]), (.agg #[.int .i64 r, .int .i64 c, .bool q]), (.int .i64 n), undef, (.agg #[.int .i64 R, .int .i64 C, .int .i64 T, .int .i64 B, .bool o]), (.agg #[.int .i64 r, .int .i64 c, .bool q]), (.int .i64 n), undef, undef, undef, undef, undef, undef, undef, undef, undef, undef, undef, undef, undef, undef, undef, undef, undef, undef, undef, undef, undef, undef, undef, undef, undef, undef, undef, undef, undef, undef, undef, undef, undef, undef, undef, undef, undef, undef, undef, undef, undef, undef, undef, undef, undef, undef, undef, undef, undef, undef, undef, undef, undef, undef, undef, undef, undef, undef], defers := [] }) w := by
  obtain ⟨o11, ho11, hg11, hp11, hd11⟩ := id I11
  obtain ⟨o16, ho16, hg16, hp16, hd16⟩ := id I16
  obtain ⟨o17, ho17, hg17, hp17, hd17⟩ := id I17
  obtain ⟨o18, ho18, hg18, hp18, hd18⟩ := id I18
  refine wpAnyH_ready (rs := [11, 16, 17, 18]) (rdy_ hR 45 _ _ rfl) (by simp) ?_
  refine AllReadyH.cons ho11 (fun K hK => ?_) ?_
  · refine RegN.call49 hg11 hp11 hd11 (hleft _) (fun x hx => ?_)
    simp only [Act.put, List.setIfInBounds_toArray, List.set_cons_zero, List.set_cons_succ]
    exact hK.out _ _ ((hSof _ (hB.trans (hx.mono hB.size)))) (fun _ => node3_3x10 hR I16 I17 I18 I19 I3 I7 I11 I15 I20 I21 I22 I23 hSof hahead hQ g10 x (hB.trans (hx.mono hB.size)) ge10 (b10.stays hx) )
  refine AllReadyH.cons ho16 (fun K hK => ?_) ?_
  · refine RegN.alloc65 hg16 hp16 hd16 ?_
    simp only [Act.put, List.setIfInBounds_toArray, List.set_cons_zero, List.set_cons_succ]
    exact hK.out _ _ ((hSof _ (hB.alloc hB.size _))) (fun _ => node2_2x7x10 hR I16 I17 I18 I19 I3 I7 I11 I15 I20 I21 I22 I23 hSof hleft hahead hQ w.heap.size g10 _ (hB.alloc hB.size _) hB.size (Blk.new w 65 _) ge10 (b10.alloc _) (Nat.ne_of_gt b10.lt))
  refine AllReadyH.cons ho17 (fun K hK => ?_) ?_
  · refine RegN.alloc65 hg17 hp17 hd17 ?_
    simp only [Act.put, List.setIfInBounds_toArray, List.set_cons_zero, List.set_cons_succ]
    exact hK.out _ _ ((hSof _ (hB.alloc hB.size _))) (fun _ => node2_2x8x10 hR I16 I17 I18 I19 I3 I7 I11 I15 I20 I21 I22 I23 hSof hleft hahead hQ w.heap.size g10 _ (hB.alloc hB.size _) hB.size (Blk.new w 65 _) ge10 (b10.alloc _) (Nat.ne_of_gt b10.lt))
  refine AllReadyH.cons ho18 (fun K hK => ?_) ?_
  · refine RegN.alloc65 hg18 hp18 hd18 ?_
    simp only [Act.put, List.setIfInBounds_toArray, List.set_cons_zero, List.set_cons_succ]
    exact hK.out _ _ ((hSof _ (hB.alloc hB.size _))) (fun _ => node2_2x9x10 hR I16 I17 I18 I19 I3 I7 I11 I15 I20 I21 I22 I23 hSof hleft hahead hQ w.heap.size g10 _ (hB.alloc hB.size _) hB.size (Blk.new w 65 _) ge10 (b10.alloc _) (Nat.ne_of_gt b10.lt))
  exact AllReadyH.nil
omit hup hdown in
set_option maxRecDepth 100000 in
theorem node2_2  (w : World) (hB : Below w0.heap.size w0 w)   :
    wpAnyH Try.prog .any ops Q S 10 #[true, true, true, true, true, true, true, true, true, true, true, false, true, true, true, false, false, false, false, false, false, false, false, false] ({ tmps := #[x0, x1, .int .i64 n, .pointer (some ⟨g3, 0, none⟩), .pointer (some ⟨g4, 0, none⟩), undef, x6, undef, undef, undef, undef, undef, x12, x13, x14, x15, x16, x17, x18, x19, x20, x21, x22, x23, (.agg #[.int .i64 R, .int .i64 C, .int .i64 T, .int .i64 B, .bool o]), (.agg #[.int .i64 r, .int .i64 c, .bool q]), (.int .i64 n), .agg #[.int .i64 u, .int .i64 c, .bool false], (.agg #[.int .i64 R, .int .i64 C, .int .i64 T, .int .i64 B, .bool o]), (.agg #[.int .i64 r, .int .i64 c, .bool q]), (.int .i64 n), .agg #[.int .i64 d, .int .i64 c, .bool false], (.agg #[.int .i64 R, .int .i64 C, .int .i64 T, .int .i64 B, .bool o]), (.agg #[.int .i64 r, .int .i64 c, .bool q]), (.int .i64 n), undef, (.agg #[.int .i64 R, .int .i64 C, .int .i64 T, .int .i64 B, .bool o]), (.agg #[.int .i64 r, .int .i64 c, .bool q]), (.int .i64 n), undef, undef, undef, undef, undef, undef, undef, undef, undef, undef, undef, undef, undef, undef, undef, undef, undef, undef, undef, undef, undef, undef, undef, undef, undef, undef, undef, undef, undef, undef, undef, undef, undef, undef, undef, undef, undef, undef, undef, undef, undef, undef, undef, undef, undef, undef, undef, undef, undef, undef, undef, undef, undef, undef, undef, undef, undef, undef], defers := [] }) w := by
  obtain ⟨o11, ho11, hg11, hp11, hd11⟩ := id I11
  obtain ⟨o16, ho16, hg16, hp16, hd16⟩ := id I16
  obtain ⟨o17, ho17, hg17, hp17, hd17⟩ := id I17
  obtain ⟨o18, ho18, hg18, hp18, hd18⟩ := id I18
  obtain ⟨o19, ho19, hg19, hp19, hd19⟩ := id I19
  refine wpAnyH_ready (rs := [11, 16, 17, 18, 19]) (rdy_ hR 46 _ _ rfl) (by simp) ?_
  refine AllReadyH.cons ho11 (fun K hK => ?_) ?_
  · refine RegN.call49 hg11 hp11 hd11 (hleft _) (fun x hx => ?_)
    simp only [Act.put, List.setIfInBounds_toArray, List.set_cons_zero, List.set_cons_succ]
    exact hK.out _ _ ((hSof _ (hB.trans (hx.mono hB.size)))) (fun _ => node3_3 hR I16 I17 I18 I19 I3 I7 I11 I15 I20 I21 I22 I23 hSof hahead hQ  x (hB.trans (hx.mono hB.size))  )
  refine AllReadyH.cons ho16 (fun K hK => ?_) ?_
  · refine RegN.alloc65 hg16 hp16 hd16 ?_
    simp only [Act.put, List.setIfInBounds_toArray, List.set_cons_zero, List.set_cons_succ]
    exact hK.out _ _ ((hSof _ (hB.alloc hB.size _))) (fun _ => node2_2x7 hR I16 I17 I18 I19 I3 I7 I11 I15 I20 I21 I22 I23 hSof hleft hahead hQ w.heap.size _ (hB.alloc hB.size _) hB.size (Blk.new w 65 _) )
  refine AllReadyH.cons ho17 (fun K hK => ?_) ?_
  · refine RegN.alloc65 hg17 hp17 hd17 ?_
    simp only [Act.put, List.setIfInBounds_toArray, List.set_cons_zero, List.set_cons_succ]
    exact hK.out _ _ ((hSof _ (hB.alloc hB.size _))) (fun _ => node2_2x8 hR I16 I17 I18 I19 I3 I7 I11 I15 I20 I21 I22 I23 hSof hleft hahead hQ w.heap.size _ (hB.alloc hB.size _) hB.size (Blk.new w 65 _) )
  refine AllReadyH.cons ho18 (fun K hK => ?_) ?_
  · refine RegN.alloc65 hg18 hp18 hd18 ?_
    simp only [Act.put, List.setIfInBounds_toArray, List.set_cons_zero, List.set_cons_succ]
    exact hK.out _ _ ((hSof _ (hB.alloc hB.size _))) (fun _ => node2_2x9 hR I16 I17 I18 I19 I3 I7 I11 I15 I20 I21 I22 I23 hSof hleft hahead hQ w.heap.size _ (hB.alloc hB.size _) hB.size (Blk.new w 65 _) )
  refine AllReadyH.cons ho19 (fun K hK => ?_) ?_
  · refine RegN.alloc65 hg19 hp19 hd19 ?_
    simp only [Act.put, List.setIfInBounds_toArray, List.set_cons_zero, List.set_cons_succ]
    exact hK.out _ _ ((hSof _ (hB.alloc hB.size _))) (fun _ => node2_2x10 hR I16 I17 I18 I19 I3 I7 I11 I15 I20 I21 I22 I23 hSof hleft hahead hQ w.heap.size _ (hB.alloc hB.size _) hB.size (Blk.new w 65 _) )
  exact AllReadyH.nil
omit hup in
set_option maxRecDepth 100000 in
theorem node1_1x7x8x9x10 (g7 : Nat) (g8 : Nat) (g9 : Nat) (g10 : Nat) (w : World) (hB : Below w0.heap.size w0 w) (ge7 : w0.heap.size ≤ g7) (b7 : Blk w g7 65 #[.int .i64 0, .int .i64 0, .bool false]) (ge8 : w0.heap.size ≤ g8) (b8 : Blk w g8 65 #[.int .i64 0, .int .i64 0, .bool false]) (ge9 : w0.heap.size ≤ g9) (b9 : Blk w g9 65 #[.int .i64 0, .int .i64 0, .bool false]) (ge10 : w0.heap.size ≤ g10) (b10 : Blk w g10 65 #[.int .i64 0, .int .i64 0, .bool false]) (ne7_8 : g7 ≠ g8) (ne7_9 : g7 ≠ g9) (ne7_10 : g7 ≠ g10) (ne8_9 : g8 ≠ g9) (ne8_10 : g8 ≠ g10) (ne9_10 : g9 ≠ g10) :
    wpAnyH Try.prog .any ops Q S 7 #[true, true, true, true, true, true, true, false, true, true, true, false, true, true, true, false, true, true, true, true, false, false, false, false] ({ tmps := #[x0, x1, .int .i64 n, .pointer (some ⟨g3, 0, none⟩), .pointer (some ⟨g4, 0, none⟩), undef, x6, .pointer (some ⟨g7, 0, none⟩), .pointer (some ⟨g8, 0, none⟩), .pointer (some ⟨g9, 0, none⟩), .pointer (some ⟨g10, 0, none⟩), undef, x12, x13, x14, x15, x16, x17, x18, x19, x20, x21, x22, x23, (.agg #[.int .i64 R, .int .i64 C, .int .i64 T, .int .i64 B, .bool o]), (.agg #[.int .i64 r, .int .i64 c, .bool q]), (.int .i64 n), .agg #[.int .i64 u, .int .i64 c, .bool false], (.agg #[.int .i64 R, .int .i64 C, .int .i64 T, .int .i64 B, .bool o]), (.agg #[.int .i64 r, .int .i64 c, .bool q]), (.int .i64 n), undef, (.agg #[.int .i64 R, .int .i64 C, .int .i64 T, .int .i64 B, .bool o]), (.agg #[.int .i64 r, .int .i64 c, .bool q]), (.int .i64 n), undef, (.agg #[.int .i64 R, .int .i64 C, .int .i64 T, .int .i64 B, .bool o]), (.agg #[.int .i64 r, .int .i64 c, .bool q]), (.int .i64 n), undef, undef, undef, undef, undef, undef, undef, undef, undef, undef, undef, undef, undef, undef, undef, undef, undef, undef, undef, undef, undef, undef, undef, undef, undef, undef, undef, undef, undef, undef, undef, undef, undef, undef, undef, undef, undef, undef, undef, undef, undef, undef, undef, undef, undef, undef, undef, undef, undef, undef, undef, undef, undef, undef, undef, undef, undef, undef], defers := [] }) w := by
  obtain ⟨o7, ho7, hg7, hp7, hd7⟩ := id I7
  refine wpAnyH_ready (rs := [7]) (rdy_ hR 47 _ _ rfl) (by simp) ?_
  refine AllReadyH.cons ho7 (fun K hK => ?_) ?_
  · refine RegN.call48 hg7 hp7 hd7 (hdown _) (fun x hx => ?_)
    simp only [Act.put, List.setIfInBounds_toArray, List.set_cons_zero, List.set_cons_succ]
    exact hK.out _ _ ((hSof _ (hB.trans (hx.mono hB.size)))) (fun _ => node2_2x7x8x9x10 hR I16 I17 I18 I19 I3 I7 I11 I15 I20 I21 I22 I23 hSof hleft hahead hQ g7 g8 g9 g10 x (hB.trans (hx.mono hB.size)) ge7 (b7.stays hx) ge8 (b8.stays hx) ge9 (b9.stays hx) ge10 (b10.stays hx) ne7_8 ne7_9 ne7_10 ne8_9 ne8_10 ne9_10)
  exact AllReadyH.nil
omit hup in
set_option maxRecDepth 100000 in
theorem node1_1x7x8x9 (g7 : Nat) (g8 : Nat) (g9 : Nat) (w : World) (hB : Below w0.heap.size w0 w) (ge7 : w0.heap.size ≤ g7) (b7 : Blk w g7 65 #[.int .i64 0, .int .i64 0, .bool false]) (ge8 : w0.heap.size ≤ g8) (b8 : Blk w g8 65 #[.int .i64 0, .int .i64 0, .bool false]) (ge9 : w0.heap.size ≤ g9) (b9 : Blk w g9 65 #[.int .i64 0, .int .i64 0, .bool false]) (ne7_8 : g7 ≠ g8) (ne7_9 : g7 ≠ g9) (ne8_9 : g8 ≠ g9) :
    wpAnyH Try.prog .any ops Q S 8 #[true, true, true, true, true, true, true, false, true, true, true, false, true, true, true, false, true, true, true, false, false, false, false, false] ({ tmps := #[x0, x1, .int .i64 n, .pointer (some ⟨g3, 0, none⟩), .pointer (some ⟨g4, 0, none⟩), undef, x6, .pointer (some ⟨g7, 0, none⟩), .pointer (some ⟨g8, 0, none⟩), .pointer (some ⟨g9, 0, none⟩), undef, undef, x12, x13, x14, x15, x16, x17, x18, x19, x20, x21, x22, x23, (.agg #[.int .i64 R, .int .i64 C, .int .i64 T, .int .i64 B, .bool o]), (.agg #[.int .i64 r, .int .i64 c, .bool q]), (.int .i64 n), .agg #[.int .i64 u, .int .i64 c, .bool false], (.agg #[.int .i64 R, .int .i64 C, .int .i64 T, .int .i64 B, .bool o]), (.agg #[.int .i64 r, .int .i64 c, .bool q]), (.int .i64 n), undef, (.agg #[.int .i64 R, .int .i64 C, .int .i64 T, .int .i64 B, .bool o]), (.agg #[.int .i64 r, .int .i64 c, .bool q]), (.int .i64 n), undef, (.agg #[.int .i64 R, .int .i64 C, .int .i64 T, .int .i64 B, .bool o]), (.agg #[.int .i64 r, .int .i64 c, .bool q]), (.int .i64 n), undef, undef, undef, undef, undef, undef, undef, undef, undef, undef, undef, undef, undef, undef, undef, undef, undef, undef, undef, undef, undef, undef, undef, undef, undef, undef, undef, undef, undef, undef, undef, undef, undef, undef, undef, undef, undef, undef, undef, undef, undef, undef, undef, undef, undef, undef, undef, undef, undef, undef, undef, undef, undef, undef, undef, undef, undef, undef], defers := [] }) w := by
  obtain ⟨o7, ho7, hg7, hp7, hd7⟩ := id I7
  obtain ⟨o19, ho19, hg19, hp19, hd19⟩ := id I19
  refine wpAnyH_ready (rs := [7, 19]) (rdy_ hR 48 _ _ rfl) (by simp) ?_
  refine AllReadyH.cons ho7 (fun K hK => ?_) ?_
  · refine RegN.call48 hg7 hp7 hd7 (hdown _) (fun x hx => ?_)
    simp only [Act.put, List.setIfInBounds_toArray, List.set_cons_zero, List.set_cons_succ]
    exact hK.out _ _ ((hSof _ (hB.trans (hx.mono hB.size)))) (fun _ => node2_2x7x8x9 hR I16 I17 I18 I19 I3 I7 I11 I15 I20 I21 I22 I23 hSof hleft hahead hQ g7 g8 g9 x (hB.trans (hx.mono hB.size)) ge7 (b7.stays hx) ge8 (b8.stays hx) ge9 (b9.stays hx) ne7_8 ne7_9 ne8_9)
  refine AllReadyH.cons ho19 (fun K hK => ?_) ?_
  · refine RegN.alloc65 hg19 hp19 hd19 ?_
    simp only [Act.put, List.setIfInBounds_toArray, List.set_cons_zero, List.set_cons_succ]
    exact hK.out _ _ ((hSof _ (hB.alloc hB.size _))) (fun _ => node1_1x7x8x9x10 hR I16 I17 I18 I19 I3 I7 I11 I15 I20 I21 I22 I23 hSof hdown hleft hahead hQ g7 g8 g9 w.heap.size _ (hB.alloc hB.size _) ge7 (b7.alloc _) ge8 (b8.alloc _) ge9 (b9.alloc _) hB.size (Blk.new w 65 _) ne7_8 ne7_9 (Nat.ne_of_lt b7.lt) ne8_9 (Nat.ne_of_lt b8.lt) (Nat.ne_of_lt b9.lt))
  exact AllReadyH.nil
omit hup in
set_option maxRecDepth 100000 in
theorem node1_1x7x8x10 (g7 : Nat) (g8 : Nat) (g10 : Nat) (w : World) (hB : Below w0.heap.size w0 w) (ge7 : w0.heap.size ≤ g7) (b7 : Blk w g7 65 #[.int .i64 0, .int .i64 0, .bool false]) (ge8 : w0.heap.size ≤ g8) (b8 : Blk w g8 65 #[.int .i64 0, .int .i64 0, .bool false]) (ge10 : w0.heap.size ≤ g10) (b10 : Blk w g10 65 #[.int .i64 0, .int .i64 0, .bool false]) (ne7_8 : g7 ≠ g8) (ne7_10 : g7 ≠ g10) (ne8_10 : g8 ≠ g10) :
    wpAnyH Try.prog .any ops Q S 8 #[true, true, true, true, true, true, true, false, true, true, true, false, true, true, true, false, true, true, false, true, false, false, false, false] ({ tmps := #[x0, x1, .int .i64 n, .pointer (some ⟨g3, 0, none⟩), .pointer (some ⟨g4, 0, none⟩), undef, x6, .pointer (some ⟨g7, 0, none⟩), .pointer (some ⟨g8, 0, none⟩), undef, .pointer (some ⟨g10, 0, none⟩), undef, x12, x13, x14, x15, x16, x17, x18, x19, x20, x21, x22, x23, (.agg #[.int .i64 R, .int .i64 C, .int .i64 T, .int .i64 B, .bool o]), (.agg #[.int .i64 r, .int .i64 c, .bool q]), (.int .i64 n), .agg #[.int .i64 u, .int .i64 c, .bool false], (.agg #[.int .i64 R, .int .i64 C, .int .i64 T, .int .i64 B, .bool o]), (.agg #[.int .i64 r, .int .i64 c, .bool q]), (.int .i64 n), undef, (.agg #[.int .i64 R, .int .i64 C, .int .i64 T, .int .i64 B, .bool o]), (.agg #[.int .i64 r, .int .i64 c, .bool q]), (.int .i64 n), undef, (.agg #[.int .i64 R, .int .i64 C, .int .i64 T, .int .i64 B, .bool o]), (.agg #[.int .i64 r, .int .i64 c, .bool q]), (.int .i64 n), undef, undef, undef, undef, undef, undef, undef, undef, undef, undef, undef, undef, undef, undef, undef, undef, undef, undef, undef, undef, undef, undef, undef, undef, undef, undef, undef, undef, undef, undef, undef, undef, undef, undef, undef, undef, undef, undef, undef, undef, undef, undef, undef, undef, undef, undef, undef, undef, undef, undef, undef, undef, undef, undef, undef, undef, undef, undef], defers := [] }) w := by
  obtain ⟨o7, ho7, hg7, hp7, hd7⟩ := id I7
  obtain ⟨o18, ho18, hg18, hp18, hd18⟩ := id I18
  refine wpAnyH_ready (rs := [7, 18]) (rdy_ hR 49 _ _ rfl) (by simp) ?_
  refine AllReadyH.cons ho7 (fun K hK => ?_) ?_
  · refine RegN.call48 hg7 hp7 hd7 (hdown _) (fun x hx => ?_)
    simp only [Act.put, List.setIfInBounds_toArray, List.set_cons_zero, List.set_cons_succ]
    exact hK.out _ _ ((hSof _ (hB.trans (hx.mono hB.size)))) (fun _ => node2_2x7x8x10 hR I16 I17 I18 I19 I3 I7 I11 I15 I20 I21 I22 I23 hSof hleft hahead hQ g7 g8 g10 x (hB.trans (hx.mono hB.size)) ge7 (b7.stays hx) ge8 (b8.stays hx) ge10 (b10.stays hx) ne7_8 ne7_10 ne8_10)
  refine AllReadyH.cons ho18 (fun K hK => ?_) ?_
  · refine RegN.alloc65 hg18 hp18 hd18 ?_
    simp only [Act.put, List.setIfInBounds_toArray, List.set_cons_zero, List.set_cons_succ]
    exact hK.out _ _ ((hSof _ (hB.alloc hB.size _))) (fun _ => node1_1x7x8x9x10 hR I16 I17 I18 I19 I3 I7 I11 I15 I20 I21 I22 I23 hSof hdown hleft hahead hQ g7 g8 w.heap.size g10 _ (hB.alloc hB.size _) ge7 (b7.alloc _) ge8 (b8.alloc _) hB.size (Blk.new w 65 _) ge10 (b10.alloc _) ne7_8 (Nat.ne_of_lt b7.lt) ne7_10 (Nat.ne_of_lt b8.lt) ne8_10 (Nat.ne_of_gt b10.lt))
  exact AllReadyH.nil
omit hup in
set_option maxRecDepth 100000 in
theorem node1_1x7x9x10 (g7 : Nat) (g9 : Nat) (g10 : Nat) (w : World) (hB : Below w0.heap.size w0 w) (ge7 : w0.heap.size ≤ g7) (b7 : Blk w g7 65 #[.int .i64 0, .int .i64 0, .bool false]) (ge9 : w0.heap.size ≤ g9) (b9 : Blk w g9 65 #[.int .i64 0, .int .i64 0, .bool false]) (ge10 : w0.heap.size ≤ g10) (b10 : Blk w g10 65 #[.int .i64 0, .int .i64 0, .bool false]) (ne7_9 : g7 ≠ g9) (ne7_10 : g7 ≠ g10) (ne9_10 : g9 ≠ g10) :
    wpAnyH Try.prog .any ops Q S 8 #[true, true, true, true, true, true, true, false, true, true, true, false, true, true, true, false, true, false, true, true, false, false, false, false] ({ tmps := #[x0, x1, .int .i64 n, .pointer (some ⟨g3, 0, none⟩), .pointer (some ⟨g4, 0, none⟩), undef, x6, .pointer (some ⟨g7, 0, none⟩), undef, .pointer (some ⟨g9, 0, none⟩), .pointer (some ⟨g10, 0, none⟩), undef, x12, x13, x14, x15, x16, x17, x18, x19, x20, x21, x22, x23, (.agg #[.int .i64 R, .int .i64 C, .int .i64 T, .int .i64 B, .bool o]), (.agg #[.int .i64 r, .int .i64 c, .bool q]), (.int .i64 n), .agg #[.int .i64 u, .int .i64 c, .bool false], (.agg #[.int .i64 R, .int .i64 C, .int .i64 T, .int .i64 B, .bool o]), (.agg #[.int .i64 r, .int .i64 c, .bool q]), (.int .i64 n), undef, (.agg #[.int .i64 R, .int .i64 C, .int .i64 T, .int .i64 B, .bool o]), (.agg #[.int .i64 r, .int .i64 c, .bool q]), (.int .i64 n), undef, (.agg #[.int .i64 R, .int .i64 C, .int .i64 T, .int .i64 B, .bool o]), (.agg #[.int .i64 r, .int .i64 c, .bool q]), (.int .i64 n), undef, undef, undef, undef, undef, undef, undef, undef, undef, undef, undef, undef, undef, undef, undef, undef, undef, undef, undef, undef, undef, undef, undef, undef, undef, undef, undef, undef, undef, undef, undef, undef, undef, undef, undef, undef, undef, undef, undef, undef, undef, undef, undef, undef, undef, undef, undef, undef, undef, undef, undef, undef, undef, undef, undef, undef, undef, undef], defers := [] }) w := by
  obtain ⟨o7, ho7, hg7, hp7, hd7⟩ := id I7
  obtain ⟨o17, ho17, hg17, hp17, hd17⟩ := id I17
  refine wpAnyH_ready (rs := [7, 17]) (rdy_ hR 50 _ _ rfl) (by simp) ?_
  refine AllReadyH.cons ho7 (fun K hK => ?_) ?_
  · refine RegN.call48 hg7 hp7 hd7 (hdown _) (fun x hx => ?_)
    simp only [Act.put, List.setIfInBounds_toArray, List.set_cons_zero, List.set_cons_succ]
    exact hK.out _ _ ((hSof _ (hB.trans (hx.mono hB.size)))) (fun _ => node2_2x7x9x10 hR I16 I17 I18 I19 I3 I7 I11 I15 I20 I21 I22 I23 hSof hleft hahead hQ g7 g9 g10 x (hB.trans (hx.mono hB.size)) ge7 (b7.stays hx) ge9 (b9.stays hx) ge10 (b10.stays hx) ne7_9 ne7_10 ne9_10)
  refine AllReadyH.cons ho17 (fun K hK => ?_) ?_
  · refine RegN.alloc65 hg17 hp17 hd17 ?_
    simp only [Act.put, List.setIfInBounds_toArray, List.set_cons_zero, List.set_cons_succ]
    exact hK.out _ _ ((hSof _ (hB.alloc hB.size _))) (fun _ => node1_1x7x8x9x10 hR I16 I17 I18 I19 I3 I7 I11 I15 I20 I21 I22 I23 hSof hdown hleft hahead hQ g7 w.heap.size g9 g10 _ (hB.alloc hB.size _) ge7 (b7.alloc _) hB.size (Blk.new w 65 _) ge9 (b9.alloc _) ge10 (b10.alloc _) (Nat.ne_of_lt b7.lt) ne7_9 ne7_10 (Nat.ne_of_gt b9.lt) (Nat.ne_of_gt b10.lt) ne9_10)
  exact AllReadyH.nil
omit hup in
set_option maxRecDepth 100000 in
theorem node1_1x8x9x10 (g8 : Nat) (g9 : Nat) (g10 : Nat) (w : World) (hB : Below w0.heap.size w0 w) (ge8 : w0.heap.size ≤ g8) (b8 : Blk w g8 65 #[.int .i64 0, .int .i64 0, .bool false]) (ge9 : w0.heap.size ≤ g9) (b9 : Blk w g9 65 #[.int .i64 0, .int .i64 0, .bool false]) (ge10 : w0.heap.size ≤ g10) (b10 : Blk w g10 65 #[.int .i64 0, .int .i64 0, .bool false]) (ne8_9 : g8 ≠ g9) (ne8_10 : g8 ≠ g10) (ne9_10 : g9 ≠ g10) :
    wpAnyH Try.prog .any ops Q S 8 #[true, true, true, true, true, true, true, false, true, true, true, false, true, true, true, false, false, true, true, true, false, false, false, false] ({ tmps := #[x0, x1, .int .i64 n, .pointer (some ⟨g3, 0, none⟩), .pointer (some ⟨g4, 0, none⟩), undef, x6, undef, .pointer (some ⟨g8, 0, none⟩), .pointer (some ⟨g9, 0, none⟩), .pointer (some ⟨g10, 0, none⟩), undef, x12, x13, x14, x15, x16, x17, x18, x19, x20, x21, x22, x23, (.agg #[.int .i64 R, .int .i64 C, .int .i64 T, .int .i64 B, .bool o]), (.agg #[.int .i64 r, .int .i64 c, .bool q]), (.int .i64 n), .agg #[.int .i64 u, .int .i64 c, .bool false], (.agg #[.int .i64 R, .int .i64 C, .int .i64 T, .int .i64 B, .bool o]), (.agg #[.int .i64 r, .int .i64 c, .bool q]), (.int .i64 n), undef, (.agg #[.int .i64 R, .int .i64 C, .int .i64 T, .int .i64 B, .bool o]), (.agg #[.int .i64 r, .int .i64 c, .bool q]), (.int .i64 n), undef, (.agg #[.int .i64 R, .int .i64 C, .int .i64 T, .int .i64 B, .bool o]), (.agg #[.int .i64 r, .int .i64 c, .bool q]), (.int .i64 n), undef, undef, undef, undef, undef, undef, undef, undef, undef, undef, undef, undef, undef, undef, undef, undef, undef, undef, undef, undef, undef, undef, undef, undef, undef, undef, undef, undef, undef, undef, undef, undef, undef, undef, undef, undef, undef, undef, undef, undef, undef, undef, undef, undef, undef, undef, undef, undef, undef, undef, undef, undef, undef, undef, undef, undef, undef, undef], defers := [] }) w := by
  obtain ⟨o7, ho7, hg7, hp7, hd7⟩ := id I7
  obtain ⟨o16, ho16, hg16, hp16, hd16⟩ := id I16
  refine wpAnyH_ready (rs := [7, 16]) (rdy_ hR 51 _ _ rfl) (by simp) ?_
  refine AllReadyH.cons ho7 (fun K hK => ?_) ?_
  · refine RegN.call48 hg7 hp7 hd7 (hdown _) (fun x hx => ?_)
    simp only [Act.put, List.setIfInBounds_toArray, List.set_cons_zero, List.set_cons_succ]
    exact hK.out _ _ ((hSof _ (hB.trans (hx.mono hB.size)))) (fun _ => node2_2x8x9x10 hR I16 I17 I18 I19 I3 I7 I11 I15 I20 I21 I22 I23 hSof hleft hahead hQ g8 g9 g10 x (hB.trans (hx.mono hB.size)) ge8 (b8.stays hx) ge9 (b9.stays hx) ge10 (b10.stays hx) ne8_9 ne8_10 ne9_10)
  refine AllReadyH.cons ho16 (fun K hK => ?_) ?_
  · refine RegN.alloc65 hg16 hp16 hd16 ?_
    simp only [Act.put, List.setIfInBounds_toArray, List.set_cons_zero, List.set_cons_succ]
    exact hK.out _ _ ((hSof _ (hB.alloc hB.size _))) (fun _ => node1_1x7x8x9x10 hR I16 I17 I18 I19 I3 I7 I11 I15 I20 I21 I22 I23 hSof hdown hleft hahead hQ w.heap.size g8 g9 g10 _ (hB.alloc hB.size _) hB.size (Blk.new w 65 _) ge8 (b8.alloc _) ge9 (b9.alloc _) ge10 (b10.alloc _) (Nat.ne_of_gt b8.lt) (Nat.ne_of_gt b9.lt) (Nat.ne_of_gt b10.lt) ne8_9 ne8_10 ne9_10)
  exact AllReadyH.nil
omit hup in
set_option maxRecDepth 100000 in
theorem node1_1x7x8 (g7 : Nat) (g8 : Nat) (w : World) (hB : Below w0.heap.size w0 w) (ge7 : w0.heap.size ≤ g7) (b7 : Blk w g7 65 #[.int .i64 0, .int .i64 0, .bool false]) (ge8 : w0.heap.size ≤ g8) (b8 : Blk w g8 65 #[.int .i64 0, .int .i64 0, .bool false]) (ne7_8 : g7 ≠ g8) :
    wpAnyH Try.prog .any ops Q S 9 #[true, true, true, true, true, true, true, false, true, true, true, false, true, true, true, false, true, true, false, false, false, false, false, false] ({ tmps := #[x0, x1, .int .i64 n, .pointer (some ⟨g3, 0, none⟩), .pointer (some ⟨g4, 0, none⟩), undef, x6, .pointer (some ⟨g7, 0, none⟩), .pointer (some ⟨g8, 0, none⟩), undef, undef, undef, x12, x13, x14, x15, x16, x17, x18, x19, x20, x21, x22, x23, (.agg #[.int .i64 R, .int .i64 C, .int .i64 T, .int .i64 B, .bool o]), (.agg #[.int .i64 r, .int .i64 c, .bool q]), (.int .i64 n), .agg #[.int .i64 u, .int .i64 c, .bool false], (.agg #[.int .i64 R, .int .i64 C, .int .i64 T, .int .i64 B, .bool o]), (.agg #[.int .i64 r, .int .i64 c, .bool q]), (.int .i64 n), undef, (.agg #[.int .i64 R, .int .i64 C, .int .i64 T, .int .i64 B, .bool o]), (.agg #[.int .i64 r, .int .i64 c, .bool q]), (.int .i64 n), undef, (.agg #[.int .i64 R, .int .i64 C, .int .i64 T, .int .i64 B, .bool o]), (.agg #[.int .i64 r, .int .i64 c, .bool q]), (.int .i64 n), undef, undef, undef, undef, undef, undef, undef, undef, undef, undef, undef, undef, undef, undef, undef, undef, undef, undef, undef, undef, undef, undef, undef, undef, undef, undef, undef, undef, undef, undef, undef, undef, undef, undef, undef, undef, undef, undef, undef, undef, undef, undef, undef, undef, undef, undef, undef, undef, undef, undef, undef, undef, undef, undef, undef, undef, undef, undef], defers := [] }) w := by
  obtain ⟨o7, ho7, hg7, hp7, hd7⟩ := id I7
  obtain ⟨o18, ho18, hg18, hp18, hd18⟩ := id I18
  obtain ⟨o19, ho19, hg19, hp19, hd19⟩ := id I19
  refine wpAnyH_ready (rs := [7, 18, 19]) (rdy_ hR 52 _ _ rfl) (by simp) ?_
  refine AllReadyH.cons ho7 (fun K hK => ?_) ?_
  · refine RegN.call48 hg7 hp7 hd7 (hdown _) (fun x hx => ?_)
    simp only [Act.put, List.setIfInBounds_toArray, List.set_cons_zero, List.set_cons_succ]
    exact hK.out _ _ ((hSof _ (hB.trans (hx.mono hB.size)))) (fun _ => node2_2x7x8 hR I16 I17 I18 I19 I3 I7 I11 I15 I20 I21 I22 I23 hSof hleft hahead hQ g7 g8 x (hB.trans (hx.mono hB.size)) ge7 (b7.stays hx) ge8 (b8.stays hx) ne7_8)
  refine AllReadyH.cons ho18 (fun K hK => ?_) ?_
  · refine RegN.alloc65 hg18 hp18 hd18 ?_
    simp only [Act.put, List.setIfInBounds_toArray, List.set_cons_zero, List.set_cons_succ]
    exact hK.out _ _ ((hSof _ (hB.alloc hB.size _))) (fun _ => node1_1x7x8x9 hR I16 I17 I18 I19 I3 I7 I11 I15 I20 I21 I22 I23 hSof hdown hleft hahead hQ g7 g8 w.heap.size _ (hB.alloc hB.size _) ge7 (b7.alloc _) ge8 (b8.alloc _) hB.size (Blk.new w 65 _) ne7_8 (Nat.ne_of_lt b7.lt) (Nat.ne_of_lt b8.lt))
  refine AllReadyH.cons ho19 (fun K hK => ?_) ?_
  · refine RegN.alloc65 hg19 hp19 hd19 ?_
    simp only [Act.put, List.setIfInBounds_toArray, List.set_cons_zero, List.set_cons_succ]
    exact hK.out _ _ ((hSof _ (hB.alloc hB.size _))) (fun _ => node1_1x7x8x10 hR I16 I17 I18 I19 I3 I7 I11 I15 I20 I21 I22 I23 hSof hdown hleft hahead hQ g7 g8 w.heap.size _ (hB.alloc hB.size _) ge7 (b7.alloc _) ge8 (b8.alloc _) hB.size (Blk.new w 65 _) ne7_8 (Nat.ne_of_lt b7.lt) (Nat.ne_of_lt b8.lt))
  exact AllReadyH.nil
omit hup in
set_option maxRecDepth 100000 in
theorem node1_1x7x9 (g7 : Nat) (g9 : Nat) (w : World) (hB : Below w0.heap.size w0 w) (ge7 : w0.heap.size ≤ g7) (b7 : Blk w g7 65 #[.int .i64 0, .int .i64 0, .bool false]) (ge9 : w0.heap.size ≤ g9) (b9 : Blk w g9 65 #[.int .i64 0, .int .i64 0, .bool false]) (ne7_9 : g7 ≠ g9) :
    wpAnyH Try.prog .any ops Q S 9 #[true, true, true, true, true, true, true, false, true, true, true, false, true, true, true, false, true, false, true, false, false, false, false, false] ({ tmps := #[x0, x1, .int .i64 n, .pointer (some ⟨g3, 0, none⟩), .pointer (some ⟨g4, 0, none⟩), undef, x6, .pointer (some ⟨g7, 0, none⟩), undef, .pointer (some ⟨g9, 0, none⟩), undef, undef, x12, x13, x14, x15, x16, x17, x18, x19, x20, x21, x22, x23, (.agg #[.int .i64 R, .int .i64 C, .int .i64 T, .int .i64 B, .bool o]), (.agg #[.int .i64 r, .int .i64 c, .bool q]), (.int .i64 n), .agg #[.int .i64 u, .int .i64 c, .bool false], (.agg #[.int .i64 R, .int .i64 C, .int .i64 T, .int .i64 B, .bool o]), (.agg #[.int .i64 r, .int .i64 c, .bool q]), (.int .i64 n), undef, (.agg #[.int .i64 R, .int .i64 C, .int .i64 T, .int .i64 B, .bool o]), (.agg #[.int .i64 r, .int .i64 c, .bool q]), (.int .i64 n), undef, (.agg #[.int .i64 R, .int .i64 C, .int .i64 T, .int .i64 B, .bool o]), (.agg #[.int .i64 r, .int .i64 c, .bool q]), (.int .i64 n), undef, undef, undef, undef, undef, undef, undef, undef, undef, undef, undef, undef, undef, undef, undef, undef, undef, undef, undef, undef, undef, undef, undef, undef, undef, undef, undef, undef, undef, undef, undef, undef, undef, undef, undef, undef, undef, undef, undef, undef, undef, undef, undef, undef, undef, undef, undef, undef, undef, undef, undef, undef, undef, undef, undef, undef, undef, undef], defers := [] }) w := by
  obtain ⟨o7, ho7, hg7, hp7, hd7⟩ := id I7
  obtain ⟨o17, ho17, hg17, hp17, hd17⟩ := id I17
  obtain ⟨o19, ho19, hg19, hp19, hd19⟩ := id I19
  refine wpAnyH_ready (rs := [7, 17, 19]) (rdy_ hR 53 _ _ rfl) (by simp) ?_
  refine AllReadyH.cons ho7 (fun K hK => ?_) ?_
  · refine RegN.call48 hg7 hp7 hd7 (hdown _) (fun x hx => ?_)
    simp only [Act.put, List.setIfInBounds_toArray, List.set_cons_zero, List.set_cons_succ]
    exact hK.out _ _ ((hSof _ (hB.trans (hx.mono hB.size)))) (fun _ => node2_2x7x9 hR I16 I17 I18 I19 I3 I7 I11 I15 I20 I21 I22 I23 hSof hleft hahead hQ g7 g9 x (hB.trans (hx.mono hB.size)) ge7 (b7.stays hx) ge9 (b9.stays hx) ne7_9)
  refine AllReadyH.cons ho17 (fun K hK => ?_) ?_
  · refine RegN.alloc65 hg17 hp17 hd17 ?_
    simp only [Act.put, List.setIfInBounds_toArray, List.set_cons_zero, List.set_cons_succ]
    exact hK.out _ _ ((hSof _ (hB.alloc hB.size _))) (fun _ => node1_1x7x8x9 hR I16 I17 I18 I19 I3 I7 I11 I15 I20 I21 I22 I23 hSof hdown hleft hahead hQ g7 w.heap.size g9 _ (hB.alloc hB.size _) ge7 (b7.alloc _) hB.size (Blk.new w 65 _) ge9 (b9.alloc _) (Nat.ne_of_lt b7.lt) ne7_9 (Nat.ne_of_gt b9.lt))
  refine AllReadyH.cons ho19 (fun K hK => ?_) ?_
  · refine RegN.alloc65 hg19 hp19 hd19 ?_
    simp only [Act.put, List.setIfInBounds_toArray, List.set_cons_zero, List.set_cons_succ]
    exact hK.out _ _ ((hSof _ (hB.alloc hB.size _))) (fun _ => node1_1x7x9x10 hR I16 I17 I18 I19 I3 I7 I11 I15 I20 I21 I22 I23 hSof hdown hleft hahead hQ g7 g9 w.heap.size _ (hB.alloc hB.size _) ge7 (b7.alloc _) ge9 (b9.alloc _) hB.size (Blk.new w 65 _) ne7_9 (Nat.ne_of_lt b7.lt) (Nat.ne_of_lt b9.lt))
  exact AllReadyH.nil
omit hup in
set_option maxRecDepth 100000 in
theorem node1_1x7x10 (g7 : Nat) (g10 : Nat) (w : World) (hB : Below w0.heap.size w0 w) (ge7 : w0.heap.size ≤ g7) (b7 : Blk w g7 65 #[.int .i64 0, .int .i64 0, .bool false]) (ge10 : w0.heap.size ≤ g10) (b10 : Blk w g10 65 #[.int .i64 0, .int .i64 0, .bool false]) (ne7_10 : g7 ≠ g10) :
    wpAnyH Try.prog .any ops Q S 9 #[true, true, true, true, true, true, true, false, true, true, true, false, true, true, true, false, true, false, false, true, false, false, false, false] ({ tmps := #[x0, x1, .int .i64 n, .pointer (some ⟨g3, 0, none⟩), .pointer (some ⟨g4, 0, none⟩), undef, x6, .pointer (some ⟨g7, 0, none⟩), undef, undef, .pointer (some ⟨g10, 0, none⟩), undef, x12, x13, x14, x15, x16, x17, x18, x19, x20, x21, x22, x23, (.agg #[.int .i64 R, .int .i64 C, .int .i64 T, .int .i64 B, .bool o]), (.agg #[.int .i64 r, .int .i64 c, .bool q]), (.int .i64 n), .agg #[.int .i64 u, .int .i64 c, .bool false], (.agg #[.int .i64 R, .int .i64 C, .int .i64 T, .int .i64 B, .bool o]), (.agg #[.int .i64 r, .int .i64 c, .bool q]), (.int .i64 n), undef, (.agg #[.int .i64 R, .int .i64 C, .int .i64 T, .int .i64 B, .bool o]), (.agg #[.int .i64 r, .int .i64 c, .bool q]), (.int .i64 n), undef, (.agg #[.int .i64 R, .int .i64 C, .int .i64 T, .int .i64 B, .bool o]), (.agg #[.int .i64 r, .int .i64 c, .bool q]), (.int .i64 n), undef, undef, undef, undef, undef, undef, undef, undef, undef, undef, undef, undef, undef, undef, undef, undef, undef, undef, undef, undef, undef, undef, undef, undef, undef, undef, undef, undef, undef, undef, undef, undef, undef, undef, undef, undef, undef, undef, undef, undef, undef, undef, undef, undef, undef, undef, undef, undef, undef, undef, undef, undef, undef, undef, undef, undef, undef, undef], defers := [] }) w := by
  obtain ⟨o7, ho7, hg7, hp7, hd7⟩ := id I7
  obtain ⟨o17, ho17, hg17, hp17, hd17⟩ := id I17
  obtain ⟨o18, ho18, hg18, hp18, hd18⟩ := id I18
  refine wpAnyH_ready (rs := [7, 17, 18]) (rdy_ hR 54 _ _ rfl) (by simp) ?_
  refine AllReadyH.cons ho7 (fun K hK => ?_) ?_
  · refine RegN.call48 hg7 hp7 hd7 (hdown _) (fun x hx => ?_)
    simp only [Act.put, List.setIfInBounds_toArray, List.set_cons_zero, List.set_cons_succ]
    exact hK.out _ _ ((hSof _ (hB.trans (hx.mono hB.size)))) (fun _ => node2_2x7x10 hR I16 I17 I18 I19 I3 I7 I11 I15 I20 I21 I22 I23 hSof hleft hahead hQ g7 g10 x (hB.trans (hx.mono hB.size)) ge7 (b7.stays hx) ge10 (b10.stays hx) ne7_10)
  refine AllReadyH.cons ho17 (fun K hK => ?_) ?_
  · refine RegN.alloc65 hg17 hp17 hd17 ?_
    simp only [Act.put, List.setIfInBounds_toArray, List.set_cons_zero, List.set_cons_succ]
    exact hK.out _ _ ((hSof _ (hB.alloc hB.size _))) (fun _ => node1_1x7x8x10 hR I16 I17 I18 I19 I3 I7 I11 I15 I20 I21 I22 I23 hSof hdown hleft hahead hQ g7 w.heap.size g10 _ (hB.alloc hB.size _) ge7 (b7.alloc _) hB.size (Blk.new w 65 _) ge10 (b10.alloc _) (Nat.ne_of_lt b7.lt) ne7_10 (Nat.ne_of_gt b10.lt))
  refine AllReadyH.cons ho18 (fun K hK => ?_) ?_
  · refine RegN.alloc65 hg18 hp18 hd18 ?_
    simp only [Act.put, List.setIfInBounds_toArray, List.set_cons_zero, List.set_cons_succ]
    exact hK.out _ _ ((hSof _ (hB.alloc hB.size _))) (fun _ => node1_1x7x9x10 hR I16 I17 I18 I19 I3 I7 I11 I15 I20 I21 I22 I23 hSof hdown hleft hahead hQ g7 w.heap.size g10 _ (hB.alloc hB.size _) ge7 (b7.alloc _) hB.size (Blk.new w 65 _) ge10 (b10.alloc _) (Nat.ne_of_lt b7.lt) ne7_10 (Nat.ne_of_gt b10.lt))
  exact AllReadyH.nil
omit hup in
set_option maxRecDepth 100000 in
theorem node1_1x8x9 (g8 : Nat) (g9 : Nat) (w : World) (hB : Below w0.heap.size w0 w) (ge8 : w0.heap.size ≤ g8) (b8 : Blk w g8 65 #[.int .i64 0, .int .i64 0, .bool false]) (ge9 : w0.heap.size ≤ g9) (b9 : Blk w g9 65 #[.int .i64 0, .int .i64 0, .bool false]) (ne8_9 : g8 ≠ g9) :
    wpAnyH Try.prog .any ops Q S 9 #[true, true, true, true, true, true, true, false, true, true, true, false, true, true, true, false, false, true, true, false, false, false, false, false] ({ tmps := #[x0, x1, .int .i64 n, .pointer (some ⟨g3, 0, none⟩), .pointer (some ⟨g4, 0, none⟩), undef, x6, undef, .pointer (some ⟨g8, 0, none⟩), .pointer (some ⟨g9, 0, none⟩), undef, undef, x12, x13, x14, x15, x16, x17, x18, x19, x20, x21, x22, x23, (.agg #[.int .i64 R, .int .i64 C, .int .i64 T, .int .i64 B, .bool o]), (.agg #[.int .i64 r, .int .i64 c, .bool q]), (.int .i64 n), .agg #[.int .i64 u, .int .i64 c, .bool false], (.agg #[.int .i64 R, .int .i64 C, .int .i64 T, .int .i64 B, .bool o]), (.agg #[.int .i64 r, .int .i64 c, .bool q]), (.int .i64 n), undef, (.agg #[.int .i64 R, .int .i64 C, .int .i64 T, .int .i64 B, .bool o]), (.agg #[.int .i64 r, .int .i64 c, .bool q]), (.int .i64 n), undef, (.agg #[.int .i64 R, .int .i64 C, .int .i64 T, .int .i64 B, .bool o]), (.agg #[.int .i64 r, .int .i64 c, .bool q]), (.int .i64 n), undef, undef, undef, undef, undef, undef, undef, undef, undef, undef, undef, undef, undef, undef, undef, undef, undef, undef, undef, undef, undef, undef, undef, undef, undef, undef, undef, undef, undef, undef, undef, undef, undef, undef, undef, undef, undef, undef, undef, undef, undef, undef, undef, undef, undef, undef, undef, undef, undef, undef, undef, undef, undef, undef, undef, undef, undef, undef], defers := [] }) w := by
  obtain ⟨o7, ho7, hg7, hp7, hd7⟩ := id I7
  obtain ⟨o16, ho16, hg16, hp16, hd16⟩ := id I16
  obtain ⟨o19, ho19, hg19, hp19, hd19⟩ := id I19
  refine wpAnyH_ready (rs := [7, 16, 19]) (rdy_ hR 55 _ _ rfl) (by simp) ?_
  refine AllReadyH.cons ho7 (fun K hK => ?_) ?_
  · refine RegN.call48 hg7 hp7 hd7 (hdown _) (fun x hx => ?_)
    simp only [Act.put, List.setIfInBounds_toArray, List.set_cons_zero, List.set_cons_succ]
    exact hK.out _ _ ((hSof _ (hB.trans (hx.mono hB.size)))) (fun _ => node2_2x8x9 hR I16 I17 I18 I19 I3 I7 I11 I15 I20 I21 I22 I23 hSof hleft hahead hQ g8 g9 x (hB.trans (hx.mono hB.size)) ge8 (b8.stays hx) ge9 (b9.stays hx) ne8_9)
  refine AllReadyH.cons ho16 (fun K hK => ?_) ?_
  · refine RegN.alloc65 hg16 hp16 hd16 ?_
    simp only [Act.put, List.setIfInBounds_toArray, List.set_cons_zero, List.set_cons_succ]
    exact hK.out _ _ ((hSof _ (hB.alloc hB.size _))) (fun _ => node1_1x7x8x9 hR I16 I17 I18 I19 I3 I7 I11 I15 I20 I21 I22 I23 hSof hdown hleft hahead hQ w.heap.size g8 g9 _ (hB.alloc hB.size _) hB.size (Blk.new w 65 _) ge8 (b8.alloc _) ge9 (b9.alloc _) (Nat.ne_of_gt b8.lt) (Nat.ne_of_gt b9.lt) ne8_9)
  refine AllReadyH.cons ho19 (fun K hK => ?_) ?_
  · refine RegN.alloc65 hg19 hp19 hd19 ?_
    simp only [Act.put, List.setIfInBounds_toArray, List.set_cons_zero, List.set_cons_succ]
    exact hK.out _ _ ((hSof _ (hB.alloc hB.size _))) (fun _ => node1_1x8x9x10 hR I16 I17 I18 I19 I3 I7 I11 I15 I20 I21 I22 I23 hSof hdown hleft hahead hQ g8 g9 w.heap.size _ (hB.alloc hB.size _) ge8 (b8.alloc _) ge9 (b9.alloc _) hB.size (Blk.new w 65 _) ne8_9 (Nat.ne_of_lt b8.lt) (Nat.ne_of_lt b9.lt))
  exact AllReadyH.nil
omit hup in
set_option maxRecDepth 100000 in
theorem node1_1x8x10 (g8 : Nat) (g10 : Nat) (w : World) (hB : Below w0.heap.size w0 w) (ge8 : w0.heap.size ≤ g8) (b8 : Blk w g8 65 #[.int .i64 0, .int .i64 0, .bool false]) (ge10 : w0.heap.size ≤ g10) (b10 : Blk w g10 65 #[.int .i64 0, .int .i64 0, .bool false]) (ne8_10 : g8 ≠ g10) :
    wpAnyH Try.prog .any ops Q S 9 #[true, true, true, true, true, true, true, false, true, true, true, false, true, true, true, false, false, true, false, true, false, false, false, false] ({ tmps := #[x0, x1, .int .i64 n, .pointer (some ⟨g3, 0, none⟩), .pointer (some ⟨g4, 0, none⟩), undef, x6, undef, .pointer (some ⟨g8, 0, none⟩), undef, .pointer (some ⟨g10, 0, none⟩), undef, x12, x13, x14, x15, x16, x17, x18, x19, x20, x21, x22, x23, (.agg #[.int .i64 R, .int .i64 C, .int .i64 T, .int .i64 B, .bool o]), (.agg #[.int .i64 r, .int .i64 c, .bool q]), (.int .i64 n), .agg #[.int .i64 u, .int .i64 c, .bool false], (.agg #[.int .i64 R, .int .i64 C, .int .i64 T, .int .i64 B, .bool o]), (.agg #[.int .i64 r, .int .i64 c, .bool q]), (.int .i64 n), undef, (.agg #[.int .i64 R, .int .i64 C, .int .i64 T, .int .i64 B, .bool o]), (.agg #[.int .i64 r, .int .i64 c, .bool q]), (.int .i64 n), undef, (.agg #[.int .i64 R, .int .i64 C, .int .i64 T, .int .i64 B, .bool o]), (.agg #[.int .i64 r, .int .i64 c, .bool q]), (.int .i64 n), undef, undef, undef, undef, undef, undef, undef, undef, undef, undef, undef, undef, undef, undef, undef, undef, undef, undef, undef, undef, undef, undef, undef, undef, undef, undef, undef, undef, undef, undef, undef, undef, undef, undef, undef, undef, undef, undef, undef, undef, undef, undef, undef, undef, undef, undef, undef, undef, undef, undef, undef, undef, undef, undef, undef, undef, undef, undef], defers := [] }) w := by
  obtain ⟨o7, ho7, hg7, hp7, hd7⟩ := id I7
  obtain ⟨o16, ho16, hg16, hp16, hd16⟩ := id I16
  obtain ⟨o18, ho18, hg18, hp18, hd18⟩ := id I18
  refine wpAnyH_ready (rs := [7, 16, 18]) (rdy_ hR 56 _ _ rfl) (by simp) ?_
  refine AllReadyH.cons ho7 (fun K hK => ?_) ?_
  · refine RegN.call48 hg7 hp7 hd7 (hdown _) (fun x hx => ?_)
    simp only [Act.put, List.setIfInBounds_toArray, List.set_cons_zero, List.set_cons_succ]
    exact hK.out _ _ ((hSof _ (hB.trans (hx.mono hB.size)))) (fun _ => node2_2x8x10 hR I16 I17 I18 I19 I3 I7 I11 I15 I20 I21 I22 I23 hSof hleft hahead hQ g8 g10 x (hB.trans (hx.mono hB.size)) ge8 (b8.stays hx) ge10 (b10.stays hx) ne8_10)
  refine AllReadyH.cons ho16 (fun K hK => ?_) ?_
  · refine RegN.alloc65 hg16 hp16 hd16 ?_
    simp only [Act.put, List.setIfInBounds_toArray, List.set_cons_zero, List.set_cons_succ]
    exact hK.out _ _ ((hSof _ (hB.alloc hB.size _))) (fun _ => node1_1x7x8x10 hR I16 I17 I18 I19 I3 I7 I11 I15 I20 I21 I22 I23 hSof hdown hleft hahead hQ w.heap.size g8 g10 _ (hB.alloc hB.size _) hB.size (Blk.new w 65 _) ge8 (b8.alloc _) ge10 (b10.alloc _) (Nat.ne_of_gt b8.lt) (Nat.ne_of_gt b10.lt) ne8_10)
  refine AllReadyH.cons ho18 (fun K hK => ?_) ?_
  · refine RegN.alloc65 hg18 hp18 hd18 ?_
    simp only [Act.put, List.setIfInBounds_toArray, List.set_cons_zero, List.set_cons_succ]
    exact hK.out _ _ ((hSof _ (hB.alloc hB.size _))) (fun _ => node1_1x8x9x10 hR I16 I17 I18 I19 I3 I7 I11 I15 I20 I21 I22 I23 hSof hdown hleft hahead hQ g8 w.heap.size g10 _ (hB.alloc hB.size _) ge8 (b8.alloc _) hB.size (Blk.new w 65 _) ge10 (b10.alloc _) (Nat.ne_of_lt b8.lt) ne8_10 (Nat.ne_of_gt b10.lt))
  exact AllReadyH.nil
omit hup in
set_option maxRecDepth 100000 in
theorem node1_1x9x10 (g9 : Nat) (g10 : Nat) (w : World) (hB : Below w0.heap.size w0 w) (ge9 : w0.heap.size ≤ g9) (b9 : Blk w g9 65 #[.int .i64 0, .int .i64 0, .bool false]) (ge10 : w0.heap.size ≤ g10) (b10 : Blk w g10 65 #[.int .i64 0, .int .i64 0, .bool false]) (ne9_10 : g9 ≠ g10) :
    wpAnyH Try.prog .any ops Q S 9 #[true, true, true, true, true, true, true, false, true, true, true, false, true, true, true, false, false, false, true, true, false, false, false, false] ({ tmps := #[x0, x1, .int .i64 n, .pointer (some ⟨g3, 0, none⟩), .pointer (some ⟨g4, 0, none⟩), undef, x6, undef, undef, .pointer (some ⟨g9, 0, none⟩), .pointer (some ⟨g10, 0, none⟩), undef, x12, x13, x14, x15, x16, x17, x18, x19, x20, x21, x22, x23, (.agg #[.int .i64 R, .int .i64 C, .int .i64 T, .int .i64 B, .bool o]), (.agg #[.int .i64 r, .int .i64 c, .bool q]), (.int .i64 n), .agg #[.int .i64 u, .int .i64 c, .bool false], (.agg #[.int .i64 R, .int .i64 C, .int .i64 T, .int .i64 B, .bool o]), (.agg #[.int .i64 r, .int .i64 c, .bool q]), (.int .i64 n), undef, (.agg #[.int .i64 R, .int .i64 C, .int .i64 T, .int .i64 B, .bool o]), (.agg #[.int .i64 r, .int .i64 c, .bool q]), (.int .i64 n), undef, (.agg #[.int .i64 R, .int .i64 C, .int .i64 T, .int .i64 B, .bool o]), (.agg #[.int .i64 r, .int .i64 c, .bool q]), (.int .i64 n), undef, undef, undef, undef, undef, undef, undef, undef, undef, undef, undef, undef, undef, undef, undef, undef, undef, undef, undef, undef, undef, undef, undef, undef, undef, undef, undef, undef, undef, undef, undef, undef, undef, undef, undef, undef, undef, undef, undef, undef, undef, undef, undef, undef, undef, undef, undef, undef, undef, undef, undef, undef, undef, undef, undef, undef, undef, undef], defers := [] }) w := by
  obtain ⟨o7, ho7, hg7, hp7, hd7⟩ := id I7
  obtain ⟨o16, ho16, hg16, hp16, hd16⟩ := id I16
  obtain ⟨o17, ho17, hg17, hp17, hd17⟩ := id I17
  refine wpAnyH_ready (rs := [7, 16, 17]) (rdy_ hR 57 _ _ rfl) (by simp) ?_
  refine AllReadyH.cons ho7 (fun K hK => ?_) ?_
  · refine RegN.call48 hg7 hp7 hd7 (hdown _) (fun x hx => ?_)
    simp only [Act.put, List.setIfInBounds_toArray, List.set_cons_zero, List.set_cons_succ]
    exact hK.out _ _ ((hSof _ (hB.trans (hx.mono hB.size)))) (fun _ => node2_2x9x10 hR I16 I17 I18 I19 I3 I7 I11 I15 I20 I21 I22 I23 hSof hleft hahead hQ g9 g10 x (hB.trans (hx.mono hB.size)) ge9 (b9.stays hx) ge10 (b10.stays hx) ne9_10)
  refine AllReadyH.cons ho16 (fun K hK => ?_) ?_
  · refine RegN.alloc65 hg16 hp16 hd16 ?_
    simp only [Act.put, List.setIfInBounds_toArray, List.set_cons_zero, List.set_cons_succ]
    exact hK.out _ _ ((hSof _ (hB.alloc hB.size _))) (fun _ => node1_1x7x9x10 hR I16 I17 I18 I19 I3 I7 I11 I15 I20 I21 I22 I23 hSof hdown hleft hahead hQ w.heap.size g9 g10 _ (hB.alloc hB.size _) hB.size (Blk.new w 65 _) ge9 (b9.alloc _) ge10 (b10.alloc _) (Nat.ne_of_gt b9.lt) (Nat.ne_of_gt b10.lt) ne9_10)
  refine AllReadyH.cons ho17 (fun K hK => ?_) ?_
  · refine RegN.alloc65 hg17 hp17 hd17 ?_
    simp only [Act.put, List.setIfInBounds_toArray, List.set_cons_zero, List.set_cons_succ]
    exact hK.out _ _ ((hSof _ (hB.alloc hB.size _))) (fun _ => node1_1x8x9x10 hR I16 I17 I18 I19 I3 I7 I11 I15 I20 I21 I22 I23 hSof hdown hleft hahead hQ w.heap.size g9 g10 _ (hB.alloc hB.size _) hB.size (Blk.new w 65 _) ge9 (b9.alloc _) ge10 (b10.alloc _) (Nat.ne_of_gt b9.lt) (Nat.ne_of_gt b10.lt) ne9_10)
  exact AllReadyH.nil
omit hup in
set_option maxRecDepth 100000 in
theorem node1_1x7 (g7 : Nat) (w : World) (hB : Below w0.heap.size w0 w) (ge7 : w0.heap.size ≤ g7) (b7 : Blk w g7 65 #[.int .i64 0, .int .i64 0, .bool false])  :
    wpAnyH Try.prog .any ops Q S 10 #[true, true, true, true, true, true, true, false, true, true, true, false, true, true, true, false, true, false, false, false, false, false, false, false] ({ tmps := #[x0, x1, .int .i64 n, .pointer (some ⟨g3, 0, none⟩), .pointer (some ⟨g4, 0, none⟩), undef, x6, .pointer (some ⟨g7, 0, none⟩), undef, undef, undef, undef, x12, x13, x14, x15, x16, x17, x18, x19, x20, x21, x22, x23, (.agg #[.int .i64 R, .int .i64 C, .int .i64 T, .int .i64 B, .bool o]), (.agg #[.int .i64 r, .int .i64 c, .bool q]), (.int .i64 n), .agg #[.int .i64 u, .int .i64 c, .bool false], (.agg #[.int .i64 R, .int .i64 C, .int .i64 T, .int .i64 B, .bool o]), (.agg #[.int .i64 r, .int .i64 c, .bool q]), (.int .i64 n), undef, (.agg #[.int .i64 R, .int .i64 C, .int .i64 T, .int .i64 B, .bool o]), (.agg #[.int .i64 r, .int .i64 c, .bool q]), (.int .i64 n), undef, (.agg #[.int .i64 R, .int .i64 C, .int .i64 T, .int .i64 B, .bool o]), (.agg #[.int .i64 r, .int .i64 c, .bool q]), (.int .i64 n), undef, undef, undef, undef, undef, undef, undef, undef, undef, undef, undef, undef, undef, undef, undef, undef, undef, undef, undef, undef, undef, undef, undef, undef, undef, undef, undef, undef, undef, undef, undef, undef, undef, undef, undef, undef, undef, undef, undef, undef, undef, undef, undef, undef, undef, undef, undef, undef, undef, undef, undef, undef, undef, undef, undef, undef, undef, undef], defers := [] }) w := by
  obtain ⟨o7, ho7, hg7, hp7, hd7⟩ := id I7
  obtain ⟨o17, ho17, hg17, hp17, hd17⟩ := id I17
  obtain ⟨o18, ho18, hg18, hp18, hd18⟩ := id I18
  obtain ⟨o19, ho19, hg19, hp19, hd19⟩ := id I19
  refine wpAnyH_ready (rs := [7, 17, 18, 19]) (rdy_ hR 58 _ _ rfl) (by simp) ?_
  refine AllReadyH.cons ho7 (fun K hK => ?_) ?_
  · refine RegN.call48 hg7 hp7 hd7 (hdown _) (fun x hx => ?_)
    simp only [Act.put, List.setIfInBounds_toArray, List.set_cons_zero, List.set_cons_succ]
    exact hK.out _ _ ((hSof _ (hB.trans (hx.mono hB.size)))) (fun _ => node2_2x7 hR I16 I17 I18 I19 I3 I7 I11 I15 I20 I21 I22 I23 hSof hleft hahead hQ g7 x (hB.trans (hx.mono hB.size)) ge7 (b7.stays hx) )
  refine AllReadyH.cons ho17 (fun K hK => ?_) ?_
  · refine RegN.alloc65 hg17 hp17 hd17 ?_
    simp only [Act.put, List.setIfInBounds_toArray, List.set_cons_zero, List.set_cons_succ]
    exact hK.out _ _ ((hSof _ (hB.alloc hB.size _))) (fun _ => node1_1x7x8 hR I16 I17 I18 I19 I3 I7 I11 I15 I20 I21 I22 I23 hSof hdown hleft hahead hQ g7 w.heap.size _ (hB.alloc hB.size _) ge7 (b7.alloc _) hB.size (Blk.new w 65 _) (Nat.ne_of_lt b7.lt))
  refine AllReadyH.cons ho18 (fun K hK => ?_) ?_
  · refine RegN.alloc65 hg18 hp18 hd18 ?_
    simp only [Act.put, List.setIfInBounds_toArray, List.set_cons_zero, List.set_cons_succ]
    exact hK.out _ _ ((hSof _ (hB.alloc hB.size _))) (fun _ => node1_1x7x9 hR I16 I17 I18 I19 I3 I7 I11 I15 I20 I21 I22 I23 hSof hdown hleft hahead hQ g7 w.heap.size _ (hB.alloc hB.size _) ge7 (b7.alloc _) hB.size (Blk.new w 65 _) (Nat.ne_of_lt b7.lt))
  refine AllReadyH.cons ho19 (fun K hK => ?_) ?_
  · refine RegN.alloc65 hg19 hp19 hd19 ?_
    simp only [Act.put, List.setIfInBounds_toArray, List.set_cons_zero, List.set_cons_succ]
    exact hK.out _ _ ((hSof _ (hB.alloc hB.size _))) (fun _ => node1_1x7x10 hR I16 I17 I18 I19 I3 I7 I11 I15 I20 I21 I22 I23 hSof hdown hleft hahead hQ g7 w.heap.size _ (hB.alloc hB.size _) ge7 (b7.alloc _) hB.size (Blk.new w 65 _) (Nat.ne_of_lt b7.lt))
  exact AllReadyH.nil
omit hup in
set_option maxRecDepth 100000 in
theorem node1_1x8 (g8 : Nat) (w : World) (hB : Below w0.heap.size w0 w) (ge8 : w0.heap.size ≤ g8) (b8 : Blk w g8 65 #[.int .i64 0, .int .i64 0, .bool false])  :
    wpAnyH Try.prog .any ops Q S 10 #[true, true, true, true, true, true, true, false, true, true, true, false, true, true, true, false, false, true, false, false, false, false, false, false] ({ tmps := #[x0, x1, .int .i64 n, .pointer (some ⟨g3, 0, none⟩), .pointer (some ⟨g4, 0, none⟩), undef, x6, undef, .pointer (some ⟨g8, 0, none⟩), undef, undef, undef, x12, x13, x14, x15, x16, x17, x18, x19, x20, x21, x22, x23, (.agg #[.int .i64 R, .int .i64 C, .int .i64 T, .int .i64 B, .bool o]), (.agg #[.int .i64 r, .int .i64 c, .bool q]), (.int .i64 n), .agg #[.int .i64 u, .int .i64 c, .bool false], (.agg #[.int .i64 R, .int .i64 C, .int .i64 T, .int .i64 B, .bool o]), (.agg #[.int .i64 r, .int .i64 c, .bool q]), (.int .i64 n), undef, (.agg #[.int .i64 R, .int .i64 C, .int .i64 T, .int .i64 B, .bool o]), (.agg #[.int .i64 r, .int .i64 c, .bool q]), (.int .i64 n), undef, (.agg #[.int .i64 R, .int .i64 C, .int .i64 T, .int .i64 B, .bool o]), (.agg #[.int .i64 r, .int .i64 c, .bool q]), (.int .i64 n), undef, undef, undef, undef, undef, undef, undef, undef, undef, undef, undef, undef, undef, undef, undef, undef, undef, undef, undef, undef, undef, undef, undef, undef, undef, undef, undef, undef, undef, undef, undef, undef, undef, undef, undef, undef, undef, undef, undef, undef, undef, undef, undef, undef, undef, undef, undef, undef, undef, undef, undef, undef, undef, undef, undef, undef, undef, undef], defers := [] }) w := by
  obtain ⟨o7, ho7, hg7, hp7, hd7⟩ := id I7
  obtain ⟨o16, ho16, hg16, hp16, hd16⟩ := id I16
  obtain ⟨o18, ho18, hg18, hp18, hd18⟩ := id I18
  obtain ⟨o19, ho19, hg19, hp19, hd19⟩ := id I19
  refine wpAnyH_ready (rs := [7, 16, 18, 19]) (rdy_ hR 59 _ _ rfl) (by simp) ?_
  refine AllReadyH.cons ho7 (fun K hK => ?_) ?_
  · refine RegN.call48 hg7 hp7 hd7 (hdown _) (fun x hx => ?_)
    simp only [Act.put, List.setIfInBounds_toArray, List.set_cons_zero, List.set_cons_succ]
    exact hK.out _ _ ((hSof _ (hB.trans (hx.mono hB.size)))) (fun _ => node2_2x8 hR I16 I17 I18 I19 I3 I7 I11 I15 I20 I21 I22 I23 hSof hleft hahead hQ g8 x (hB.trans (hx.mono hB.size)) ge8 (b8.stays hx) )
  refine AllReadyH.cons ho16 (fun K hK => ?_) ?_
  · refine RegN.alloc65 hg16 hp16 hd16 ?_
    simp only [Act.put, List.setIfInBounds_toArray, List.set_cons_zero, List.set_cons_succ]
    exact hK.out _ _ ((hSof _ (hB.alloc hB.size _))) (fun _ => node1_1x7x8 hR I16 I17 I18 I19 I3 I7 I11 I15 I20 I21 I22 I23 hSof hdown hleft hahead hQ w.heap.size g8 _ (hB.alloc hB.size _) hB.size (Blk.new w 65 _) ge8 (b8.alloc _) (Nat.ne_of_gt b8.lt))
  refine AllReadyH.cons ho18 (fun K hK => ?_) ?_
  · refine RegN.alloc65 hg18 hp18 hd18 ?_
    simp only [Act.put, List.setIfInBounds_toArray, List.set_cons_zero, List.set_cons_succ]
    exact hK.out _ _ ((hSof _ (hB.alloc hB.size _))) (fun _ => node1_1x8x9 hR I16 I17 I18 I19 I3 I7 I11 I15 I20 I21 I22 I23 hSof hdown hleft hahead hQ g8 w.heap.size _ (hB.alloc hB.size _) ge8 (b8.alloc _) hB.size (Blk.new w 65 _) (Nat.ne_of_lt b8.lt))
  refine AllReadyH.cons ho19 (fun K hK => ?_) ?_
  · refine RegN.alloc65 hg19 hp19 hd19 ?_
    simp only [Act.put, List.setIfInBounds_toArray, List.set_cons_zero, List.set_cons_succ]
    exact hK.out _ _ ((hSof _ (hB.alloc hB.size _))) (fun _ => node1_1x8x10 hR I16 I17 I18 I19 I3 I7 I11 I15 I20 I21 I22 I23 hSof hdown hleft hahead hQ g8 w.heap.size _ (hB.alloc hB.size _) ge8 (b8.alloc _) hB.size (Blk.new w 65 _) (Nat.ne_of_lt b8.lt))
  exact AllReadyH.nil
omit hup in
set_option maxRecDepth 100000 in
theorem node1_1x9 (g9 : Nat) (w : World) (hB : Below w0.heap.size w0 w) (ge9 : w0.heap.size ≤ g9) (b9 : Blk w g9 65 #[.int .i64 0, .int .i64 0, .bool false])  :
    wpAnyH Try.prog .any ops Q S 10 #[true, true, true, true, true, true, true, false, true, true, true, false, true, true, true, false, false, false, true, false, false, false, false, false] ({ tmps := #[x0, x1, .int .i64 n, .pointer (some ⟨g3, 0, none⟩), .pointer (some ⟨g4, 0, none⟩), undef, x6, undef, undef, .pointer (some ⟨g9, 0, none⟩), undef, undef, x12, x13, x14, x15, x16, x17, x18, x19, x20, x21, x22, x23, (.agg #[.int .i64 R, .int .i64 C, .int .i64 T, .int .i64 B, .bool o]), (.agg #[.int .i64 r, .int .i64 c, .bool q]), (.int .i64 n), .agg #[.int .i64 u, .int .i64 c, .bool false], (.agg #[.int .i64 R, .int .i64 C, .int .i64 T, .int .i64 B, .bool o]), (.agg #[.int .i64 r, .int .i64 c, .bool q]), (.int .i64 n), undef, (.agg #[.int .i64 R, .int .i64 C, .int .i64 T, .int .i64 B, .bool o]), (.agg #[.int .i64 r, .int .i64 c, .bool q]), (.int .i64 n), undef, (.agg #[.int .i64 R, .int .i64 C, .int .i64 T, .int .i64 B, .bool o]), (.agg #[.int .i64 r, .int .i64 c, .bool q]), (.int .i64 n), undef, undef, undef, undef, undef, undef, undef, undef, undef, undef, undef, undef, undef, undef, undef, undef, undef, undef, undef, undef, undef, undef, undef, undef, undef, undef, undef, undef, undef, undef, undef, undef, undef, undef, undef, undef, undef, undef, undef, undef, undef, undef, undef, undef, undef, undef, undef, undef, undef, undef, undef, undef, undef, undef, undef, undef, undef, undef], defers := [] }) w := by
  obtain ⟨o7, ho7, hg7, hp7, hd7⟩ := id I7
  obtain ⟨o16, ho16, hg16, hp16, hd16⟩ := id I16
  obtain ⟨o17, ho17, hg17, hp17, hd17⟩ := id I17
  obtain ⟨o19, ho19, hg19, hp19, hd19⟩ := id I19
  refine wpAnyH_ready (rs := [7, 16, 17, 19]) (rdy_ hR 60 _ _ rfl) (by simp) ?_
  refine AllReadyH.cons ho7 (fun K hK => ?_) ?_
  · refine RegN.call48 hg7 hp7 hd7 (hdown _) (fun x hx => ?_)
    simp only [Act.put, List.setIfInBounds_toArray, List.set_cons_zero, List.set_cons_succ]
    exact hK.out _ _ ((hSof _ (hB.trans (hx.mono hB.size)))) (fun _ => node2_2x9 hR I16 I17 I18 I19 I3 I7 I11 I15 I20 I21 I22 I23 hSof hleft hahead hQ g9 x (hB.trans (hx.mono hB.size)) ge9 (b9.stays hx) )
  refine AllReadyH.cons ho16 (fun K hK => ?_) ?_
  · refine RegN.alloc65 hg16 hp16 hd16 ?_
    simp only [Act.put, List.setIfInBounds_toArray, List.set_cons_zero, List.set_cons_succ]
    exact hK.out _ _ ((hSof _ (hB.alloc hB.size _))) (fun _ => node1_1x7x9 hR I16 I17 I18 I19 I3 I7 I11 I15 I20 I21 I22 I23 hSof hdown hleft hahead hQ w.heap.size g9 _ (hB.alloc hB.size _) hB.size (Blk.new w 65 _) ge9 (b9.alloc _) (Nat.ne_of_gt b9.lt))
  refine AllReadyH.cons ho17 (fun K hK => ?_) ?_
  · refine RegN.alloc65 hg17 hp17 hd17 ?_
    simp only [Act.put, List.setIfInBounds_toArray, List.set_cons_zero, List.set_cons_succ]
    exact hK.out _ _ ((hSof _ (hB.alloc hB.size _))) (fun _ => node1_1x8x9 hR I16 I17 I18 I19 I3 I7 I11 I15 I20 I21 I22 I23 hSof hdown hleft hahead hQ w.heap.size g9 _ (hB.alloc hB.size _) hB.size (Blk.new w 65 _) ge9 (b9.alloc _) (Nat.ne_of_gt b9.lt))
  refine AllReadyH.cons ho19 (fun K hK => ?_) ?_
  · refine RegN.alloc65 hg19 hp19 hd19 ?_
    simp only [Act.put, List.setIfInBounds_toArray, List.set_cons_zero, List.set_cons_succ]
    exact hK.out _ _ ((hSof _ (hB.alloc hB.size _))) (fun _ => node1_1x9x10 hR I16 I17 I18 I19 I3 I7 I11 I15 I20 I21 I22 I23 hSof hdown hleft hahead hQ g9 w.heap.size _ (hB.alloc hB.size _) ge9 (b9.alloc _) hB.size (Blk.new w 65 _) (Nat.ne_of_lt b9.lt))
  exact AllReadyH.nil
omit hup in
set_option maxRecDepth 100000 in
theorem node1_1x10 (g10 : Nat) (w : World) (hB : Below w0.heap.size w0 w) (ge10 : w0.heap.size ≤ g10) (b10 : Blk w g10 65 #[.int .i64 0, .int .i64 0, .bool false])  :
    wpAnyH Try.prog .any ops Q S 10 #[true, true, true, true, true, true, true, false, true, true, true, false, true, true, true, false, false, false, false, true, false, false, false, false] ({ tmps := #[x0, x1, .int .i64 n, .pointer (some ⟨g3, 0, none⟩), .pointer (some ⟨g4, 0, none⟩), undef, x6, undef, undef, undef, .pointer (some ⟨g10, 0, none⟩), undef, x12, x13, x14, x15, x16, x17, x18, x19, x20, x21, x22, x23, (.agg #[.int .i64 R, .int .i64 C, .int .i64 T, .int .i64 B, .bool o]), (.agg #[.int .i64 r, .int .i64 c, .bool q]), (.int .i64 n), .agg #[.int .i64 u, .int .i64 c, .bool false], (.agg #[.int .i64 R, .int .i64 C, .int .i64 T, .int .i64 B, .bool o]), (.agg #[.int .i64 r, .int .i64 c, .bool q]), (.int .i64 n), undef, (.agg #[.int .i64 R, .int .i64 C, .int .i64 T, .int .i64 B, .bool o]), (.agg #[.int .i64 r, .int .i64 c, .bool q]), (.int .i64 n), undef, (.agg #[.int .i64 R, .int .i64 C, .int .i64 T, .int .i64 B, .bool o]), (.agg #[.int .i64 r, .int .i64 c, .bool q]), (.int .i64 n), undef, undef, undef, undef, undef, undef, undef, undef, undef, undef, undef, undef, undef, undef, undef, undef, undef, undef, undef, undef, undef, undef, undef, undef, undef, undef, undef, undef, undef, undef, undef, undef, undef, undef, undef, undef, undef, undef, undef, undef, undef, undef, undef, undef, undef, undef, undef, undef, undef, undef, undef, undef, undef, undef, undef, undef, undef, undef], defers := [] }) w := by
  obtain ⟨o7, ho7, hg7, hp7, hd7⟩ := id I7
  obtain ⟨o16, ho16, hg16, hp16, hd16⟩ := id I16
  obtain ⟨o17, ho17, hg17, hp17, hd17⟩ := id I17
  obtain ⟨o18, ho18, hg18, hp18, hd18⟩ := id I18
  refine wpAnyH_ready (rs := [7, 16, 17, 18]) (rdy_ hR 61 _ _ rfl) (by simp) ?_
  refine AllReadyH.cons ho7 (fun K hK => ?_) ?_
  · refine RegN.call48 hg7 hp7 hd7 (hdown _) (fun x hx => ?_)
    simp only [Act.put, List.setIfInBounds_toArray, List.set_cons_zero, List.set_cons_succ]
    exact hK.out _ _ ((hSof _ (hB.trans (hx.mono hB.size)))) (fun _ => node2_2x10 hR I16 I17 I18 I19 I3 I7 I11 I15 I20 I21 I22 I23 hSof hleft hahead hQ g10 x (hB.trans (hx.mono hB.size)) ge10 (b10.stays hx) )
  refine AllReadyH.cons ho16 (fun K hK => ?_) ?_
  · refine RegN.alloc65 hg16 hp16 hd16 ?_
    simp only [Act.put, List.setIfInBounds_toArray, List.set_cons_zero, List.set_cons_succ]
    exact hK.out _ _ ((hSof _ (hB.alloc hB.size _))) (fun _ => node1_1x7x10 hR I16 I17 I18 I19 I3 I7 I11 I15 I20 I21 I22 I23 hSof hdown hleft hahead hQ w.heap.size g10 _ (hB.alloc hB.size _) hB.size (Blk.new w 65 _) ge10 (b10.alloc _) (Nat.ne_of_gt b10.lt))
  refine AllReadyH.cons ho17 (fun K hK => ?_) ?_
  · refine RegN.alloc65 hg17 hp17 hd17 ?_
    simp only [Act.put, List.setIfInBounds_toArray, List.set_cons_zero, List.set_cons_succ]
    exact hK.out _ _ ((hSof _ (hB.alloc hB.size _))) (fun _ => node1_1x8x10 hR I16 I17 I18 I19 I3 I7 I11 I15 I20 I21 I22 I23 hSof hdown hleft hahead hQ w.heap.size g10 _ (hB.alloc hB.size _) hB.size (Blk.new w 65 _) ge10 (b10.alloc _) (Nat.ne_of_gt b10.lt))
  refine AllReadyH.cons ho18 (fun K hK => ?_) ?_
  · refine RegN.alloc65 hg18 hp18 hd18 ?_
    simp only [Act.put, List.setIfInBounds_toArray, List.set_cons_zero, List.set_cons_succ]
    exact hK.out _ _ ((hSof _ (hB.alloc hB.size _))) (fun _ => node1_1x9x10 hR I16 I17 I18 I19 I3 I7 I11 I15 I20 I21 I22 I23 hSof hdown hleft hahead hQ w.heap.size g10 _ (hB.alloc hB.size _) hB.size (Blk.new w 65 _) ge10 (b10.alloc _) (Nat.ne_of_gt b10.lt))
  exact AllReadyH.nil
omit hup in
set_option maxRecDepth 100000 in
theorem node1_1  (w : World) (hB : Below w0.heap.size w0 w)   :
    wpAnyH Try.prog .any ops Q S 11 #[true, true, true, true, true, true, true, false, true, true, true, false, true, true, true, false, false, false, false, false, false, false, false, false] ({ tmps := #[x0, x1, .int .i64 n, .pointer (some ⟨g3, 0, none⟩), .pointer (some ⟨g4, 0, none⟩), undef, x6, undef, undef, undef, undef, undef, x12, x13, x14, x15, x16, x17, x18, x19, x20, x21, x22, x23, (.agg #[.int .i64 R, .int .i64 C, .int .i64 T, .int .i64 B, .bool o]), (.agg #[.int .i64 r, .int .i64 c, .bool q]), (.int .i64 n), .agg #[.int .i64 u, .int .i64 c, .bool false], (.agg #[.int .i64 R, .int .i64 C, .int .i64 T, .int .i64 B, .bool o]), (.agg #[.int .i64 r, .int .i64 c, .bool q]), (.int .i64 n), undef, (.agg #[.int .i64 R, .int .i64 C, .int .i64 T, .int .i64 B, .bool o]), (.agg #[.int .i64 r, .int .i64 c, .bool q]), (.int .i64 n), undef, (.agg #[.int .i64 R, .int .i64 C, .int .i64 T, .int .i64 B, .bool o]), (.agg #[.int .i64 r, .int .i64 c, .bool q]), (.int .i64 n), undef, undef, undef, undef, undef, undef, undef, undef, undef, undef, undef, undef, undef, undef, undef, undef, undef, undef, undef, undef, undef, undef, undef, undef, undef, undef, undef, undef, undef, undef, undef, undef, undef, undef, undef, undef, undef, undef, undef, undef, undef, undef, undef, undef, undef, undef, undef, undef, undef, undef, undef, undef, undef, undef, undef, undef, undef, undef], defers := [] }) w := by
  obtain ⟨o7, ho7, hg7, hp7, hd7⟩ := id I7
  obtain ⟨o16, ho16, hg16, hp16, hd16⟩ := id I16
  obtain ⟨o17, ho17, hg17, hp17, hd17⟩ := id I17
  obtain ⟨o18, ho18, hg18, hp18, hd18⟩ := id I18
  obtain ⟨o19, ho19, hg19, hp19, hd19⟩ := id I19
  refine wpAnyH_ready (rs := [7, 16, 17, 18, 19]) (rdy_ hR 62 _ _ rfl) (by simp) ?_
  refine AllReadyH.cons ho7 (fun K hK => ?_) ?_
  · refine RegN.call48 hg7 hp7 hd7 (hdown _) (fun x hx => ?_)
    simp only [Act.put, List.setIfInBounds_toArray, List.set_cons_zero, List.set_cons_succ]
    exact hK.out _ _ ((hSof _ (hB.trans (hx.mono hB.size)))) (fun _ => node2_2 hR I16 I17 I18 I19 I3 I7 I11 I15 I20 I21 I22 I23 hSof hleft hahead hQ  x (hB.trans (hx.mono hB.size))  )
  refine AllReadyH.cons ho16 (fun K hK => ?_) ?_
  · refine RegN.alloc65 hg16 hp16 hd16 ?_
    simp only [Act.put, List.setIfInBounds_toArray, List.set_cons_zero, List.set_cons_succ]
    exact hK.out _ _ ((hSof _ (hB.alloc hB.size _))) (fun _ => node1_1x7 hR I16 I17 I18 I19 I3 I7 I11 I15 I20 I21 I22 I23 hSof hdown hleft hahead hQ w.heap.size _ (hB.alloc hB.size _) hB.size (Blk.new w 65 _) )
  refine AllReadyH.cons ho17 (fun K hK => ?_) ?_
  · refine RegN.alloc65 hg17 hp17 hd17 ?_
    simp only [Act.put, List.setIfInBounds_toArray, List.set_cons_zero, List.set_cons_succ]
    exact hK.out _ _ ((hSof _ (hB.alloc hB.size _))) (fun _ => node1_1x8 hR I16 I17 I18 I19 I3 I7 I11 I15 I20 I21 I22 I23 hSof hdown hleft hahead hQ w.heap.size _ (hB.alloc hB.size _) hB.size (Blk.new w 65 _) )
  refine AllReadyH.cons ho18 (fun K hK => ?_) ?_
  · refine RegN.alloc65 hg18 hp18 hd18 ?_
    simp only [Act.put, List.setIfInBounds_toArray, List.set_cons_zero, List.set_cons_succ]
    exact hK.out _ _ ((hSof _ (hB.alloc hB.size _))) (fun _ => node1_1x9 hR I16 I17 I18 I19 I3 I7 I11 I15 I20 I21 I22 I23 hSof hdown hleft hahead hQ w.heap.size _ (hB.alloc hB.size _) hB.size (Blk.new w 65 _) )
  refine AllReadyH.cons ho19 (fun K hK => ?_) ?_
  · refine RegN.alloc65 hg19 hp19 hd19 ?_
    simp only [Act.put, List.setIfInBounds_toArray, List.set_cons_zero, List.set_cons_succ]
    exact hK.out _ _ ((hSof _ (hB.alloc hB.size _))) (fun _ => node1_1x10 hR I16 I17 I18 I19 I3 I7 I11 I15 I20 I21 I22 I23 hSof hdown hleft hahead hQ w.heap.size _ (hB.alloc hB.size _) hB.size (Blk.new w 65 _) )
  exact AllReadyH.nil
set_option maxRecDepth 100000 in
theorem node0_0x7x8x9x10 (g7 : Nat) (g8 : Nat) (g9 : Nat) (g10 : Nat) (w : World) (hB : Below w0.heap.size w0 w) (ge7 : w0.heap.size ≤ g7) (b7 : Blk w g7 65 #[.int .i64 0, .int .i64 0, .bool false]) (ge8 : w0.heap.size ≤ g8) (b8 : Blk w g8 65 #[.int .i64 0, .int .i64 0, .bool false]) (ge9 : w0.heap.size ≤ g9) (b9 : Blk w g9 65 #[.int .i64 0, .int .i64 0, .bool false]) (ge10 : w0.heap.size ≤ g10) (b10 : Blk w g10 65 #[.int .i64 0, .int .i64 0, .bool false]) (ne7_8 : g7 ≠ g8) (ne7_9 : g7 ≠ g9) (ne7_10 : g7 ≠ g10) (ne8_9 : g8 ≠ g9) (ne8_10 : g8 ≠ g10) (ne9_10 : g9 ≠ g10) :
    wpAnyH Try.prog .any ops Q S 8 #[true, true, true, false, true, true, true, false, true, true, true, false, true, true, true, false, true, true, true, true, false, false, false, false] ({ tmps := #[x0, x1, .int .i64 n, .pointer (some ⟨g3, 0, none⟩), .pointer (some ⟨g4, 0, none⟩), undef, x6, .pointer (some ⟨g7, 0, none⟩), .pointer (some ⟨g8, 0, none⟩), .pointer (some ⟨g9, 0, none⟩), .pointer (some ⟨g10, 0, none⟩), undef, x12, x13, x14, x15, x16, x17, x18, x19, x20, x21, x22, x23, (.agg #[.int .i64 R, .int .i64 C, .int .i64 T, .int .i64 B, .bool o]), (.agg #[.int .i64 r, .int .i64 c, .bool q]), (.int .i64 n), undef, (.agg #[.int .i64 R, .int .i64 C, .int .i64 T, .int .i64 B, .bool o]), (.agg #[.int .i64 r, .int .i64 c, .bool q]), (.int .i64 n), undef, (.agg #[.int .i64 R, .int .i64 C, .int .i64 T, .int .i64 B, .bool o]), (.agg #[.int .i64 r, .int .i64 c, .bool q]), (.int .i64 n), undef, (.agg #[.int .i64 R, .int .i64 C, .int .i64 T, .int .i64 B, .bool o]), (.agg #[.int .i64 r, .int .i64 c, .bool q]), (.int .i64 n), undef, undef, undef, undef, undef, undef, undef, undef, undef, undef, undef, undef, undef, undef, undef, undef, undef, undef, undef, undef, undef, undef, undef, undef, undef, undef, undef, undef, undef, undef, undef, undef, undef, undef, undef, undef, undef, undef, undef, undef, undef, undef, undef, undef, undef, undef, undef, undef, undef, undef, undef, undef, undef, undef, undef, undef, undef, undef], defers := [] }) w := by
  obtain ⟨o3, ho3, hg3, hp3, hd3⟩ := id I3
  refine wpAnyH_ready (rs := [3]) (rdy_ hR 63 _ _ rfl) (by simp) ?_
  refine AllReadyH.cons ho3 (fun K hK => ?_) ?_
  · refine RegN.call47 hg3 hp3 hd3 (hup _) (fun x hx => ?_)
    simp only [Act.put, List.setIfInBounds_toArray, List.set_cons_zero, List.set_cons_succ]
    exact hK.out _ _ ((hSof _ (hB.trans (hx.mono hB.size)))) (fun _ => node1_1x7x8x9x10 hR I16 I17 I18 I19 I3 I7 I11 I15 I20 I21 I22 I23 hSof hdown hleft hahead hQ g7 g8 g9 g10 x (hB.trans (hx.mono hB.size)) ge7 (b7.stays hx) ge8 (b8.stays hx) ge9 (b9.stays hx) ge10 (b10.stays hx) ne7_8 ne7_9 ne7_10 ne8_9 ne8_10 ne9_10)
  exact AllReadyH.nil
set_option maxRecDepth 100000 in
theorem node0_0x7x8x9 (g7 : Nat) (g8 : Nat) (g9 : Nat) (w : World) (hB : Below w0.heap.size w0 w) (ge7 : w0.heap.size ≤ g7) (b7 : Blk w g7 65 #[.int .i64 0, .int .i64 0, .bool false]) (ge8 : w0.heap.size ≤ g8) (b8 : Blk w g8 65 #[.int .i64 0, .int .i64 0, .bool false]) (ge9 : w0.heap.size ≤ g9) (b9 : Blk w g9 65 #[.int .i64 0, .int .i64 0, .bool false]) (ne7_8 : g7 ≠ g8) (ne7_9 : g7 ≠ g9) (ne8_9 : g8 ≠ g9) :
    wpAnyH Try.prog .any ops Q S 9 #[true, true, true, false, true, true, true, false, true, true, true, false, true, true, true, false, true, true, true, false, false, false, false, false] ({ tmps := #[x0, x1, .int .i64 n, .pointer (some ⟨g3, 0, none⟩), .pointer (some ⟨g4, 0, none⟩), undef, x6, .pointer (some ⟨g7, 0, none⟩), .pointer (some ⟨g8, 0, none⟩), .pointer (some ⟨g9, 0, none⟩), undef, undef, x12, x13, x14, x15, x16, x17, x18, x19, x20, x21, x22, x23, (.agg #[.int .i64 R, .int .i64 C, .int .i64 T, .int .i64 B, .bool o]), (.agg #[.int .i64 r, .int .i64 c, .bool q]), (.int .i64 n), undef, (.agg #[.int .i64 R, .int .i64 C, .int .i64 T, .int .i64 B, .bool o]), (.agg #[.int .i64 r, .int .i64 c, .bool q]), (.int .i64 n), undef, (.agg #[.int .i64 R, .int .i64 C, .int .i64 T, .int .i64 B, .bool o]), (.agg #[.int .i64 r, .int .i64 c, .bool q]), (.int .i64 n), undef, (.agg #[.int .i64 R, .int .i64 C, .int .i64 T, .int .i64 B, .bool o]), (.agg #[.int .i64 r, .int .i64 c, .bool q]), (.int .i64 n), undef, undef, undef, undef, undef, undef, undef, undef, undef, undef, undef, undef, undef, undef, undef, undef, undef, undef, undef, undef, undef, undef, undef, undef, undef, undef, undef, undef, undef, undef, undef, undef, undef, undef, undef, undef, undef, undef, undef, undef, undef, undef, undef, undef, undef, undef, undef, undef, undef, undef, undef, undef, undef, undef, undef, undef, undef, undef], defers := [] }) w := by
  obtain ⟨o3, ho3, hg3, hp3, hd3⟩ := id I3
  obtain ⟨o19, ho19, hg19, hp19, hd19⟩ := id I19
  refine wpAnyH_ready (rs := [3, 19]) (rdy_ hR 64 _ _ rfl) (by simp) ?_
  refine AllReadyH.cons ho3 (fun K hK => ?_) ?_
  · refine RegN.call47 hg3 hp3 hd3 (hup _) (fun x hx => ?_)
    simp only [Act.put, List.setIfInBounds_toArray, List.set_cons_zero, List.set_cons_succ]
    exact hK.out _ _ ((hSof _ (hB.trans (hx.mono hB.size)))) (fun _ => node1_1x7x8x9 hR I16 I17 I18 I19 I3 I7 I11 I15 I20 I21 I22 I23 hSof hdown hleft hahead hQ g7 g8 g9 x (hB.trans (hx.mono hB.size)) ge7 (b7.stays hx) ge8 (b8.stays hx) ge9 (b9.stays hx) ne7_8 ne7_9 ne8_9)
  refine AllReadyH.cons ho19 (fun K hK => ?_) ?_
  · refine RegN.alloc65 hg19 hp19 hd19 ?_
    simp only [Act.put, List.setIfInBounds_toArray, List.set_cons_zero, List.set_cons_succ]
    exact hK.out _ _ ((hSof _ (hB.alloc hB.size _))) (fun _ => node0_0x7x8x9x10 hR I16 I17 I18 I19 I3 I7 I11 I15 I20 I21 I22 I23 hSof hup hdown hleft hahead hQ g7 g8 g9 w.heap.size _ (hB.alloc hB.size _) ge7 (b7.alloc _) ge8 (b8.alloc _) ge9 (b9.alloc _) hB.size (Blk.new w 65 _) ne7_8 ne7_9 (Nat.ne_of_lt b7.lt) ne8_9 (Nat.ne_of_lt b8.lt) (Nat.ne_of_lt b9.lt))
  exact AllReadyH.nil
set_option maxRecDepth 100000 in
theorem node0_0x7x8x10 (g7 : Nat) (g8 : Nat) (g10 : Nat) (w : World) (hB : Below w0.heap.size w0 w) (ge7 : w0.heap.size ≤ g7) (b7 : Blk w g7 65 #[.int .i64 0, .int .i64 0, .bool false]) (ge8 : w0.heap.size ≤ g8) (b8 : Blk w g8 65 #[.int .i64 0, .int .i64 0, .bool false]) (ge10 : w0.heap.size ≤ g10) (b10 : Blk w g10 65 #[.int .i64 0, .int .i64 0, .bool false]) (ne7_8 : g7 ≠ g8) (ne7_10 : g7 ≠ g10) (ne8_10 : g8 ≠ g10) :
    wpAnyH Try.prog .any ops Q S 9 #[true, true, true, false, true, true, true, false, true, true, true, false, true, true, true, false, true, true, false, true, false, false, false, false] ({ tmps := #[x0, x1, .int .i64 n, .pointer (some ⟨g3, 0, none⟩), .pointer (some ⟨g4, 0, none⟩), undef, x6, .pointer (some ⟨g7, 0, none⟩), .pointer (some ⟨g8, 0, none⟩), undef, .pointer (some ⟨g10, 0, none⟩), undef, x12, x13, x14, x15, x16, x17, x18, x19, x20, x21, x22, x23, (.agg #[.int .i64 R, .int .i64 C, .int .i64 T, .int .i64 B, .bool o]), (.agg #[.int .i64 r, .int .i64 c, .bool q]), (.int .i64 n), undef, (.agg #[.int .i64 R, .int .i64 C, .int .i64 T, .int .i64 B, .bool o]), (.agg #[.int .i64 r, .int .i64 c, .bool q]), (.int .i64 n), undef, (.agg #[.int .i64 R, .int .i64 C, .int .i64 T, .int .i64 B, .bool o]), (.agg #[.int .i64 r, .int .i64 c, .bool q]), (.int .i64 n), undef, (.agg #[.int .i64 R, .int .i64 C, .int .i64 T, .int .i64 B, .bool o]), (.agg #[.int .i64 r, .int .i64 c, .bool q]), (.int .i64 n), undef, undef, undef, undef, undef, undef, undef, undef, undef, undef, undef, undef, undef, undef, undef, undef, undef, undef, undef, undef, undef, undef, undef, undef, undef, undef, undef, undef, undef, undef, undef, undef, undef, undef, undef, undef, undef, undef, undef, undef, undef, undef, undef, undef, undef, undef, undef, undef, undef, undef, undef, undef, undef, undef, undef, undef, undef, undef], defers := [] }) w := by
  obtain ⟨o3, ho3, hg3, hp3, hd3⟩ := id I3
  obtain ⟨o18, ho18, hg18, hp18, hd18⟩ := id I18
  refine wpAnyH_ready (rs := [3, 18]) (rdy_ hR 65 _ _ rfl) (by simp) ?_
  refine AllReadyH.cons ho3 (fun K hK => ?_) ?_
  · refine RegN.call47 hg3 hp3 hd3 (hup _) (fun x hx => ?_)
    simp only [Act.put, List.setIfInBounds_toArray, List.set_cons_zero, List.set_cons_succ]
    exact hK.out _ _ ((hSof _ (hB.trans (hx.mono hB.size)))) (fun _ => node1_1x7x8x10 hR I16 I17 I18 I19 I3 I7 I11 I15 I20 I21 I22 I23 hSof hdown hleft hahead hQ g7 g8 g10 x (hB.trans (hx.mono hB.size)) ge7 (b7.stays hx) ge8 (b8.stays hx) ge10 (b10.stays hx) ne7_8 ne7_10 ne8_10)
  refine AllReadyH.cons ho18 (fun K hK => ?_) ?_
  · refine RegN.alloc65 hg18 hp18 hd18 ?_
    simp only [Act.put, List.setIfInBounds_toArray, List.set_cons_zero, List.set_cons_succ]
    exact hK.out _ _ ((hSof _ (hB.alloc hB.size _))) (fun _ => node0_0x7x8x9x10 hR I16 I17 I18 I19 I3 I7 I11 I15 I20 I21 I22 I23 hSof hup hdown hleft hahead hQ g7 g8 w.heap.size g10 _ (hB.alloc hB.size _) ge7 (b7.alloc _) ge8 (b8.alloc _) hB.size (Blk.new w 65 _) ge10 (b10.alloc _) ne7_8 (Nat.ne_of_lt b7.lt) ne7_10 (Nat.ne_of_lt b8.lt) ne8_10 (Nat.ne_of_gt b10.lt))
  exact AllReadyH.nil
set_option maxRecDepth 100000 in
theorem node0_0x7x9x10 (g7 : Nat) (g9 : Nat) (g10 : Nat) (w : World) (hB : Below w0.heap.size w0 w) (ge7 : w0.heap.size ≤ g7) (b7 : Blk w g7 65 #[.int .i64 0, .int .i64 0, .bool false]) (ge9 : w0.heap.size ≤ g9) (b9 : Blk w g9 65 #[.int .i64 0, .int .i64 0, .bool false]) (ge10 : w0.heap.size ≤ g10) (b10 : Blk w g10 65 #[.int .i64 0, .int .i64 0, .bool false]) (ne7_9 : g7 ≠ g9) (ne7_10 : g7 ≠ g10) (ne9_10 : g9 ≠ g10) :
    wpAnyH Try.prog .any ops Q S 9 #[true, true, true, false, true, true, true, false, true, true, true, false, true, true, true, false, true, false, true, true, false, false, false, false] ({ tmps := #[x0, x1, .int .i64 n, .pointer (some ⟨g3, 0, none⟩), .pointer (some ⟨g4, 0, none⟩), undef, x6, .pointer (some ⟨g7, 0, none⟩), undef, .pointer (some ⟨g9, 0, none⟩), .pointer (some ⟨g10, 0, none⟩), undef, x12, x13, x14, x15, x16, x17, x18, x19, x20, x21, x22, x23, (.agg #[.int .i64 R, .int .i64 C, .int .i64 T, .int .i64 B, .bool o]), (.agg #[.int .i64 r, .int .i64 c, .bool q]), (.int .i64 n), undef, (.agg #[.int .i64 R, .int .i64 C, .int .i64 T, .int .i64 B, .bool o]), (.agg #[.int .i64 r, .int .i64 c, .bool q]), (.int .i64 n), undef, (.agg #[.int .i64 R, .int .i64 C, .int .i64 T, .int .i64 B, .bool o]), (.agg #[.int .i64 r, .int .i64 c, .bool q]), (.int .i64 n), undef, (.agg #[.int .i64 R, .int .i64 C, .int .i64 T, .int .i64 B, .bool o]), (.agg #[.int .i64 r, .int .i64 c, .bool q]), (.int .i64 n), undef, undef, undef, undef, undef, undef, undef, undef, undef, undef, undef, undef, undef, undef, undef, undef, undef, undef, undef, undef, undef, undef, undef, undef, undef, undef, undef, undef, undef, undef, undef, undef, undef, undef, undef, undef, undef, undef, undef, undef, undef, undef, undef, undef, undef, undef, undef, undef, undef, undef, undef, undef, undef, undef, undef, undef, undef, undef], defers := [] }) w := by
  obtain ⟨o3, ho3, hg3, hp3, hd3⟩ := id I3
  obtain ⟨o17, ho17, hg17, hp17, hd17⟩ := id I17
  refine wpAnyH_ready (rs := [3, 17]) (rdy_ hR 66 _ _ rfl) (by simp) ?_
  refine AllReadyH.cons ho3 (fun K hK => ?_) ?_
  · refine RegN.call47 hg3 hp3 hd3 (hup _) (fun x hx => ?_)
    simp only [Act.put, List.setIfInBounds_toArray, List.set_cons_zero, List.set_cons_succ]
    exact hK.out _ _ ((hSof _ (hB.trans (hx.mono hB.size)))) (fun _ => node1_1x7x9x10 hR I16 I17 I18 I19 I3 I7 I11 I15 I20 I21 I22 I23 hSof hdown hleft hahead hQ g7 g9 g10 x (hB.trans (hx.mono hB.size)) ge7 (b7.stays hx) ge9 (b9.stays hx) ge10 (b10.stays hx) ne7_9 ne7_10 ne9_10)
  refine AllReadyH.cons ho17 (fun K hK => ?_) ?_
  · refine RegN.alloc65 hg17 hp17 hd17 ?_
    simp only [Act.put, List.setIfInBounds_toArray, List.set_cons_zero, List.set_cons_succ]
    exact hK.out _ _ ((hSof _ (hB.alloc hB.size _))) (fun _ => node0_0x7x8x9x10 hR I16 I17 I18 I19 I3 I7 I11 I15 I20 I21 I22 I23 hSof hup hdown hleft hahead hQ g7 w.heap.size g9 g10 _ (hB.alloc hB.size _) ge7 (b7.alloc _) hB.size (Blk.new w 65 _) ge9 (b9.alloc _) ge10 (b10.alloc _) (Nat.ne_of_lt b7.lt) ne7_9 ne7_10 (Nat.ne_of_gt b9.lt) (Nat.ne_of_gt b10.lt) ne9_10)
  exact AllReadyH.nil
set_option maxRecDepth 100000 in
theorem node0_0x8x9x10 (g8 : Nat) (g9 : Nat) (g10 : Nat) (w : World) (hB : Below w0.heap.size w0 w) (ge8 : w0.heap.size ≤ g8) (b8 : Blk w g8 65 #[.int .i64 0, .int .i64 0, .bool false]) (ge9 : w0.heap.size ≤ g9) (b9 : Blk w g9 65 #[.int .i64 0, .int .i64 0, .bool false]) (ge10 : w0.heap.size ≤ g10) (b10 : Blk w g10 65 #[.int .i64 0, .int .i64 0, .bool false]) (ne8_9 : g8 ≠ g9) (ne8_10 : g8 ≠ g10) (ne9_10 : g9 ≠ g10) :
    wpAnyH Try.prog .any ops Q S 9 #[true, true, true, false, true, true, true, false, true, true, true, false, true, true, true, false, false, true, true, true, false, false, false, false] ({ tmps := #[x0, x1, .int .i64 n, .pointer (some ⟨g3, 0, none⟩), .pointer (some ⟨g4, 0, none⟩), undef, x6, undef, .pointer (some ⟨g8, 0, none⟩), .pointer (some ⟨g9, 0, none⟩), .pointer (some ⟨g10, 0, none⟩), undef, x12, x13, x14, x15, x16, x17, x18, x19, x20, x21, x22, x23, (.agg #[.int .i64 R, .int .i64 C, .int .i64 T, .int .i64 B, .bool o]), (.agg #[.int .i64 r, .int .i64 c, .bool q]), (.int .i64 n), undef, (.agg #[.int .i64 R, .int .i64 C, .int .i64 T, .int .i64 B, .bool o]), (.agg #[.int .i64 r, .int .i64 c, .bool q]), (.int .i64 n), undef, (.agg #[.int .i64 R, .int .i64 C, .int .i64 T, .int .i64 B, .bool o]), (.agg #[.int .i64 r, .int .i64 c, .bool q]), (.int .i64 n), undef, (.agg #[.int .i64 R, .int .i64 C, .int .i64 T, .int .i64 B, .bool o]), (.agg #[.int .i64 r, .int .i64 c, .bool q]), (.int .i64 n), undef, undef, undef, undef, undef, undef, undef, undef, undef, undef, undef, undef, undef, undef, undef, undef, undef, undef, undef, undef, undef, undef, undef, undef, undef, undef, undef, undef, undef, undef, undef, undef, undef, undef, undef, undef, undef, undef, undef, undef, undef, undef, undef, undef, undef, undef, undef, undef, undef, undef, undef, undef, undef, undef, undef, undef, undef, undef], defers := [] }) w := by
  obtain ⟨o3, ho3, hg3, hp3, hd3⟩ := id I3
  obtain ⟨o16, ho16, hg16, hp16, hd16⟩ := id I16
  refine wpAnyH_ready (rs := [3, 16]) (rdy_ hR 67 _ _ rfl) (by simp) ?_
  refine AllReadyH.cons ho3 (fun K hK => ?_) ?_
  · refine RegN.call47 hg3 hp3 hd3 (hup _) (fun x hx => ?_)
    simp only [Act.put, List.setIfInBounds_toArray, List.set_cons_zero, List.set_cons_succ]
    exact hK.out _ _ ((hSof _ (hB.trans (hx.mono hB.size)))) (fun _ => node1_1x8x9x10 hR I16 I17 I18 I19 I3 I7 I11 I15 I20 I21 I22 I23 hSof hdown hleft hahead hQ g8 g9 g10 x (hB.trans (hx.mono hB.size)) ge8 (b8.stays hx) ge9 (b9.stays hx) ge10 (b10.stays hx) ne8_9 ne8_10 ne9_10)
  refine AllReadyH.cons ho16 (fun K hK => ?_) ?_
  · refine RegN.alloc65 hg16 hp16 hd16 ?_
    simp only [Act.put, List.setIfInBounds_toArray, List.set_cons_zero, List.set_cons_succ]
    exact hK.out _ _ ((hSof _ (hB.alloc hB.size _))) (fun _ => node0_0x7x8x9x10 hR I16 I17 I18 I19 I3 I7 I11 I15 I20 I21 I22 I23 hSof hup hdown hleft hahead hQ w.heap.size g8 g9 g10 _ (hB.alloc hB.size _) hB.size (Blk.new w 65 _) ge8 (b8.alloc _) ge9 (b9.alloc _) ge10 (b10.alloc _) (Nat.ne_of_gt b8.lt) (Nat.ne_of_gt b9.lt) (Nat.ne_of_gt b10.lt) ne8_9 ne8_10 ne9_10)
  exact AllReadyH.nil
set_option maxRecDepth 100000 in
theorem node0_0x7x8 (g7 : Nat) (g8 : Nat) (w : World) (hB : Below w0.heap.size w0 w) (ge7 : w0.heap.size ≤ g7) (b7 : Blk w g7 65 #[.int .i64 0, .int .i64 0, .bool false]) (ge8 : w0.heap.size ≤ g8) (b8 : Blk w g8 65 #[.int .i64 0, .int .i64 0, .bool false]) (ne7_8 : g7 ≠ g8) :
    wpAnyH Try.prog .any ops Q S 10 #[true, true, true, false, true, true, true, false, true, true, true, false, true, true, true, false, true, true, false, false, false, false, false, false] ({ tmps := #[x0, x1, .int .i64 n, .pointer (some ⟨g3, 0, none⟩), .pointer (some ⟨g4, 0, none⟩), undef, x6, .pointer (some ⟨g7, 0, none⟩), .pointer (some ⟨g8, 0, none⟩), undef, undef, undef, x12, x13, x14, x15, x16, x17, x18, x19, x20, x21, x22, x23, (.agg #[.int .i64 R, .int .i64 C, .int .i64 T, .int .i64 B, .bool o]), (.agg #[.int .i64 r, .int .i64 c, .bool q]), (.int .i64 n), undef, (.agg #[.int .i64 R, .int .i64 C, .int .i64 T, .int .i64 B, .bool o]), (.agg #[.int .i64 r, .int .i64 c, .bool q]), (.int .i64 n), undef, (.agg #[.int .i64 R, .int .i64 C, .int .i64 T, .int .i64 B, .bool o]), (.agg #[.int .i64 r, .int .i64 c, .bool q]), (.int .i64 n), undef, (.agg #[.int .i64 R, .int .i64 C, .int .i64 T, .int .i64 B, .bool o]), (.agg #[.int .i64 r, .int .i64 c, .bool q]), (.int .i64 n), undef, undef, undef, undef, undef, undef, undef, undef, undef, undef, undef, undef, undef, undef, undef, undef, undef, undef, undef, undef, undef, undef, undef, undef, undef, undef, undef, undef, undef, undef, undef, undef, undef, undef, undef, undef, undef, undef, undef, undef, undef, undef, undef, undef, undef, undef, undef, undef, undef, undef, undef, undef, undef, undef, undef, undef, undef, undef], defers := [] }) w := by
  obtain ⟨o3, ho3, hg3, hp3, hd3⟩ := id I3
  obtain ⟨o18, ho18, hg18, hp18, hd18⟩ := id I18
  obtain ⟨o19, ho19, hg19, hp19, hd19⟩ := id I19
  refine wpAnyH_ready (rs := [3, 18, 19]) (rdy_ hR 68 _ _ rfl) (by simp) ?_
  refine AllReadyH.cons ho3 (fun K hK => ?_) ?_
  · refine RegN.call47 hg3 hp3 hd3 (hup _) (fun x hx => ?_)
    simp only [Act.put, List.setIfInBounds_toArray, List.set_cons_zero, List.set_cons_succ]
    exact hK.out _ _ ((hSof _ (hB.trans (hx.mono hB.size)))) (fun _ => node1_1x7x8 hR I16 I17 I18 I19 I3 I7 I11 I15 I20 I21 I22 I23 hSof hdown hleft hahead hQ g7 g8 x (hB.trans (hx.mono hB.size)) ge7 (b7.stays hx) ge8 (b8.stays hx) ne7_8)
  refine AllReadyH.cons ho18 (fun K hK => ?_) ?_
  · refine RegN.alloc65 hg18 hp18 hd18 ?_
    simp only [Act.put, List.setIfInBounds_toArray, List.set_cons_zero, List.set_cons_succ]
    exact hK.out _ _ ((hSof _ (hB.alloc hB.size _))) (fun _ => node0_0x7x8x9 hR I16 I17 I18 I19 I3 I7 I11 I15 I20 I21 I22 I23 hSof hup hdown hleft hahead hQ g7 g8 w.heap.size _ (hB.alloc hB.size _) ge7 (b7.alloc _) ge8 (b8.alloc _) hB.size (Blk.new w 65 _) ne7_8 (Nat.ne_of_lt b7.lt) (Nat.ne_of_lt b8.lt))
  refine AllReadyH.cons ho19 (fun K hK => ?_) ?_
  · refine RegN.alloc65 hg19 hp19 hd19 ?_
    simp only [Act.put, List.setIfInBounds_toArray, List.set_cons_zero, List.set_cons_succ]
    exact hK.out _ _ ((hSof _ (hB.alloc hB.size _))) (fun _ => node0_0x7x8x10 hR I16 I17 I18 I19 I3 I7 I11 I15 I20 I21 I22 I23 hSof hup hdown hleft hahead hQ g7 g8 w.heap.size _ (hB.alloc hB.size _) ge7 (b7.alloc _) ge8 (b8.alloc _) hB.size (Blk.new w 65 _) ne7_8 (Nat.ne_of_lt b7.lt) (Nat.ne_of_lt b8.lt))
  exact AllReadyH.nil
set_option maxRecDepth 100000 in
theorem node0_0x7x9 (g7 : Nat) (g9 : Nat) (w : World) (hB : Below w0.heap.size w0 w) (ge7 : w0.heap.size ≤ g7) (b7 : Blk w g7 65 #[.int .i64 0, .int .i64 0, .bool false]) (ge9 : w0.heap.size ≤ g9) (b9 : Blk w g9 65 #[.int .i64 0, .int .i64 0, .bool false]) (ne7_9 : g7 ≠ g9) :
    wpAnyH Try.prog .any ops Q S 10 #[true, true, true, false, true, true, true, false, true, true, true, false, true, true, true, false, true, false, true, false, false, false, false, false] ({ tmps := #[x0, x1, .int .i64 n, .pointer (some ⟨g3, 0, none⟩), .pointer (some ⟨g4, 0, none⟩), undef, x6, .pointer (some ⟨g7, 0, none⟩), undef, .pointer (some ⟨g9, 0, none⟩), undef, undef, x12, x13, x14, x15, x16, x17, x18, x19, x20, x21, x22, x23, (.agg #[.int .i64 R, .int .i64 C, .int .i64 T, .int .i64 B, .bool o]), (.agg #[.int .i64 r, .int .i64 c, .bool q]), (.int .i64 n), undef, (.agg #[.int .i64 R, .int .i64 C, .int .i64 T, .int .i64 B, .bool o]), (.agg #[.int .i64 r, .int .i64 c, .bool q]), (.int .i64 n), undef, (.agg #[.int .i64 R, .int .i64 C, .int .i64 T, .int .i64 B, .bool o]), (.agg #[.int .i64 r, .int .i64 c, .bool q]), (.int .i64 n), undef, (.agg #[.int .i64 R, .int .i64 C, .int .i64 T, .int .i64 B, .bool o]), (.agg #[.int .i64 r, .int .i64 c, .bool q]), (.int .i64 n), undef, undef, undef, undef, undef, undef, undef, undef, undef, undef, undef, undef, undef, undef, undef, undef, undef, undef, undef, undef, undef, undef, undef, undef, undef, undef, undef, undef, undef, undef, undef, undef, undef, undef, undef, undef, undef, undef, undef, undef, undef, undef, undef, undef, undef, undef, undef, undef, undef, undef, undef, undef, undef, undef, undef, undef, undef, undef], defers := [] }) w := by
  obtain ⟨o3, ho3, hg3, hp3, hd3⟩ := id I3
  obtain ⟨o17, ho17, hg17, hp17, hd17⟩ := id I17
  obtain ⟨o19, ho19, hg19, hp19, hd19⟩ := id I19
  refine wpAnyH_ready (rs := [3, 17, 19]) (rdy_ hR 69 _ _ rfl) (by simp) ?_
  refine AllReadyH.cons ho3 (fun K hK => ?_) ?_
  · refine RegN.call47 hg3 hp3 hd3 (hup _) (fun x hx => ?_)
    simp only [Act.put, List.setIfInBounds_toArray, List.set_cons_zero, List.set_cons_succ]
    exact hK.out _ _ ((hSof _ (hB.trans (hx.mono hB.size)))) (fun _ => node1_1x7x9 hR I16 I17 I18 I19 I3 I7 I11 I15 I20 I21 I22 I23 hSof hdown hleft hahead hQ g7 g9 x (hB.trans (hx.mono hB.size)) ge7 (b7.stays hx) ge9 (b9.stays hx) ne7_9)
  refine AllReadyH.cons ho17 (fun K hK => ?_) ?_
  · refine RegN.alloc65 hg17 hp17 hd17 ?_
    simp only [Act.put, List.setIfInBounds_toArray, List.set_cons_zero, List.set_cons_succ]
    exact hK.out _ _ ((hSof _ (hB.alloc hB.size _))) (fun _ => node0_0x7x8x9 hR I16 I17 I18 I19 I3 I7 I11 I15 I20 I21 I22 I23 hSof hup hdown hleft hahead hQ g7 w.heap.size g9 _ (hB.alloc hB.size _) ge7 (b7.alloc _) hB.size (Blk.new w 65 _) ge9 (b9.alloc _) (Nat.ne_of_lt b7.lt) ne7_9 (Nat.ne_of_gt b9.lt))
  refine AllReadyH.cons ho19 (fun K hK => ?_) ?_
  · refine RegN.alloc65 hg19 hp19 hd19 ?_
    simp only [Act.put, List.setIfInBounds_toArray, List.set_cons_zero, List.set_cons_succ]
    exact hK.out _ _ ((hSof _ (hB.alloc hB.size _))) (fun _ => node0_0x7x9x10 hR I16 I17 I18 I19 I3 I7 I11 I15 I20 I21 I22 I23 hSof hup hdown hleft hahead hQ g7 g9 w.heap.size _ (hB.alloc hB.size _) ge7 (b7.alloc _) ge9 (b9.alloc _) hB.size (Blk.new w 65 _) ne7_9 (Nat.ne_of_lt b7.lt) (Nat.ne_of_lt b9.lt))
  exact AllReadyH.nil
set_option maxRecDepth 100000 in
theorem node0_0x7x10 (g7 : Nat) (g10 : Nat) (w : World) (hB : Below w0.heap.size w0 w) (ge7 : w0.heap.size ≤ g7) (b7 : Blk w g7 65 #[.int .i64 0, .int .i64 0, .bool false]) (ge10 : w0.heap.size ≤ g10) (b10 : Blk w g10 65 #[.int .i64 0, .int .i64 0, .bool false]) (ne7_10 : g7 ≠ g10) :
    wpAnyH Try.prog .any ops Q S 10 #[true, true, true, false, true, true, true, false, true, true, true, false, true, true, true, false, true, false, false, true, false, false, false, false] ({ tmps := #[x0, x1, .int .i64 n, .pointer (some ⟨g3, 0, none⟩), .pointer (some ⟨g4, 0, none⟩), undef, x6, .pointer (some ⟨g7, 0, none⟩), undef, undef, .pointer (some ⟨g10, 0, none⟩), undef, x12, x13, x14, x15, x16, x17, x18, x19, x20, x21, x22, x23, (.agg #[.int .i64 R, .int .i64 C, .int .i64 T, .int .i64 B, .bool o]), (.agg #[.int .i64 r, .int .i64 c, .bool q]), (.int .i64 n), undef, (.agg #[.int .i64 R, .int .i64 C, .int .i64 T, .int .i64 B, .bool o]), (.agg #[.int .i64 r, .int .i64 c, .bool q]), (.int .i64 n), undef, (.agg #[.int .i64 R, .int .i64 C, .int .i64 T, .int .i64 B, .bool o]), (.agg #[.int .i64 r, .int .i64 c, .bool q]), (.int .i64 n), undef, (.agg #[.int .i64 R, .int .i64 C, .int .i64 T, .int .i64 B, .bool o]), (.agg #[.int .i64 r, .int .i64 c, .bool q]), (.int .i64 n), undef, undef, undef, undef, undef, undef, undef, undef, undef, undef, undef, undef, undef, undef, undef, undef, undef, undef, undef, undef, undef, undef, undef, undef, undef, undef, undef, undef, undef, undef, undef, undef, undef, undef, undef, undef, undef, undef, undef, undef, undef, undef, undef, undef, undef, undef, undef, undef, undef, undef, undef, undef, undef, undef, undef, undef, undef, undef], defers := [] }) w := by
  obtain ⟨o3, ho3, hg3, hp3, hd3⟩ := id I3
  obtain ⟨o17, ho17, hg17, hp17, hd17⟩ := id I17
  obtain ⟨o18, ho18, hg18, hp18, hd18⟩ := id I18
  refine wpAnyH_ready (rs := [3, 17, 18]) (rdy_ hR 70 _ _ rfl) (by simp) ?_
  refine AllReadyH.cons ho3 (fun K hK => ?_) ?_
  · refine RegN.call47 hg3 hp3 hd3 (hup _) (fun x hx => ?_)
    simp only [Act.put, List.setIfInBounds_toArray, List.set_cons_zero, List.set_cons_succ]
    exact hK.out _ _ ((hSof _ (hB.trans (hx.mono hB.size)))) (fun _ => node1_1x7x10 hR I16 I17 I18 I19 I3 I7 I11 I15 I20 I21 I22 I23 hSof hdown hleft hahead hQ g7 g10 x (hB.trans (hx.mono hB.size)) ge7 (b7.stays hx) ge10 (b10.stays hx) ne7_10)
  refine AllReadyH.cons ho17 (fun K hK => ?_) ?_
  · refine RegN.alloc65 hg17 hp17 hd17 ?_
    simp only [Act.put, List.setIfInBounds_toArray, List.set_cons_zero, List.set_cons_succ]
    exact hK.out _ _ ((hSof _ (hB.alloc hB.size _))) (fun _ => node0_0x7x8x10 hR I16 I17 I18 I19 I3 I7 I11 I15 I20 I21 I22 I23 hSof hup hdown hleft hahead hQ g7 w.heap.size g10 _ (hB.alloc hB.size _) ge7 (b7.alloc _) hB.size (Blk.new w 65 _) ge10 (b10.alloc _) (Nat.ne_of_lt b7.lt) ne7_10 (Nat.ne_of_gt b10.lt))
  refine AllReadyH.cons ho18 (fun K hK => ?_) ?_
  · refine RegN.alloc65 hg18 hp18 hd18 ?_
    simp only [Act.put, List.setIfInBounds_toArray, List.set_cons_zero, List.set_cons_succ]
    exact hK.out _ _ ((hSof _ (hB.alloc hB.size _))) (fun _ => node0_0x7x9x10 hR I16 I17 I18 I19 I3 I7 I11 I15 I20 I21 I22 I23 hSof hup hdown hleft hahead hQ g7 w.heap.size g10 _ (hB.alloc hB.size _) ge7 (b7.alloc _) hB.size (Blk.new w 65 _) ge10 (b10.alloc _) (Nat.ne_of_lt b7.lt) ne7_10 (Nat.ne_of_gt b10.lt))
  exact AllReadyH.nil
set_option maxRecDepth 100000 in
theorem node0_0x8x9 (g8 : Nat) (g9 : Nat) (w : World) (hB : Below w0.heap.size w0 w) (ge8 : w0.heap.size ≤ g8) (b8 : Blk w g8 65 #[.int .i64 0, .int .i64 0, .bool false]) (ge9 : w0.heap.size ≤ g9) (b9 : Blk w g9 65 #[.int .i64 0, .int .i64 0, .bool false]) (ne8_9 : g8 ≠ g9) :
    wpAnyH Try.prog .any ops Q S 10 #[true, true, true, false, true, true, true, false, true, true, true, false, true, true, true, false, false, true, true, false, false, false, false, false] ({ tmps := #[x0, x1, .int .i64 n, .pointer (some ⟨g3, 0, none⟩), .pointer (some ⟨g4, 0, none⟩), undef, x6, undef, .pointer (some ⟨g8, 0, none⟩), .pointer (some ⟨g9, 0, none⟩), undef, undef, x12, x13, x14, x15, x16, x17, x18, x19, x20, x21, x22, x23, (.agg #[.int .i64 R, .int .i64 C, .int .i64 T, .int .i64 B, .bool o]), (.agg #[.int .i64 r, .int .i64 c, .bool q]), (.int .i64 n), undef, (.agg #[.int .i64 R, .int .i64 C, .int .i64 T, .int .i64 B, .bool o]), (.agg #[.int .i64 r, .int .i64 c, .bool q]), (.int .i64 n), undef, (.agg #[.int .i64 R, .int .i64 C, .int .i64 T, .int .i64 B, .bool o]), (.agg #[.int .i64 r, .int .i64 c, .bool q]), (.int .i64 n), undef, (.agg #[.int .i64 R, .int .i64 C, .int .i64 T, .int .i64 B, .bool o]), (.agg #[.int .i64 r, .int .i64 c, .bool q]), (.int .i64 n), undef, undef, undef, undef, undef, undef, undef, undef, undef, undef, undef, undef, undef, undef, undef, undef, undef, undef, undef, undef, undef, undef, undef, undef, undef, undef, undef, undef, undef, undef, undef, undef, undef, undef, undef, undef, undef, undef, undef, undef, undef, undef, undef, undef, undef, undef, undef, undef, undef, undef, undef, undef, undef, undef, undef, undef, undef, undef], defers := [] }) w := by
  obtain ⟨o3, ho3, hg3, hp3, hd3⟩ := id I3
  obtain ⟨o16, ho16, hg16, hp16, hd16⟩ := id I16
  obtain ⟨o19, ho19, hg19, hp19, hd19⟩ := id I19
  refine wpAnyH_ready (rs := [3, 16, 19]) (rdy_ hR 71 _ _ rfl) (by simp) ?_
  refine AllReadyH.cons ho3 (fun K hK => ?_) ?_
  · refine RegN.call47 hg3 hp3 hd3 (hup _) (fun x hx => ?_)
    simp only [Act.put, List.setIfInBounds_toArray, List.set_cons_zero, List.set_cons_succ]
    exact hK.out _ _ ((hSof _ (hB.trans (hx.mono hB.size)))) (fun _ => node1_1x8x9 hR I16 I17 I18 I19 I3 I7 I11 I15 I20 I21 I22 I23 hSof hdown hleft hahead hQ g8 g9 x (hB.trans (hx.mono hB.size)) ge8 (b8.stays hx) ge9 (b9.stays hx) ne8_9)
  refine AllReadyH.cons ho16 (fun K hK => ?_) ?_
  · refine RegN.alloc65 hg16 hp16 hd16 ?_
    simp only [Act.put, List.setIfInBounds_toArray, List.set_cons_zero, List.set_cons_succ]
    exact hK.out _ _ ((hSof _ (hB.alloc hB.size _))) (fun _ => node0_0x7x8x9 hR I16 I17 I18 I19 I3 I7 I11 I15 I20 I21 I22 I23 hSof hup hdown hleft hahead hQ w.heap.size g8 g9 _ (hB.alloc hB.size _) hB.size (Blk.new w 65 _) ge8 (b8.alloc _) ge9 (b9.alloc _) (Nat.ne_of_gt b8.lt) (Nat.ne_of_gt b9.lt) ne8_9)
  refine AllReadyH.cons ho19 (fun K hK => ?_) ?_
  · refine RegN.alloc65 hg19 hp19 hd19 ?_
    simp only [Act.put, List.setIfInBounds_toArray, List.set_cons_zero, List.set_cons_succ]
    exact hK.out _ _ ((hSof _ (hB.alloc hB.size _))) (fun _ => node0_0x8x9x10 hR I16 I17 I18 I19 I3 I7 I11 I15 I20 I21 I22 I23 hSof hup hdown hleft hahead hQ g8 g9 w.heap.size _ (hB.alloc hB.size _) ge8 (b8.alloc _) ge9 (b9.alloc _) hB.size (Blk.new w 65 _) ne8_9 (Nat.ne_of_lt b8.lt) (Nat.ne_of_lt b9.lt))
  exact AllReadyH.nil
set_option maxRecDepth 100000 in
theorem node0_0x8x10 (g8 : Nat) (g10 : Nat) (w : World) (hB : Below w0.heap.size w0 w) (ge8 : w0.heap.size ≤ g8) (b8 : Blk w g8 65 #[.int .i64 0, .int .i64 0, .bool false]) (ge10 : w0.heap.size ≤ g10) (b10 : Blk w g10 65 #[.int .i64 0, .int .i64 0, .bool false]) (ne8_10 : g8 ≠ g10) :
    wpAnyH Try.prog .any ops Q S 10 #[true, true, true, false, true, true, true, false, true, true, true, false, true, true, true, false, false, true, false, true, false, false, false, false] ({ tmps := #[x0, x1, .int .i64 n, .pointer (some ⟨g3, 0, none⟩), .pointer (some ⟨g4, 0, none⟩), undef, x6, undef, .pointer (some ⟨g8, 0, none⟩), undef, .pointer (some ⟨g10, 0, none⟩), undef, x12, x13, x14, x15, x16, x17, x18, x19, x20, x21, x22, x23, (.agg #[.int .i64 R, .int .i64 C, .int .i64 T, .int .i64 B, .bool o]), (.agg #[.int .i64 r, .int .i64 c, .bool q]), (.int .i64 n), undef, (.agg #[.int .i64 R, .int .i64 C, .int .i64 T, .int .i64 B, .bool o]), (.agg #[.int .i64 r, .int .i64 c, .bool q]), (.int .i64 n), undef, (.agg #[.int .i64 R, .int .i64 C, .int .i64 T, .int .i64 B, .bool o]), (.agg #[.int .i64 r, .int .i64 c, .bool q]), (.int .i64 n), undef, (.agg #[.int .i64 R, .int .i64 C, .int .i64 T, .int .i64 B, .bool o]), (.agg #[.int .i64 r, .int .i64 c, .bool q]), (.int .i64 n), undef, undef, undef, undef, undef, undef, undef, undef, undef, undef, undef, undef, undef, undef, undef, undef, undef, undef, undef, undef, undef, undef, undef, undef, undef, undef, undef, undef, undef, undef, undef, undef, undef, undef, undef, undef, undef, undef, undef, undef, undef, undef, undef, undef, undef, undef, undef, undef, undef, undef, undef, undef, undef, undef, undef, undef, undef, undef], defers := [] }) w := by
  obtain ⟨o3, ho3, hg3, hp3, hd3⟩ := id I3
  obtain ⟨o16, ho16, hg16, hp16, hd16⟩ := id I16
  obtain ⟨o18, ho18, hg18, hp18, hd18⟩ := id I18
  refine wpAnyH_ready (rs := [3, 16, 18]) (rdy_ hR 72 _ _ rfl) (by simp) ?_
  refine AllReadyH.cons ho3 (fun K hK => ?_) ?_
  · refine RegN.call47 hg3 hp3 hd3 (hup _) (fun x hx => ?_)
    simp only [Act.put, List.setIfInBounds_toArray, List.set_cons_zero, List.set_cons_succ]
    exact hK.out _ _ ((hSof _ (hB.trans (hx.mono hB.size)))) (fun _ => node1_1x8x10 hR I16 I17 I18 I19 I3 I7 I11 I15 I20 I21 I22 I23 hSof hdown hleft hahead hQ g8 g10 x (hB.trans (hx.mono hB.size)) ge8 (b8.stays hx) ge10 (b10.stays hx) ne8_10)
  refine AllReadyH.cons ho16 (fun K hK => ?_) ?_
  · refine RegN.alloc65 hg16 hp16 hd16 ?_
    simp only [Act.put, List.setIfInBounds_toArray, List.set_cons_zero, List.set_cons_succ]
    exact hK.out _ _ ((hSof _ (hB.alloc hB.size _))) (fun _ => node0_0x7x8x10 hR I16 I17 I18 I19 I3 I7 I11 I15 I20 I21 I22 I23 hSof hup hdown hleft hahead hQ w.heap.size g8 g10 _ (hB.alloc hB.size _) hB.size (Blk.new w 65 _) ge8 (b8.alloc _) ge10 (b10.alloc _) (Nat.ne_of_gt b8.lt) (Nat.ne_of_gt b10.lt) ne8_10)
  refine AllReadyH.cons ho18 (fun K hK => ?_) ?_
  · refine RegN.alloc65 hg18 hp18 hd18 ?_
    simp only [Act.put, List.setIfInBounds_toArray, List.set_cons_zero, List.set_cons_succ]
    exact hK.out _ _ ((hSof _ (hB.alloc hB.size _))) (fun _ => node0_0x8x9x10 hR I16 I17 I18 I19 I3 I7 I11 I15 I20 I21 I22 I23 hSof hup hdown hleft hahead hQ g8 w.heap.size g10 _ (hB.alloc hB.size _) ge8 (b8.alloc _) hB.size (Blk.new w 65 _) ge10 (b10.alloc _) (Nat.ne_of_lt b8.lt) ne8_10 (Nat.ne_of_gt b10.lt))
  exact AllReadyH.nil
set_option maxRecDepth 100000 in
theorem node0_0x9x10 (g9 : Nat) (g10 : Nat) (w : World) (hB : Below w0.heap.size w0 w) (ge9 : w0.heap.size ≤ g9) (b9 : Blk w g9 65 #[.int .i64 0, .int .i64 0, .bool false]) (ge10 : w0.heap.size ≤ g10) (b10 : Blk w g10 65 #[.int .i64 0, .int .i64 0, .bool false]) (ne9_10 : g9 ≠ g10) :
    wpAnyH Try.prog .any ops Q S 10 #[true, true, true, false, true, true, true, false, true, true, true, false, true, true, true, false, false, false, true, true, false, false, false, false] ({ tmps := #[x0, x1, .int .i64 n, .pointer (some ⟨g3, 0, none⟩), .pointer (some ⟨g4, 0, none⟩), undef, x6, undef, undef, .pointer (some ⟨g9, 0, none⟩), .pointer (some ⟨g10, 0, none⟩), undef, x12, x13, x14, x15, x16, x17, x18, x19, x20, x21, x22, x23, (.agg #[.int .i64 R, .int .i64 C, .int .i64 T, .int .i64 B, .bool o]), (.agg #[.int .i64 r, .int .i64 c, .bool q]), (.int .i64 n), undef, (.agg #[.int .i64 R, .int .i64 C, .int .i64 T, .int .i64 B, .bool o]), (.agg #[.int .i64 r, .int .i64 c, .bool q]), (.int .i64 n), undef, (.agg #[.int .i64 R, .int .i64 C, .int .i64 T, .int .i64 B, .bool o]), (.agg #[.int .i64 r, .int .i64 c, .bool q]), (.int .i64 n), undef, (.agg #[.int .i64 R, .int .i64 C, .int .i64 T, .int .i64 B, .bool o]), (.agg #[.int .i64 r, .int .i64 c, .bool q]), (.int .i64 n), undef, undef, undef, undef, undef, undef, undef, undef, undef, undef, undef, undef, undef, undef, undef, undef, undef, undef, undef, undef, undef, undef, undef, undef, undef, undef, undef, undef, undef, undef, undef, undef, undef, undef, undef, undef, undef, undef, undef, undef, undef, undef, undef, undef, undef, undef, undef, undef, undef, undef, undef, undef, undef, undef, undef, undef, undef, undef], defers := [] }) w := by
  obtain ⟨o3, ho3, hg3, hp3, hd3⟩ := id I3
  obtain ⟨o16, ho16, hg16, hp16, hd16⟩ := id I16
  obtain ⟨o17, ho17, hg17, hp17, hd17⟩ := id I17
  refine wpAnyH_ready (rs := [3, 16, 17]) (rdy_ hR 73 _ _ rfl) (by simp) ?_
  refine AllReadyH.cons ho3 (fun K hK => ?_) ?_
  · refine RegN.call47 hg3 hp3 hd3 (hup _) (fun x hx => ?_)
    simp only [Act.put, List.setIfInBounds_toArray, List.set_cons_zero, List.set_cons_succ]
    exact hK.out _ _ ((hSof _ (hB.trans (hx.mono hB.size)))) (fun _ => node1_1x9x10 hR I16 I17 I18 I19 I3 I7 I11 I15 I20 I21 I22 I23 hSof hdown hleft hahead hQ g9 g10 x (hB.trans (hx.mono hB.size)) ge9 (b9.stays hx) ge10 (b10.stays hx) ne9_10)
  refine AllReadyH.cons ho16 (fun K hK => ?_) ?_
  · refine RegN.alloc65 hg16 hp16 hd16 ?_
    simp only [Act.put, List.setIfInBounds_toArray, List.set_cons_zero, List.set_cons_succ]
    exact hK.out _ _ ((hSof _ (hB.alloc hB.size _))) (fun _ => node0_0x7x9x10 hR I16 I17 I18 I19 I3 I7 I11 I15 I20 I21 I22 I23 hSof hup hdown hleft hahead hQ w.heap.size g9 g10 _ (hB.alloc hB.size _) hB.size (Blk.new w 65 _) ge9 (b9.alloc _) ge10 (b10.alloc _) (Nat.ne_of_gt b9.lt) (Nat.ne_of_gt b10.lt) ne9_10)
  refine AllReadyH.cons ho17 (fun K hK => ?_) ?_
  · refine RegN.alloc65 hg17 hp17 hd17 ?_
    simp only [Act.put, List.setIfInBounds_toArray, List.set_cons_zero, List.set_cons_succ]
    exact hK.out _ _ ((hSof _ (hB.alloc hB.size _))) (fun _ => node0_0x8x9x10 hR I16 I17 I18 I19 I3 I7 I11 I15 I20 I21 I22 I23 hSof hup hdown hleft hahead hQ w.heap.size g9 g10 _ (hB.alloc hB.size _) hB.size (Blk.new w 65 _) ge9 (b9.alloc _) ge10 (b10.alloc _) (Nat.ne_of_gt b9.lt) (Nat.ne_of_gt b10.lt) ne9_10)
  exact AllReadyH.nil
set_option maxRecDepth 100000 in
theorem node0_0x7 (g7 : Nat) (w : World) (hB : Below w0.heap.size w0 w) (ge7 : w0.heap.size ≤ g7) (b7 : Blk w g7 65 #[.int .i64 0, .int .i64 0, .bool false])  :
    wpAnyH Try.prog .any ops Q S 11 #[true, true, true, false, true, true, true, false, true, true, true, false, true, true, true, false, true, false, false, false, false, false, false, false] ({ tmps := #[x0, x1, .int .i64 n, .pointer (some ⟨g3, 0, none⟩), .pointer (some ⟨g4, 0, none⟩), undef, x6, .pointer (some ⟨g7, 0, none⟩), undef, undef, undef, undef, x12, x13, x14, x15, x16, x17, x18, x19, x20, x21, x22, x23, (.agg #[.int .i64 R, .int .i64 C, .int .i64 T, .int .i64 B, .bool o]), (.agg #[.int .i64 r, .int .i64 c, .bool q]), (.int .i64 n), undef, (.agg #[.int .i64 R, .int .i64 C, .int .i64 T, .int .i64 B, .bool o]), (.agg #[.int .i64 r, .int .i64 c, .bool q]), (.int .i64 n), undef, (.agg #[.int .i64 R, .int .i64 C, .int .i64 T, .int .i64 B, .bool o]), (.agg #[.int .i64 r, .int .i64 c, .bool q]), (.int .i64 n), undef, (.agg #[.int .i64 R, .int .i64 C, .int .i64 T, .int .i64 B, .bool o]), (.agg #[.int .i64 r, .int .i64 c, .bool q]), (.int .i64 n), undef, undef, undef, undef, undef, undef, undef, undef, undef, undef, undef, undef, undef, undef, undef, undef, undef, undef, undef, undef, undef, undef, undef, undef, undef, undef, undef, undef, undef, undef, undef, undef, undef, undef, undef, undef, undef, undef, undef, undef, undef, undef, undef, undef, undef, undef, undef, undef, undef, undef, undef, undef, undef, undef, undef, undef, undef, undef], defers := [] }) w := by
  obtain ⟨o3, ho3, hg3, hp3, hd3⟩ := id I3
  obtain ⟨o17, ho17, hg17, hp17, hd17⟩ := id I17
  obtain ⟨o18, ho18, hg18, hp18, hd18⟩ := id I18
  obtain ⟨o19, ho19, hg19, hp19, hd19⟩ := id I19
  refine wpAnyH_ready (rs := [3, 17, 18, 19]) (rdy_ hR 74 _ _ rfl) (by simp) ?_
  refine AllReadyH.cons ho3 (fun K hK => ?_) ?_
  · refine RegN.call47 hg3 hp3 hd3 (hup _) (fun x hx => ?_)
    simp only [Act.put, List.setIfInBounds_toArray, List.set_cons_zero, List.set_cons_succ]
    exact hK.out _ _ ((hSof _ (hB.trans (hx.mono hB.size)))) (fun _ => node1_1x7 hR I16 I17 I18 I19 I3 I7 I11 I15 I20 I21 I22 I23 hSof hdown hleft hahead hQ g7 x (hB.trans (hx.mono hB.size)) ge7 (b7.stays hx) )
  refine AllReadyH.cons ho17 (fun K hK => ?_) ?_
  · refine RegN.alloc65 hg17 hp17 hd17 ?_
    simp only [Act.put, List.setIfInBounds_toArray, List.set_cons_zero, List.set_cons_succ]
    exact hK.out _ _ ((hSof _ (hB.alloc hB.size _))) (fun _ => node0_0x7x8 hR I16 I17 I18 I19 I3 I7 I11 I15 I20 I21 I22 I23 hSof hup hdown hleft hahead hQ g7 w.heap.size _ (hB.alloc hB.size _) ge7 (b7.alloc _) hB.size (Blk.new w 65 _) (Nat.ne_of_lt b7.lt))
  refine AllReadyH.cons ho18 (fun K hK => ?_) ?_
  · refine RegN.alloc65 hg18 hp18 hd18 ?_
    simp only [Act.put, List.setIfInBounds_toArray, List.set_cons_zero, List.set_cons_succ]
    exact hK.out _ _ ((hSof _ (hB.alloc hB.size _))) (fun _ => node0_0x7x9 hR I16 I17 I18 I19 I3 I7 I11 I15 I20 I21 I22 I23 hSof hup hdown hleft hahead hQ g7 w.heap.size _ (hB.alloc hB.size _) ge7 (b7.alloc _) hB.size (Blk.new w 65 _) (Nat.ne_of_lt b7.lt))
  refine AllReadyH.cons ho19 (fun K hK => ?_) ?_
  · refine RegN.alloc65 hg19 hp19 hd19 ?_
    simp only [Act.put, List.setIfInBounds_toArray, List.set_cons_zero, List.set_cons_succ]
    exact hK.out _ _ ((hSof _ (hB.alloc hB.size _))) (fun _ => node0_0x7x10 hR I16 I17 I18 I19 I3 I7 I11 I15 I20 I21 I22 I23 hSof hup hdown hleft hahead hQ g7 w.heap.size _ (hB.alloc hB.size _) ge7 (b7.alloc _) hB.size (Blk.new w 65 _) (Nat.ne_of_lt b7.lt))
  exact AllReadyH.nil
set_option maxRecDepth 100000 in
theorem node0_0x8 (g8 : Nat) (w : World) (hB : Below w0.heap.size w0 w) (ge8 : w0.heap.size ≤ g8) (b8 : Blk w g8 65 #[.int .i64 0, .int .i64 0, .bool false])  :
    wpAnyH Try.prog .any ops Q S 11 #[true, true, true, false, true, true, true, false, true, true, true, false, true, true, true, false, false, true, false, false, false, false, false, false] ({ tmps := #[x0, x1, .int .i64 n, .pointer (some ⟨g3, 0, none⟩), .pointer (some ⟨g4, 0, none⟩), undef, x6, undef, .pointer (some ⟨g8, 0, none⟩), undef, undef, undef, x12, x13, x14, x15, x16, x17, x18, x19, x20, x21, x22, x23, (.agg #[.int .i64 R, .int .i64 C, .int .i64 T, .int .i64 B, .bool o]), (.agg #[.int .i64 r, .int .i64 c, .bool q]), (.int .i64 n), undef, (.agg #[.int .i64 R, .int .i64 C, .int .i64 T, .int .i64 B, .bool o]), (.agg #[.int .i64 r, .int .i64 c, .bool q]), (.int .i64 n), undef, (.agg #[.int .i64 R, .int .i64 C, .int .i64 T, .int .i64 B, .bool o]), (.agg #[.int .i64 r, .int .i64 c, .bool q]), (.int .i64 n), undef, (.agg #[.int .i64 R, .int .i64 C, .int .i64 T, .int .i64 B, .bool o]), (.agg #[.int .i64 r, .int .i64 c, .bool q]), (.int .i64 n), undef, undef, undef, undef, undef, undef, undef, undef, undef, undef, undef, undef, undef, undef, undef, undef, undef, undef, undef, undef, undef, undef, undef, undef, undef, undef, undef, undef, undef, undef, undef, undef, undef, undef, undef, undef, undef, undef, undef, undef, undef, undef, undef, undef, undef, undef, undef, undef, undef, undef, undef, undef, undef, undef, undef, undef, undef, undef], defers := [] }) w := by
  obtain ⟨o3, ho3, hg3, hp3, hd3⟩ := id I3
  obtain ⟨o16, ho16, hg16, hp16, hd16⟩ := id I16
  obtain ⟨o18, ho18, hg18, hp18, hd18⟩ := id I18
  obtain ⟨o19, ho19, hg19, hp19, hd19⟩ := id I19
  refine wpAnyH_ready (rs := [3, 16, 18, 19]) (rdy_ hR 75 _ _ rfl) (by simp) ?_
  refine AllReadyH.cons ho3 (fun K hK => ?_) ?_
  · refine RegN.call47 hg3 hp3 hd3 (hup _) (fun x hx => ?_)
    simp only [Act.put, List.setIfInBounds_toArray, List.set_cons_zero, List.set_cons_succ]
    exact hK.out _ _ ((hSof _ (hB.trans (hx.mono hB.size)))) (fun _ => node1_1x8 hR I16 I17 I18 I19 I3 I7 I11 I15 I20 I21 I22 I23 hSof hdown hleft hahead hQ g8 x (hB.trans (hx.mono hB.size)) ge8 (b8.stays hx) )
  refine AllReadyH.cons ho16 (fun K hK => ?_) ?_
  · refine RegN.alloc65 hg16 hp16 hd16 ?_
    simp only [Act.put, List.setIfInBounds_toArray, List.set_cons_zero, List.set_cons_succ]
    exact hK.out _ _ ((hSof _ (hB.alloc hB.size _))) (fun _ => node0_0x7x8 hR I16 I17 I18 I19 I3 I7 I11 I15 I20 I21 I22 I23 hSof hup hdown hleft hahead hQ w.heap.size g8 _ (hB.alloc hB.size _) hB.size (Blk.new w 65 _) ge8 (b8.alloc _) (Nat.ne_of_gt b8.lt))
  refine AllReadyH.cons ho18 (fun K hK => ?_) ?_
  · refine RegN.alloc65 hg18 hp18 hd18 ?_
    simp only [Act.put, List.setIfInBounds_toArray, List.set_cons_zero, List.set_cons_succ]
    exact hK.out _ _ ((hSof _ (hB.alloc hB.size _))) (fun _ => node0_0x8x9 hR I16 I17 I18 I19 I3 I7 I11 I15 I20 I21 I22 I23 hSof hup hdown hleft hahead hQ g8 w.heap.size _ (hB.alloc hB.size _) ge8 (b8.alloc _) hB.size (Blk.new w 65 _) (Nat.ne_of_lt b8.lt))
  refine AllReadyH.cons ho19 (fun K hK => ?_) ?_
  · refine RegN.alloc65 hg19 hp19 hd19 ?_
    simp only [Act.put, List.setIfInBounds_toArray, List.set_cons_zero, List.set_cons_succ]
    exact hK.out _ _ ((hSof _ (hB.alloc hB.size _))) (fun _ => node0_0x8x10 hR I16 I17 I18 I19 I3 I7 I11 I15 I20 I21 I22 I23 hSof hup hdown hleft hahead hQ g8 w.heap.size _ (hB.alloc hB.size _) ge8 (b8.alloc _) hB.size (Blk.new w 65 _) (Nat.ne_of_lt b8.lt))
  exact AllReadyH.nil
set_option maxRecDepth 100000 in
theorem node0_0x9 (g9 : Nat) (w : World) (hB : Below w0.heap.size w0 w) (ge9 : w0.heap.size ≤ g9) (b9 : Blk w g9 65 #[.int .i64 0, .int .i64 0, .bool false])  :
    wpAnyH Try.prog .any ops Q S 11 #[true, true, true, false, true, true, true, false, true, true, true, false, true, true, true, false, false, false, true, false, false, false, false, false] ({ tmps := #[x0, x1, .int .i64 n, .pointer (some ⟨g3, 0, none⟩), .pointer (some ⟨g4, 0, none⟩), undef, x6, undef, undef, .pointer (some ⟨g9, 0, none⟩), undef, undef, x12, x13, x14, x15, x16, x17, x18, x19, x20, x21, x22, x23, (.agg #[.int .i64 R, .int .i64 C, .int .i64 T, .int .i64 B, .bool o]), (.agg #[.int .i64 r, .int .i64 c, .bool q]), (.int .i64 n), undef, (.agg #[.int .i64 R, .int .i64 C, .int .i64 T, .int .i64 B, .bool o]), (.agg #[.int .i64 r, .int .i64 c, .bool q]), (.int .i64 n), undef, (.agg #[.int .i64 R, .int .i64 C, .int .i64 T, .int .i64 B, .bool o]), (.agg #[.int .i64 r, .int .i64 c, .bool q]), (.int .i64 n), undef, (.agg #[.int .i64 R, .int .i64 C, .int .i64 T, .int .i64 B, .bool o]), (.agg #[.int .i64 r, .int .i64 c, .bool q]), (.int .i64 n), undef, undef, undef, undef, undef, undef, undef, undef, undef, undef, undef, undef, undef, undef, undef, undef, undef, undef, undef, undef, undef, undef, undef, undef, undef, undef, undef, undef, undef, undef, undef, undef, undef, undef, undef, undef, undef, undef, undef, undef, undef, undef, undef, undef, undef, undef, undef, undef, undef, undef, undef, undef, undef, undef, undef, undef, undef, undef], defers := [] }) w := by
  obtain ⟨o3, ho3, hg3, hp3, hd3⟩ := id I3
  obtain ⟨o16, ho16, hg16, hp16, hd16⟩ := id I16
  obtain ⟨o17, ho17, hg17, hp17, hd17⟩ := id I17
  obtain ⟨o19, ho19, hg19, hp19, hd19⟩ := id I19
  refine wpAnyH_ready (rs := [3, 16, 17, 19]) (rdy_ hR 76 _ _ rfl) (by simp) ?_
  refine AllReadyH.cons ho3 (fun K hK => ?_) ?_
  · refine RegN.call47 hg3 hp3 hd3 (hup _) (fun x hx => ?_)
    simp only [Act.put, List.setIfInBounds_toArray, List.set_cons_zero, List.set_cons_succ]
    exact hK.out _ _ ((hSof _ (hB.trans (hx.mono hB.size)))) (fun _ => node1_1x9 hR I16 I17 I18 I19 I3 I7 I11 I15 I20 I21 I22 I23 hSof hdown hleft hahead hQ g9 x (hB.trans (hx.mono hB.size)) ge9 (b9.stays hx) )
  refine AllReadyH.cons ho16 (fun K hK => ?_) ?_
  · refine RegN.alloc65 hg16 hp16 hd16 ?_
    simp only [Act.put, List.setIfInBounds_toArray, List.set_cons_zero, List.set_cons_succ]
    exact hK.out _ _ ((hSof _ (hB.alloc hB.size _))) (fun _ => node0_0x7x9 hR I16 I17 I18 I19 I3 I7 I11 I15 I20 I21 I22 I23 hSof hup hdown hleft hahead hQ w.heap.size g9 _ (hB.alloc hB.size _) hB.size (Blk.new w 65 _) ge9 (b9.alloc _) (Nat.ne_of_gt b9.lt))
  refine AllReadyH.cons ho17 (fun K hK => ?_) ?_
  · refine RegN.alloc65 hg17 hp17 hd17 ?_
    simp only [Act.put, List.setIfInBounds_toArray, List.set_cons_zero, List.set_cons_succ]
    exact hK.out _ _ ((hSof _ (hB.alloc hB.size _))) (fun _ => node0_0x8x9 hR I16 I17 I18 I19 I3 I7 I11 I15 I20 I21 I22 I23 hSof hup hdown hleft hahead hQ w.heap.size g9 _ (hB.alloc hB.size _) hB.size (Blk.new w 65 _) ge9 (b9.alloc _) (Nat.ne_of_gt b9.lt))
  refine AllReadyH.cons ho19 (fun K hK => ?_) ?_
  · refine RegN.alloc65 hg19 hp19 hd19 ?_
    simp only [Act.put, List.setIfInBounds_toArray, List.set_cons_zero, List.set_cons_succ]
    exact hK.out _ _ ((hSof _ (hB.alloc hB.size _))) (fun _ => node0_0x9x10 hR I16 I17 I18 I19 I3 I7 I11 I15 I20 I21 I22 I23 hSof hup hdown hleft hahead hQ g9 w.heap.size _ (hB.alloc hB.size _) ge9 (b9.alloc _) hB.size (Blk.new w 65 _) (Nat.ne_of_lt b9.lt))
  exact AllReadyH.nil
set_option maxRecDepth 100000 in
theorem node0_0x10 (g10 : Nat) (w : World) (hB : Below w0.heap.size w0 w) (ge10 : w0.heap.size ≤ g10) (b10 : Blk w g10 65 #[.int .i64 0, .int .i64 0, .bool false])  :
    wpAnyH Try.prog .any ops Q S 11 #[true, true, true, false, true, true, true, false, true, true, true, false, true, true, true, false, false, false, false, true, false, false, false, false] ({ tmps := #[x0, x1, .int .i64 n, .pointer (some ⟨g3, 0, none⟩), .pointer (some ⟨g4, 0, none⟩), undef, x6, undef, undef, undef, .pointer (some ⟨g10, 0, none⟩), undef, x12, x13, x14, x15, x16, x17, x18, x19, x20, x21, x22, x23, (.agg #[.int .i64 R, .int .i64 C, .int .i64 T, .int .i64 B, .bool o]), (.agg #[.int .i64 r, .int .i64 c, .bool q]), (.int .i64 n), undef, (.agg #[.int .i64 R, .int .i64 C, .int .i64 T, .int .i64 B, .bool o]), (.agg #[.int .i64 r, .int .i64 c, .bool q]), (.int .i64 n), undef, (.agg #[.int .i64 R, .int .i64 C, .int .i64 T, .int .i64 B, .bool o]), (.agg #[.int .i64 r, .int .i64 c, .bool q]), (.int .i64 n), undef, (.agg #[.int .i64 R, .int .i64 C, .int .i64 T, .int .i64 B, .bool o]), (.agg #[.int .i64 r, .int .i64 c, .bool q]), (.int .i64 n), undef, undef, undef, undef, undef, undef, undef, undef, undef, undef, undef, undef, undef, undef, undef, undef, undef, undef, undef, undef, undef, undef, undef, undef, undef, undef, undef, undef, undef, undef, undef, undef, undef, undef, undef, undef, undef, undef, undef, undef, undef, undef, undef, undef, undef, undef, undef, undef, undef, undef, undef, undef, undef, undef, undef, undef, undef, undef], defers := [] }) w := by
  obtain ⟨o3, ho3, hg3, hp3, hd3⟩ := id I3
  obtain ⟨o16, ho16, hg16, hp16, hd16⟩ := id I16
  obtain ⟨o17, ho17, hg17, hp17, hd17⟩ := id I17
  obtain ⟨o18, ho18, hg18, hp18, hd18⟩ := id I18
  refine wpAnyH_ready (rs := [3, 16, 17, 18]) (rdy_ hR 77 _ _ rfl) (by simp) ?_
  refine AllReadyH.cons ho3 (fun K hK => ?_) ?_
  · refine RegN.call47 hg3 hp3 hd3 (hup _) (fun x hx => ?_)
    simp only [Act.put, List.setIfInBounds_toArray, List.set_cons_zero, List.set_cons_succ]
    exact hK.out _ _ ((hSof _ (hB.trans (hx.mono hB.size)))) (fun _ => node1_1x10 hR I16 I17 I18 I19 I3 I7 I11 I15 I20 I21 I22 I23 hSof hdown hleft hahead hQ g10 x (hB.trans (hx.mono hB.size)) ge10 (b10.stays hx) )
  refine AllReadyH.cons ho16 (fun K hK => ?_) ?_
  · refine RegN.alloc65 hg16 hp16 hd16 ?_
    simp only [Act.put, List.setIfInBounds_toArray, List.set_cons_zero, List.set_cons_succ]
    exact hK.out _ _ ((hSof _ (hB.alloc hB.size _))) (fun _ => node0_0x7x10 hR I16 I17 I18 I19 I3 I7 I11 I15 I20 I21 I22 I23 hSof hup hdown hleft hahead hQ w.heap.size g10 _ (hB.alloc hB.size _) hB.size (Blk.new w 65 _) ge10 (b10.alloc _) (Nat.ne_of_gt b10.lt))
  refine AllReadyH.cons ho17 (fun K hK => ?_) ?_
  · refine RegN.alloc65 hg17 hp17 hd17 ?_
    simp only [Act.put, List.setIfInBounds_toArray, List.set_cons_zero, List.set_cons_succ]
    exact hK.out _ _ ((hSof _ (hB.alloc hB.size _))) (fun _ => node0_0x8x10 hR I16 I17 I18 I19 I3 I7 I11 I15 I20 I21 I22 I23 hSof hup hdown hleft hahead hQ w.heap.size g10 _ (hB.alloc hB.size _) hB.size (Blk.new w 65 _) ge10 (b10.alloc _) (Nat.ne_of_gt b10.lt))
  refine AllReadyH.cons ho18 (fun K hK => ?_) ?_
  · refine RegN.alloc65 hg18 hp18 hd18 ?_
    simp only [Act.put, List.setIfInBounds_toArray, List.set_cons_zero, List.set_cons_succ]
    exact hK.out _ _ ((hSof _ (hB.alloc hB.size _))) (fun _ => node0_0x9x10 hR I16 I17 I18 I19 I3 I7 I11 I15 I20 I21 I22 I23 hSof hup hdown hleft hahead hQ w.heap.size g10 _ (hB.alloc hB.size _) hB.size (Blk.new w 65 _) ge10 (b10.alloc _) (Nat.ne_of_gt b10.lt))
  exact AllReadyH.nil
set_option maxRecDepth 100000 in
theorem node0_0  (w : World) (hB : Below w0.heap.size w0 w)   :
    wpAnyH Try.prog .any ops Q S 12 #[true, true, true, false, true, true, true, false, true, true, true, false, true, true, true, false, false, false, false, false, false, false, false, false] ({ tmps := #[x0, x1, .int .i64 n, .pointer (some ⟨g3, 0, none⟩), .pointer (some ⟨g4, 0, none⟩), undef, x6, undef, undef, undef, undef, undef, x12, x13, x14, x15, x16, x17, x18, x19, x20, x21, x22, x23, (.agg #[.int .i64 R, .int .i64 C, .int .i64 T, .int .i64 B, .bool o]), (.agg #[.int .i64 r, .int .i64 c, .bool q]), (.int .i64 n), undef, (.agg #[.int .i64 R, .int .i64 C, .int .i64 T, .int .i64 B, .bool o]), (.agg #[.int .i64 r, .int .i64 c, .bool q]), (.int .i64 n), undef, (.agg #[.int .i64 R, .int .i64 C, .int .i64 T, .int .i64 B, .bool o]), (.agg #[.int .i64 r, .int .i64 c, .bool q]), (.int .i64 n), undef, (.agg #[.int .i64 R, .int .i64 C, .int .i64 T, .int .i64 B, .bool o]), (.agg #[.int .i64 r, .int .i64 c, .bool q]), (.int .i64 n), undef, undef, undef, undef, undef, undef, undef, undef, undef, undef, undef, undef, undef, undef, undef, undef, undef, undef, undef, undef, undef, undef, undef, undef, undef, undef, undef, undef, undef, undef, undef, undef, undef, undef, undef, undef, undef, undef, undef, undef, undef, undef, undef, undef, undef, undef, undef, undef, undef, undef, undef, undef, undef, undef, undef, undef, undef, undef], defers := [] }) w := by
  obtain ⟨o3, ho3, hg3, hp3, hd3⟩ := id I3
  obtain ⟨o16, ho16, hg16, hp16, hd16⟩ := id I16
  obtain ⟨o17, ho17, hg17, hp17, hd17⟩ := id I17
  obtain ⟨o18, ho18, hg18, hp18, hd18⟩ := id I18
  obtain ⟨o19, ho19, hg19, hp19, hd19⟩ := id I19
  refine wpAnyH_ready (rs := [3, 16, 17, 18, 19]) (rdy_ hR 78 _ _ rfl) (by simp) ?_
  refine AllReadyH.cons ho3 (fun K hK => ?_) ?_
  · refine RegN.call47 hg3 hp3 hd3 (hup _) (fun x hx => ?_)
    simp only [Act.put, List.setIfInBounds_toArray, List.set_cons_zero, List.set_cons_succ]
    exact hK.out _ _ ((hSof _ (hB.trans (hx.mono hB.size)))) (fun _ => node1_1 hR I16 I17 I18 I19 I3 I7 I11 I15 I20 I21 I22 I23 hSof hdown hleft hahead hQ  x (hB.trans (hx.mono hB.size))  )
  refine AllReadyH.cons ho16 (fun K hK => ?_) ?_
  · refine RegN.alloc65 hg16 hp16 hd16 ?_
    simp only [Act.put, List.setIfInBounds_toArray, List.set_cons_zero, List.set_cons_succ]
    exact hK.out _ _ ((hSof _ (hB.alloc hB.size _))) (fun _ => node0_0x7 hR I16 I17 I18 I19 I3 I7 I11 I15 I20 I21 I22 I23 hSof hup hdown hleft hahead hQ w.heap.size _ (hB.alloc hB.size _) hB.size (Blk.new w 65 _) )
  refine AllReadyH.cons ho17 (fun K hK => ?_) ?_
  · refine RegN.alloc65 hg17 hp17 hd17 ?_
    simp only [Act.put, List.setIfInBounds_toArray, List.set_cons_zero, List.set_cons_succ]
    exact hK.out _ _ ((hSof _ (hB.alloc hB.size _))) (fun _ => node0_0x8 hR I16 I17 I18 I19 I3 I7 I11 I15 I20 I21 I22 I23 hSof hup hdown hleft hahead hQ w.heap.size _ (hB.alloc hB.size _) hB.size (Blk.new w 65 _) )
  refine AllReadyH.cons ho18 (fun K hK => ?_) ?_
  · refine RegN.alloc65 hg18 hp18 hd18 ?_
    simp only [Act.put, List.setIfInBounds_toArray, List.set_cons_zero, List.set_cons_succ]
    exact hK.out _ _ ((hSof _ (hB.alloc hB.size _))) (fun _ => node0_0x9 hR I16 I17 I18 I19 I3 I7 I11 I15 I20 I21 I22 I23 hSof hup hdown hleft hahead hQ w.heap.size _ (hB.alloc hB.size _) hB.size (Blk.new w 65 _) )
  refine AllReadyH.cons ho19 (fun K hK => ?_) ?_
  · refine RegN.alloc65 hg19 hp19 hd19 ?_
    simp only [Act.put, List.setIfInBounds_toArray, List.set_cons_zero, List.set_cons_succ]
    exact hK.out _ _ ((hSof _ (hB.alloc hB.size _))) (fun _ => node0_0x10 hR I16 I17 I18 I19 I3 I7 I11 I15 I20 I21 I22 I23 hSof hup hdown hleft hahead hQ w.heap.size _ (hB.alloc hB.size _) hB.size (Blk.new w 65 _) )
  exact AllReadyH.nil
end
end Go.Proofs.Ytagciaanfjllnaa.MovesR
