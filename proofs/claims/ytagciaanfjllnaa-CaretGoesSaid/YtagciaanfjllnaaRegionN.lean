/- A region that draws its order, with calls that make memory, new variables and stores of structs: one law for each kind of operation, told by what the operation is. -/
import Derived.Test.YtagciaanfjllnaaBase
import Derived.Deep.RegionHeld3
import Derived.Deep.DrawnRows
namespace Go.Proofs.Ytagciaanfjllnaa.RegN
open Go Go.RowKit Go.Proofs.Ytagciaanfjllnaa.Base
section
variable {ops : Array Oper} {Q : Exit → Act → World → Prop} {K : Act → World → Prop} {a : Act} {w : World} {o : Oper}
theorem alloc65 {j : Tmp} (hg : o.guard = none) (ho : o.op = .alloc 65) (hd : o.dst = some j) (h : K (a.put (some j) (.pointer (some ⟨w.heap.size, 0, none⟩))) (w.alloc (.cells #[.int .i64 0, .int .i64 0, .bool false] 65))) :
    if Region.wanted o (yielded ops a.tmps) = true then Oper.wp Try.prog o a w K Q else K (a.put o.dst undef) w := by
  obtain ⟨dst, op, ty, pos, after, guard⟩ := o
  simp only at hg ho hd
  subst hg ho hd
  go_simp
  exact h
theorem store65 {p q : Tmp} {g : Nat} {x y : Int} {z : Bool} {x' y' z' : Value} (hg : o.guard = none) (ho : o.op = .store 65 (.tmp p) (.tmp q)) (hd : o.dst = none) (hp : a.tmps.getD p undef = .pointer (some ⟨g, 0, none⟩)) (hq : a.tmps.getD q undef = .agg #[.int .i64 x, .int .i64 y, .bool z]) (hb : Blk w g 65 #[x', y', z'])
    (h : K a (((w.setCell ⟨g, 0, none⟩ (.int .i64 x)).setCell ⟨g, 1, none⟩ (.int .i64 y)).setCell ⟨g, 2, none⟩ (.bool z))) :
    if Region.wanted o (yielded ops a.tmps) = true then Oper.wp Try.prog o a w K Q else K (a.put o.dst undef) w := by
  obtain ⟨c0, c1, c2, f0, f1, f2⟩ := hb.three
  obtain ⟨dst, op, ty, pos, after, guard⟩ := o
  simp only at hg ho hd
  subst hg ho hd
  go_simp
  exact h
theorem call47 {p0 p1 p2 j : Tmp} {ts : Array TypeId} {v : Value} (hg : o.guard = none) (ho : o.op = .call { callee := .value (.func 47), args := #[.tmp p0, .tmp p1, .tmp p2], argTypes := ts }) (hd : o.dst = some j)
    (hc : Calls Try.prog 47 #[a.tmps.getD p0 undef, a.tmps.getD p1 undef, a.tmps.getD p2 undef] w fun e w' => e = .returned v ∧ Below w.heap.size w w') (h : ∀ w', Below w.heap.size w w' → K (a.put (some j) v) w') :
    if Region.wanted o (yielded ops a.tmps) = true then Oper.wp Try.prog o a w K Q else K (a.put o.dst undef) w := by
  obtain ⟨dst, op, ty, pos, after, guard⟩ := o
  simp only at hg ho hd
  subst hg ho hd
  have hc' : Calls Try.prog 47 #[a.tmps[p0]?.getD undef, a.tmps[p1]?.getD undef, a.tmps[p2]?.getD undef] w fun e w' => e = .returned v ∧ Below w.heap.size w w' := by simpa using hc
  clear hc
  go_simp
  refine hc'.mono ?_
  rintro e w' ⟨rfl, hb⟩
  go_simp
  exact h w' hb
theorem call48 {p0 p1 p2 j : Tmp} {ts : Array TypeId} {v : Value} (hg : o.guard = none) (ho : o.op = .call { callee := .value (.func 48), args := #[.tmp p0, .tmp p1, .tmp p2], argTypes := ts }) (hd : o.dst = some j)
    (hc : Calls Try.prog 48 #[a.tmps.getD p0 undef, a.tmps.getD p1 undef, a.tmps.getD p2 undef] w fun e w' => e = .returned v ∧ Below w.heap.size w w') (h : ∀ w', Below w.heap.size w w' → K (a.put (some j) v) w') :
    if Region.wanted o (yielded ops a.tmps) = true then Oper.wp Try.prog o a w K Q else K (a.put o.dst undef) w := by
  obtain ⟨dst, op, ty, pos, after, guard⟩ := o
  simp only at hg ho hd
  subst hg ho hd
  have hc' : Calls Try.prog 48 #[a.tmps[p0]?.getD undef, a.tmps[p1]?.getD undef, a.tmps[p2]?.getD undef] w fun e w' => e = .returned v ∧ Below w.heap.size w w' := by simpa using hc
  clear hc
  go_simp
  refine hc'.mono ?_
  rintro e w' ⟨rfl, hb⟩
  go_simp
  exact h w' hb
theorem call49 {p0 p1 p2 j : Tmp} {ts : Array TypeId} {v : Value} (hg : o.guard = none) (ho : o.op = .call { callee := .value (.func 49), args := #[.tmp p0, .tmp p1, .tmp p2], argTypes := ts }) (hd : o.dst = some j)
    (hc : Calls Try.prog 49 #[a.tmps.getD p0 undef, a.tmps.getD p1 undef, a.tmps.getD p2 undef] w fun e w' => e = .returned v ∧ Below w.heap.size w w') (h : ∀ w', Below w.heap.size w w' → K (a.put (some j) v) w') :
    if Region.wanted o (yielded ops a.tmps) = true then Oper.wp Try.prog o a w K Q else K (a.put o.dst undef) w := by
  obtain ⟨dst, op, ty, pos, after, guard⟩ := o
  simp only at hg ho hd
  subst hg ho hd
  have hc' : Calls Try.prog 49 #[a.tmps[p0]?.getD undef, a.tmps[p1]?.getD undef, a.tmps[p2]?.getD undef] w fun e w' => e = .returned v ∧ Below w.heap.size w w' := by simpa using hc
  clear hc
  go_simp
  refine hc'.mono ?_
  rintro e w' ⟨rfl, hb⟩
  go_simp
  exact h w' hb
theorem call50 {p0 p1 p2 j : Tmp} {ts : Array TypeId} {v : Value} (hg : o.guard = none) (ho : o.op = .call { callee := .value (.func 50), args := #[.tmp p0, .tmp p1, .tmp p2], argTypes := ts }) (hd : o.dst = some j)
    (hc : Calls Try.prog 50 #[a.tmps.getD p0 undef, a.tmps.getD p1 undef, a.tmps.getD p2 undef] w fun e w' => e = .returned v ∧ Below w.heap.size w w') (h : ∀ w', Below w.heap.size w w' → K (a.put (some j) v) w') :
    if Region.wanted o (yielded ops a.tmps) = true then Oper.wp Try.prog o a w K Q else K (a.put o.dst undef) w := by
  obtain ⟨dst, op, ty, pos, after, guard⟩ := o
  simp only at hg ho hd
  subst hg ho hd
  have hc' : Calls Try.prog 50 #[a.tmps[p0]?.getD undef, a.tmps[p1]?.getD undef, a.tmps[p2]?.getD undef] w fun e w' => e = .returned v ∧ Below w.heap.size w w' := by simpa using hc
  clear hc
  go_simp
  refine hc'.mono ?_
  rintro e w' ⟨rfl, hb⟩
  go_simp
  exact h w' hb
theorem call40 {p0 p1 p2 j : Tmp} {ts : Array TypeId} {v : Value} (hg : o.guard = none) (ho : o.op = .call { callee := .value (.func 40), args := #[.tmp p0, .tmp p1, .tmp p2], argTypes := ts }) (hd : o.dst = some j)
    (hc : Calls Try.prog 40 #[a.tmps.getD p0 undef, a.tmps.getD p1 undef, a.tmps.getD p2 undef] w fun e w' => e = .returned v ∧ Below w.heap.size w w') (h : ∀ w', Below w.heap.size w w' → K (a.put (some j) v) w') :
    if Region.wanted o (yielded ops a.tmps) = true then Oper.wp Try.prog o a w K Q else K (a.put o.dst undef) w := by
  obtain ⟨dst, op, ty, pos, after, guard⟩ := o
  simp only at hg ho hd
  subst hg ho hd
  have hc' : Calls Try.prog 40 #[a.tmps[p0]?.getD undef, a.tmps[p1]?.getD undef, a.tmps[p2]?.getD undef] w fun e w' => e = .returned v ∧ Below w.heap.size w w' := by simpa using hc
  clear hc
  go_simp
  refine hc'.mono ?_
  rintro e w' ⟨rfl, hb⟩
  go_simp
  exact h w' hb
theorem call41 {p0 p1 j : Tmp} {ts : Array TypeId} {v : Value} (hg : o.guard = none) (ho : o.op = .call { callee := .value (.func 41), args := #[.tmp p0, .tmp p1], argTypes := ts }) (hd : o.dst = some j)
    (hc : Calls Try.prog 41 #[a.tmps.getD p0 undef, a.tmps.getD p1 undef] w fun e w' => e = .returned v ∧ Below w.heap.size w w') (h : ∀ w', Below w.heap.size w w' → K (a.put (some j) v) w') :
    if Region.wanted o (yielded ops a.tmps) = true then Oper.wp Try.prog o a w K Q else K (a.put o.dst undef) w := by
  obtain ⟨dst, op, ty, pos, after, guard⟩ := o
  simp only at hg ho hd
  subst hg ho hd
  have hc' : Calls Try.prog 41 #[a.tmps[p0]?.getD undef, a.tmps[p1]?.getD undef] w fun e w' => e = .returned v ∧ Below w.heap.size w w' := by simpa using hc
  clear hc
  go_simp
  refine hc'.mono ?_
  rintro e w' ⟨rfl, hb⟩
  go_simp
  exact h w' hb
/-- the i-th operation of the region does this, unguarded, into this slot -/
def Is (ops : Array Oper) (i : Nat) (op : Go.Op) (dst : Option Tmp) : Prop := ∃ o, ops[i]? = some o ∧ o.guard = none ∧ o.op = op ∧ o.dst = dst
end
end Go.Proofs.Ytagciaanfjllnaa.RegN
