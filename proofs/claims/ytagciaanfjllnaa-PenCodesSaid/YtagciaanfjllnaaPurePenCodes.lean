/- The law PenCodes, in plain words: the numbers of a pen, by the program and by the document; applied to any pen they make this one. -/
import Derived.Test.YtagciaanfjllnaaPenH
namespace Go.Proofs.Ytagciaanfjllnaa.PenC
open Go
set_option linter.unusedVariables false

/-- the numbers of a colour -/
def colL (c a : Int) : List Int := if c = 0 then [] else if c ≤ 8 then [a + c - 1] else if c ≤ 16 then [a + 60 + c - 9] else [a + 8, 5, c - 1]
def inMark (m : Int) (i : Nat) : Bool := markF i != 0 && bits .and .i64 m (markF i) != 0
/-- the numbers of the marks, as the program finds them -/
def marksL (m : Int) (i : Nat) : List Int := ((List.range i).filter (inMark m)).map Int.ofNat
def num (i : Nat) : Int := if i = 0 then 1 else if i = 1 then 2 else if i = 2 then 3 else if i = 3 then 4 else if i = 4 then 5 else if i = 5 then 7 else 9
def mkOf (i : Nat) : Int := if i = 0 then 1 else if i = 1 then 2 else if i = 2 then 4 else if i = 3 then 8 else if i = 4 then 16 else if i = 5 then 32 else 64
def hasF (m k : Int) : Bool := Int.tmod (Int.tdiv m k) 2 == 1
/-- the numbers of the marks, as the document finds them -/
def refL (m : Int) (i : Nat) : List Int := ((List.range i).filter (fun j => hasF m (mkOf j))).map num
/-- the numbers of a pen -/
def codesL (p : Int × Int × Int) : List Int := [] ++ ((0 :: marksL p.2.2 10) ++ (colL p.1 30 ++ colL p.2.1 40))
theorem ref_fin : ∀ k : Fin 128, refL (k.val : Int) 7 = marksL (k.val : Int) 10 := by decide +kernel
theorem fold_fin : ∀ k : Fin 128, (marksL (k.val : Int) 10).foldl oneF (0, 0, 0) = (0, 0, (k.val : Int)) := by decide +kernel
theorem mask_fin : ∀ k : Fin 128, bits .andNot .i64 (bits .or .i64 (k.val : Int) 0) 0 = (k.val : Int) := by decide +kernel
theorem fin_of {m : Int} (h0 : 0 ≤ m) (h1 : m ≤ 127) : ∃ k : Fin 128, m = (k.val : Int) := ⟨⟨m.toNat, by omega⟩, by simp; omega⟩
theorem ref_marks {m : Int} (h0 : 0 ≤ m) (h1 : m ≤ 127) : refL m 7 = marksL m 10 := by
  obtain ⟨k, rfl⟩ := fin_of h0 h1
  exact ref_fin k
theorem fold_marks {m : Int} (h0 : 0 ≤ m) (h1 : m ≤ 127) : (marksL m 10).foldl oneF (0, 0, 0) = (0, 0, m) := by
  obtain ⟨k, rfl⟩ := fin_of h0 h1
  exact fold_fin k
theorem mask {m : Int} (h0 : 0 ≤ m) (h1 : m ≤ 127) : bits .andNot .i64 (bits .or .i64 m 0) 0 = m := by
  obtain ⟨k, rfl⟩ := fin_of h0 h1
  exact mask_fin k
theorem marks_lt {m : Int} {i : Nat} {x : Int} (h : x ∈ marksL m i) : 0 ≤ x ∧ x < i := by
  unfold marksL at h
  simp only [List.mem_map, List.mem_filter, List.mem_range] at h
  obtain ⟨j, ⟨h1, _⟩, rfl⟩ := h
  simp only [Int.ofNat_eq_natCast]
  omega
theorem col_bd {c a : Int} (h0 : 0 ≤ c) (h1 : c ≤ 256) (ha : 0 ≤ a) (hb : a ≤ 100) {x : Int} (h : x ∈ colL c a) : 0 ≤ x ∧ x ≤ 1000 := by
  unfold colL at h
  by_cases c0 : c = 0
  · rw [if_pos c0] at h; simp at h
  rw [if_neg c0] at h
  by_cases c1 : c ≤ 8
  · rw [if_pos c1] at h; simp at h; omega
  rw [if_neg c1] at h
  by_cases c2 : c ≤ 16
  · rw [if_pos c2] at h; simp at h; omega
  rw [if_neg c2] at h
  simp at h
  omega
theorem codes_bd {p : Int × Int × Int} (h : RightP p) {x : Int} (hx : x ∈ codesL p) : 0 ≤ x ∧ x ≤ 1000 := by
  obtain ⟨h1, h2, h3, h4, h5, h6⟩ := h
  unfold codesL at hx
  simp only [List.nil_append, List.mem_append, List.mem_cons] at hx
  rcases hx with (rfl | hx) | hx | hx
  · omega
  · have := marks_lt hx; omega
  · exact col_bd h1 h2 (by omega) (by omega) hx
  · exact col_bd h3 h4 (by omega) (by omega) hx
theorem codes_len {p : Int × Int × Int} : 0 < (codesL p).length ∧ (codesL p).length ≤ 20 := by
  have hm : (marksL p.2.2 10).length ≤ 10 := by
    unfold marksL
    rw [List.length_map]
    exact Nat.le_trans (List.length_filter_le _ _) (by simp)
  have hc : ∀ c a : Int, (colL c a).length ≤ 3 := fun c a => by
    unfold colL
    by_cases c0 : c = 0
    · rw [if_pos c0]; simp
    rw [if_neg c0]
    by_cases c1 : c ≤ 8
    · rw [if_pos c1]; simp
    rw [if_neg c1]
    by_cases c2 : c ≤ 16
    · rw [if_pos c2]; simp
    rw [if_neg c2]; simp
  have h1 := hc p.1 30
  have h2 := hc p.2.1 40
  unfold codesL
  simp only [List.nil_append, List.length_append, List.length_cons]
  omega

/-- a list, read as a function -/
def zL (l : List Int) : Nat → Int := fun j => l.getD j 0
/-- whatever the fuel, the run from here on ends with r -/
def Ends (z : Nat → Int) (n i : Nat) (p r : Int × Int × Int) : Prop := ∀ k, n - i ≤ k → runF z n k i p = r
theorem ends_end {z : Nat → Int} {n i : Nat} {p : Int × Int × Int} (h : n ≤ i) : Ends z n i p p := fun _ _ => run_end h
theorem ends_one {z : Nat → Int} {n i : Nat} {p r : Int × Int × Int} (h : i < n) (h1 : z i ≠ 38) (h2 : z i ≠ 48) (he : Ends z n (i + 1) (oneF p (z i)) r) : Ends z n i p r := fun k hk => by
  obtain ⟨k', rfl⟩ : ∃ k', k = k' + 1 := ⟨k - 1, by omega⟩
  rw [run_one h h1 h2]
  exact he k' (by omega)
theorem zl_at (l1 l2 : List Int) (x : Int) : zL (l1 ++ (x :: l2)) l1.length = x := by simp [zL]
theorem ends_list {n : Nat} {r : Int × Int × Int} (l2 : List Int) : ∀ (ms l1 : List Int) (p : Int × Int × Int), (∀ x ∈ ms, x ≠ 38 ∧ x ≠ 48) → n = (l1 ++ (ms ++ l2)).length →
    Ends (zL (l1 ++ (ms ++ l2))) n (l1.length + ms.length) (ms.foldl oneF p) r → Ends (zL (l1 ++ (ms ++ l2))) n l1.length p r
  | [], l1, p, _, hn, h => by simpa using h
  | x :: ms, l1, p, hx, hn, h => by
    have hz : zL (l1 ++ (x :: ms ++ l2)) l1.length = x := zl_at l1 (ms ++ l2) x
    refine ends_one (by rw [hn]; simp) (by rw [hz]; exact (hx x (by simp)).1) (by rw [hz]; exact (hx x (by simp)).2) ?_
    rw [hz]
    have e : l1 ++ (x :: ms ++ l2) = (l1 ++ [x]) ++ (ms ++ l2) := by simp
    rw [e] at h ⊢
    have ih := ends_list (n := n) (r := r) l2 ms (l1 ++ [x]) (oneF p x) (fun y hy => hx y (by simp [hy])) (by rw [hn, e])
    rw [List.length_append, List.length_singleton] at ih
    refine ih ?_
    rw [List.length_cons] at h
    rw [show l1.length + 1 + ms.length = l1.length + (ms.length + 1) by omega]
    exact h
theorem ends_col {n : Nat} {r p : Int × Int × Int} {a c : Int} (l1 l2 : List Int) (ha : a = 38 ∨ a = 48) (h0 : 0 ≤ c) (h1 : c ≤ 255) (hn : n = (l1 ++ ([a, 5, c] ++ l2)).length)
    (h : Ends (zL (l1 ++ ([a, 5, c] ++ l2))) n (l1.length + 3) (if a = 38 then (c + 1, p.2.1, p.2.2) else (p.1, c + 1, p.2.2)) r) : Ends (zL (l1 ++ ([a, 5, c] ++ l2))) n l1.length p r := fun k hk => by
  have e0 : zL (l1 ++ ([a, 5, c] ++ l2)) l1.length = a := zl_at l1 _ a
  have e1 : zL (l1 ++ ([a, 5, c] ++ l2)) (l1.length + 1) = 5 := by
    have := zl_at (l1 ++ [a]) (c :: l2) 5
    simpa using this
  have e2 : zL (l1 ++ ([a, 5, c] ++ l2)) (l1.length + 2) = c := by
    have := zl_at (l1 ++ [a, 5]) l2 c
    simpa using this
  have hlen : l1.length + 3 ≤ n := by rw [hn]; simp
  obtain ⟨k', rfl⟩ : ∃ k', k = k' + 1 := ⟨k - 1, by omega⟩
  have hc : colF (n - (l1.length + 1)) 5 c = (c, 2) := by
    rw [colF, if_neg (by omega), if_neg (by omega), if_neg (by omega), if_neg (by omega)]
  rw [run_col (by omega) (by rw [e0]; exact ha), e0, e1, e2, hc]
  simp only
  rw [if_neg (show ¬ c < 0 by omega)]
  exact h k' (by have : ((2 : Int).toNat) = 2 := rfl; omega)
theorem one_hi {f b m n : Int} (h : 30 ≤ n) (h0 : 0 ≤ m) (h1 : m ≤ 127) : oneF (f, b, m) n = ((basicF n 30).getD f, (basicF n 40).getD b, m) := by
  have e1 : markF n = 0 := by
    unfold markF
    repeat (rw [if_neg (by omega)])
  have e2 : clearF n = 0 := by rw [clearF, if_neg (by omega), if_pos (by omega)]
  rw [oneF, if_neg (by omega), e1, e2]
  simp only
  rw [mask h0 h1]
theorem ends_fg {n : Nat} {r : Int × Int × Int} {c b m : Int} (l1 l2 : List Int) (h0 : 0 ≤ c) (h1 : c ≤ 256) (hm0 : 0 ≤ m) (hm1 : m ≤ 127) (hn : n = (l1 ++ (colL c 30 ++ l2)).length)
    (h : Ends (zL (l1 ++ (colL c 30 ++ l2))) n (l1.length + (colL c 30).length) (c, b, m) r) : Ends (zL (l1 ++ (colL c 30 ++ l2))) n l1.length (0, b, m) r := by
  by_cases c0 : c = 0
  · have e : colL c 30 = [] := by rw [colL, if_pos c0]
    rw [e] at h hn ⊢
    subst c0
    exact h
  by_cases c1 : c ≤ 8
  · have e : colL c 30 = [30 + c - 1] := by rw [colL, if_neg c0, if_pos c1]
    rw [e] at h hn ⊢
    refine ends_list l2 [30 + c - 1] l1 _ (fun x hx => by simp at hx; omega) hn ?_
    have e2 : [30 + c - 1].foldl oneF (0, b, m) = (c, b, m) := by
      show oneF (0, b, m) (30 + c - 1) = _
      rw [one_hi (by omega) hm0 hm1, basicF, if_pos (by omega), basicF, if_neg (by omega), if_neg (by omega), if_neg (by omega)]
      simp; omega
    rw [e2]; exact h
  by_cases c2 : c ≤ 16
  · have e : colL c 30 = [30 + 60 + c - 9] := by rw [colL, if_neg c0, if_neg c1, if_pos c2]
    rw [e] at h hn ⊢
    refine ends_list l2 [30 + 60 + c - 9] l1 _ (fun x hx => by simp at hx; omega) hn ?_
    have e2 : [30 + 60 + c - 9].foldl oneF (0, b, m) = (c, b, m) := by
      show oneF (0, b, m) (30 + 60 + c - 9) = _
      rw [one_hi (by omega) hm0 hm1, basicF, if_neg (by omega), if_neg (by omega), if_pos (by omega), basicF, if_neg (by omega), if_neg (by omega), if_neg (by omega)]
      simp; omega
    rw [e2]; exact h
  · have e : colL c 30 = [38, 5, c - 1] := by rw [colL, if_neg c0, if_neg c1, if_neg c2]; rfl
    rw [e] at h hn ⊢
    refine ends_col l1 l2 (Or.inl rfl) (by omega) (by omega) hn ?_
    rw [if_pos rfl, show c - 1 + 1 = c by omega]
    exact h
theorem ends_bg {n : Nat} {r : Int × Int × Int} {c f m : Int} (l1 l2 : List Int) (h0 : 0 ≤ c) (h1 : c ≤ 256) (hm0 : 0 ≤ m) (hm1 : m ≤ 127) (hn : n = (l1 ++ (colL c 40 ++ l2)).length)
    (h : Ends (zL (l1 ++ (colL c 40 ++ l2))) n (l1.length + (colL c 40).length) (f, c, m) r) : Ends (zL (l1 ++ (colL c 40 ++ l2))) n l1.length (f, 0, m) r := by
  by_cases c0 : c = 0
  · have e : colL c 40 = [] := by rw [colL, if_pos c0]
    rw [e] at h hn ⊢
    subst c0
    exact h
  by_cases c1 : c ≤ 8
  · have e : colL c 40 = [40 + c - 1] := by rw [colL, if_neg c0, if_pos c1]
    rw [e] at h hn ⊢
    refine ends_list l2 [40 + c - 1] l1 _ (fun x hx => by simp at hx; omega) hn ?_
    have e2 : [40 + c - 1].foldl oneF (f, 0, m) = (f, c, m) := by
      show oneF (f, 0, m) (40 + c - 1) = _
      rw [one_hi (by omega) hm0 hm1, basicF, if_neg (by omega), if_neg (by omega), if_neg (by omega), basicF, if_pos (by omega)]
      simp; omega
    rw [e2]; exact h
  by_cases c2 : c ≤ 16
  · have e : colL c 40 = [40 + 60 + c - 9] := by rw [colL, if_neg c0, if_neg c1, if_pos c2]
    rw [e] at h hn ⊢
    refine ends_list l2 [40 + 60 + c - 9] l1 _ (fun x hx => by simp at hx; omega) hn ?_
    have e2 : [40 + 60 + c - 9].foldl oneF (f, 0, m) = (f, c, m) := by
      show oneF (f, 0, m) (40 + 60 + c - 9) = _
      rw [one_hi (by omega) hm0 hm1, basicF, if_neg (by omega), if_neg (by omega), if_neg (by omega), basicF, if_neg (by omega), if_neg (by omega), if_pos (by omega)]
      simp; omega
    rw [e2]; exact h
  · have e : colL c 40 = [48, 5, c - 1] := by rw [colL, if_neg c0, if_neg c1, if_neg c2]; rfl
    rw [e] at h hn ⊢
    refine ends_col l1 l2 (Or.inr rfl) (by omega) (by omega) hn ?_
    rw [if_neg (show ¬ ((48 : Int) = 38) by omega), show c - 1 + 1 = c by omega]
    exact h

/-- the numbers of a pen make it of any other -/
theorem apply_codes {p : Int × Int × Int} (h : RightP p) (q : Int × Int × Int) : applyF (zL (codesL p)) (codesL p).length q = p := by
  obtain ⟨f, b, m⟩ := p
  obtain ⟨h1, h2, h3, h4, h5, h6⟩ := h
  simp only at h1 h2 h3 h4 h5 h6
  have hl := (codes_len (p := (f, b, m))).1
  rw [applyF, if_neg (by omega)]
  have key : Ends (zL (codesL (f, b, m))) (codesL (f, b, m)).length ([] : List Int).length q (f, b, m) := by
    refine ends_list (colL f 30 ++ colL b 40) (0 :: marksL m 10) [] q (fun x hx => ?_) rfl ?_
    · simp only [List.mem_cons] at hx
      rcases hx with rfl | hx
      · omega
      · have := marks_lt hx; omega
    · have e : (0 :: marksL m 10).foldl oneF q = (0, 0, m) := by
        show (marksL m 10).foldl oneF (oneF q 0) = _
        rw [show oneF q 0 = (0, 0, 0) from if_pos (Int.le_refl 0)]
        exact fold_marks h5 h6
      rw [e]
      have e1 : ([] : List Int) ++ ((0 :: marksL m 10) ++ (colL f 30 ++ colL b 40)) = (0 :: marksL m 10) ++ (colL f 30 ++ colL b 40) := rfl
      have hC : codesL (f, b, m) = (0 :: marksL m 10) ++ (colL f 30 ++ colL b 40) := rfl
      rw [e1, hC, show ([] : List Int).length + (0 :: marksL m 10).length = (0 :: marksL m 10).length by simp]
      refine ends_fg (0 :: marksL m 10) (colL b 40) h1 h2 h5 h6 rfl ?_
      have e2 : (0 :: marksL m 10) ++ (colL f 30 ++ colL b 40) = ((0 :: marksL m 10) ++ colL f 30) ++ (colL b 40 ++ []) := by simp
      rw [e2, ← List.length_append]
      refine ends_bg ((0 :: marksL m 10) ++ colL f 30) [] h3 h4 h5 h6 rfl ?_
      refine ends_end ?_
      simp only [List.length_append, List.length_cons, List.length_nil]
      omega
  exact key _ (by simp)
end Go.Proofs.Ytagciaanfjllnaa.PenC
