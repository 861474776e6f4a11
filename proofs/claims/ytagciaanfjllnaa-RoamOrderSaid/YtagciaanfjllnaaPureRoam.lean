/- roam's order, in plain Lean: of pairs with unlike first numbers, any row of picks that holds each of them tells the same greatest number and address. -/
import Derived.Test.YtagciaanfjllnaaRoamParts
namespace Go.Proofs.Ytagciaanfjllnaa.Roam
theorem bi_max {x : Nat → Int} {k : Nat} : ∀ i, i < k → x i ≤ x (bi x k) := by
  induction k with
  | zero => intro i h; omega
  | succ k ih =>
    intro i hi
    unfold bi
    by_cases h0 : k = 0
    · subst h0
      have : i = 0 := by omega
      subst this
      simp
    · rw [if_neg h0]
      by_cases hx : x (bi x k) < x k
      · rw [if_pos hx]
        by_cases hik : i = k
        · subst hik; omega
        · have := ih i (by omega); omega
      · rw [if_neg hx]
        by_cases hik : i = k
        · subst hik; omega
        · exact ih i (by omega)

theorem same_best {x y x' y' : Nat → Int} {n : Nat} {p : List Nat} (hn : 0 < n) (hx : ∀ j, j < p.length → x' j = x (p.getD j 0) ∧ y' j = y (p.getD j 0)) (hp : ∀ i ∈ p, i < n) (hall : ∀ i, i < n → i ∈ p)
    (hd : ∀ i j, i < n → j < n → x i = x j → i = j) : kb p.length = kb n ∧ N x' p.length = N x n ∧ D x' y' p.length = D x y n := by
  have hl : 0 < p.length := List.length_pos_of_mem (hall 0 hn)
  have hb := bi_lt (x := x') hl
  have hbn := bi_lt (x := x) hn
  have hmem : p.getD (bi x' p.length) 0 ∈ p := by
    rw [List.getD_eq_getElem?_getD, List.getElem?_eq_getElem hb]
    simp
  have hlt := hp _ hmem
  have hle := bi_max (x := x) (p.getD (bi x' p.length) 0) hlt
  obtain ⟨j, hj, hje⟩ := List.getElem_of_mem (hall _ hbn)
  have hge := bi_max (x := x') j hj
  have e1 := (hx j hj).1
  rw [List.getD_eq_getElem?_getD, List.getElem?_eq_getElem hj] at e1
  simp only [Option.getD_some] at e1
  rw [hje] at e1
  obtain ⟨e2, e3⟩ := hx _ hb
  have heq := hd _ _ hlt hbn (by omega)
  refine ⟨?_, ?_, ?_⟩
  · unfold kb; rw [decide_eq_true hl, decide_eq_true hn]
  · unfold N; rw [if_neg (by omega), if_neg (by omega), e2, heq]
  · unfold D; rw [if_neg (by omega), if_neg (by omega), e3, heq]
end Go.Proofs.Ytagciaanfjllnaa.Roam
