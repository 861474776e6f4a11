/- Arguments opened: a slice of slices of bytes. -/
import Derived.Test.YtagciaanfjllnaaKeysA
import Derived.Deep.Matrix
namespace Go.Proofs.Ytagciaanfjllnaa.Opens
open Go.Joins Go.ChangeShapes Go.WideShapes Go.RowKit Go.Deep Go.Proofs.Ytagciaanfjllnaa.Keys
section
variable {H : Type} {enc : TypeId × Value → H} {P : Program} {w : World}
theorem spot_of {a : Addr} {u : Value} (h : w.cell? (a.add 0) = some u) : ∃ b off, a = ⟨b, off, none⟩ ∧ b < w.heap.size := by
  obtain ⟨b, off, spot⟩ := a
  have hs : spot = none := by simpa [Addr.add] using World.cell?_spot h
  subst hs
  have h2 := cell_lt h
  rw [add_plain] at h2
  exact ⟨b, off, rfl, h2⟩
theorem open_parts {t e q : TypeId} {r : Reach} {b0 : Nat} {v : Value} {d : DataW H} {p : List MemPlace} (ht : P.underlying t = some (.slice e)) (he : P.underlying e = some (.slice q)) (hq : P.underlying q = some (.int .u8)) (ce : P.cellsOf e = 1) (cq : P.cellsOf q = 1)
    (hv : Value.okWide P w r b0 t v) (h : DataW.Trod enc P w 0 (fun _ => true) true t v d p) :
    ∃ (A : Option Addr) (n c : Nat) (pa : Nat → Option Addr) (pc : Nat → Nat) (pl : Nat → List Int), v = .slice A n c ∧ n ≤ c ∧ c ≤ maxLen ∧
      (0 < n → ∃ b off, A = some ⟨b, off, none⟩ ∧ b < w.heap.size ∧ ∀ i, i < n → w.cell? ⟨b, off + i, none⟩ = some (.slice (pa i) (pl i).length (pc i)) ∧ Rd w (.slice (pa i) (pl i).length (pc i)) (pl i)) := by
  obtain ⟨A, n, c, rfl⟩ := okWide_slice ht hv
  obtain ⟨fuel, hf⟩ := h
  rcases open_int_rows ht he hq ce cq hf with ⟨hcs, hx⟩ | ⟨a, len, cap, Af, L, C, Z, hcs, _, hl, hm, _, hrow⟩
  · simp [Value.cells] at hcs
    obtain ⟨rfl, rfl, rfl⟩ := hcs
    exact ⟨none, 0, 0, fun _ => none, fun _ => 0, fun _ => [], rfl, Nat.le_refl _, Nat.zero_le _, fun h0 => absurd h0 (by omega)⟩
  · simp [Value.cells] at hcs
    obtain ⟨rfl, rfl, rfl⟩ := hcs
    refine ⟨some a, n, c, Af, C, fun i => (Z i).take (L i), rfl, hl, hm, fun hn => ?_⟩
    obtain ⟨b, off, rfl, hb⟩ := spot_of (hrow 0 (by omega)).1
    refine ⟨b, off, rfl, hb, fun i hi => ?_⟩
    obtain ⟨h1, h2, h3, h4, h5, h6, h7⟩ := hrow i (by omega)
    have hlen : ((Z i).take (L i)).length = L i := by rw [List.length_take, h4]; omega
    rw [add_plain] at h1
    simp only [hlen]
    refine ⟨h1, ?_⟩
    cases hA : Af i with
    | none =>
      have hc := h6 hA
      have hL : L i = 0 := by omega
      rw [hc, hL]
      exact .inl ⟨rfl, by simp⟩
    | some a' =>
      obtain ⟨_, hcell⟩ := h7 a' hA
      refine .inr ⟨a', C i, by rw [hlen], by rw [hlen]; exact h2, h3, fun h0 => ?_⟩
      rw [hlen] at h0
      obtain ⟨b', off', rfl, hb'⟩ := spot_of (hcell 0 (by omega))
      refine ⟨b', off', rfl, hb', fun j hj => ?_⟩
      rw [hlen] at hj
      have hx := hcell j (by omega)
      rw [add_plain] at hx
      rw [hx, List.getD_eq_getElem?_getD (l := (Z i).take (L i)), List.getElem?_take, if_pos hj, ← List.getD_eq_getElem?_getD]
end
end Go.Proofs.Ytagciaanfjllnaa.Opens
