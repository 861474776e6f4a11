/- Arguments opened: a slice of whole numbers, as a function of the index. -/
import Derived.Test.YtagciaanfjllnaaOpens
import Derived.Deep.Slices
namespace Go.Proofs.Ytagciaanfjllnaa.Opens
open Go.Joins Go.ChangeShapes Go.WideShapes Go.RowKit Go.Deep
/-- A slice of whole numbers of kind k, as it came in: its first n elements. -/
def Nums (k : IntKind) (w : World) (A : Option Addr) (n : Nat) (z : Nat → Int) : Prop :=
  0 < n → ∃ b off, A = some ⟨b, off, none⟩ ∧ b < w.heap.size ∧ ∀ i, i < n → w.cell? ⟨b, off + i, none⟩ = some (.int k (z i)) ∧ (Lit.int k (z i)).wf = true
section
variable {H : Type} {enc : TypeId × Value → H} {P : Program} {w : World} {spare : Nat → Bool} {held : Bool}
theorem open_nums {k : IntKind} {t e : TypeId} {r : Reach} {b0 : Nat} {v : Value} {d : DataW H} {p : List MemPlace} (ht : P.underlying t = some (.slice e)) (he : P.underlying e = some (.int k)) (hc : P.cellsOf e = 1)
    (hv : Value.okWide P w r b0 t v) (h : DataW.Trod enc P w 0 (fun _ => true) true t v d p) :
    ∃ (A : Option Addr) (n c : Nat) (z : Nat → Int), v = .slice A n c ∧ n ≤ c ∧ c ≤ maxLen ∧ Nums k w A n z := by
  obtain ⟨A, n, c, rfl⟩ := okWide_slice ht hv
  obtain ⟨fuel, hf⟩ := h
  rcases open_ints ht he hc hf with ⟨hcs, hx⟩ | ⟨a, len, cap, zs, hcs, _, hl, hm, hz, hx, hcell, hwz⟩
  · simp [Value.cells] at hcs
    obtain ⟨rfl, rfl, rfl⟩ := hcs
    exact ⟨none, 0, 0, fun _ => 0, rfl, Nat.le_refl _, by simp [maxLen], fun h0 => absurd h0 (by omega)⟩
  · simp [Value.cells] at hcs
    obtain ⟨rfl, rfl, rfl⟩ := hcs
    simp at hz
    refine ⟨some a, n, c, fun i => zs.getD i 0, rfl, hl, hm, fun hn => ?_⟩
    obtain ⟨b, off, spot⟩ := a
    have h0 := hcell 0 (by omega)
    have hspot : spot = none := by simpa [Addr.add] using World.cell?_spot h0
    subst hspot
    refine ⟨b, off, rfl, ?_, fun i hi' => ⟨?_, ?_⟩⟩
    · rcases Nat.lt_or_ge b w.heap.size with hlt' | hge
      · exact hlt'
      · exfalso
        have : w.cell? ⟨b, off, none⟩ = none := by simp [World.cell?, Array.getElem?_eq_none hge]
        simp [Addr.add, this] at h0
    · have := hcell i (by omega)
      rw [add_plain] at this
      exact this
    · refine hwz _ ?_
      show zs.getD i 0 ∈ zs
      rw [List.getD_eq_getElem?_getD, List.getElem?_eq_getElem (by omega)]
      simp
end
theorem nums_stays {k : IntKind} {w w' : World} {A : Option Addr} {n : Nat} {z : Nat → Int} (h : Nums k w A n z) (hb : Below w.heap.size w w') : Nums k w' A n z := by
  intro hn
  obtain ⟨b, off, e, hlt, hc⟩ := h hn
  refine ⟨b, off, e, Nat.lt_of_lt_of_le hlt hb.size, fun i hi => ?_⟩
  obtain ⟨h1, h2⟩ := hc i hi
  exact ⟨(hb.cell (p := ⟨b, _, none⟩) hlt).trans h1, h2⟩
end Go.Proofs.Ytagciaanfjllnaa.Opens
