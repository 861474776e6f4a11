/- Arguments opened: a slice of pairs. -/
import Derived.Test.YtagciaanfjllnaaOpens
import Derived.Deep.Slices
namespace Go.Proofs.Ytagciaanfjllnaa.Opens
open Go.Joins Go.ChangeShapes Go.WideShapes Go.RowKit Go.Deep

/-- A slice of pairs ([][2]int), as it came in: its first n pairs, as two functions. -/
def Pairs (w : World) (A : Option Addr) (n : Nat) (x y : Nat → Int) : Prop :=
  0 < n → ∃ b off, A = some ⟨b, off, none⟩ ∧ b < w.heap.size ∧ ∀ i, i < n → w.cell? ⟨b, off + i * 2, none⟩ = some (.int .i64 (x i)) ∧ w.cell? ⟨b, off + i * 2 + 1, none⟩ = some (.int .i64 (y i))

section
variable {H : Type} {enc : TypeId × Value → H} {P : Program} {w : World} {spare : Nat → Bool} {held : Bool}
theorem cells_pair {cs : List Value} {e q : TypeId} {fuel : Nat} {b0 : Nat} {z : DataW H × List MemPlace} (he : P.underlying e = some (.array 2 q)) (hq : P.underlying q = some (.int .i64)) (hce : P.cellsOf e = 2) (hcq : P.cellsOf q = 1)
    (h : DataW.trod enc P w b0 spare held fuel e cs = some z) : ∃ m n, cs = [.int .i64 m, .int .i64 n] ∧ (Lit.int .i64 m).wf = true ∧ (Lit.int .i64 n).wf = true := by
  obtain ⟨xs, m, _, _, hl, hxl, hx⟩ := DataW.trod_array he h
  rw [hce] at hl
  have g0 := hx 0 (by omega)
  have g1 := hx 1 (by omega)
  rw [hcq] at g0 g1
  match cs, hl with
  | [c0, c1], _ =>
    match xs, hxl with
    | [z0, z1], _ =>
      simp at g0 g1
      obtain ⟨m0, e0, _, w0⟩ := DataW.trod_int hq g0
      obtain ⟨m1, e1, _, w1⟩ := DataW.trod_int hq g1
      simp at e0 e1
      subst e0 e1
      exact ⟨m0, m1, rfl, w0, w1⟩

theorem open_pairs {t e q : TypeId} {r : Reach} {b0 : Nat} {v : Value} {d : DataW H} {p : List MemPlace} (ht : P.underlying t = some (.slice e)) (he : P.underlying e = some (.array 2 q)) (hq : P.underlying q = some (.int .i64)) (hce : P.cellsOf e = 2) (hcq : P.cellsOf q = 1)
    (hv : Value.okWide P w r b0 t v) (h : DataW.Trod enc P w 0 (fun _ => true) true t v d p) :
    ∃ (A : Option Addr) (n c : Nat) (x y : Nat → Int), v = .slice A n c ∧ n ≤ c ∧ c ≤ maxLen ∧ Pairs w A n x y := by
  obtain ⟨A, n, c, rfl⟩ := okWide_slice ht hv
  obtain ⟨fuel, hf⟩ := h
  have hlt := DataW.trod_lt _ _ _ _ hf
  rcases open_slice ht hf with ⟨hcs, hx⟩ | ⟨a, len, cap, m, n', D, Pl, hcs, hb, hl, hm, hmm, hx, hi⟩
  · simp [Value.cells] at hcs
    obtain ⟨rfl, rfl, rfl⟩ := hcs
    exact ⟨none, 0, 0, fun _ => 0, fun _ => 0, rfl, Nat.le_refl _, by simp [maxLen], fun h0 => absurd h0 (by omega)⟩
  · simp [Value.cells] at hcs
    obtain ⟨rfl, rfl, rfl⟩ := hcs
    have hm' : m = c := by simpa using hmm
    subst hm'
    rw [hce] at hi
    have hx2 : ∀ i, i < m → ∃ z : Int × Int, w.cell? (a.add (i * 2)) = some (.int .i64 z.1) ∧ w.cell? (a.add (i * 2 + 1)) = some (.int .i64 z.2) := by
      intro i him
      obtain ⟨cs', hc, ht'⟩ := hi i him
      obtain ⟨_, _, hat⟩ := World.cells?_some hc
      obtain ⟨m0, m1, rfl, _, _⟩ := cells_pair he hq hce hcq ht'
      have a0 := hat 0 (by omega)
      have a1 := hat 1 (by omega)
      rw [add_add] at a0 a1
      exact ⟨(m0, m1), by simpa using a0, by simpa using a1⟩
    obtain ⟨f, hf2⟩ := choose_lt hx2
    refine ⟨some a, n, m, fun i => (f i).1, fun i => (f i).2, rfl, hl, hm, fun hn => ?_⟩
    obtain ⟨b, off, spot⟩ := a
    have h0 := (hf2 0 (by omega)).1
    have hspot : spot = none := by simpa [Addr.add] using World.cell?_spot h0
    subst hspot
    refine ⟨b, off, rfl, ?_, fun i hi' => ?_⟩
    · rcases Nat.lt_or_ge b w.heap.size with hlt' | hge
      · exact hlt'
      · exfalso
        have : w.cell? ⟨b, off, none⟩ = none := by simp [World.cell?, Array.getElem?_eq_none hge]
        simp [Addr.add, this] at h0
    · have := hf2 i (by omega)
      rw [add_plain, add_plain] at this
      exact this
end
end Go.Proofs.Ytagciaanfjllnaa.Opens
