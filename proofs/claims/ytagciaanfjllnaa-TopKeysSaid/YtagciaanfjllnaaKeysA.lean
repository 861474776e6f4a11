/- The law TopKeys: words for rows that a call owns and for rows that are only read; append. -/
import Derived.Test.YtagciaanfjllnaaBase
import Derived.Test.YtagciaanfjllnaaOpensNums
import Derived.Test.YtagciaanfjllnaaRegion
import Derived.OwnWalk
import Derived.Laws.OwnMore
import Derived.Maps.AppendAt
import Derived.Lib.SmallJoins
import Derived.Deep.QuietTactic
import Derived.Deep.RegionHeld3
import Derived.IntWalk
import Derived.OpenShut
import Derived.RegionTactic
import Derived.ChangeAlike
import Derived.BigRegion
import Derived.BigQuiet
import Derived.Deep.DrawnRows
import Derived.Deep.DeepCutAuto
namespace Go.Proofs.Ytagciaanfjllnaa.Keys
open Go Go.RowKit Go.Proofs.Ytagciaanfjllnaa.Base Go.Proofs.Ytagciaanfjllnaa.Opens
set_option linter.unusedVariables false

/-- whole numbers as values -/
def encs (k : IntKind) (l : List Int) : List Value := l.map (Value.int k)
theorem encs_app (k : IntKind) (l m : List Int) : encs k (l ++ m) = encs k l ++ encs k m := List.map_append
theorem encs_len (k : IntKind) (l : List Int) : (encs k l).length = l.length := List.length_map _
theorem encs_one (k : IntKind) (l : List Int) : ∀ u ∈ encs k l, u.oneCell' = true := by
  intro u hu
  unfold encs at hu
  rw [List.mem_map] at hu
  obtain ⟨x, _, rfl⟩ := hu
  rfl
theorem encs_at {k : IntKind} {l : List Int} {j : Nat} (h : j < l.length) : (encs k l)[j]? = some (.int k (l.getD j 0)) := by
  unfold encs
  rw [List.getElem?_map, List.getElem?_eq_getElem h, List.getD_eq_getElem?_getD, List.getElem?_eq_getElem h]
  rfl

/-- what the append of a row adds: nil, or so many cells -/
def Src (w : World) (xv : Value) (m size : Nat) (news : List Value) : Prop :=
  (xv = .slice none 0 0 ∧ m = 0 ∧ news = []) ∨ ∃ ad c, xv = .slice (some ad) m c ∧ (∀ j u, news[j]? = some u → w.cell? (ad.add j) = some u) ∧ news.length = m * size ∧ ∀ u ∈ news, u.oneCell' = true

theorem run_app {B : Nat} {w : World} {v xv : Value} {xs news : List Value} {n m size bytes : Nat} {t e : TypeId} {z : Value} (ty : TypeId) (ht : Try.prog.underlying t = some (.slice e))
    (hinfo : (Try.prog.info? e).map (fun i => (i.zero, i.size, i.bytes)) = some (some z, size, bytes)) (hz : z.cells.size = size) (hs0 : 0 < size)
    (h : w.ownsRow B e size v n xs) (hx : Src w xv m size news) (hB : B ≤ w.heap.size) (hl : n + m ≤ 100000) (hb : bytes ≤ 100) :
    ∃ v' w', (Builtin.append_ #[t, t] ty #[v, xv]).run Try.prog w = .ok v' w' ∧ w'.ownsRow B e size v' (n + m) (xs ++ news) ∧ w.grownBy w' v.ownBlock ∧ (v'.ownBlock = v.ownBlock ∨ v'.ownBlock = some w.heap.size) := by
  obtain ⟨ti, ti0, ti1, ti2, ti3⟩ := info_parts hinfo
  rcases hx with ⟨rfl, rfl, rfl⟩ | ⟨ad, c, rfl, h1, h2, h3⟩
  · refine ⟨v, w, run_append_owned_none (P := Try.prog) w B t ty e ti size ht ti0 v n xs h, ?_, World.grownBy.refl _ _, Or.inl rfl⟩
    rw [List.append_nil]
    exact h
  · have hmul : (n + m) * bytes ≤ 100000 * 100 := Nat.mul_le_mul hl hb
    obtain ⟨v', w', h4, h5, h6, _, h7⟩ := run_append_own_at (P := Try.prog) w B t ty e ti z size bytes ht ti0 ti1 ti2 ti3 hz hs0 v n xs h ad m c news h2 h1 h3 (by unfold maxLen; omega) (by omega) hB
    exact ⟨v', w', h4, h5, h6, h7⟩
/-- append, in a region whose order is drawn -/
theorem wp_app {o : Oper} {a : Act} {K : Act → World → Prop} {Q : Exit → Act → World → Prop} (s x : Operand) (N : Tmp) (t : TypeId) (hd : o.dst = some N) (ho : o.op = .call { callee := .builtin .append, args := #[s, x], argTypes := #[t, t] })
    {B : Nat} {w : World} {v xv : Value} {xs news : List Value} {n m size bytes : Nat} {e : TypeId} {z : Value} (ht : Try.prog.underlying t = some (.slice e))
    (hinfo : (Try.prog.info? e).map (fun i => (i.zero, i.size, i.bytes)) = some (some z, size, bytes)) (hz : z.cells.size = size) (hs0 : 0 < size)
    (hs : a.eval s = v) (hxv : a.eval x = xv) (h : w.ownsRow B e size v n xs) (hx : Src w xv m size news) (hB : B ≤ w.heap.size) (hl : n + m ≤ 100000) (hb : bytes ≤ 100)
    (hk : ∀ v' w', w'.ownsRow B e size v' (n + m) (xs ++ news) → w.grownBy w' v.ownBlock → (v'.ownBlock = v.ownBlock ∨ v'.ownBlock = some w.heap.size) → K (a.put (some N) v') w') : o.wp Try.prog a w K Q := by
  obtain ⟨v', w', hr, h2, h3, h4⟩ := run_app o.type ht hinfo hz hs0 h hx hB hl hb
  unfold Oper.wp execOp
  simp only [ho, resolve, invoke, builtin, Sem.run_bind, Sem.run_pure, Result.andThen_ok, List.map_toArray, List.map_cons, List.map_nil, hs, hxv, hr]
  show K (a.put o.dst v') w'
  rw [hd]
  exact hk v' w' h2 h3 h4
/-- append, in a region that goes in the text's order -/
theorem wpList_app {ops : Array Oper} {rest : List Oper} {o : Oper} {a : Act} {Q : Exit → Act → World → Prop} (hgd : o.guard = none) (s x : Operand) (t : TypeId) (ho : o.op = .call { callee := .builtin .append, args := #[s, x], argTypes := #[t, t] })
    {B : Nat} {w : World} {v xv : Value} {xs news : List Value} {n m size bytes : Nat} {e : TypeId} {z : Value} (ht : Try.prog.underlying t = some (.slice e))
    (hinfo : (Try.prog.info? e).map (fun i => (i.zero, i.size, i.bytes)) = some (some z, size, bytes)) (hz : z.cells.size = size) (hs0 : 0 < size)
    (hs : a.eval s = v) (hxv : a.eval x = xv) (h : w.ownsRow B e size v n xs) (hx : Src w xv m size news) (hB : B ≤ w.heap.size) (hl : n + m ≤ 100000) (hb : bytes ≤ 100)
    (hk : ∀ v' w', w'.ownsRow B e size v' (n + m) (xs ++ news) → w.grownBy w' v.ownBlock → (v'.ownBlock = v.ownBlock ∨ v'.ownBlock = some w.heap.size) → wpList Try.prog ops Q rest (a.put o.dst v') w') : wpList Try.prog ops Q (o :: rest) a w :=
  wpList_plain hgd fun _ hK => by
    obtain ⟨v', w', hr, h2, h3, h4⟩ := run_app o.type ht hinfo hz hs0 h hx hB hl hb
    unfold Oper.wp execOp
    simp only [ho, resolve, invoke, builtin, Sem.run_bind, Sem.run_pure, Result.andThen_ok, List.map_toArray, List.map_cons, List.map_nil, hs, hxv, hr]
    exact hK _ _ (hk v' w' h2 h3 h4)

/-- a row of whole numbers of kind k (type e) that the call owns: its block is B or newer -/
def Own (k : IntKind) (e B : Nat) (w : World) (v : Value) (l : List Int) : Prop := w.ownsRow B e 1 v l.length (encs k l)
theorem row_stays {B e size n : Nat} {w w' : World} {v : Value} {xs : List Value} (h : w.ownsRow B e size v n xs) (hb : Below w.heap.size w w') : w'.ownsRow B e size v n xs := by
  unfold World.ownsRow at h ⊢
  obtain ⟨h1, h2⟩ := h
  refine ⟨h1, ?_⟩
  rcases h2 with h2 | ⟨g, cap, cur, e, hB, hg, hr⟩
  · exact .inl h2
  · refine .inr ⟨g, cap, cur, e, hB, ?_, hr⟩
    have hlt : g < w.heap.size := by
      rcases Nat.lt_or_ge g w.heap.size with h | h
      · exact h
      · rw [Array.getElem?_eq_none h] at hg; cases hg
    rw [hb.block g hlt]
    exact hg
theorem Own.stays {k : IntKind} {e B : Nat} {w w' : World} {v : Value} {l : List Int} (h : Own k e B w v l) (hb : Below w.heap.size w w') : Own k e B w' v l := row_stays h hb
theorem Own.le {k : IntKind} {e B B' : Nat} {w : World} {v : Value} {l : List Int} (h : Own k e B w v l) (hb : B' ≤ B) : Own k e B' w v l := Joins.ownsRow_le h hb
theorem Own.nil (k : IntKind) (e B : Nat) (w : World) : Own k e B w (.slice none 0 0) [] := World.ownsRow_nil w B e 1
theorem Own.lit {k : IntKind} {e B : Nat} (w : World) (l : List Int) (hB : B ≤ w.heap.size) (hl : l.length ≤ maxLen) : Own k e B (w.alloc (.cells (encs k l).toArray e)) (.slice (some ⟨w.heap.size, 0, none⟩) l.length l.length) l := by
  have h := World.ownsRow_lit (base := B) (e := e) (size := 1) w (encs k l).toArray l.length hB hl (by simp [encs_len])
  simpa [Own, encs_len] using h
theorem Own.of {k : IntKind} {e B n : Nat} {w : World} {v : Value} {l m : List Int} (h : w.ownsRow B e 1 v n (encs k l ++ encs k m)) (hn : n = l.length + m.length) : Own k e B w v (l ++ m) := by
  unfold Own
  rw [encs_app, List.length_append, ← hn]
  exact h

/-- bytes that are only read -/
def Rd (w : World) (v : Value) (l : List Int) : Prop :=
  (v = .slice none 0 0 ∧ l = []) ∨ ∃ a c, v = .slice (some a) l.length c ∧ l.length ≤ c ∧ c ≤ maxLen ∧ (0 < l.length → ∃ b off, a = ⟨b, off, none⟩ ∧ b < w.heap.size ∧ ∀ i, i < l.length → w.cell? ⟨b, off + i, none⟩ = some (.int .u8 (l.getD i 0)))
theorem Rd.stays {w w' : World} {v : Value} {l : List Int} (h : Rd w v l) (hb : Below w.heap.size w w') : Rd w' v l := by
  rcases h with h | ⟨a, c, h1, h2, h3, h4⟩
  · exact .inl h
  · refine .inr ⟨a, c, h1, h2, h3, fun hl => ?_⟩
    obtain ⟨b, off, e, hlt, hc⟩ := h4 hl
    exact ⟨b, off, e, Nat.lt_of_lt_of_le hlt hb.size, fun i hi => (hb.cell (p := ⟨b, off + i, none⟩) hlt).trans (hc i hi)⟩
theorem Rd.grown {w w' : World} {v : Value} {l : List Int} {row : Option Nat} (h : Rd w v l) (hg : w.grownBy w' row) (hne : ∀ g, v.ownBlock = some g → 0 < l.length → some g ≠ row) : Rd w' v l := by
  rcases h with h | ⟨a, c, h1, h2, h3, h4⟩
  · exact .inl h
  · refine .inr ⟨a, c, h1, h2, h3, fun hl => ?_⟩
    obtain ⟨b, off, e, hlt, hc⟩ := h4 hl
    subst e h1
    have hb := hg.block b hlt (hne b rfl hl)
    exact ⟨b, off, rfl, Nat.lt_of_lt_of_le hlt hg.size, fun i hi => (World.cell?_of_block (a := ⟨b, off + i, none⟩) hb).trans (hc i hi)⟩
theorem Own.rd {e B : Nat} {w : World} {v : Value} {l : List Int} (h : Own .u8 e B w v l) : Rd w v l := by
  rcases h.2 with ⟨h1, h2⟩ | ⟨g, cap, cur, h1, h2, h3, h4, h5, h6⟩
  · exact .inl ⟨h1, List.eq_nil_of_length_eq_zero h2⟩
  · refine .inr ⟨⟨g, 0, none⟩, cap, h1, h4, h5, fun _ => ⟨g, 0, rfl, Blk.lt h3, fun i hi => ?_⟩⟩
    have hr : w.ownsRow B e 1 (.slice (some ⟨g, 0, none⟩) l.length cap) l.length (encs .u8 l) := by rw [← h1]; exact h
    have hc := World.ownsRow.cells hr (g := g) rfl i _ (encs_at hi)
    rw [Go.WideShapes.add_plain] at hc
    exact hc
theorem Rd.src {w : World} {v : Value} {l : List Int} (h : Rd w v l) : Src w v l.length 1 (encs .u8 l) := by
  rcases h with ⟨h1, h2⟩ | ⟨a, c, h1, h2, h3, h4⟩
  · subst h2
    exact .inl ⟨h1, rfl, rfl⟩
  · refine .inr ⟨a, c, h1, fun j u hu => ?_, by rw [encs_len, Nat.mul_one], encs_one _ _⟩
    have hj : j < l.length := by
      rcases Nat.lt_or_ge j l.length with h | h
      · exact h
      · rw [List.getElem?_eq_none (by rw [encs_len]; exact h)] at hu; cases hu
    obtain ⟨b, off, e, hlt, hc⟩ := h4 (by omega)
    subst e
    rw [encs_at hj] at hu
    injection hu with hu
    subst hu
    rw [Go.WideShapes.add_plain]
    exact hc j hj
theorem cell_lt {w : World} {p : Addr} {u : Value} (h : w.cell? p = some u) : p.block < w.heap.size := by
  rcases Nat.lt_or_ge p.block w.heap.size with hlt | hge
  · exact hlt
  · simp [World.cell?, Array.getElem?_eq_none hge] at h
theorem Src.stays {w w' : World} {xv : Value} {m size : Nat} {news : List Value} (h : Src w xv m size news) (hb : Below w.heap.size w w') : Src w' xv m size news := by
  rcases h with h | ⟨ad, c, h1, h2, h3, h4⟩
  · exact .inl h
  · exact .inr ⟨ad, c, h1, fun j u hu => (hb.cell (cell_lt (h2 j u hu))).trans (h2 j u hu), h3, h4⟩
theorem src_1 (w : World) (u : Value) (t : TypeId) (c : Nat) (hu : u.oneCell' = true) : Src (w.alloc (.cells #[u] t)) (.slice (some ⟨w.heap.size, 0, none⟩) 1 c) 1 1 [u] := by
  refine .inr ⟨_, c, rfl, fun j s hj => ?_, rfl, fun x hx => ?_⟩
  · have hB := Blk.new w t #[u]
    match j, hj with
    | 0, hj => simp at hj; subst hj; exact hB.cell 0
  · simp at hx; subst hx; exact hu
theorem below_grown {G B e size n : Nat} {W w w' : World} {v : Value} {xs : List Value} (hB : Below G W w) (hg : w.grownBy w' v.ownBlock) (hown : w.ownsRow B e size v n xs) (hG : G ≤ w.heap.size) (hGB : G ≤ B) : Below G W w' :=
  hB.grown hg hG (fun k hk => Nat.le_trans hGB (World.ownsRow.lt hown k hk).1)
theorem grown_of_below {w w' : World} (row : Option Nat) (h : Below w.heap.size w w') : w.grownBy w' row := ⟨h.os, h.tape, h.output, h.size, fun k hk _ => h.block k hk⟩
theorem grown_trans {w x w' : World} {row row' : Option Nat} (h : w.grownBy x row) (h' : x.grownBy w' row') (hr : ∀ k, k < w.heap.size → some k ≠ row → some k ≠ row') : w.grownBy w' row :=
  ⟨h'.os.trans h.os, h'.tape.trans h.tape, h'.output.trans h.output, Nat.le_trans h.size h'.size, fun k hk hne => (h'.block k (Nat.lt_of_lt_of_le hk h.size) (hr k hk hne)).trans (h.block k hk hne)⟩
end Go.Proofs.Ytagciaanfjllnaa.Keys
