/- The law TopKeys: contracts of the intake, and of the document's comparison of bytes. -/
import Derived.Test.YtagciaanfjllnaaKeysC
namespace Go.Proofs.Ytagciaanfjllnaa.Keys
open Go Go.RowKit Go.Proofs.Ytagciaanfjllnaa.Base Go.Proofs.Ytagciaanfjllnaa.Opens Go.Proofs.Ytagciaanfjllnaa.Reg Go.Proofs.YtagciaanfjllnaaW.PrintWords
set_option linter.unusedVariables false
set_option linter.unusedSimpArgs false
attribute [local go_sem ↓] Go.wp_at_zero Go.wp_at_succ
attribute [local go_sem high] eq32 eq45

theorem Blk.one {w : World} {g : Nat} {t : TypeId} {a : Value} (h : Blk w g t #[a]) : w.cell? ⟨g, 0, none⟩ = some a ∧ w.frozen? ⟨g, 0, none⟩ = false := ⟨h.cell 0, h.frozen 0⟩
theorem Blk.set1 {w : World} {g : Nat} {t : TypeId} {x : Value} (h : Blk w g t #[x]) (a : Value) : Blk (w.setCell ⟨g, 0, none⟩ a) g t #[a] := by
  simpa using h.set_ 0 a

set_option maxHeartbeats 4000000 in
set_option maxRecDepth 100000 in
theorem room_c (W : World) : Calls Try.prog 74 #[.agg #[.slice none 0 0]] W fun e w' => e = .returned (.int .i64 256) ∧ Below W.heap.size W w' := by
  go_enter Try.func74, Try.ntmps74
  go_wp2_with fail
  go_ret
  exact ⟨rfl, (Below.refl _ _).alloc (Nat.le_refl _) _⟩

set_option maxHeartbeats 4000000 in
set_option maxRecDepth 100000 in
theorem iput_c {B : Option Addr} {d : List Int} {c' : Nat} {W : World} (hd : d.length ≤ 200) (h2 : Rd W (.slice B d.length c') d) :
    Calls Try.prog 60 #[.agg #[.slice none 0 0], .slice B d.length c'] W fun e w' => ∃ v', e = .returned (.tuple #[.agg #[v'], .int .i64 0]) ∧ Own .u8 5 W.heap.size w' v' d ∧ Below W.heap.size W w' := by
  have n1 : ¬ (256 : Int) < d.length := by omega
  go_enter Try.func60, Try.ntmps60
  have N0 : Blk ((W.alloc (.cells #[.slice none 0 0] 102)).alloc (.cells #[.slice none 0 0] 102)) W.heap.size 102 #[.slice none 0 0] := (Blk.new W 102 _).alloc _
  have N1 := new2 W #[.slice none 0 0] #[.slice none 0 0] 102 102
  have NB := Joins.below_alloc2 W (.cells #[.slice none 0 0] 102) (.cells #[.slice none 0 0] 102)
  go_wp2_with (first | (go_at_call 74; refine (room_c _).mono ?_; rintro _ w1 ⟨rfl, hb⟩; have K0 := N0.stays hb; have K1 := N1.stays hb; have KB := NB.trans (hb.mono (by simp; omega)); obtain ⟨c0, y0⟩ := Blk.one K0; obtain ⟨d0, x0⟩ := Blk.one K1) | (go_at_call 71; have Y1 := K1.alloc (.cells #[.slice none 0 0, .slice B d.length c'] 32); have YB := KB.alloc KB.size (.cells #[.slice none 0 0, .slice B d.length c'] 32); have Y2 := Blk.new w1 32 #[.slice none 0 0, .slice B d.length c']; refine (concat_c (l1 := []) Y2 (.inl ⟨rfl, rfl⟩) (h2.stays YB) (by simp) (by omega)).mono ?_; rintro _ x ⟨v', rfl, ho, hx⟩; obtain ⟨A', n', c2, rfl⟩ := own_form ho; have Z1 := Y1.stays hx; have ZB := YB.trans (hx.mono YB.size); clear c0 y0 d0 x0; obtain ⟨d0, x0⟩ := Blk.one Z1))
  refine bodyPost_ret (results_ct rfl _ _ (W.heap.size + 1) 102 _ (0, 0) _ rfl (Blk.set1 Z1 _) Try.underlying102 rfl (by kernel_rfl)) rfl ?_
  exact ⟨_, rfl, row_far (Own.le ho YB.size) Z1 (by decide) _ _, ZB.setCell (Nat.le_succ _) _⟩

theorem src_1' (w : World) (u : Value) (t : TypeId) (c g : Nat) (hg : g = w.heap.size) (hu : u.oneCell' = true) : Src (w.alloc (.cells #[u] t)) (.slice (some ⟨g, 0, none⟩) 1 c) 1 1 [u] := by
  subst hg
  exact src_1 w u t c hu
theorem row_alloc {B e size n : Nat} {w : World} {v : Value} {xs : List Value} (h : w.ownsRow B e size v n xs) (o : Obj) : (w.alloc o).ownsRow B e size v n xs := World.ownsRow.alloc h o
theorem row_neT {B e size n g : Nat} {t : TypeId} {cs : Array Value} {w : World} {v : Value} {xs : List Value} (h : w.ownsRow B e size v n xs) (hD : Blk w g t cs) (ht : t ≠ e) : some g ≠ v.ownBlock := fun e' => by
  rcases h.2 with ⟨h1, _⟩ | ⟨g2, cap, cur, h1, _, h2, _⟩
  · rw [h1] at e'; simp [Value.ownBlock] at e'
  · rw [h1] at e'
    simp only [Value.ownBlock, Option.some.injEq] at e'
    subst e'
    exact Blk.ne_ hD h2 ht rfl
theorem Rd.cellAt {w : World} {b off n c : Nat} {l : List Int} (h : Rd w (.slice (some ⟨b, off, none⟩) n c) l) {i : Nat} (hi : i < l.length) : w.cell? ⟨b, off + i, none⟩ = some (.int .u8 (l.getD i 0)) := by
  rcases h with ⟨h1, h2⟩ | ⟨a, cc, h1, h2, h3, h4⟩
  · cases h1
  · cases h1
    obtain ⟨b', off', e, hlt, hc⟩ := h4 (by omega)
    cases e
    exact hc i hi
def encE (d : List Int) : List Value := d.flatMap (fun b => [.int .i64 1, .int .i64 2, .int .u8 b])
theorem encE_snoc (d : List Int) (b : Int) : encE (d ++ [b]) = encE d ++ [.int .i64 1, .int .i64 2, .int .u8 b] := by simp [encE]
theorem src_3 (w : World) (a b c : Value) (t : TypeId) (k : Nat) (ha : a.oneCell' = true) (hb : b.oneCell' = true) (hc : c.oneCell' = true) : Src (w.alloc (.cells #[a, b, c] t)) (.slice (some ⟨w.heap.size, 0, none⟩) 1 k) 1 3 [a, b, c] := by
  refine .inr ⟨_, k, rfl, fun j s hj => ?_, rfl, fun x hx => ?_⟩
  · have hB := Blk.new w t #[a, b, c]
    match j, hj with
    | 0, hj => simp at hj; subst hj; exact hB.cell 0
    | 1, hj => simp at hj; subst hj; exact hB.cell 1
    | 2, hj => simp at hj; subst hj; exact hB.cell 2
  · simp at hx
    rcases hx with rfl | rfl | rfl <;> assumption
theorem info126 : (Try.prog.info? 126).map (fun i => (i.zero, i.size, i.bytes)) = some (some (.agg #[.int .i64 0, .int .i64 0, .int .u8 0]), 3, 24) := by kernel_rfl
/-- a row of entries that the call owns -/
def OwnE (B : Nat) (w : World) (v : Value) (d : List Int) : Prop := w.ownsRow B 126 3 v d.length (encE d)
theorem take_snoc {d : List Int} {i : Nat} (h : i < d.length) : d.take (i + 1) = d.take i ++ [d.getD i 0] := by
  rw [List.take_add_one, List.getD_eq_getElem?_getD, List.getElem?_eq_getElem h]; rfl
theorem OwnE.snoc {B n : Nat} {w : World} {v : Value} {d : List Int} {i : Nat} (hi : i < d.length) (h : w.ownsRow B 126 3 v n (encE (d.take i) ++ [.int .i64 1, .int .i64 2, .int .u8 (d.getD i 0)])) (hn : n = i + 1) : OwnE B w v (d.take (i + 1)) := by
  unfold OwnE
  rw [take_snoc hi, encE_snoc, List.length_append, List.length_take, Nat.min_eq_left (by omega), List.length_singleton, ← hn]
  exact h

set_option maxHeartbeats 4000000 in
set_option maxRecDepth 100000 in
theorem flush_c {A : Option Addr} {d : List Int} {c : Nat} {W : World} (hd : d.length ≤ 1000) (h1 : Rd W (.slice A d.length c) d) :
    Calls Try.prog 61 #[.agg #[.slice A d.length c], .int .i64 1, .int .i64 2] W fun e w' => ∃ v', e = .returned (.tuple #[.agg #[.slice none 0 0], v']) ∧ OwnE W.heap.size w' v' d ∧ Below W.heap.size W w' := by
  go_enter Try.func61, Try.ntmps61
  have N0 : Blk ((W.alloc (.cells #[.slice A d.length c] 102)).alloc (.cells #[.slice none 0 0] 102)) W.heap.size 102 #[.slice A d.length c] := (Blk.new W 102 _).alloc _
  have N1 := new2 W #[.slice A d.length c] #[.slice none 0 0] 102 102
  have NB := Joins.below_alloc2 W (.cells #[.slice A d.length c] 102) (.cells #[.slice none 0 0] 102)
  go_wp2_with fail
  go_loopw [8, 10, 14] (fun v8 v10 v14 wr => ∃ i : Nat, i ≤ d.length ∧ v14 = .int .i64 i ∧ OwnE W.heap.size wr v8 (d.take i) ∧ Below W.heap.size W wr ∧ Blk wr (W.heap.size + 1) 102 #[.slice none 0 0]) (fun _ _ v14 _ => d.length - (intOf v14).toNat)
  case atStart => exact ⟨0, Nat.zero_le _, rfl, World.ownsRow_nil _ _ _ _, NB, N1⟩
  case round =>
    clear N0 N1 NB
    obtain ⟨i, hi, rfl, ho, HB, HD⟩ := hrel
    by_cases hlt : i < d.length
    · have hk0 : (0 : Int) ≤ (i : Int) := Int.natCast_nonneg _
      have hk1 : (i : Int) < (d.length : Int) := by omega
      obtain ⟨b, off, rfl, hbz⟩ := h1.some_ (by omega)
      have hc := (h1.stays HB).cellAt hlt
      obtain ⟨x, hx⟩ : ∃ x, d.getD i 0 = x := ⟨_, rfl⟩
      rw [hx] at hc
      have HX := Lib.hid hx
      clear hx
      have hlen : (d.take i).length = i := by rw [List.length_take]; omega
      have ho2 : wr.ownsRow W.heap.size 126 3 u8 i (encE (d.take i)) := by have h := ho; unfold OwnE at h; rw [hlen] at h; exact h
      clear hlen ho
      go_wp2_with (at_builtin; (refine wpList_app rfl (.tmp 18) (.tmp 23) 105 rfl Try.underlying105 info126 rfl (by decide) (by rfl) (by rfl) (row_alloc ho2 _) (src_3 _ _ _ _ _ _ rfl rfl rfl) (by rw [World.size_alloc]; have := HB.size; omega) (by omega) (by decide) ?_); intro v' w' ho' hg _)
      go_roundw
      case rel => exact ⟨i + 1, by omega, by go_num, OwnE.snoc hlt (by rw [HX.out]; exact ho') rfl, below_grown (HB.alloc HB.size _) hg (row_alloc ho2 _) (by rw [World.size_alloc]; have := HB.size; omega) (Nat.le_refl _), Blk.grown (HD.alloc _) hg (row_neT ho2 HD (by decide))⟩
      case measure => simp [intOf]; omega
    · have hin : i = d.length := by omega
      subst hin
      rw [List.take_of_length_le (Nat.le_refl _)] at ho
      obtain ⟨d0, x0⟩ := Blk.one HD
      go_wp2_with fail
      refine bodyPost_ret (results_ct rfl _ _ (W.heap.size + 1) 102 _ (0, 0) _ rfl (Blk.set1 HD _) Try.underlying102 rfl (by kernel_rfl)) rfl ?_
      exact ⟨_, rfl, row_far ho HD (by decide) _ _, HB.setCell (Nat.le_succ _) _⟩

theorem OwnE.len {B : Nat} {w : World} {v : Value} {d : List Int} (h : OwnE B w v d) : ∃ A c, v = .slice A d.length c ∧ (0 < d.length → ∃ g, A = some ⟨g, 0, none⟩ ∧ g < w.heap.size ∧ ∀ i, i < d.length → w.cell? ⟨g, i * 3, none⟩ = some (.int .i64 1) ∧ w.cell? ⟨g, i * 3 + 1, none⟩ = some (.int .i64 2) ∧ w.cell? ⟨g, i * 3 + 2, none⟩ = some (.int .u8 (d.getD i 0))) := by
  rcases h.2 with ⟨h1, h2⟩ | ⟨g, cap, cur, h1, h2, h3, h4, h5, h6, h7⟩
  · exact ⟨none, 0, by rw [h1, h2], fun h0 => by omega⟩
  · refine ⟨_, cap, h1, fun _ => ⟨g, rfl, Blk.lt h3, fun i hi => ?_⟩⟩
    have hr : w.ownsRow B 126 3 (.slice (some ⟨g, 0, none⟩) d.length cap) d.length (encE d) := by rw [← h1]; exact h
    have key : ∀ (d : List Int) i, i < d.length → (encE d)[i * 3]? = some (.int .i64 1) ∧ (encE d)[i * 3 + 1]? = some (.int .i64 2) ∧ (encE d)[i * 3 + 2]? = some (.int .u8 (d.getD i 0)) := by
      intro d
      induction d with
      | nil => intro i hi; simp at hi
      | cons b d ih =>
        intro i hi
        have e : encE (b :: d) = .int .i64 1 :: .int .i64 2 :: .int .u8 b :: encE d := by simp [encE]
        rw [e]
        cases i with
        | zero => exact ⟨rfl, rfl, rfl⟩
        | succ i =>
          have := ih i (by simpa using hi)
          rw [show (i + 1) * 3 = i * 3 + 3 by omega]
          simpa using this
    obtain ⟨k0, k1, k2⟩ := key d i hi
    have c0 := World.ownsRow.cells hr (g := g) rfl _ _ k0
    have c1 := World.ownsRow.cells hr (g := g) rfl _ _ k1
    have c2 := World.ownsRow.cells hr (g := g) rfl _ _ k2
    rw [Go.WideShapes.add_plain, Nat.zero_add] at c0 c1 c2
    exact ⟨c0, c1, c2⟩

set_option maxHeartbeats 4000000 in
set_option maxRecDepth 100000 in
theorem bytes_c {B : Nat} {v : Value} {d : List Int} {W : World} (hd : d.length ≤ 1000) (h1 : OwnE B W v d) :
    Calls Try.prog 62 #[v] W fun e w' => ∃ v', e = .returned v' ∧ Own .u8 5 W.heap.size w' v' d ∧ Below W.heap.size W w' := by
  obtain ⟨A, c, rfl, hcells⟩ := h1.len
  go_enter Try.func62, Try.ntmps62
  go_wp2_with fail
  go_loopw [3, 5, 8] (fun v3 v5 v8 wr => ∃ i : Nat, i ≤ d.length ∧ v8 = .int .i64 i ∧ Own .u8 5 W.heap.size wr v3 (d.take i) ∧ Below W.heap.size W wr) (fun _ _ v8 _ => d.length - (intOf v8).toNat)
  case atStart => exact ⟨0, Nat.zero_le _, rfl, Own.nil _ _ _ _, Below.refl _ _⟩
  case round =>
    obtain ⟨i, hi, rfl, ho, HB⟩ := hrel
    by_cases hlt : i < d.length
    · have hk0 : (0 : Int) ≤ (i : Int) := Int.natCast_nonneg _
      have hk1 : (i : Int) < (d.length : Int) := by omega
      obtain ⟨g, rfl, hg, hc⟩ := hcells (by omega)
      obtain ⟨c0, c1, c2⟩ := hc i hlt
      have e0 := (HB.cell (p := ⟨g, i * 3, none⟩) hg).trans c0
      have e1 := (HB.cell (p := ⟨g, i * 3 + 1, none⟩) hg).trans c1
      have e2 := (HB.cell (p := ⟨g, i * 3 + 2, none⟩) hg).trans c2
      obtain ⟨x, hx⟩ : ∃ x, d.getD i 0 = x := ⟨_, rfl⟩
      rw [hx] at e2
      have HX := Lib.hid hx
      have hlen : (d.take i).length = i := by rw [List.length_take]; omega
      have ho2 : wr.ownsRow W.heap.size 5 1 u3 i (encs .u8 (d.take i)) := by have h := ho; unfold Own at h; rw [hlen] at h; exact h
      have HLN := Lib.hid hlen
      clear hx hc c0 c1 c2 hcells hlen ho
      go_wp2_with (at_builtin; (refine wpList_app rfl (.tmp 12) (.tmp 15) 32 rfl Try.underlying32 info5 rfl (by decide) (by rfl) (by rfl) (row_alloc (row_alloc ho2 _) _) (src_1' _ _ _ _ _ (by simp) rfl) (by simp only [World.size_alloc]; have := HB.size; omega) (by omega) (by decide) ?_); intro v' w' ho' hgr _)
      go_roundw
      case rel => exact ⟨i + 1, by omega, by go_num, by rw [take_snoc hlt, HX.out]; exact Own.of ho' (by rw [HLN.out]; rfl), below_grown ((HB.alloc HB.size _).alloc (by rw [World.size_alloc]; have := HB.size; omega) _) hgr (row_alloc (row_alloc ho2 _) _) (by simp only [World.size_alloc]; have := HB.size; omega) (Nat.le_refl _)⟩
      case measure => simp [intOf]; omega
    · have hin : i = d.length := by omega
      subst hin
      rw [List.take_of_length_le (Nat.le_refl _)] at ho
      go_wp2_with fail
      go_ret
      exact ⟨_, rfl, ho, HB⟩

set_option maxHeartbeats 4000000 in
set_option maxRecDepth 100000 in
theorem same_c {v1 v2 : Value} {l : List Int} {W : World} (hl : l.length ≤ 100000) (h1 : Rd W v1 l) (h2 : Rd W v2 l) :
    Calls Try.prog 28 #[v1, v2] W fun e w' => e = .returned (.bool true) ∧ Below W.heap.size W w' := by
  obtain ⟨A1, c1, rfl⟩ := h1.form
  obtain ⟨A2, c2, rfl⟩ := h2.form
  go_enter Try.func28, Try.ntmps28
  go_wp2_with fail
  go_loopw [5] (fun v5 wr => ∃ i : Nat, i ≤ l.length ∧ v5 = .int .i64 i ∧ Below W.heap.size W wr) (fun v5 _ => l.length - (intOf v5).toNat)
  case atStart => exact ⟨0, Nat.zero_le _, rfl, Below.refl _ _⟩
  case round =>
    obtain ⟨i, hi, rfl, HB⟩ := hrel
    by_cases hlt : i < l.length
    · have hk0 : (0 : Int) ≤ (i : Int) := Int.natCast_nonneg _
      have hk1 : (i : Int) < (l.length : Int) := by omega
      have g1 := h1.stays HB
      have g2 := h2.stays HB
      obtain ⟨b1, o1, rfl, hb1⟩ := g1.some_ (by omega)
      obtain ⟨b2, o2, rfl, hb2⟩ := g2.some_ (by omega)
      have e1 := g1.cellAt hlt
      have e2 := g2.cellAt hlt
      generalize l.getD i 0 = x at e1 e2
      go_wp2_with fail
      go_quiet (fail)
      go_wp2_with fail
      go_roundw
      case rel => exact ⟨i + 1, by omega, by go_num, HB.trans (Joins.below_draws _ _ _)⟩
      case measure => simp [intOf]; omega
    · have hin : i = l.length := by omega
      subst hin
      go_wp2_with fail
      go_ret
      exact ⟨rfl, HB⟩

end Go.Proofs.Ytagciaanfjllnaa.Keys
