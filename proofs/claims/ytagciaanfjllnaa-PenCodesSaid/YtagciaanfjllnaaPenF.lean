/- The pen's contracts: a pen changed by numbers. -/
import Derived.Test.YtagciaanfjllnaaPenE
import Derived.Deep.QuietTactic
import Derived.Lib.Hide
import Derived.Laws.OwnMore
namespace Go.Proofs.Ytagciaanfjllnaa.PenC
open Go Go.RowKit Go.Proofs.Ytagciaanfjllnaa.Base Go.Proofs.Ytagciaanfjllnaa.Opens Go.Proofs.Ytagciaanfjllnaa.Reg
set_option linter.unusedVariables false

/-- from the i-th number on -/
def runF (z : Nat → Int) (n : Nat) : Nat → Nat → Int × Int × Int → Int × Int × Int
  | 0, _, p => p
  | k + 1, i, p => if n ≤ i then p else if z i ≠ 38 ∧ z i ≠ 48 then runF z n k (i + 1) (oneF p (z i)) else
      runF z n k (i + 1 + (colF (n - (i + 1)) (z (i + 1)) (z (i + 2))).2.toNat) (if (colF (n - (i + 1)) (z (i + 1)) (z (i + 2))).1 < 0 then p else if z i = 38 then ((colF (n - (i + 1)) (z (i + 1)) (z (i + 2))).1 + 1, p.2.1, p.2.2) else (p.1, (colF (n - (i + 1)) (z (i + 1)) (z (i + 2))).1 + 1, p.2.2))
def applyF (z : Nat → Int) (n : Nat) (p : Int × Int × Int) : Int × Int × Int := if n = 0 then (0, 0, 0) else runF z n n 0 p
theorem run_end {z : Nat → Int} {n k i : Nat} {p : Int × Int × Int} (h : n ≤ i) : runF z n k i p = p := by
  cases k with
  | zero => rfl
  | succ k => unfold runF; rw [if_pos h]
theorem run_one {z : Nat → Int} {n k i : Nat} {p : Int × Int × Int} (h : i < n) (h1 : z i ≠ 38) (h2 : z i ≠ 48) : runF z n (k + 1) i p = runF z n k (i + 1) (oneF p (z i)) := by
  rw [runF, if_neg (by omega), if_pos ⟨h1, h2⟩]
theorem run_col {z : Nat → Int} {n k i : Nat} {p : Int × Int × Int} (h : i < n) (h1 : z i = 38 ∨ z i = 48) : runF z n (k + 1) i p =
    runF z n k (i + 1 + (colF (n - (i + 1)) (z (i + 1)) (z (i + 2))).2.toNat) (if (colF (n - (i + 1)) (z (i + 1)) (z (i + 2))).1 < 0 then p else if z i = 38 then ((colF (n - (i + 1)) (z (i + 1)) (z (i + 2))).1 + 1, p.2.1, p.2.2) else (p.1, (colF (n - (i + 1)) (z (i + 1)) (z (i + 2))).1 + 1, p.2.2)) := by
  rw [runF, if_neg (by omega), if_neg (by omega)]

theorem put1 {w : World} {g : Nat} {t : TypeId} {a b c : Value} (h : Blk w g t #[a, b, c]) (v : Value) : Blk (w.setCell ⟨g, 1, none⟩ v) g t #[a, v, c] := by
  simpa using h.set_ 1 v

set_option maxHeartbeats 4000000 in
set_option maxRecDepth 100000 in
theorem apply_some {bl off n c : Nat} {z : Nat → Int} {p : Int × Int × Int} {W : World} (hf : Nums .i64 W (some ⟨bl, off, none⟩) n z) (hn : n ≤ maxLen) (hn1 : 0 < n) (hnc : n ≤ c) (hcm : c ≤ maxLen) :
    Calls Try.prog 54 #[.agg #[.int .i64 p.1, .int .i64 p.2.1, .int .i64 p.2.2], .slice (some ⟨bl, off, none⟩) n c] W fun e w' => e = .returned (.agg #[.int .i64 (runF z n n 0 p).1, .int .i64 (runF z n n 0 p).2.1, .int .i64 (runF z n n 0 p).2.2]) ∧ Below W.heap.size W w' := by
  unfold maxLen at hn hcm
  have hn0' : ((n : Int) == 0) = false := by simp; omega
  go_enter Try.func54, Try.ntmps54
  go_wp2_with fail
  go_loopw [5] (fun v5 wr => ∃ (i : Nat) (q : Int × Int × Int) (k : Nat), i ≤ n ∧ v5 = .int .i64 i ∧ n - i ≤ k ∧ runF z n k i q = runF z n n 0 p ∧ Below W.heap.size W wr ∧ Blk wr W.heap.size 90 #[.int .i64 q.1, .int .i64 q.2.1, .int .i64 q.2.2] ∧ Blk wr (W.heap.size + 1) 90 #[.int .i64 0, .int .i64 0, .int .i64 0]) (fun v5 _ => n - (intOf v5).toNat)
  case atStart => exact ⟨0, p, n, Nat.zero_le _, rfl, Nat.le_refl _, rfl, Joins.below_alloc2 W _ _, (Blk.new W 90 _).alloc _, new2 W _ _ 90 90⟩
  case round =>
    obtain ⟨i, q, k, hi, rfl, hk, hR, hB, C2, C4⟩ := hrel
    have HR := Lib.hid hR
    clear hR
    by_cases hlt : i < n
    · obtain ⟨bl2, off2, e2, hbl, hcell⟩ := nums_stays hf hB hn1
      cases e2
      have hk0 : (0 : Int) ≤ (i : Int) := Int.natCast_nonneg _
      have hk1 : (i : Int) < (n : Int) := by omega
      have hci := (hcell i hlt).1
      obtain ⟨k', rfl⟩ : ∃ k', k = k' + 1 := ⟨k - 1, by omega⟩
      obtain ⟨c0, c1, c2, y0, y1, y2⟩ := Blk.three C2
      by_cases h38 : z i = 38
      · have H : z i = 38 ∨ z i = 48 := Or.inl h38
        obtain ⟨cv, hcv⟩ : ∃ cv, colF (n - (i + 1)) (z (i + 1)) (z (i + 2)) = cv := ⟨_, rfl⟩
        have hbd := colF_bd (n - (i + 1)) (z (i + 1)) (z (i + 2))
        have hrun := (run_col (k := k') (p := q) hlt H).symm.trans HR.out
        rw [hcv] at hbd hrun
        have hN : Nums .i64 wr (some ⟨bl, off + (i + 1), none⟩) (n - (i + 1)) (fun j => z (i + 1 + j)) := fun _ => ⟨bl, off + (i + 1), rfl, hbl, fun j hj => by
          have h := hcell (i + 1 + j) (by omega)
          rw [show off + (i + 1 + j) = off + (i + 1) + j by omega] at h
          exact h⟩
        have hcall := fun c' => colour_c (c := c') hN (by unfold maxLen; omega)
        have hcall2 : ∀ c', Calls Try.prog 52 #[.slice (some ⟨bl, off + (i + 1), none⟩) (n - (i + 1)) c'] wr fun e w' => e = .returned (.tuple #[.int .i64 cv.1, .int .i64 cv.2]) ∧ Below wr.heap.size wr w' := by
          intro c'
          have h := hcall c'
          rw [show colF (n - (i + 1)) (z (i + 1 + 0)) (z (i + 1 + 1)) = cv from hcv] at h
          exact h
        clear hcall hN hcell
        have g1 : (z i != 38) = false := bne_eq_false_iff_eq.mpr h38
        obtain ⟨u, v⟩ := cv
        simp only at hbd hrun hcall2
        obtain ⟨m, rfl⟩ : ∃ m : Nat, v = (m : Int) := ⟨v.toNat, by omega⟩
        by_cases hu : u < 0
        · rw [if_pos hu] at hrun
          have HR2 := Lib.hid hrun
          clear hrun
          have hmi : (i : Int) + m + 1 ≤ n := by omega
          by_cases hci1 : c = i + 1
          · have hz : n - (i + 1) = 0 := by omega
            have e0 : colF 0 (z (i + 1)) (z (i + 2)) = (-1, 0) := rfl
            rw [hz, e0] at hcv
            have em : (0 : Int) = (m : Int) := congrArg Prod.snd hcv
            have HC : ∀ (A : Option Addr) (c' : Nat), Calls Try.prog 52 #[.slice A 0 c'] wr fun e w' => e = .returned (.tuple #[.int .i64 (-1), .int .i64 0]) ∧ Below wr.heap.size wr w' := fun A c' => colour_c (A := A) (n := 0) (c := c') (z := z) (fun h => absurd h (by omega)) (by unfold maxLen; omega)
            have hm0 : m = 0 := by omega
            subst hm0
            have HZ := Lib.hid hz
            clear hcall2 hz e0 hmi em hbd
            go_wp2_with (go_at_call 52; (try rw [HZ.out]); (try rw [Nat.sub_self]); with_reducible refine (HC _ _).mono ?_; rintro _ x ⟨rfl, hx⟩; have D2 := C2.stays hx; have D4 := C4.stays hx; have DB := hB.trans (hx.mono hB.size); clear c0 c1 c2 y0 y1 y2; obtain ⟨c0, c1, c2, y0, y1, y2⟩ := Blk.three D2)
            go_roundw
            case rel =>
              (repeat apply Exists.intro)
              rw [hci1]
              refine And.intro ?_ rfl
              exact ⟨i + 1, q, k', by omega, by go_num, by omega, HR2.out, DB, D2, D4⟩
            case measure => simp [intOf]; omega
          · have HC := hcall2
            clear hcall2
            go_wp2_with (go_at_call 52; with_reducible refine (HC _).mono ?_; rintro _ x ⟨rfl, hx⟩; have D2 := C2.stays hx; have D4 := C4.stays hx; have DB := hB.trans (hx.mono hB.size); clear c0 c1 c2 y0 y1 y2; obtain ⟨c0, c1, c2, y0, y1, y2⟩ := Blk.three D2)
            go_roundw
            case rel => exact ⟨i + 1 + m, q, k', by omega, by go_num, by omega, HR2.out, DB, D2, D4⟩
            case measure => simp [intOf]; omega
        · rw [if_neg hu, if_pos h38] at hrun
          have HR2 := Lib.hid hrun
          clear hrun
          have hmi : (i : Int) + m + 1 ≤ n := by omega
          have g2 : (z i == 38) = true := beq_iff_eq.mpr h38
          by_cases hci1 : c = i + 1
          · exfalso
            have hz : n - (i + 1) = 0 := by omega
            have e0 : colF 0 (z (i + 1)) (z (i + 2)) = (-1, 0) := rfl
            rw [hz, e0] at hcv
            have := congrArg Prod.fst hcv
            simp only at this
            omega
          · have HC := hcall2
            clear hcall2
            go_wp2_with (go_at_call 52; with_reducible refine (HC _).mono ?_; rintro _ x ⟨rfl, hx⟩; have D2 := C2.stays hx; have D4 := C4.stays hx; have DB := hB.trans (hx.mono hB.size); clear c0 c1 c2 y0 y1 y2; obtain ⟨c0, c1, c2, y0, y1, y2⟩ := Blk.three D2)
            go_roundw
            case rel => exact ⟨i + 1 + m, (u + 1, q.2.1, q.2.2), k', by omega, by go_num, by omega, HR2.out, belowL DB _ _, put0 D2 _, farL D4 _ _⟩
            case measure => simp [intOf]; omega
      · by_cases h48 : z i = 48
        · have H : z i = 38 ∨ z i = 48 := Or.inr h48
          obtain ⟨cv, hcv⟩ : ∃ cv, colF (n - (i + 1)) (z (i + 1)) (z (i + 2)) = cv := ⟨_, rfl⟩
          have hbd := colF_bd (n - (i + 1)) (z (i + 1)) (z (i + 2))
          have hrun := (run_col (k := k') (p := q) hlt H).symm.trans HR.out
          rw [hcv] at hbd hrun
          have hN : Nums .i64 wr (some ⟨bl, off + (i + 1), none⟩) (n - (i + 1)) (fun j => z (i + 1 + j)) := fun _ => ⟨bl, off + (i + 1), rfl, hbl, fun j hj => by
            have h := hcell (i + 1 + j) (by omega)
            rw [show off + (i + 1 + j) = off + (i + 1) + j by omega] at h
            exact h⟩
          have hcall := fun c' => colour_c (c := c') hN (by unfold maxLen; omega)
          have hcall2 : ∀ c', Calls Try.prog 52 #[.slice (some ⟨bl, off + (i + 1), none⟩) (n - (i + 1)) c'] wr fun e w' => e = .returned (.tuple #[.int .i64 cv.1, .int .i64 cv.2]) ∧ Below wr.heap.size wr w' := by
            intro c'
            have h := hcall c'
            rw [show colF (n - (i + 1)) (z (i + 1 + 0)) (z (i + 1 + 1)) = cv from hcv] at h
            exact h
          clear hcall hN hcell
          have g1 : (z i != 38) = true := bne_iff_ne.mpr h38
          have g3 : (z i != 48) = false := bne_eq_false_iff_eq.mpr h48
          obtain ⟨u, v⟩ := cv
          simp only at hbd hrun hcall2
          obtain ⟨m, rfl⟩ : ∃ m : Nat, v = (m : Int) := ⟨v.toNat, by omega⟩
          by_cases hu : u < 0
          · rw [if_pos hu] at hrun
            have HR2 := Lib.hid hrun
            clear hrun
            have hmi : (i : Int) + m + 1 ≤ n := by omega
            by_cases hci1 : c = i + 1
            · have hz : n - (i + 1) = 0 := by omega
              have e0 : colF 0 (z (i + 1)) (z (i + 2)) = (-1, 0) := rfl
              rw [hz, e0] at hcv
              have em : (0 : Int) = (m : Int) := congrArg Prod.snd hcv
              have HC : ∀ (A : Option Addr) (c' : Nat), Calls Try.prog 52 #[.slice A 0 c'] wr fun e w' => e = .returned (.tuple #[.int .i64 (-1), .int .i64 0]) ∧ Below wr.heap.size wr w' := fun A c' => colour_c (A := A) (n := 0) (c := c') (z := z) (fun h => absurd h (by omega)) (by unfold maxLen; omega)
              have hm0 : m = 0 := by omega
              subst hm0
              have HZ := Lib.hid hz
              clear hcall2 hz e0 hmi em hbd
              go_wp2_with (go_at_call 52; (try rw [HZ.out]); (try rw [Nat.sub_self]); with_reducible refine (HC _ _).mono ?_; rintro _ x ⟨rfl, hx⟩; have D2 := C2.stays hx; have D4 := C4.stays hx; have DB := hB.trans (hx.mono hB.size); clear c0 c1 c2 y0 y1 y2; obtain ⟨c0, c1, c2, y0, y1, y2⟩ := Blk.three D2)
              go_roundw
              case rel =>
                (repeat apply Exists.intro)
                rw [hci1]
                refine And.intro ?_ rfl
                exact ⟨i + 1, q, k', by omega, by go_num, by omega, HR2.out, DB, D2, D4⟩
              case measure => simp [intOf]; omega
            · have HC := hcall2
              clear hcall2
              go_wp2_with (go_at_call 52; with_reducible refine (HC _).mono ?_; rintro _ x ⟨rfl, hx⟩; have D2 := C2.stays hx; have D4 := C4.stays hx; have DB := hB.trans (hx.mono hB.size); clear c0 c1 c2 y0 y1 y2; obtain ⟨c0, c1, c2, y0, y1, y2⟩ := Blk.three D2)
              go_roundw
              case rel => exact ⟨i + 1 + m, q, k', by omega, by go_num, by omega, HR2.out, DB, D2, D4⟩
              case measure => simp [intOf]; omega
          · rw [if_neg hu, if_neg h38] at hrun
            have HR2 := Lib.hid hrun
            clear hrun
            have hmi : (i : Int) + m + 1 ≤ n := by omega
            have g2 : (z i == 38) = false := beq_ff h38
            by_cases hci1 : c = i + 1
            · exfalso
              have hz : n - (i + 1) = 0 := by omega
              have e0 : colF 0 (z (i + 1)) (z (i + 2)) = (-1, 0) := rfl
              rw [hz, e0] at hcv
              have := congrArg Prod.fst hcv
              simp only at this
              omega
            · have HC := hcall2
              clear hcall2
              go_wp2_with (go_at_call 52; with_reducible refine (HC _).mono ?_; rintro _ x ⟨rfl, hx⟩; have D2 := C2.stays hx; have D4 := C4.stays hx; have DB := hB.trans (hx.mono hB.size); clear c0 c1 c2 y0 y1 y2; obtain ⟨c0, c1, c2, y0, y1, y2⟩ := Blk.three D2)
              go_roundw
              case rel => exact ⟨i + 1 + m, (q.1, u + 1, q.2.2), k', by omega, by go_num, by omega, HR2.out, belowL DB _ _, put1 D2 _, farL D4 _ _⟩
              case measure => simp [intOf]; omega
        · have HR2 := Lib.hid ((run_one (k := k') (p := q) hlt h38 h48).symm.trans HR.out)
          have b1 : (z i != 38) = true := bne_iff_ne.mpr h38
          have b2 : (z i != 48) = true := bne_iff_ne.mpr h48
          clear hcell
          go_wp2_with (go_at_call 66; refine (one_c q (z i) _).mono ?_; rintro _ x ⟨rfl, hx⟩; have D2 := C2.stays hx; have D4 := C4.stays hx; have DB := hB.trans (hx.mono hB.size); clear c0 c1 c2 y0 y1 y2; obtain ⟨c0, c1, c2, y0, y1, y2⟩ := Blk.three D2)
          go_roundw
          case rel => exact ⟨i + 1, oneF q (z i), k', by omega, by go_num, by omega, HR2.out, below_set3 DB (Nat.le_refl _) _ _ _, D2.set3 _ _ _, D4.far3 (Nat.succ_ne_self _) _ _ _⟩
          case measure => simp [intOf]; omega
    · have hni : i = n := by omega
      have hrun : runF z n n 0 p = q := by rw [← HR.out]; exact run_end (by omega)
      have hk1 : ¬ (i : Int) < (n : Int) := by omega
      obtain ⟨c0, c1, c2, y0, y1, y2⟩ := Blk.three C2
      obtain ⟨d0, d1, d2, x0, x1, x2⟩ := Blk.three C4
      go_wp2_with fail
      refine bodyPost_ret (results_cell_row rfl _ _ (W.heap.size + 1) 90 #[.int .i64 q.1, .int .i64 q.2.1, .int .i64 q.2.2] (0, 0) _ rfl (C4.set3 _ _ _) Try.underlying90 rfl (by kernel_rfl)) rfl ?_
      exact ⟨rfl, below_set3 hB (Nat.le_succ _) _ _ _⟩

set_option maxHeartbeats 4000000 in
set_option maxRecDepth 100000 in
theorem apply_none (A : Option Addr) (c : Nat) (p : Int × Int × Int) (W : World) :
    Calls Try.prog 54 #[.agg #[.int .i64 p.1, .int .i64 p.2.1, .int .i64 p.2.2], .slice A 0 c] W fun e w' => e = .returned (.agg #[.int .i64 0, .int .i64 0, .int .i64 0]) ∧ Below W.heap.size W w' := by
  go_enter Try.func54, Try.ntmps54
  go_wp2_with fail
  refine bodyPost_ret (results_cell_row rfl _ _ (W.heap.size + 1) 90 #[.int .i64 0, .int .i64 0, .int .i64 0] (0, 0) _ rfl (new2 W _ _ 90 90) Try.underlying90 rfl (by kernel_rfl)) rfl ?_
  exact ⟨rfl, Joins.below_alloc2 W _ _⟩
theorem apply_c {A : Option Addr} {n c : Nat} {z : Nat → Int} {W : World} (hf : Nums .i64 W A n z) (hnc : n ≤ c) (hcm : c ≤ maxLen) (p : Int × Int × Int) :
    Calls Try.prog 54 #[.agg #[.int .i64 p.1, .int .i64 p.2.1, .int .i64 p.2.2], .slice A n c] W fun e w' => e = .returned (.agg #[.int .i64 (applyF z n p).1, .int .i64 (applyF z n p).2.1, .int .i64 (applyF z n p).2.2]) ∧ Below W.heap.size W w' := by
  by_cases h : n = 0
  · subst h
    exact apply_none A c p W
  · obtain ⟨bl, off, rfl, -, -⟩ := hf (by omega)
    have e : applyF z n p = runF z n n 0 p := if_neg h
    rw [e]
    exact apply_some hf (by unfold maxLen at *; omega) (by omega) hnc hcm
end Go.Proofs.Ytagciaanfjllnaa.PenC
