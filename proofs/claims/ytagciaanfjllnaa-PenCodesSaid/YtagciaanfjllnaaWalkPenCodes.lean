/- The walk of the law PenCodes: whatever the two pens and the numbers ahead, the Go function answers true. -/
import Derived.Test.YtagciaanfjllnaaPenJ
namespace Go.Proofs.Ytagciaanfjllnaa.PenC
open Go Go.RowKit Go.Proofs.Ytagciaanfjllnaa.Base Go.Proofs.Ytagciaanfjllnaa.Opens Go.Proofs.Ytagciaanfjllnaa.Reg
set_option linter.unusedVariables false
set_option linter.unusedSimpArgs false
attribute [local go_sem ↓] Go.wp_at_zero Go.wp_at_succ
attribute [local go_sem high] eqA90

theorem wf_small {x : Int} (h0 : 0 ≤ x) (h1 : x ≤ 1000) : (Lit.int .i64 x).wf = true := by
  unfold Lit.wf
  rw [Bool.and_eq_true]
  exact ⟨decide_eq_true (Int.le_trans (by decide +kernel : IntKind.i64.min ≤ 0) h0), decide_eq_true (Int.le_trans h1 (by decide +kernel))⟩
theorem row_nums {B : Nat} {w : World} {v : Value} {p : Int × Int × Int} (hp : RightP p) (h : Row B w v (codesL p)) : ∃ A c, v = .slice A (codesL p).length c ∧ (codesL p).length ≤ c ∧ c ≤ maxLen ∧ Nums .i64 w A (codesL p).length (zL (codesL p)) := by
  have hl := codes_len (p := p)
  rcases h.2 with ⟨h1, h2⟩ | ⟨g, cap, cur, h1, h2, h3, h4, h5, h6⟩
  · omega
  · refine ⟨_, cap, h1, h4, h5, fun _ => ⟨g, 0, rfl, Blk.lt h3, fun i hi => ?_⟩⟩
    have hr : Row B w (.slice (some ⟨g, 0, none⟩) (codesL p).length cap) (codesL p) := by rw [← h1]; exact h
    have hc := World.ownsRow.cells hr (g := g) rfl i (.int .i64 (zL (codesL p) i))
    have e : (codesL p)[i]? = some (zL (codesL p) i) := by
      unfold zL
      rw [List.getD_eq_getElem?_getD, List.getElem?_eq_getElem hi]
      rfl
    have e2 : (encI (codesL p))[i]? = some (.int .i64 (zL (codesL p) i)) := by
      unfold encI
      rw [List.getElem?_map, e]
      rfl
    have hm : zL (codesL p) i ∈ codesL p := by
      rw [List.getElem?_eq_getElem hi] at e
      rw [← Option.some.inj e]
      exact List.getElem_mem hi
    have hb := codes_bd hp hm
    exact ⟨by have h9 := hc e2; rw [Go.WideShapes.add_plain] at h9; exact h9, wf_small hb.1 hb.2⟩
theorem codes55n {p : Int × Int × Int} (hp : RightP p) (W : World) : Calls Try.prog 55 #[.agg #[.int .i64 p.1, .int .i64 p.2.1, .int .i64 p.2.2]] W fun e w' => ∃ A c, e = .returned (.slice A (codesL p).length c) ∧ (codesL p).length ≤ c ∧ c ≤ maxLen ∧ Nums .i64 w' A (codesL p).length (zL (codesL p)) ∧ Below W.heap.size W w' := by
  refine (codes55 p hp W).mono ?_
  rintro e w' ⟨v, rfl, hr, hb⟩
  obtain ⟨A, c, rfl, h1, h2, h3⟩ := row_nums hp hr
  exact ⟨A, c, rfl, h1, h2, h3, hb⟩
theorem codes56n {p : Int × Int × Int} (hp : RightP p) (W : World) : Calls Try.prog 56 #[.agg #[.int .i64 p.1, .int .i64 p.2.1, .int .i64 p.2.2]] W fun e w' => ∃ A c, e = .returned (.slice A (codesL p).length c) ∧ (codesL p).length ≤ c ∧ c ≤ maxLen ∧ Nums .i64 w' A (codesL p).length (zL (codesL p)) ∧ Below W.heap.size W w' := by
  refine (codes56 p hp W).mono ?_
  rintro e w' ⟨v, rfl, hr, hb⟩
  obtain ⟨A, c, rfl, h1, h2, h3⟩ := row_nums hp hr
  exact ⟨A, c, rfl, h1, h2, h3, hb⟩
set_option maxHeartbeats 4000000 in
set_option maxRecDepth 100000 in
theorem codes_notp (p o : Int × Int × Int) (A : Option Addr) (n2 c2 : Nat) (W : World) (h : ¬ RightP p) : 
    Calls Try.prog 15 #[.agg #[.int .i64 p.1, .int .i64 p.2.1, .int .i64 p.2.2], .agg #[.int .i64 o.1, .int .i64 o.2.1, .int .i64 o.2.2], .slice A n2 c2] W fun e w' => e = .returned (.bool true) ∧ Below W.heap.size W w' := by
  go_enter Try.func15, Try.ntmps15
  have B0 : Blk ((W.alloc (.cells #[.int .i64 p.1, .int .i64 p.2.1, .int .i64 p.2.2] 90)).alloc (.cells #[.int .i64 o.1, .int .i64 o.2.1, .int .i64 o.2.2] 90)) W.heap.size 90 #[.int .i64 p.1, .int .i64 p.2.1, .int .i64 p.2.2] := (Blk.new W 90 #[.int .i64 p.1, .int .i64 p.2.1, .int .i64 p.2.2]).alloc _
  have B1 := new2 W #[.int .i64 p.1, .int .i64 p.2.1, .int .i64 p.2.2] #[.int .i64 o.1, .int .i64 o.2.1, .int .i64 o.2.2] 90 90
  have NB := Joins.below_alloc2 W (.cells #[.int .i64 p.1, .int .i64 p.2.1, .int .i64 p.2.2] 90) (.cells #[.int .i64 o.1, .int .i64 o.2.1, .int .i64 o.2.2] 90)
  go_wp2_with (first | (go_at_call 51; refine (awake_c _).mono ?_; rintro _ w1 ⟨rfl, hb⟩; have hB1 := NB.trans (hb.mono (by simp; omega)); have D0 := B0.stays hb; have D1 := B1.stays hb; obtain ⟨c0, c1, c2', y0, y1, y2⟩ := Blk.three D0; obtain ⟨d0, d1, d2, x0, x1, x2⟩ := Blk.three D1) | (go_at_call 53; refine (right_no h _).mono ?_; rintro _ w2 ⟨rfl, hb2⟩; have hB2 := hB1.trans (hb2.mono hB1.size); have E0 := D0.stays hb2; have E1 := D1.stays hb2; clear c0 c1 c2' y0 y1 y2 d0 d1 d2 x0 x1 x2; obtain ⟨c0, c1, c2', y0, y1, y2⟩ := Blk.three E0; obtain ⟨d0, d1, d2, x0, x1, x2⟩ := Blk.three E1))
  go_ret
  exact ⟨rfl, hB2⟩
set_option maxHeartbeats 4000000 in
set_option maxRecDepth 100000 in
theorem codes_noto (p o : Int × Int × Int) (A : Option Addr) (n2 c2 : Nat) (W : World) (h : RightP p) (ho : ¬ RightP o) : 
    Calls Try.prog 15 #[.agg #[.int .i64 p.1, .int .i64 p.2.1, .int .i64 p.2.2], .agg #[.int .i64 o.1, .int .i64 o.2.1, .int .i64 o.2.2], .slice A n2 c2] W fun e w' => e = .returned (.bool true) ∧ Below W.heap.size W w' := by
  go_enter Try.func15, Try.ntmps15
  have B0 : Blk ((W.alloc (.cells #[.int .i64 p.1, .int .i64 p.2.1, .int .i64 p.2.2] 90)).alloc (.cells #[.int .i64 o.1, .int .i64 o.2.1, .int .i64 o.2.2] 90)) W.heap.size 90 #[.int .i64 p.1, .int .i64 p.2.1, .int .i64 p.2.2] := (Blk.new W 90 #[.int .i64 p.1, .int .i64 p.2.1, .int .i64 p.2.2]).alloc _
  have B1 := new2 W #[.int .i64 p.1, .int .i64 p.2.1, .int .i64 p.2.2] #[.int .i64 o.1, .int .i64 o.2.1, .int .i64 o.2.2] 90 90
  have NB := Joins.below_alloc2 W (.cells #[.int .i64 p.1, .int .i64 p.2.1, .int .i64 p.2.2] 90) (.cells #[.int .i64 o.1, .int .i64 o.2.1, .int .i64 o.2.2] 90)
  go_wp2_with (first | (go_at_call 51; refine (awake_c _).mono ?_; rintro _ w1 ⟨rfl, hb⟩; have hB1 := NB.trans (hb.mono (by simp; omega)); have D0 := B0.stays hb; have D1 := B1.stays hb; obtain ⟨c0, c1, c2', y0, y1, y2⟩ := Blk.three D0; obtain ⟨d0, d1, d2, x0, x1, x2⟩ := Blk.three D1) | (go_at_call 53; refine (right_yes h _).mono ?_; rintro _ w2 ⟨rfl, hb2⟩; have hB2 := hB1.trans (hb2.mono hB1.size); have E0 := D0.stays hb2; have E1 := D1.stays hb2; clear c0 c1 c2' y0 y1 y2 d0 d1 d2 x0 x1 x2; obtain ⟨c0, c1, c2', y0, y1, y2⟩ := Blk.three E0; obtain ⟨d0, d1, d2, x0, x1, x2⟩ := Blk.three E1) | (go_at_call 53; refine (right_no ho _).mono ?_; rintro _ w3 ⟨rfl, hb3⟩; have hB3 := hB2.trans (hb3.mono hB2.size); have G0 := E0.stays hb3; have G1 := E1.stays hb3))
  go_ret
  exact ⟨rfl, hB3⟩
set_option maxHeartbeats 4000000 in
set_option maxRecDepth 100000 in
theorem codes_long (p o : Int × Int × Int) (A : Option Addr) (n2 c2 : Nat) (W : World) (h : RightP p) (ho : RightP o) (hn : 20 < n2) (hm : n2 ≤ maxLen) : 
    Calls Try.prog 15 #[.agg #[.int .i64 p.1, .int .i64 p.2.1, .int .i64 p.2.2], .agg #[.int .i64 o.1, .int .i64 o.2.1, .int .i64 o.2.2], .slice A n2 c2] W fun e w' => e = .returned (.bool true) ∧ Below W.heap.size W w' := by
  unfold maxLen at hm
  have g1 : (20 : Int) < (n2 : Int) := by omega
  go_enter Try.func15, Try.ntmps15
  have B0 : Blk ((W.alloc (.cells #[.int .i64 p.1, .int .i64 p.2.1, .int .i64 p.2.2] 90)).alloc (.cells #[.int .i64 o.1, .int .i64 o.2.1, .int .i64 o.2.2] 90)) W.heap.size 90 #[.int .i64 p.1, .int .i64 p.2.1, .int .i64 p.2.2] := (Blk.new W 90 #[.int .i64 p.1, .int .i64 p.2.1, .int .i64 p.2.2]).alloc _
  have B1 := new2 W #[.int .i64 p.1, .int .i64 p.2.1, .int .i64 p.2.2] #[.int .i64 o.1, .int .i64 o.2.1, .int .i64 o.2.2] 90 90
  have NB := Joins.below_alloc2 W (.cells #[.int .i64 p.1, .int .i64 p.2.1, .int .i64 p.2.2] 90) (.cells #[.int .i64 o.1, .int .i64 o.2.1, .int .i64 o.2.2] 90)
  go_wp2_with (first | (go_at_call 51; refine (awake_c _).mono ?_; rintro _ w1 ⟨rfl, hb⟩; have hB1 := NB.trans (hb.mono (by simp; omega)); have D0 := B0.stays hb; have D1 := B1.stays hb; obtain ⟨c0, c1, c2', y0, y1, y2⟩ := Blk.three D0; obtain ⟨d0, d1, d2, x0, x1, x2⟩ := Blk.three D1) | (go_at_call 53; refine (right_yes h _).mono ?_; rintro _ w2 ⟨rfl, hb2⟩; have hB2 := hB1.trans (hb2.mono hB1.size); have E0 := D0.stays hb2; have E1 := D1.stays hb2; clear c0 c1 c2' y0 y1 y2 d0 d1 d2 x0 x1 x2; obtain ⟨c0, c1, c2', y0, y1, y2⟩ := Blk.three E0; obtain ⟨d0, d1, d2, x0, x1, x2⟩ := Blk.three E1) | (go_at_call 53; refine (right_yes ho _).mono ?_; rintro _ w3 ⟨rfl, hb3⟩; have hB3 := hB2.trans (hb3.mono hB2.size); have G0 := E0.stays hb3; have G1 := E1.stays hb3))
  go_ret
  exact ⟨rfl, hB3⟩
set_option maxHeartbeats 4000000 in
set_option maxRecDepth 100000 in
theorem codes_main {p o : Int × Int × Int} {A : Option Addr} {n2 c2 : Nat} {z2 : Nat → Int} {W : World} (h : RightP p) (ho : RightP o) (hf : Nums .i64 W A n2 z2) (hn2 : n2 ≤ 20) (hnc2 : n2 ≤ c2) (hcm2 : c2 ≤ maxLen) : 
    Calls Try.prog 15 #[.agg #[.int .i64 p.1, .int .i64 p.2.1, .int .i64 p.2.2], .agg #[.int .i64 o.1, .int .i64 o.2.1, .int .i64 o.2.2], .slice A n2 c2] W fun e w' => e = .returned (.bool true) ∧ Below W.heap.size W w' := by
  have hl : ¬ (20 : Int) < (n2 : Int) := by omega
  obtain ⟨hn0, hn20⟩ := codes_len (p := p)
  have H55 := fun w => codes55n h w
  have H56 := fun w => codes56n h w
  have HP := apply_codes h
  generalize (codesL p).length = n at *
  generalize zL (codesL p) = z at *
  have HM := Lib.hid hcm2
  clear hcm2
  go_enter Try.func15, Try.ntmps15
  have B0 : Blk ((W.alloc (.cells #[.int .i64 p.1, .int .i64 p.2.1, .int .i64 p.2.2] 90)).alloc (.cells #[.int .i64 o.1, .int .i64 o.2.1, .int .i64 o.2.2] 90)) W.heap.size 90 #[.int .i64 p.1, .int .i64 p.2.1, .int .i64 p.2.2] := (Blk.new W 90 #[.int .i64 p.1, .int .i64 p.2.1, .int .i64 p.2.2]).alloc _
  have B1 := new2 W #[.int .i64 p.1, .int .i64 p.2.1, .int .i64 p.2.2] #[.int .i64 o.1, .int .i64 o.2.1, .int .i64 o.2.2] 90 90
  have NB := Joins.below_alloc2 W (.cells #[.int .i64 p.1, .int .i64 p.2.1, .int .i64 p.2.2] 90) (.cells #[.int .i64 o.1, .int .i64 o.2.1, .int .i64 o.2.2] 90)
  go_wp2_with (first | (go_at_call 51; refine (awake_c _).mono ?_; rintro _ w1 ⟨rfl, hb⟩; have hB1 := NB.trans (hb.mono (by simp; omega)); have D0 := B0.stays hb; have D1 := B1.stays hb; obtain ⟨c0, c1, c2', y0, y1, y2⟩ := Blk.three D0; obtain ⟨d0, d1, d2, x0, x1, x2⟩ := Blk.three D1) | (go_at_call 53; refine (right_yes h _).mono ?_; rintro _ w2 ⟨rfl, hb2⟩; have hB2 := hB1.trans (hb2.mono hB1.size); have E0 := D0.stays hb2; have E1 := D1.stays hb2; clear c0 c1 c2' y0 y1 y2 d0 d1 d2 x0 x1 x2; obtain ⟨c0, c1, c2', y0, y1, y2⟩ := Blk.three E0; obtain ⟨d0, d1, d2, x0, x1, x2⟩ := Blk.three E1) | (go_at_call 53; refine (right_yes ho _).mono ?_; rintro _ w3 ⟨rfl, hb3⟩; have hB3 := hB2.trans (hb3.mono hB2.size); have G0 := E0.stays hb3; have G1 := E1.stays hb3))
  have I0 := Blk.drew G0
  have I1 := Blk.drew G1
  have IB := Below.trans hB3 (Joins.below_draws W.heap.size w3 1)
  clear c0 c1 c2' y0 y1 y2 d0 d1 d2 x0 x1 x2 hb hb2 hb3 hB1 hB2 hB3 D0 D1 E0 E1 G0 G1 B0 B1 NB
  refine wp_region_held_drew (S := fun w' => w'.cell? ⟨W.heap.size, 0, none⟩ = some (.int .i64 p.1) ∧ w'.cell? ⟨W.heap.size, 1, none⟩ = some (.int .i64 p.2.1) ∧ w'.cell? ⟨W.heap.size, 2, none⟩ = some (.int .i64 p.2.2)) (by kernel_rfl) (⟨I0.cell 0, I0.cell 1, I0.cell 2⟩) (fun hHeld => ?_)
  refine takeH (i := 0) (N := some 25) (v := ?_) (a' := ?_) rfl rfl (by kernel_rfl) (by kernel_rfl) (by kernel_rfl) (fun _ _ _ h => h) (Or.inl ⟨by rfl, ?_⟩) hHeld ?_ ?_
  rotate_left
  · intro w' hSw
    go_split_ands
    go_simp
    with_reducible rfl
  rotate_left
  · simp only [Act.put, List.setIfInBounds_toArray, List.set_cons_zero, List.set_cons_succ]
    rfl
  refine takeH (i := 2) (N := some 27) (v := ?_) (a' := ?_) rfl rfl (by kernel_rfl) (by kernel_rfl) (by kernel_rfl) (fun _ _ _ h => h) (Or.inl ⟨by rfl, ?_⟩) hHeld ?_ ?_
  rotate_left
  · intro w' hSw
    go_split_ands
    go_simp
    with_reducible rfl
  rotate_left
  · simp only [Act.put, List.setIfInBounds_toArray, List.set_cons_zero, List.set_cons_succ]
    rfl
  refine wpAnyH_ready (rs := [1]) (by kernel_rfl) (by simp) ?_
  refine AllReadyH.cons rfl (fun K hK => ?_) AllReadyH.nil
  go_simp
  refine (H55 _).mono ?_
  rintro _ x ⟨A1, c1, rfl, k1, m1, N1, hx⟩
  have X0 := I0.stays hx
  have X1 := I1.stays hx
  have XB := IB.trans (hx.mono IB.size)
  refine hK.out _ _ (⟨X0.cell 0, X0.cell 1, X0.cell 2⟩) (fun hHeld => ?_)
  clear hK K
  refine wpAnyH_ready (rs := [3]) (by kernel_rfl) (by simp) ?_
  refine AllReadyH.cons rfl (fun K hK => ?_) AllReadyH.nil
  go_simp
  refine (H56 _).mono ?_
  rintro _ y ⟨A2, c3, rfl, k2, m2, N2, hy⟩
  have Z0 := X0.stays hy
  have Z1 := X1.stays hy
  have ZB := XB.trans (hy.mono XB.size)
  have N1' := nums_stays N1 hy
  refine hK.out _ _ (⟨Z0.cell 0, Z0.cell 1, Z0.cell 2⟩) (fun hHeld => ?_)
  clear hK K
  refine takeH (i := 4) (N := some 7) (v := ?_) (a' := ?_) rfl rfl (by kernel_rfl) (by kernel_rfl) (by kernel_rfl) (fun _ _ _ h => h) (Or.inl ⟨by rfl, ?_⟩) hHeld ?_ ?_
  rotate_left
  · intro w' hSw
    clear hSw
    go_simp
    with_reducible rfl
  rotate_left
  · simp only [Act.put, List.setIfInBounds_toArray, List.set_cons_zero, List.set_cons_succ]
    rfl
  refine takeH (i := 5) (N := some 8) (v := ?_) (a' := ?_) rfl rfl (by kernel_rfl) (by kernel_rfl) (by kernel_rfl) (fun _ _ _ h => h) (Or.inl ⟨by rfl, ?_⟩) hHeld ?_ ?_
  rotate_left
  · intro w' hSw
    clear hSw
    go_simp
    with_reducible rfl
  rotate_left
  · simp only [Act.put, List.setIfInBounds_toArray, List.set_cons_zero, List.set_cons_succ]
    rfl
  refine wpAnyH_done (by kernel_rfl) ?_ _
  clear hHeld
  go_wp2_with fail
  clear k2 m2
  have N2h := N2
  obtain ⟨b1, off1, rfl, hb1, hc1⟩ := N1' hn0
  obtain ⟨b2, off2, rfl, hb2, hc2⟩ := N2 hn0
  have K1 := Lib.hid k1
  have M1 := Lib.hid m1
  clear k1 m1 hc1 hc2 hb1 hb2 N1 N2 I0 I1 IB X0 X1 XB hx
  go_loopw [9] (fun v9 wr => ∃ i : Nat, i ≤ n ∧ v9 = .int .i64 i ∧ Nums .i64 wr (some ⟨b1, off1, none⟩) n z ∧ Nums .i64 wr (some ⟨b2, off2, none⟩) n z ∧ Below W.heap.size W wr ∧ Blk wr W.heap.size 90 #[.int .i64 p.1, .int .i64 p.2.1, .int .i64 p.2.2] ∧ Blk wr (W.heap.size + 1) 90 #[.int .i64 o.1, .int .i64 o.2.1, .int .i64 o.2.2]) (fun v9 _ => n - (intOf v9).toNat)
  case atStart => exact ⟨0, Nat.zero_le _, rfl, N1', N2h, ZB, Z0, Z1⟩
  case round =>
    clear N1' N2h ZB Z0 Z1
    obtain ⟨i, hi, rfl, N1, N2, HB, HD, HE⟩ := hrel
    by_cases hlt : i < n
    · have hk0 : (0 : Int) ≤ (i : Int) := Int.natCast_nonneg _
      have hk1 : (i : Int) < (n : Int) := by omega
      obtain ⟨b1', off1', e1, hb1, hc1⟩ := N1 hn0
      obtain ⟨b2', off2', e2, hb2, hc2⟩ := N2 hn0
      cases e1
      cases e2
      have q1 := (hc1 i hlt).1
      have q2 := (hc2 i hlt).1
      clear hc1 hc2
      go_wp2_with fail
      go_quiet (fail)
      go_wp2_with fail
      go_roundw
      case rel => exact ⟨i + 1, by omega, by go_num, nums_stays N1 (Joins.below_draws _ _ _), nums_stays N2 (Joins.below_draws _ _ _), HB.trans (Joins.below_draws _ _ _), HD.drewN _, HE.drewN _⟩
      case measure => simp [intOf]; omega
    · have hin : i = n := by omega
      subst hin
      clear hi
      go_wp2_with fail
      have HA : ∀ (q : Int × Int × Int) (w : World), Nums .i64 w (some ⟨b1, off1, none⟩) i z → Calls Try.prog 54 #[.agg #[.int .i64 q.1, .int .i64 q.2.1, .int .i64 q.2.2], .slice (some ⟨b1, off1, none⟩) i c1] w fun e w' => e = .returned (.agg #[.int .i64 p.1, .int .i64 p.2.1, .int .i64 p.2.2]) ∧ Below w.heap.size w w' := by
        intro q w hw
        have h := apply_c (c := c1) hw K1.out M1.out q
        rw [HP q] at h
        exact h
      have I0 := Blk.drew HD
      have I1 := Blk.drew HE
      have IB : Below W.heap.size W wr.drew := Below.trans HB (Joins.below_draws W.heap.size wr 1)
      have J1 : Nums .i64 wr.drew (some ⟨b1, off1, none⟩) i z := nums_stays N1 (Joins.below_draws wr.heap.size wr 1)
      have J2 : Nums .i64 wr.drew A n2 z2 := nums_stays hf IB
      refine wp_region_held_drew (S := fun w' => (w'.cell? ⟨W.heap.size, 0, none⟩ = some (.int .i64 p.1) ∧ w'.cell? ⟨W.heap.size, 1, none⟩ = some (.int .i64 p.2.1) ∧ w'.cell? ⟨W.heap.size, 2, none⟩ = some (.int .i64 p.2.2)) ∧ (w'.cell? ⟨W.heap.size + 1, 0, none⟩ = some (.int .i64 o.1) ∧ w'.cell? ⟨W.heap.size + 1, 1, none⟩ = some (.int .i64 o.2.1) ∧ w'.cell? ⟨W.heap.size + 1, 2, none⟩ = some (.int .i64 o.2.2))) (by kernel_rfl) (⟨⟨I0.cell 0, I0.cell 1, I0.cell 2⟩, ⟨I1.cell 0, I1.cell 1, I1.cell 2⟩⟩) (fun hHeld => ?_)
      refine takeH (i := 0) (N := some 49) (v := ?_) (a' := ?_) rfl rfl (by kernel_rfl) (by kernel_rfl) (by kernel_rfl) (fun _ _ _ h => h) (Or.inl ⟨by rfl, ?_⟩) hHeld ?_ ?_
      rotate_left
      · intro w' hSw
        go_split_ands
        go_simp
        with_reducible rfl
      rotate_left
      · simp only [Act.put, List.setIfInBounds_toArray, List.set_cons_zero, List.set_cons_succ]
        rfl
      refine takeH (i := 1) (N := some 50) (v := ?_) (a' := ?_) rfl rfl (by kernel_rfl) (by kernel_rfl) (by kernel_rfl) (fun _ _ _ h => h) (Or.inl ⟨by rfl, ?_⟩) hHeld ?_ ?_
      rotate_left
      · intro w' hSw
        clear hSw
        go_simp
        with_reducible rfl
      rotate_left
      · simp only [Act.put, List.setIfInBounds_toArray, List.set_cons_zero, List.set_cons_succ]
        rfl
      refine takeH (i := 3) (N := some 52) (v := ?_) (a' := ?_) rfl rfl (by kernel_rfl) (by kernel_rfl) (by kernel_rfl) (fun _ _ _ h => h) (Or.inl ⟨by rfl, ?_⟩) hHeld ?_ ?_
      rotate_left
      · intro w' hSw
        go_split_ands
        go_simp
        with_reducible rfl
      rotate_left
      · simp only [Act.put, List.setIfInBounds_toArray, List.set_cons_zero, List.set_cons_succ]
        rfl
      refine wpAnyH_ready (rs := [2]) (by kernel_rfl) (by simp) ?_
      refine AllReadyH.cons rfl (fun K hK => ?_) AllReadyH.nil
      go_simp
      with_reducible refine (HA o _ J1).mono ?_
      rintro _ x1 ⟨rfl, hx⟩
      have X0 := I0.stays hx
      have X1 := I1.stays hx
      have XB := IB.trans (hx.mono IB.size)
      have X2 := nums_stays J1 hx
      have X3 := nums_stays J2 hx
      refine hK.out _ _ (⟨⟨X0.cell 0, X0.cell 1, X0.cell 2⟩, ⟨X1.cell 0, X1.cell 1, X1.cell 2⟩⟩) (fun hHeld => ?_)
      clear hK K
      refine takeH (i := 4) (N := some 53) (v := ?_) (a' := ?_) rfl rfl (by kernel_rfl) (by kernel_rfl) (by kernel_rfl) (fun _ _ _ h => h) (Or.inl ⟨by rfl, ?_⟩) hHeld ?_ ?_
      rotate_left
      · intro w' hSw
        clear hSw
        go_simp
        with_reducible rfl
      rotate_left
      · simp only [Act.put, List.setIfInBounds_toArray, List.set_cons_zero, List.set_cons_succ]
        rfl
      refine takeH (i := 5) (N := some 54) (v := ?_) (a' := ?_) rfl rfl (by kernel_rfl) (by kernel_rfl) (by kernel_rfl) (fun _ _ _ h => h) (Or.inl ⟨by rfl, ?_⟩) hHeld ?_ ?_
      rotate_left
      · intro w' hSw
        clear hSw
        go_simp
        with_reducible rfl
      rotate_left
      · simp only [Act.put, List.setIfInBounds_toArray, List.set_cons_zero, List.set_cons_succ]
        rfl
      refine takeH (i := 6) (N := some 55) (v := ?_) (a' := ?_) rfl rfl (by kernel_rfl) (by kernel_rfl) (by kernel_rfl) (fun _ _ _ h => h) (Or.inl ⟨by rfl, ?_⟩) hHeld ?_ ?_
      rotate_left
      · intro w' hSw
        go_split_ands
        go_simp
        with_reducible rfl
      rotate_left
      · simp only [Act.put, List.setIfInBounds_toArray, List.set_cons_zero, List.set_cons_succ]
        rfl
      refine takeH (i := 7) (N := some 56) (v := ?_) (a' := ?_) rfl rfl (by kernel_rfl) (by kernel_rfl) (by kernel_rfl) (fun _ _ _ h => h) (Or.inl ⟨by rfl, ?_⟩) hHeld ?_ ?_
      rotate_left
      · intro w' hSw
        clear hSw
        go_simp
        with_reducible rfl
      rotate_left
      · simp only [Act.put, List.setIfInBounds_toArray, List.set_cons_zero, List.set_cons_succ]
        rfl
      refine takeH (i := 9) (N := some 58) (v := ?_) (a' := ?_) rfl rfl (by kernel_rfl) (by kernel_rfl) (by kernel_rfl) (fun _ _ _ h => h) (Or.inl ⟨by rfl, ?_⟩) hHeld ?_ ?_
      rotate_left
      · intro w' hSw
        clear hSw
        go_simp
        with_reducible rfl
      rotate_left
      · simp only [Act.put, List.setIfInBounds_toArray, List.set_cons_zero, List.set_cons_succ]
        rfl
      refine takeH (i := 11) (N := some 60) (v := ?_) (a' := ?_) rfl rfl (by kernel_rfl) (by kernel_rfl) (by kernel_rfl) (fun _ _ _ h => h) (Or.inl ⟨by rfl, ?_⟩) hHeld ?_ ?_
      rotate_left
      · intro w' hSw
        go_split_ands
        go_simp
        with_reducible rfl
      rotate_left
      · simp only [Act.put, List.setIfInBounds_toArray, List.set_cons_zero, List.set_cons_succ]
        rfl
      refine wpAnyH_ready (rs := [8]) (by kernel_rfl) (by simp) ?_
      refine AllReadyH.cons rfl (fun K hK => ?_) AllReadyH.nil
      go_simp
      with_reducible refine (apply_c X3 hnc2 HM.out o).mono ?_
      rintro _ x2 ⟨rfl, hx2⟩
      have U0 := X0.stays hx2
      have U1 := X1.stays hx2
      have UB := XB.trans (hx2.mono XB.size)
      have U2 := nums_stays X2 hx2
      refine hK.out _ _ (⟨⟨U0.cell 0, U0.cell 1, U0.cell 2⟩, ⟨U1.cell 0, U1.cell 1, U1.cell 2⟩⟩) (fun hHeld => ?_)
      clear hK K
      refine wpAnyH_ready (rs := [10]) (by kernel_rfl) (by simp) ?_
      refine AllReadyH.cons rfl (fun K hK => ?_) AllReadyH.nil
      go_simp
      with_reducible refine (HA _ _ U2).mono ?_
      rintro _ x3 ⟨rfl, hx3⟩
      have V0 := U0.stays hx3
      have V1 := U1.stays hx3
      have VB := UB.trans (hx3.mono UB.size)
      refine hK.out _ _ (⟨⟨V0.cell 0, V0.cell 1, V0.cell 2⟩, ⟨V1.cell 0, V1.cell 1, V1.cell 2⟩⟩) (fun hHeld => ?_)
      clear hK K
      refine takeH (i := 12) (N := some 61) (v := ?_) (a' := ?_) rfl rfl (by kernel_rfl) (by kernel_rfl) (by kernel_rfl) (fun _ _ _ h => h) (Or.inl ⟨by rfl, ?_⟩) hHeld ?_ ?_
      rotate_left
      · intro w' hSw
        clear hSw
        go_simp
        with_reducible rfl
      rotate_left
      · simp only [Act.put, List.setIfInBounds_toArray, List.set_cons_zero, List.set_cons_succ]
        rfl
      refine takeH (i := 13) (N := some 62) (v := ?_) (a' := ?_) rfl rfl (by kernel_rfl) (by kernel_rfl) (by kernel_rfl) (fun _ _ _ h => h) (Or.inl ⟨by rfl, ?_⟩) hHeld ?_ ?_
      rotate_left
      · intro w' hSw
        clear hSw
        go_simp
        with_reducible rfl
      rotate_left
      · simp only [Act.put, List.setIfInBounds_toArray, List.set_cons_zero, List.set_cons_succ]
        rfl
      refine takeH (i := 14) (N := some 6) (v := ?_) (a' := ?_) rfl rfl (by kernel_rfl) (by kernel_rfl) (by kernel_rfl) (fun _ _ _ h => h) (Or.inl ⟨by rfl, ?_⟩) hHeld ?_ ?_
      rotate_left
      · intro w' hSw
        clear hSw
        go_simp
        with_reducible rfl
      rotate_left
      · simp only [Act.put, List.setIfInBounds_toArray, List.set_cons_zero, List.set_cons_succ]
        rfl
      refine wpAnyH_done (by kernel_rfl) ?_ _
      clear hHeld
      go_wp2_with fail
      go_ret
      exact ⟨rfl, VB⟩
end Go.Proofs.Ytagciaanfjllnaa.PenC
namespace Go.Proofs.Ytagciaanfjllnaa.Walk
open Go Go.RowKit Go.Proofs.Ytagciaanfjllnaa.Opens
theorem PenCodes (a b m a' b' m' : Int) (A : Option Addr) (n c : Nat) (z : Nat → Int) (W : World) (_ : (Lit.int .i64 a).wf = true) (_ : (Lit.int .i64 b).wf = true) (_ : (Lit.int .i64 m).wf = true) (_ : (Lit.int .i64 a').wf = true) (_ : (Lit.int .i64 b').wf = true) (_ : (Lit.int .i64 m').wf = true) (f : n ≤ c ∧ c ≤ maxLen ∧ Nums .i64 W A n z) :
    Calls Try.prog 15 #[.agg #[.int .i64 a, .int .i64 b, .int .i64 m], .agg #[.int .i64 a', .int .i64 b', .int .i64 m'], .slice A n c] W fun e w' => e = .returned (.bool true) ∧ Below W.heap.size W w' := by
  by_cases h : PenC.RightP (a, b, m)
  · by_cases ho : PenC.RightP (a', b', m')
    · by_cases hn : n ≤ 20
      · exact PenC.codes_main (p := (a, b, m)) (o := (a', b', m')) h ho f.2.2 hn f.1 f.2.1
      · exact PenC.codes_long (a, b, m) (a', b', m') A n c W h ho (by omega) (Nat.le_trans f.1 f.2.1)
    · exact PenC.codes_noto (a, b, m) (a', b', m') A n c W h ho
  · exact PenC.codes_notp (a, b, m) (a', b', m') A n c W h
end Go.Proofs.Ytagciaanfjllnaa.Walk
