/- The walk of the law PenSteps: whatever the pen and the numbers, the Go function answers true. -/
import Derived.Test.YtagciaanfjllnaaPenH
namespace Go.Proofs.Ytagciaanfjllnaa.PenC
open Go Go.RowKit Go.Proofs.Ytagciaanfjllnaa.Base Go.Proofs.Ytagciaanfjllnaa.Opens Go.Proofs.Ytagciaanfjllnaa.Reg
set_option linter.unusedVariables false
set_option linter.unusedSimpArgs false
attribute [local go_sem ↓] Go.wp_at_zero Go.wp_at_succ
attribute [local go_sem high] eqA90

set_option maxHeartbeats 4000000 in
set_option maxRecDepth 100000 in
theorem steps_not (p : Int × Int × Int) (A : Option Addr) (n c : Nat) (W : World) (h : ¬ RightP p) :
    Calls Try.prog 14 #[.agg #[.int .i64 p.1, .int .i64 p.2.1, .int .i64 p.2.2], .slice A n c] W fun e w' => e = .returned (.bool true) ∧ Below W.heap.size W w' := by
  go_enter Try.func14, Try.ntmps14
  have B0 := Blk.new W 90 #[.int .i64 p.1, .int .i64 p.2.1, .int .i64 p.2.2]
  go_wp2_with (first | (go_at_call 51; refine (awake_c _).mono ?_; rintro _ w1 ⟨rfl, hb⟩; have hB1 := ((Below.refl W.heap.size W).alloc (Nat.le_refl _) _).trans (hb.mono (by simp [World.size_alloc])); obtain ⟨c0, c1, c2, y0, y1, y2⟩ := Blk.three (B0.stays hb)) | (go_at_call 53; refine (right_no h _).mono ?_; rintro _ w2 ⟨rfl, hb2⟩; have hB2 := hB1.trans (hb2.mono hB1.size)))
  go_ret
  exact ⟨rfl, hB2⟩

set_option maxHeartbeats 4000000 in
set_option maxRecDepth 100000 in
theorem steps_long (p : Int × Int × Int) (A : Option Addr) (n c : Nat) (W : World) (h : RightP p) (hn : 40 < n) (hm : n ≤ maxLen) :
    Calls Try.prog 14 #[.agg #[.int .i64 p.1, .int .i64 p.2.1, .int .i64 p.2.2], .slice A n c] W fun e w' => e = .returned (.bool true) ∧ Below W.heap.size W w' := by
  unfold maxLen at hm
  have g1 : (40 : Int) < (n : Int) := by omega
  go_enter Try.func14, Try.ntmps14
  have B0 := Blk.new W 90 #[.int .i64 p.1, .int .i64 p.2.1, .int .i64 p.2.2]
  go_wp2_with (first | (go_at_call 51; refine (awake_c _).mono ?_; rintro _ w1 ⟨rfl, hb⟩; have hB1 := ((Below.refl W.heap.size W).alloc (Nat.le_refl _) _).trans (hb.mono (by simp [World.size_alloc])); obtain ⟨c0, c1, c2, y0, y1, y2⟩ := Blk.three (B0.stays hb)) | (go_at_call 53; refine (right_yes h _).mono ?_; rintro _ w2 ⟨rfl, hb2⟩; have hB2 := hB1.trans (hb2.mono hB1.size)))
  go_ret
  exact ⟨rfl, hB2⟩

set_option maxHeartbeats 4000000 in
set_option maxRecDepth 100000 in
theorem steps_none (p : Int × Int × Int) (A : Option Addr) (c : Nat) (W : World) (h : RightP p) :
    Calls Try.prog 14 #[.agg #[.int .i64 p.1, .int .i64 p.2.1, .int .i64 p.2.2], .slice A 0 c] W fun e w' => e = .returned (.bool true) ∧ Below W.heap.size W w' := by
  go_enter Try.func14, Try.ntmps14
  have B0 := Blk.new W 90 #[.int .i64 p.1, .int .i64 p.2.1, .int .i64 p.2.2]
  go_wp2_with (first | (go_at_call 51; refine (awake_c _).mono ?_; rintro _ w1 ⟨rfl, hb⟩; have hB1 := ((Below.refl W.heap.size W).alloc (Nat.le_refl _) _).trans (hb.mono (by simp [World.size_alloc])); obtain ⟨c0, c1, c2, y0, y1, y2⟩ := Blk.three (B0.stays hb)) | (go_at_call 53; refine (right_yes h _).mono ?_; rintro _ w2 ⟨rfl, hb2⟩; have hB2 := hB1.trans (hb2.mono hB1.size)))
  go_ret
  exact ⟨rfl, hB2⟩

set_option maxHeartbeats 4000000 in
set_option maxRecDepth 100000 in
theorem steps_main {p : Int × Int × Int} {A : Option Addr} {n c : Nat} {z : Nat → Int} {W : World} (h : RightP p) (hf : Nums .i64 W A n z) (hn : n ≤ 40) (hnc : n ≤ c) (hcm : c ≤ maxLen) (hp : 0 < n) :
    Calls Try.prog 14 #[.agg #[.int .i64 p.1, .int .i64 p.2.1, .int .i64 p.2.2], .slice A n c] W fun e w' => e = .returned (.bool true) ∧ Below W.heap.size W w' := by
  obtain ⟨bl, off, rfl, hbl0, -⟩ := hf hp
  have g1 : ¬ (40 : Int) < (n : Int) := by omega
  have g2 : ((n : Int) == 0) = false := beq_ff (by omega)
  go_enter Try.func14, Try.ntmps14
  have B0 := Blk.new W 90 #[.int .i64 p.1, .int .i64 p.2.1, .int .i64 p.2.2]
  have HC := Lib.hid hcm
  clear hcm
  go_wp2_with (first | (go_at_call 51; refine (awake_c _).mono ?_; rintro _ w1 ⟨rfl, hb⟩; have hB1 := ((Below.refl W.heap.size W).alloc (Nat.le_refl _) _).trans (hb.mono (by simp [World.size_alloc])); have B1 := B0.stays hb; obtain ⟨c0, c1, c2, y0, y1, y2⟩ := Blk.three B1) | (go_at_call 53; refine (right_yes h _).mono ?_; rintro _ w2 ⟨rfl, hb2⟩; have hB2 := hB1.trans (hb2.mono hB1.size); have B2 := B1.stays hb2; clear c0 c1 c2 y0 y1 y2; obtain ⟨c0, c1, c2, y0, y1, y2⟩ := Blk.three B2))
  -- LOOP
  go_loopw [6] (fun v6 wr => ∃ (i : Nat) (q : Int × Int × Int), i ≤ n ∧ v6 = .int .i64 i ∧ runF z n (n - i) i q = runF z n n 0 p ∧ Below W.heap.size W wr ∧ Blk wr W.heap.size 90 #[.int .i64 p.1, .int .i64 p.2.1, .int .i64 p.2.2] ∧ Blk wr w2.heap.size 90 #[.int .i64 q.1, .int .i64 q.2.1, .int .i64 q.2.2]) (fun v6 _ => n - (intOf v6).toNat)
  case atStart => exact ⟨0, p, Nat.zero_le _, rfl, rfl, hB2.alloc hB2.size _, B2.alloc _, Blk.new w2 90 _⟩
  case round =>
    obtain ⟨i, q, hi, rfl, hR, DB', D2', D5'⟩ := hrel
    have hB2s := hB2.size
    have hbl5 : bl < w2.heap.size := Nat.lt_of_lt_of_le hbl0 hB2s
    have hne : W.heap.size ≠ w2.heap.size := Nat.ne_of_lt B2.lt
    clear c0 c1 c2 y0 y1 y2 B0 B1 B2 hB1 hB2 hb
    have HR := Lib.hid hR
    clear hR
    obtain ⟨c0, c1, c2, y0, y1, y2⟩ := Blk.three D5'
    by_cases hlt : i < n
    · have hN := nums_stays hf DB'
      obtain ⟨bl2, off2, e2, hbl, hcell⟩ := hN hp
      cases e2
      have hk0 : (0 : Int) ≤ (i : Int) := Int.natCast_nonneg _
      have hk1 : (i : Int) < (n : Int) := by omega
      obtain ⟨hci, hci2⟩ := hcell i hlt
      clear hcell hN
      by_cases h38 : z i = 38
      · have b1 : (z i == 38) = true := beq_iff_eq.mpr h38
        go_wp2_with fail
        go_ret
        exact ⟨rfl, DB'⟩
      · by_cases h48 : z i = 48
        · have b1 : (z i == 38) = false := beq_ff h38
          have b2 : (z i == 48) = true := beq_iff_eq.mpr h48
          go_wp2_with fail
          go_ret
          exact ⟨rfl, DB'⟩
        · have b1 : (z i == 38) = false := beq_ff h38
          have b2 : (z i == 48) = false := beq_ff h48
          have HR1 : runF z n (n - (i + 1)) (i + 1) (oneF q (z i)) = runF z n n 0 p := by
            have e := run_one (k := n - (i + 1)) (p := q) hlt h38 h48
            rw [show n - (i + 1) + 1 = n - i by omega] at e
            exact e.symm.trans HR.out
          have HR2 := Lib.hid HR1
          clear HR1
          go_upto_region 11 with (fail)
          have D5 := Blk.drew D5'
          have D2 := Blk.drew D2'
          have DB := Below.trans DB' (Joins.below_draws W.heap.size _ 1)
          have ci : (wr.drew).cell? ⟨bl, off + i, none⟩ = some (.int .i64 (z i)) := hci
          have hblx : bl < (wr.drew).heap.size := hbl
          clear c0 c1 c2 y0 y1 y2
          refine wp_region_held_drew (S := fun w' => w'.cell? ⟨bl, off + i, none⟩ = some (.int .i64 (z i))) (by kernel_rfl) ci (fun hHeld => ?_)
          refine takeH (i := 1) (N := some 42) (v := ?_) (a' := ?_) rfl rfl (by kernel_rfl) (by kernel_rfl) (by kernel_rfl) (fun _ _ _ h => h) (Or.inl ⟨by rfl, ?_⟩) hHeld ?_ ?_
          rotate_left
          · intro w' hSw
            clear hSw
            go_simp
            with_reducible rfl
          rotate_left
          · simp only [Act.put, List.setIfInBounds_toArray, List.set_cons_zero, List.set_cons_succ]
            rfl
          refine takeH (i := 2) (N := some 43) (v := ?_) (a' := ?_) rfl rfl (by kernel_rfl) (by kernel_rfl) (by kernel_rfl) (fun _ _ _ h => h) (Or.inl ⟨by rfl, ?_⟩) hHeld ?_ ?_
          rotate_left
          · intro w' hSw
            clear hSw
            go_simp
            with_reducible rfl
          rotate_left
          · simp only [Act.put, List.setIfInBounds_toArray, List.set_cons_zero, List.set_cons_succ]
            rfl
          refine takeH (i := 3) (N := some 44) (v := ?_) (a' := ?_) rfl rfl (by kernel_rfl) (by kernel_rfl) (by kernel_rfl) (fun _ _ _ h => h) (Or.inl ⟨by rfl, ?_⟩) hHeld ?_ ?_
          rotate_left
          · intro w' hSw
            clear hSw
            go_simp
            with_reducible rfl
          rotate_left
          · simp only [Act.put, List.setIfInBounds_toArray, List.set_cons_zero, List.set_cons_succ]
            rfl
          refine takeH (i := 4) (N := some 45) (v := ?_) (a' := ?_) rfl rfl (by kernel_rfl) (by kernel_rfl) (by kernel_rfl) (fun _ _ _ h => h) (Or.inl ⟨by rfl, ?_⟩) hHeld ?_ ?_
          rotate_left
          · intro w' hSw
            skip
            go_simp
            with_reducible rfl
          rotate_left
          · simp only [Act.put, List.setIfInBounds_toArray, List.set_cons_zero, List.set_cons_succ]
            rfl
          refine wpAnyH_ready (rs := [0, 5]) (by kernel_rfl) (by simp) ?_
          refine AllReadyH.cons rfl (fun K hK => ?_) (AllReadyH.cons rfl (fun K hK => ?_) AllReadyH.nil)
          · obtain ⟨c0, c1, c2, y0, y1, y2⟩ := Blk.three D5
            go_simp
            clear c0 c1 c2 y0 y1 y2
            refine hK.out _ _ (ci) (fun hHeld => ?_)
            clear hK K
            refine wpAnyH_ready (rs := [5]) (by kernel_rfl) (by simp) ?_
            refine AllReadyH.cons rfl (fun K hK => ?_) AllReadyH.nil
            go_simp
            refine hK.out _ _ (((Below.refl (wr.drew).heap.size _).alloc (Nat.le_refl _) _).cell (p := ⟨bl, off + i, none⟩) hblx |>.trans ci) (fun hHeld => ?_)
            clear hK K
            refine wpAnyH_ready (rs := [6]) (by kernel_rfl) (by simp) ?_
            refine AllReadyH.cons rfl (fun K hK => ?_) AllReadyH.nil
            go_simp
            refine (one_call h38 h48 hci2 (World.drew wr)).mono ?_
            rintro _ x ⟨rfl, hx⟩
            have Z5 := D5.stays hx
            have Z2 := D2.stays hx
            have ZB := DB.trans (hx.mono DB.size)
            have cx : x.cell? ⟨bl, off + i, none⟩ = some (.int .i64 (z i)) := (hx.cell (p := ⟨bl, off + i, none⟩) hblx).trans ci
            go_simp
            refine hK.out _ _ cx (fun hHeld => ?_)
            clear hK K
            refine wpAnyH_ready (rs := [7]) (by kernel_rfl) (by simp) ?_
            refine AllReadyH.cons rfl (fun K hK => ?_) AllReadyH.nil
            obtain ⟨c0, c1, c2, y0, y1, y2⟩ := Blk.three Z5
            go_simp
            refine hK.out _ _ (((below_set3 (Below.refl w2.heap.size x) (Nat.le_refl _) _ _ _).cell (p := ⟨bl, off + i, none⟩) hbl5).trans cx) (fun hHeld => ?_)
            refine wpAnyH_done (by kernel_rfl) ?_ _
            clear hK K hHeld
            go_wp2_with fail
            go_roundw
            case rel => exact ⟨i + 1, oneF q (z i), by omega, by go_num, HR2.out, below_set3 ZB hB2s _ _ _, Z2.far3 hne _ _ _, Z5.set3 _ _ _⟩
            case measure => simp [intOf]; omega
          · go_simp
            refine hK.out _ _ (((Below.refl (wr.drew).heap.size _).alloc (Nat.le_refl _) _).cell (p := ⟨bl, off + i, none⟩) hblx |>.trans ci) (fun hHeld => ?_)
            clear hK K
            refine wpAnyH_ready (rs := [0]) (by kernel_rfl) (by simp) ?_
            refine AllReadyH.cons rfl (fun K hK => ?_) AllReadyH.nil
            obtain ⟨c0, c1, c2, y0, y1, y2⟩ := Blk.three (D5'.alloc (.cells #[.int .i64 (z i)] 3))
            go_simp
            clear c0 c1 c2 y0 y1 y2
            refine hK.out _ _ (((Below.refl (wr.drew).heap.size _).alloc (Nat.le_refl _) _).cell (p := ⟨bl, off + i, none⟩) hblx |>.trans ci) (fun hHeld => ?_)
            clear hK K
            refine wpAnyH_ready (rs := [6]) (by kernel_rfl) (by simp) ?_
            refine AllReadyH.cons rfl (fun K hK => ?_) AllReadyH.nil
            go_simp
            refine (one_call h38 h48 hci2 (World.drew wr)).mono ?_
            rintro _ x ⟨rfl, hx⟩
            have Z5 := D5.stays hx
            have Z2 := D2.stays hx
            have ZB := DB.trans (hx.mono DB.size)
            have cx : x.cell? ⟨bl, off + i, none⟩ = some (.int .i64 (z i)) := (hx.cell (p := ⟨bl, off + i, none⟩) hblx).trans ci
            go_simp
            refine hK.out _ _ cx (fun hHeld => ?_)
            clear hK K
            refine wpAnyH_ready (rs := [7]) (by kernel_rfl) (by simp) ?_
            refine AllReadyH.cons rfl (fun K hK => ?_) AllReadyH.nil
            obtain ⟨c0, c1, c2, y0, y1, y2⟩ := Blk.three Z5
            go_simp
            refine hK.out _ _ (((below_set3 (Below.refl w2.heap.size x) (Nat.le_refl _) _ _ _).cell (p := ⟨bl, off + i, none⟩) hbl5).trans cx) (fun hHeld => ?_)
            refine wpAnyH_done (by kernel_rfl) ?_ _
            clear hK K hHeld
            go_wp2_with fail
            go_roundw
            case rel => exact ⟨i + 1, oneF q (z i), by omega, by go_num, HR2.out, below_set3 ZB hB2s _ _ _, Z2.far3 hne _ _ _, Z5.set3 _ _ _⟩
            case measure => simp [intOf]; omega
    · have hni : i = n := by omega
      have hrun : runF z n n 0 p = q := by rw [← HR.out]; exact run_end (by omega)
      have hk1 : ¬ (i : Int) < (n : Int) := by omega
      have HA : ∀ w, Nums .i64 w (some ⟨bl, off, none⟩) n z → Calls Try.prog 54 #[.agg #[.int .i64 p.1, .int .i64 p.2.1, .int .i64 p.2.2], .slice (some ⟨bl, off, none⟩) n c] w fun e w' => e = .returned (.agg #[.int .i64 q.1, .int .i64 q.2.1, .int .i64 q.2.2]) ∧ Below w.heap.size w w' := by
        intro w hw
        have h := apply_c (c := c) hw hnc HC.out p
        rw [show applyF z n p = q from (if_neg (by omega)).trans hrun] at h
        exact h
      have hN := nums_stays hf DB'
      obtain ⟨d0, d1, d2, x0, x1, x2⟩ := Blk.three D2'
      go_wp2_with fail
      have E5 := Blk.drew D5'
      have E2 := Blk.drew D2'
      have EB := Below.trans DB' (Joins.below_draws W.heap.size _ 1)
      have HN : Nums .i64 wr.drew (some ⟨bl, off, none⟩) n z := nums_stays hf EB
      have HA2 := HA wr.drew HN
      clear c0 c1 c2 y0 y1 y2 d0 d1 d2 x0 x1 x2 HA HN hN
      refine wp_region_held_drew (S := fun w' => (w'.cell? ⟨w2.heap.size, 0, none⟩ = some (.int .i64 q.1) ∧ w'.cell? ⟨w2.heap.size, 1, none⟩ = some (.int .i64 q.2.1) ∧ w'.cell? ⟨w2.heap.size, 2, none⟩ = some (.int .i64 q.2.2)) ∧ (w'.cell? ⟨W.heap.size, 0, none⟩ = some (.int .i64 p.1) ∧ w'.cell? ⟨W.heap.size, 1, none⟩ = some (.int .i64 p.2.1) ∧ w'.cell? ⟨W.heap.size, 2, none⟩ = some (.int .i64 p.2.2))) (by kernel_rfl) (⟨⟨E5.cell 0, E5.cell 1, E5.cell 2⟩, ⟨E2.cell 0, E2.cell 1, E2.cell 2⟩⟩) (fun hHeld => ?_)
      refine takeH (i := 0) (N := some 48) (v := ?_) (a' := ?_) rfl rfl (by kernel_rfl) (by kernel_rfl) (by kernel_rfl) (fun _ _ _ h => h) (Or.inl ⟨by rfl, ?_⟩) hHeld ?_ ?_
      rotate_left
      · intro w' hSw
        go_split_ands
        go_simp
        with_reducible rfl
      rotate_left
      · simp only [Act.put, List.setIfInBounds_toArray, List.set_cons_zero, List.set_cons_succ]
        rfl
      refine takeH (i := 1) (N := some 49) (v := ?_) (a' := ?_) rfl rfl (by kernel_rfl) (by kernel_rfl) (by kernel_rfl) (fun _ _ _ h => h) (Or.inl ⟨by rfl, ?_⟩) hHeld ?_ ?_
      rotate_left
      · intro w' hSw
        go_split_ands
        go_simp
        with_reducible rfl
      rotate_left
      · simp only [Act.put, List.setIfInBounds_toArray, List.set_cons_zero, List.set_cons_succ]
        rfl
      refine takeH (i := 2) (N := some 50) (v := ?_) (a' := ?_) rfl rfl (by kernel_rfl) (by kernel_rfl) (by kernel_rfl) (fun _ _ _ h => h) (Or.inl ⟨by rfl, ?_⟩) hHeld ?_ ?_
      rotate_left
      · intro w' hSw
        clear hSw
        go_simp
        with_reducible rfl
      rotate_left
      · simp only [Act.put, List.setIfInBounds_toArray, List.set_cons_zero, List.set_cons_succ]
        rfl
      refine wpAnyH_ready (rs := [3]) (by kernel_rfl) (by simp) ?_
      refine AllReadyH.cons rfl (fun K hK => ?_) AllReadyH.nil
      go_simp
      with_reducible refine HA2.mono ?_
      rintro _ x ⟨rfl, hx⟩
      have Z5 := E5.stays hx
      have Z2 := E2.stays hx
      have EB2 := EB.trans (hx.mono EB.size)
      refine hK.out _ _ (⟨⟨Z5.cell 0, Z5.cell 1, Z5.cell 2⟩, ⟨Z2.cell 0, Z2.cell 1, Z2.cell 2⟩⟩) (fun hHeld => ?_)
      clear hK K
      refine takeH (i := 4) (N := some 52) (v := ?_) (a' := ?_) rfl rfl (by kernel_rfl) (by kernel_rfl) (by kernel_rfl) (fun _ _ _ h => h) (Or.inl ⟨by rfl, ?_⟩) hHeld ?_ ?_
      rotate_left
      · intro w' hSw
        clear hSw
        go_simp
        with_reducible rfl
      rotate_left
      · simp only [Act.put, List.setIfInBounds_toArray, List.set_cons_zero, List.set_cons_succ]
        rfl
      refine takeH (i := 5) (N := some 4) (v := ?_) (a' := ?_) rfl rfl (by kernel_rfl) (by kernel_rfl) (by kernel_rfl) (fun _ _ _ h => h) (Or.inl ⟨by rfl, ?_⟩) hHeld ?_ ?_
      rotate_left
      · intro w' hSw
        clear hSw
        go_simp
        with_reducible rfl
      rotate_left
      · simp only [Act.put, List.setIfInBounds_toArray, List.set_cons_zero, List.set_cons_succ]
        rfl
      refine wpAnyH_done (by kernel_rfl) ?_ _
      clear hHeld
      go_wp2_with fail
      go_ret
      exact ⟨rfl, EB2⟩
end Go.Proofs.Ytagciaanfjllnaa.PenC
namespace Go.Proofs.Ytagciaanfjllnaa.Walk
open Go Go.RowKit Go.Proofs.Ytagciaanfjllnaa.Opens
theorem PenSteps (a b m : Int) (A : Option Addr) (n c : Nat) (z : Nat → Int) (W : World) (_ : (Lit.int .i64 a).wf = true) (_ : (Lit.int .i64 b).wf = true) (_ : (Lit.int .i64 m).wf = true) (f : n ≤ c ∧ c ≤ maxLen ∧ Nums .i64 W A n z) :
    Calls Try.prog 14 #[.agg #[.int .i64 a, .int .i64 b, .int .i64 m], .slice A n c] W fun e w' => e = .returned (.bool true) ∧ Below W.heap.size W w' := by
  by_cases h : PenC.RightP (a, b, m)
  · by_cases h40 : n ≤ 40
    · by_cases h0 : n = 0
      · subst h0
        exact PenC.steps_none (a, b, m) A c W h
      · exact PenC.steps_main (p := (a, b, m)) h f.2.2 h40 f.1 f.2.1 (by omega)
    · exact PenC.steps_long (a, b, m) A n c W h (by omega) (Nat.le_trans f.1 f.2.1)
  · exact PenC.steps_not (a, b, m) A n c W h
end Go.Proofs.Ytagciaanfjllnaa.Walk
