/- The pen's contracts: the colour of one number, what one number changes. -/
import Derived.Test.YtagciaanfjllnaaPenC
import Derived.Test.YtagciaanfjllnaaRegionL
import Derived.Deep.RegionHeld3
import Derived.Deep.DrawnRows
import Derived.Deep.DeepCutAuto
namespace Go.Proofs.Ytagciaanfjllnaa.PenC
open Go Go.RowKit Go.Proofs.Ytagciaanfjllnaa.Base Go.Proofs.Ytagciaanfjllnaa.Opens Go.Proofs.Ytagciaanfjllnaa.Reg Go.Proofs.Ytagciaanfjllnaa.PPenCodes Go.Proofs.YtagciaanfjllnaaW.PrintWords Go.Proofs.YtagciaanfjllnaaW.PrintMore
set_option linter.unusedVariables false
attribute [local go_sem ↓] Go.wp_at_zero Go.wp_at_succ

theorem new2 (W : World) (a b : Array Value) (t u : TypeId) : Blk ((W.alloc (.cells a t)).alloc (.cells b u)) (W.heap.size + 1) u b := by
  have h := Blk.new (W.alloc (.cells a t)) u b
  rw [World.size_alloc] at h
  exact h
theorem put0 {w : World} {g : Nat} {t : TypeId} {a b c : Value} (h : Blk w g t #[a, b, c]) (v : Value) : Blk (w.setCell ⟨g, 0, none⟩ v) g t #[v, b, c] := by
  simpa using h.set_ 0 v
theorem farL {w : World} {g : Nat} {t : TypeId} {cs : Array Value} (h : Blk w (g + 1) t cs) (i : Nat) (v : Value) : Blk (w.setCell ⟨g, i, none⟩ v) (g + 1) t cs := h.far (by simp) v
theorem belowL {w w' : World} {g : Nat} (h : Below g w w') (i : Nat) (v : Value) : Below g w (w'.setCell ⟨g, i, none⟩ v) := h.setCell (Nat.le_refl _) v
/-- the colour that a number tells by itself -/
def basicF (n a : Int) : Option Int := if a ≤ n ∧ n < a + 8 then some (n - a + 1) else if n = a + 9 then some 0 else if a + 60 ≤ n ∧ n < a + 68 then some (n - a - 51) else none
theorem w64 {x : Int} (h0 : -1000 ≤ x) (h1 : x ≤ 1000) : wrap64 x = x := by unfold wrap64; omega
theorem basic_f (n a : Int) (h0 : 0 ≤ a) (h1 : a ≤ 100) : pen_basic.f 1 n a = some ((basicF n a).getD 0, (basicF n a).isSome) := by
  simp only [pen_basic.f, pen_basic.j0]
  unfold basicF
  rw [w64 (x := a + 8) (by omega) (by omega), w64 (x := a + 9) (by omega) (by omega), w64 (x := a + 60) (by omega) (by omega), w64 (x := a + 68) (by omega) (by omega)]
  by_cases c1 : a ≤ n
  · by_cases c2 : n < a + 8
    · rw [if_pos c1, if_pos (by simp [c2]), if_pos (show a ≤ n ∧ n < a + 8 from ⟨c1, c2⟩), w64 (x := n - a) (by omega) (by omega), w64 (x := n - a + 1) (by omega) (by omega)]
      rfl
    · rw [if_pos c1, if_neg (by simp [c2]), if_neg (show ¬ (a ≤ n ∧ n < a + 8) from fun h => c2 h.2)]
      by_cases c3 : n = a + 9
      · rw [if_pos c3, if_pos c3]; rfl
      · rw [if_neg c3, if_neg c3]
        by_cases c4 : a + 60 ≤ n
        · by_cases c5 : n < a + 68
          · rw [if_pos c4, if_pos c5, if_pos (show a + 60 ≤ n ∧ n < a + 68 from ⟨c4, c5⟩), w64 (x := n - a) (by omega) (by omega), w64 (x := n - a - 60) (by omega) (by omega), w64 (x := n - a - 60 + 9) (by omega) (by omega)]
            simp
            omega
          · rw [if_pos c4, if_neg c5, if_neg (show ¬ (a + 60 ≤ n ∧ n < a + 68) from fun h => c5 h.2)]; rfl
        · rw [if_neg c4, if_neg (show ¬ (a + 60 ≤ n ∧ n < a + 68) from fun h => c4 h.1)]; rfl
  · rw [if_neg c1, if_neg (show ¬ (false = true) by simp), if_neg (show ¬ (n = a + 9) by omega), if_neg (show ¬ (n ≥ a + 60) by omega), if_neg (show ¬ (a ≤ n ∧ n < a + 8) from fun h => c1 h.1), if_neg (show ¬ (n = a + 9) by omega), if_neg (show ¬ (a + 60 ≤ n ∧ n < a + 68) by omega)]
    rfl
theorem basic_c (n a : Int) (h0 : 0 ≤ a) (h1 : a ≤ 100) (w : World) : Calls Try.prog 77 #[.int .i64 n, .int .i64 a] w fun e w' => e = .returned (.tuple #[.int .i64 ((basicF n a).getD 0), .bool (basicF n a).isSome]) ∧ Below w.heap.size w w' := by
  refine (pen_basic.calls 1 n a _ _ w (basic_f n a h0 h1)).mono ?_
  rintro e w' ⟨rfl, k, rfl⟩
  exact ⟨rfl, Joins.below_draws _ _ _⟩

set_option maxHeartbeats 4000000 in
set_option maxRecDepth 100000 in
theorem one_zero (f b m n : Int) (W : World) (h : n ≤ 0) : Calls Try.prog 66 #[.agg #[.int .i64 f, .int .i64 b, .int .i64 m], .int .i64 n] W fun e w' => e = .returned (.agg #[.int .i64 0, .int .i64 0, .int .i64 0]) ∧ Below W.heap.size W w' := by
  go_enter Try.func66, Try.ntmps66
  go_wp2_with fail
  refine bodyPost_ret (results_cell_row rfl _ _ (W.heap.size + 1) 90 #[.int .i64 0, .int .i64 0, .int .i64 0] (0, 0) _ rfl (new2 W _ _ 90 90) Try.underlying90 rfl (by kernel_rfl)) rfl ?_
  exact ⟨rfl, Joins.below_alloc2 W _ _⟩

set_option maxHeartbeats 4000000 in
set_option maxRecDepth 100000 in
theorem one_some (f b m n : Int) (o1 o2 : Option Int) (W : World) (h : 1 ≤ n) (h30 : ∀ w, Calls Try.prog 77 #[.int .i64 n, .int .i64 30] w fun e w' => e = .returned (.tuple #[.int .i64 (o1.getD 0), .bool o1.isSome]) ∧ Below w.heap.size w w') (h40 : ∀ w, Calls Try.prog 77 #[.int .i64 n, .int .i64 40] w fun e w' => e = .returned (.tuple #[.int .i64 (o2.getD 0), .bool o2.isSome]) ∧ Below w.heap.size w w') :
    Calls Try.prog 66 #[.agg #[.int .i64 f, .int .i64 b, .int .i64 m], .int .i64 n] W fun e w' => e = .returned (.agg #[.int .i64 (o1.getD f), .int .i64 (o2.getD b), .int .i64 (bits .andNot .i64 (bits .or .i64 m (markF n)) (clearF n))]) ∧ Below W.heap.size W w' := by
  have h2 : ¬ n ≤ 0 := by omega
  go_enter Try.func66, Try.ntmps66
  go_upto_region 3 with (fail)
  have N2 : Blk ((W.alloc (.cells #[.int .i64 f, .int .i64 b, .int .i64 m] 90)).alloc (.cells #[.int .i64 0, .int .i64 0, .int .i64 0] 90)) W.heap.size 90 _ := (Blk.new W 90 _).alloc _
  have N4 := new2 W #[.int .i64 f, .int .i64 b, .int .i64 m] #[.int .i64 0, .int .i64 0, .int .i64 0] 90 90
  have NB := Joins.below_alloc2 W (.cells #[.int .i64 f, .int .i64 b, .int .i64 m] 90) (.cells #[.int .i64 0, .int .i64 0, .int .i64 0] 90)
  go_cut [17] (fun s17 wx => Below W.heap.size W wx ∧ Blk wx W.heap.size 90 #[.int .i64 f, .int .i64 b, .int .i64 (bits .or .i64 m (markF n))] ∧ Blk wx (W.heap.size + 1) 90 #[.int .i64 0, .int .i64 0, .int .i64 0])
  case first =>
    refine wp_region_held_drew (S := fun _ => True) (by kernel_rfl) trivial (fun hHeld => ?_)
    refine takeH (i := 0) (N := some 12) (v := ?_) (a' := ?_) rfl rfl (by kernel_rfl) (by kernel_rfl) (by kernel_rfl) (fun _ _ _ h => h) (Or.inl ⟨by rfl, ?_⟩) hHeld ?_ ?_
    rotate_left
    · intro w' hSw
      clear hSw
      go_simp
      with_reducible rfl
    rotate_left
    · simp only [Act.put, List.setIfInBounds_toArray, List.set_cons_zero, List.set_cons_succ]
      rfl
    refine takeH (i := 2) (N := some 14) (v := ?_) (a' := ?_) rfl rfl (by kernel_rfl) (by kernel_rfl) (by kernel_rfl) (fun _ _ _ h => h) (Or.inl ⟨by rfl, ?_⟩) hHeld ?_ ?_
    rotate_left
    · intro w' hSw
      clear hSw
      go_simp
      with_reducible rfl
    rotate_left
    · simp only [Act.put, List.setIfInBounds_toArray, List.set_cons_zero, List.set_cons_succ]
      rfl
    have X2 := Blk.drew N2
    have X4 := Blk.drew N4
    have XB := Below.trans NB (Joins.below_draws W.heap.size _ 1)
    refine wpAnyH_ready (rs := [1, 3]) (by kernel_rfl) (by simp) ?_
    refine AllReadyH.cons rfl (fun K hK => ?_) (AllReadyH.cons rfl (fun K hK => ?_) AllReadyH.nil)
    · have c2 := Blk.cell X2 2
      simp only [List.getElem?_toArray, List.getElem?_cons_succ, List.getElem?_cons_zero] at c2
      go_simp
      clear c2
      refine hK.out _ _ trivial (fun hHeld => ?_)
      clear hK K
      refine wpAnyH_ready (rs := [3]) (by kernel_rfl) (by simp) ?_
      refine AllReadyH.cons rfl (fun K hK => ?_) AllReadyH.nil
      go_simp
      refine (mark_c _ _).mono ?_
      rintro _ x ⟨rfl, hx⟩
      have Y2 := Blk.stays X2 hx
      have Y4 := Blk.stays X4 hx
      have YB := Below.trans XB (hx.mono (Below.size XB))
      go_simp
      refine hK.out _ _ trivial (fun hHeld => ?_)
      clear hK K
      refine takeH (i := 4) (N := some 16) (v := ?_) (a' := ?_) rfl rfl (by kernel_rfl) (by kernel_rfl) (by kernel_rfl) (fun _ _ _ h => h) (Or.inl ⟨by rfl, ?_⟩) hHeld ?_ ?_
      rotate_left
      · intro w' hSw
        clear hSw
        go_simp
        with_reducible rfl
      rotate_left
      · simp only [Act.put, List.setIfInBounds_toArray, List.set_cons_zero, List.set_cons_succ]
        rfl
      refine takeH (i := 5) (N := some 17) (v := ?_) (a' := ?_) rfl rfl (by kernel_rfl) (by kernel_rfl) (by kernel_rfl) (fun _ _ _ h => h) (Or.inl ⟨by rfl, ?_⟩) hHeld ?_ ?_
      rotate_left
      · intro w' hSw
        clear hSw
        go_simp
        with_reducible rfl
      rotate_left
      · simp only [Act.put, List.setIfInBounds_toArray, List.set_cons_zero, List.set_cons_succ]
        rfl
      refine wpAnyH_ready (rs := [6]) (by kernel_rfl) (by simp) ?_
      refine AllReadyH.cons rfl (fun K hK => ?_) AllReadyH.nil
      obtain ⟨c0, c1, c2, z0, z1, z2⟩ := Blk.three Y2
      go_simp
      refine hK.out _ _ trivial (fun hHeld => ?_)
      refine wpAnyH_done (by kernel_rfl) ?_ _
      clear hK K hHeld
      go_wp2_with fail
      go_meet
      exact ⟨Below.setCell YB (Nat.le_refl _) _, by simpa using Y2.set_ 2 (.int .i64 (bits .or .i64 m (markF n))), Y4.far (by simp) _⟩
    · go_simp
      refine (mark_c _ _).mono ?_
      rintro _ x ⟨rfl, hx⟩
      have Y2 := Blk.stays X2 hx
      have Y4 := Blk.stays X4 hx
      have YB := Below.trans XB (hx.mono (Below.size XB))
      go_simp
      refine hK.out _ _ trivial (fun hHeld => ?_)
      clear hK K
      refine wpAnyH_ready (rs := [1]) (by kernel_rfl) (by simp) ?_
      refine AllReadyH.cons rfl (fun K hK => ?_) AllReadyH.nil
      have c2 := Blk.cell Y2 2
      simp only [List.getElem?_toArray, List.getElem?_cons_succ, List.getElem?_cons_zero] at c2
      go_simp
      clear c2
      refine hK.out _ _ trivial (fun hHeld => ?_)
      clear hK K
      refine takeH (i := 4) (N := some 16) (v := ?_) (a' := ?_) rfl rfl (by kernel_rfl) (by kernel_rfl) (by kernel_rfl) (fun _ _ _ h => h) (Or.inl ⟨by rfl, ?_⟩) hHeld ?_ ?_
      rotate_left
      · intro w' hSw
        clear hSw
        go_simp
        with_reducible rfl
      rotate_left
      · simp only [Act.put, List.setIfInBounds_toArray, List.set_cons_zero, List.set_cons_succ]
        rfl
      refine takeH (i := 5) (N := some 17) (v := ?_) (a' := ?_) rfl rfl (by kernel_rfl) (by kernel_rfl) (by kernel_rfl) (fun _ _ _ h => h) (Or.inl ⟨by rfl, ?_⟩) hHeld ?_ ?_
      rotate_left
      · intro w' hSw
        clear hSw
        go_simp
        with_reducible rfl
      rotate_left
      · simp only [Act.put, List.setIfInBounds_toArray, List.set_cons_zero, List.set_cons_succ]
        rfl
      refine wpAnyH_ready (rs := [6]) (by kernel_rfl) (by simp) ?_
      refine AllReadyH.cons rfl (fun K hK => ?_) AllReadyH.nil
      obtain ⟨c0, c1, c2, z0, z1, z2⟩ := Blk.three Y2
      go_simp
      refine hK.out _ _ trivial (fun hHeld => ?_)
      refine wpAnyH_done (by kernel_rfl) ?_ _
      clear hK K hHeld
      go_wp2_with fail
      go_meet
      exact ⟨Below.setCell YB (Nat.le_refl _) _, by simpa using Y2.set_ 2 (.int .i64 (bits .or .i64 m (markF n))), Y4.far (by simp) _⟩
  case rest =>
    obtain ⟨CB, C2, C4⟩ := hcut
    clear N2 N4 NB
    go_upto_region 4 with (fail)
    go_cut [23] (fun s23 wy => Below W.heap.size W wy ∧ Blk wy W.heap.size 90 #[.int .i64 f, .int .i64 b, .int .i64 (bits .andNot .i64 (bits .or .i64 m (markF n)) (clearF n))] ∧ Blk wy (W.heap.size + 1) 90 #[.int .i64 0, .int .i64 0, .int .i64 0])
    case first =>
      refine wp_region_held_drew (S := fun _ => True) (by kernel_rfl) trivial (fun hHeld => ?_)
      refine takeH (i := 0) (N := some 18) (v := ?_) (a' := ?_) rfl rfl (by kernel_rfl) (by kernel_rfl) (by kernel_rfl) (fun _ _ _ h => h) (Or.inl ⟨by rfl, ?_⟩) hHeld ?_ ?_
      rotate_left
      · intro w' hSw
        clear hSw
        go_simp
        with_reducible rfl
      rotate_left
      · simp only [Act.put, List.setIfInBounds_toArray, List.set_cons_zero, List.set_cons_succ]
        rfl
      refine takeH (i := 2) (N := some 20) (v := ?_) (a' := ?_) rfl rfl (by kernel_rfl) (by kernel_rfl) (by kernel_rfl) (fun _ _ _ h => h) (Or.inl ⟨by rfl, ?_⟩) hHeld ?_ ?_
      rotate_left
      · intro w' hSw
        clear hSw
        go_simp
        with_reducible rfl
      rotate_left
      · simp only [Act.put, List.setIfInBounds_toArray, List.set_cons_zero, List.set_cons_succ]
        rfl
      have X2 := Blk.drew C2
      have X4 := Blk.drew C4
      have XB := Below.trans CB (Joins.below_draws W.heap.size _ 1)
      refine wpAnyH_ready (rs := [1, 3]) (by kernel_rfl) (by simp) ?_
      refine AllReadyH.cons rfl (fun K hK => ?_) (AllReadyH.cons rfl (fun K hK => ?_) AllReadyH.nil)
      · have c2 := Blk.cell X2 2
        simp only [List.getElem?_toArray, List.getElem?_cons_succ, List.getElem?_cons_zero] at c2
        go_simp
        clear c2
        refine hK.out _ _ trivial (fun hHeld => ?_)
        clear hK K
        refine wpAnyH_ready (rs := [3]) (by kernel_rfl) (by simp) ?_
        refine AllReadyH.cons rfl (fun K hK => ?_) AllReadyH.nil
        go_simp
        refine (clear_c _ _).mono ?_
        rintro _ x ⟨rfl, hx⟩
        have Y2 := Blk.stays X2 hx
        have Y4 := Blk.stays X4 hx
        have YB := Below.trans XB (hx.mono (Below.size XB))
        go_simp
        refine hK.out _ _ trivial (fun hHeld => ?_)
        clear hK K
        refine takeH (i := 4) (N := some 22) (v := ?_) (a' := ?_) rfl rfl (by kernel_rfl) (by kernel_rfl) (by kernel_rfl) (fun _ _ _ h => h) (Or.inl ⟨by rfl, ?_⟩) hHeld ?_ ?_
        rotate_left
        · intro w' hSw
          clear hSw
          go_simp
          with_reducible rfl
        rotate_left
        · simp only [Act.put, List.setIfInBounds_toArray, List.set_cons_zero, List.set_cons_succ]
          rfl
        refine takeH (i := 5) (N := some 23) (v := ?_) (a' := ?_) rfl rfl (by kernel_rfl) (by kernel_rfl) (by kernel_rfl) (fun _ _ _ h => h) (Or.inl ⟨by rfl, ?_⟩) hHeld ?_ ?_
        rotate_left
        · intro w' hSw
          clear hSw
          go_simp
          with_reducible rfl
        rotate_left
        · simp only [Act.put, List.setIfInBounds_toArray, List.set_cons_zero, List.set_cons_succ]
          rfl
        refine wpAnyH_ready (rs := [6]) (by kernel_rfl) (by simp) ?_
        refine AllReadyH.cons rfl (fun K hK => ?_) AllReadyH.nil
        obtain ⟨c0, c1, c2, z0, z1, z2⟩ := Blk.three Y2
        go_simp
        refine hK.out _ _ trivial (fun hHeld => ?_)
        refine wpAnyH_done (by kernel_rfl) ?_ _
        clear hK K hHeld
        go_wp2_with fail
        go_meet
        exact ⟨Below.setCell YB (Nat.le_refl _) _, by simpa using Y2.set_ 2 (.int .i64 (bits .andNot .i64 (bits .or .i64 m (markF n)) (clearF n))), Y4.far (by simp) _⟩
      · go_simp
        refine (clear_c _ _).mono ?_
        rintro _ x ⟨rfl, hx⟩
        have Y2 := Blk.stays X2 hx
        have Y4 := Blk.stays X4 hx
        have YB := Below.trans XB (hx.mono (Below.size XB))
        go_simp
        refine hK.out _ _ trivial (fun hHeld => ?_)
        clear hK K
        refine wpAnyH_ready (rs := [1]) (by kernel_rfl) (by simp) ?_
        refine AllReadyH.cons rfl (fun K hK => ?_) AllReadyH.nil
        have c2 := Blk.cell Y2 2
        simp only [List.getElem?_toArray, List.getElem?_cons_succ, List.getElem?_cons_zero] at c2
        go_simp
        clear c2
        refine hK.out _ _ trivial (fun hHeld => ?_)
        clear hK K
        refine takeH (i := 4) (N := some 22) (v := ?_) (a' := ?_) rfl rfl (by kernel_rfl) (by kernel_rfl) (by kernel_rfl) (fun _ _ _ h => h) (Or.inl ⟨by rfl, ?_⟩) hHeld ?_ ?_
        rotate_left
        · intro w' hSw
          clear hSw
          go_simp
          with_reducible rfl
        rotate_left
        · simp only [Act.put, List.setIfInBounds_toArray, List.set_cons_zero, List.set_cons_succ]
          rfl
        refine takeH (i := 5) (N := some 23) (v := ?_) (a' := ?_) rfl rfl (by kernel_rfl) (by kernel_rfl) (by kernel_rfl) (fun _ _ _ h => h) (Or.inl ⟨by rfl, ?_⟩) hHeld ?_ ?_
        rotate_left
        · intro w' hSw
          clear hSw
          go_simp
          with_reducible rfl
        rotate_left
        · simp only [Act.put, List.setIfInBounds_toArray, List.set_cons_zero, List.set_cons_succ]
          rfl
        refine wpAnyH_ready (rs := [6]) (by kernel_rfl) (by simp) ?_
        refine AllReadyH.cons rfl (fun K hK => ?_) AllReadyH.nil
        obtain ⟨c0, c1, c2, z0, z1, z2⟩ := Blk.three Y2
        go_simp
        refine hK.out _ _ trivial (fun hHeld => ?_)
        refine wpAnyH_done (by kernel_rfl) ?_ _
        clear hK K hHeld
        go_wp2_with fail
        go_meet
        exact ⟨Below.setCell YB (Nat.le_refl _) _, by simpa using Y2.set_ 2 (.int .i64 (bits .andNot .i64 (bits .or .i64 m (markF n)) (clearF n))), Y4.far (by simp) _⟩
    case rest =>
      obtain ⟨DB, D2, D4⟩ := hcut
      clear CB C2 C4
      obtain ⟨m2, hm2⟩ : ∃ m2, bits .andNot .i64 (bits .or .i64 m (markF n)) (clearF n) = m2 := ⟨_, rfl⟩
      rw [hm2] at D2
      rcases o1 with _ | c
      · replace h30 : ∀ w, Calls Try.prog 77 #[.int .i64 n, .int .i64 30] w fun e w' => e = .returned (.tuple #[.int .i64 0, .bool false]) ∧ Below w.heap.size w w' := h30
        rcases o2 with _ | d
        · replace h40 : ∀ w, Calls Try.prog 77 #[.int .i64 n, .int .i64 40] w fun e w' => e = .returned (.tuple #[.int .i64 0, .bool false]) ∧ Below w.heap.size w w' := h40
          go_wp2_with (first
            | (go_at_call 77; refine (h30 _).mono ?_; rintro _ x1 ⟨rfl, hx1⟩; have E2 := D2.stays hx1; have E4 := D4.stays hx1; have EB := DB.trans (hx1.mono DB.size); clear D2 D4 DB h30; obtain ⟨p0, p1, p2, p3, p4, p5⟩ := Blk.three E2)
            | (go_at_call 77; have G2 := E2; have G4 := E4; have GB := EB; refine (h40 _).mono ?_; rintro _ x2 ⟨rfl, hx2⟩; have F2 := G2.stays hx2; have F4 := G4.stays hx2; have FB := GB.trans (hx2.mono GB.size); clear G2 G4 GB E2 E4 EB h40 p0 p1 p2 p3 p4 p5; obtain ⟨q0, q1, q2, q3, q4, q5⟩ := Blk.three F2; obtain ⟨r0, r1, r2, r3, r4, r5⟩ := Blk.three F4))
          refine bodyPost_ret (results_cell_row rfl _ _ (W.heap.size + 1) 90 #[.int .i64 f, .int .i64 b, .int .i64 m2] (0, 0) _ rfl (F4.set3 (.int .i64 f) (.int .i64 b) (.int .i64 m2)) Try.underlying90 rfl (by kernel_rfl)) rfl ?_
          subst hm2
          exact ⟨rfl, below_set3 FB (Nat.le_succ _) _ _ _⟩
        · replace h40 : ∀ w, Calls Try.prog 77 #[.int .i64 n, .int .i64 40] w fun e w' => e = .returned (.tuple #[.int .i64 d, .bool true]) ∧ Below w.heap.size w w' := h40
          go_wp2_with (first
            | (go_at_call 77; refine (h30 _).mono ?_; rintro _ x1 ⟨rfl, hx1⟩; have E2 := D2.stays hx1; have E4 := D4.stays hx1; have EB := DB.trans (hx1.mono DB.size); clear D2 D4 DB h30; obtain ⟨p0, p1, p2, p3, p4, p5⟩ := Blk.three E2)
            | (go_at_call 77; have G2 := E2; have G4 := E4; have GB := EB; refine (h40 _).mono ?_; rintro _ x2 ⟨rfl, hx2⟩; have F2 := G2.stays hx2; have F4 := G4.stays hx2; have FB := GB.trans (hx2.mono GB.size); clear G2 G4 GB E2 E4 EB h40 p0 p1 p2 p3 p4 p5; obtain ⟨q0, q1, q2, q3, q4, q5⟩ := Blk.three F2; obtain ⟨r0, r1, r2, r3, r4, r5⟩ := Blk.three F4))
          refine bodyPost_ret (results_cell_row rfl _ _ (W.heap.size + 1) 90 #[.int .i64 f, .int .i64 d, .int .i64 m2] (0, 0) _ rfl ((F4.far (p := ⟨W.heap.size, 1, none⟩) (by simp) (.int .i64 d)).set3 (.int .i64 f) (.int .i64 d) (.int .i64 m2)) Try.underlying90 rfl (by kernel_rfl)) rfl ?_
          subst hm2
          exact ⟨rfl, below_set3 (show Below W.heap.size W (x2.setCell ⟨W.heap.size, 1, none⟩ (.int .i64 d)) from FB.setCell (Nat.le_refl _) _) (Nat.le_succ _) _ _ _⟩
      · replace h30 : ∀ w, Calls Try.prog 77 #[.int .i64 n, .int .i64 30] w fun e w' => e = .returned (.tuple #[.int .i64 c, .bool true]) ∧ Below w.heap.size w w' := h30
        rcases o2 with _ | d
        · replace h40 : ∀ w, Calls Try.prog 77 #[.int .i64 n, .int .i64 40] w fun e w' => e = .returned (.tuple #[.int .i64 0, .bool false]) ∧ Below w.heap.size w w' := h40
          go_wp2_with (first
            | (go_at_call 77; refine (h30 _).mono ?_; rintro _ x1 ⟨rfl, hx1⟩; have E2 := D2.stays hx1; have E4 := D4.stays hx1; have EB := DB.trans (hx1.mono DB.size); clear D2 D4 DB h30; obtain ⟨p0, p1, p2, p3, p4, p5⟩ := Blk.three E2)
            | (go_at_call 77; have G2 := put0 E2 (.int .i64 c); have G4 := farL E4 0 (.int .i64 c); have GB := belowL EB 0 (.int .i64 c); refine (h40 _).mono ?_; rintro _ x2 ⟨rfl, hx2⟩; have F2 := G2.stays hx2; have F4 := G4.stays hx2; have FB := GB.trans (hx2.mono GB.size); clear G2 G4 GB E2 E4 EB h40 p0 p1 p2 p3 p4 p5; obtain ⟨q0, q1, q2, q3, q4, q5⟩ := Blk.three F2; obtain ⟨r0, r1, r2, r3, r4, r5⟩ := Blk.three F4))
          refine bodyPost_ret (results_cell_row rfl _ _ (W.heap.size + 1) 90 #[.int .i64 c, .int .i64 b, .int .i64 m2] (0, 0) _ rfl (F4.set3 (.int .i64 c) (.int .i64 b) (.int .i64 m2)) Try.underlying90 rfl (by kernel_rfl)) rfl ?_
          subst hm2
          exact ⟨rfl, below_set3 FB (Nat.le_succ _) _ _ _⟩
        · replace h40 : ∀ w, Calls Try.prog 77 #[.int .i64 n, .int .i64 40] w fun e w' => e = .returned (.tuple #[.int .i64 d, .bool true]) ∧ Below w.heap.size w w' := h40
          go_wp2_with (first
            | (go_at_call 77; refine (h30 _).mono ?_; rintro _ x1 ⟨rfl, hx1⟩; have E2 := D2.stays hx1; have E4 := D4.stays hx1; have EB := DB.trans (hx1.mono DB.size); clear D2 D4 DB h30; obtain ⟨p0, p1, p2, p3, p4, p5⟩ := Blk.three E2)
            | (go_at_call 77; have G2 := put0 E2 (.int .i64 c); have G4 := farL E4 0 (.int .i64 c); have GB := belowL EB 0 (.int .i64 c); refine (h40 _).mono ?_; rintro _ x2 ⟨rfl, hx2⟩; have F2 := G2.stays hx2; have F4 := G4.stays hx2; have FB := GB.trans (hx2.mono GB.size); clear G2 G4 GB E2 E4 EB h40 p0 p1 p2 p3 p4 p5; obtain ⟨q0, q1, q2, q3, q4, q5⟩ := Blk.three F2; obtain ⟨r0, r1, r2, r3, r4, r5⟩ := Blk.three F4))
          refine bodyPost_ret (results_cell_row rfl _ _ (W.heap.size + 1) 90 #[.int .i64 c, .int .i64 d, .int .i64 m2] (0, 0) _ rfl ((F4.far (p := ⟨W.heap.size, 1, none⟩) (by simp) (.int .i64 d)).set3 (.int .i64 c) (.int .i64 d) (.int .i64 m2)) Try.underlying90 rfl (by kernel_rfl)) rfl ?_
          subst hm2
          exact ⟨rfl, below_set3 (show Below W.heap.size W (x2.setCell ⟨W.heap.size, 1, none⟩ (.int .i64 d)) from FB.setCell (Nat.le_refl _) _) (Nat.le_succ _) _ _ _⟩

/-- what one number makes of a pen -/
def oneF (p : Int × Int × Int) (n : Int) : Int × Int × Int := if n ≤ 0 then (0, 0, 0) else ((basicF n 30).getD p.1, (basicF n 40).getD p.2.1, bits .andNot .i64 (bits .or .i64 p.2.2 (markF n)) (clearF n))
theorem one_c (p : Int × Int × Int) (n : Int) (W : World) : Calls Try.prog 66 #[.agg #[.int .i64 p.1, .int .i64 p.2.1, .int .i64 p.2.2], .int .i64 n] W fun e w' => e = .returned (.agg #[.int .i64 (oneF p n).1, .int .i64 (oneF p n).2.1, .int .i64 (oneF p n).2.2]) ∧ Below W.heap.size W w' := by
  by_cases h : n ≤ 0
  · have e : oneF p n = (0, 0, 0) := if_pos h
    rw [e]
    exact one_zero _ _ _ _ W h
  · have e : oneF p n = ((basicF n 30).getD p.1, (basicF n 40).getD p.2.1, bits .andNot .i64 (bits .or .i64 p.2.2 (markF n)) (clearF n)) := if_neg h
    rw [e]
    exact one_some _ _ _ _ _ _ W (by omega) (fun w => basic_c n 30 (by omega) (by omega) w) (fun w => basic_c n 40 (by omega) (by omega) w)
end Go.Proofs.Ytagciaanfjllnaa.PenC
