/- CaretGoes, the walk: whatever the area, the place and the two numbers, the call returns true and changes no old memory. -/
import Derived.Test.YtagciaanfjllnaaGoesC
import Derived.Test.YtagciaanfjllnaaGoesR
import Derived.Test.YtagciaanfjllnaaPCaretMovesx1
import Derived.Deep.RegionHeld3
import Derived.Deep.DrawnRows
import Derived.Deep.DeepCutAuto
namespace Go.Proofs.Ytagciaanfjllnaa.Walk
open Go.RowKit Go.Proofs.YtagciaanfjllnaaW.PrintWords Go.Proofs.YtagciaanfjllnaaW.PrintMore Go.Proofs.Ytagciaanfjllnaa.Base Go.Proofs.Ytagciaanfjllnaa.CaretC Go.Proofs.Ytagciaanfjllnaa.Pure.CaretAreas Go.Proofs.Ytagciaanfjllnaa.Reg Go.Proofs.Ytagciaanfjllnaa.PCaretMoves Go.Proofs.Ytagciaanfjllnaa.GoesC
set_option linter.unusedVariables false
attribute [local go_sem high] Go.Proofs.Ytagciaanfjllnaa.PCaretMoves.eqA65
attribute [local go_sem ↓] Go.wp_at_zero Go.wp_at_succ

theorem boxes3 {W w1 : World} {a b c : Array Value} (h : Below (((W.alloc (.cells a 63)).alloc (.cells b 65)).alloc (.cells c 28)).heap.size (((W.alloc (.cells a 63)).alloc (.cells b 65)).alloc (.cells c 28)) w1) :
    Blk w1 W.heap.size 63 a ∧ Blk w1 (W.heap.size + 1) 65 b ∧ Blk w1 (W.heap.size + 1 + 1) 28 c ∧ Below W.heap.size W w1 :=
  ⟨((((Blk.new W 63 a).alloc _).alloc _)).stays h, ((new2 W a b 63 65).alloc _).stays h, (new3 W a b c 63 65 28).stays h, (((Joins.below_alloc2 W _ _).alloc (by simp [World.size_alloc]; omega) _)).trans (h.mono (by simp [World.size_alloc]; omega))⟩

/-- x, held between a and b -/
def cl (x a b : Int) : Int := if x < a then a else if b < x then b else x
theorem cl_mm {x a b : Int} (h : a ≤ b) : (if b < (if x < a then a else x) then b else (if x < a then a else x)) = cl x a b := by
  unfold cl
  by_cases h1 : x < a
  · rw [if_pos h1, if_pos h1, if_neg (by omega)]
  · rw [if_neg h1, if_neg h1]
theorem cl_bd {x a b : Int} (h : a ≤ b) : a ≤ cl x a b ∧ cl x a b ≤ b := by unfold cl; split <;> (try split) <;> omega
theorem cl_at {x a b : Int} (h : a ≤ x) (h2 : x ≤ b) : cl x a b = x := by unfold cl; rw [if_neg (by omega), if_neg (by omega)]
theorem hold42 (x a b : Int) (w : World) : Calls Try.prog 42 #[.int .i64 x, .int .i64 a, .int .i64 b] w fun e w' => e = .returned (.int .i64 (cl x a b)) ∧ Below w.heap.size w w' := by
  refine (batonref14_Hold.calls x a b (cl x a b) w ?_).mono ?_
  · unfold batonref14_Hold.f cl
    split
    · rfl
    · split
      · rfl
      · rfl
  · rintro e w' ⟨rfl, n, rfl⟩
    exact ⟨rfl, Joins.below_draws _ _ _⟩
/-- the row that a told row leads to, counted from the margin -/
def gr (T B k : Int) : Int := if B < T + k - 1 then B else T + k - 1
theorem goto_on_c {R C T B : Int} (h1 : 1 ≤ R) (h2 : R ≤ 60) (h3 : 1 ≤ C) (h4 : C ≤ 132) (h5 : 0 ≤ T) (h6 : T ≤ 60) (a b : Int) (w : World) :
    Calls Try.prog 40 #[.agg #[.int .i64 R, .int .i64 C, .int .i64 T, .int .i64 B, .bool true], .int .i64 a, .int .i64 b] w fun e w' => e = .returned (.agg #[.int .i64 (gr T B (cl a 1 R)), .int .i64 (cl b 1 C - 1), .bool false]) ∧ Below w.heap.size w w' := by
  have ha := cl_bd (x := a) h1
  have hb := cl_bd (x := b) h3
  exact goto_on R C T B a b _ _ _ _ _ w rfl (cl_mm h1) rfl (cl_mm h3) (IntWalk.i64_in _ (by omega)) (IntWalk.i64_in _ (by omega)) (IntWalk.i64_in _ (by omega)) (IntWalk.i64_in _ (by omega)) rfl
theorem goto_off_c {R C T B : Int} (h1 : 1 ≤ R) (h2 : R ≤ 60) (h3 : 1 ≤ C) (h4 : C ≤ 132) (a b : Int) (w : World) :
    Calls Try.prog 40 #[.agg #[.int .i64 R, .int .i64 C, .int .i64 T, .int .i64 B, .bool false], .int .i64 a, .int .i64 b] w fun e w' => e = .returned (.agg #[.int .i64 (cl a 1 R - 1), .int .i64 (cl b 1 C - 1), .bool false]) ∧ Below w.heap.size w w' := by
  have ha := cl_bd (x := a) h1
  have hb := cl_bd (x := b) h3
  exact goto_off R C T B a b _ _ _ _ w rfl (cl_mm h1) rfl (cl_mm h3) (IntWalk.i64_in _ (by omega)) (by rw [Int.zero_add]; exact IntWalk.i64_in _ (by omega)) (IntWalk.i64_in _ (by omega)) (IntWalk.i64_in _ (by omega)) (IntWalk.i64_in _ (by omega))
theorem hold_no_c {R C : Int} (h1 : 1 ≤ R) (h2 : R ≤ 60) (h3 : 1 ≤ C) (h4 : C ≤ 132) (T B : Int) (o : Bool) (r c : Int) (w : World) :
    Calls Try.prog 41 #[.agg #[.int .i64 R, .int .i64 C, .int .i64 T, .int .i64 B, .bool o], .agg #[.int .i64 r, .int .i64 c, .bool false]] w fun e w' => e = .returned (.agg #[.int .i64 (cl r 0 (R - 1)), .int .i64 (cl c 0 (C - 1)), .bool false]) ∧ Below w.heap.size w w' :=
  hold_no R C T B r c _ _ _ _ o w rfl (cl_mm (by omega)) rfl (cl_mm (by omega)) (IntWalk.i64_in _ (by omega)) (IntWalk.i64_in _ (by omega))
theorem hold_yes_c {R C : Int} (h1 : 1 ≤ R) (h2 : R ≤ 60) (h3 : 1 ≤ C) (h4 : C ≤ 132) (T B : Int) (o : Bool) (r c : Int) (w : World) :
    Calls Try.prog 41 #[.agg #[.int .i64 R, .int .i64 C, .int .i64 T, .int .i64 B, .bool o], .agg #[.int .i64 r, .int .i64 c, .bool true]] w fun e w' => e = .returned (.agg #[.int .i64 (cl r 0 (R - 1)), .int .i64 (cl c 0 (C - 1)), .bool (c == C - 1)]) ∧ Below w.heap.size w w' := by
  have s1 : IntKind.i64.wrap (R - 1) = R - 1 := IntWalk.i64_in _ (by omega)
  have s2 : IntKind.i64.wrap (C - 1) = C - 1 := IntWalk.i64_in _ (by omega)
  by_cases e : c = C - 1
  · have hc : cl c 0 (C - 1) = c := cl_at (by omega) (by omega)
    rw [beq_iff_eq.mpr e]
    exact hold_at R C T B r c _ _ _ _ o w rfl (cl_mm (by omega)) rfl (cl_mm (by omega)) s1 s2 (by rw [hc]; exact beq_self_eq_true _) (beq_iff_eq.mpr e)
  · rw [beq_ff e]
    by_cases e2 : c = cl c 0 (C - 1)
    · exact hold_far R C T B r c _ _ _ _ o w rfl (cl_mm (by omega)) rfl (cl_mm (by omega)) s1 s2 (beq_iff_eq.mpr e2) (beq_ff e)
    · exact hold_off R C T B r c _ _ _ _ o w rfl (cl_mm (by omega)) rfl (cl_mm (by omega)) s1 s2 (beq_ff e2)

set_option maxHeartbeats 1000000 in
set_option maxRecDepth 100000 in
theorem goes_out (R C T B : Int) (o : Bool) (r c : Int) (q : Bool) (a b : Int) (W : World) (hA : areaB R C T B = false) :
    Calls Try.prog 10 #[.agg #[.int .i64 R, .int .i64 C, .int .i64 T, .int .i64 B, .bool o], .agg #[.int .i64 r, .int .i64 c, .bool q], .agg #[.int .i64 a, .int .i64 b]] W fun e w' => e = .returned (.bool true) ∧ Below W.heap.size W w' := by
  have hrefr := fun w => refright_c R C T B o w
  rw [hA] at hrefr
  clear hA
  go_enter Try.func10, Try.ntmps10
  go_wp2_with (first
    | (go_at_call 33; refine (awake_c _).mono ?_; rintro _ w1 ⟨rfl, hb⟩; obtain ⟨B3, B4, B5, HB⟩ := boxes3 hb; clear hb; obtain ⟨c0, c1, c2, c3, c4⟩ := Blk.five B3)
    | (go_at_call 35; refine (ref_c R C T B o _).mono ?_; rintro _ w2 ⟨rfl, hb2⟩)
    | (go_at_call 34; refine (hrefr _).mono ?_; rintro _ w3 ⟨rfl, hb3⟩; have hb23 := hb2.trans (hb3.mono hb2.size); have GB := HB.trans (hb23.mono HB.size)))
  go_ret
  exact ⟨rfl, GB⟩

set_option maxHeartbeats 8000000 in
set_option maxRecDepth 100000 in
theorem goes_false_false_ (R C T B r c a b xr xc k1 k2 hr hc : Int) (W : World) (hA : areaB R C T B = true) (hF : fitsB R C hr hc false = true)
    (hgo : ∀ w, Calls Try.prog 40 #[.agg #[.int .i64 R, .int .i64 C, .int .i64 T, .int .i64 B, .bool false], .int .i64 a, .int .i64 b] w fun e w' => e = .returned (.agg #[.int .i64 xr, .int .i64 xc, .bool false]) ∧ Below w.heap.size w w')
    (hhold : ∀ w, Calls Try.prog 41 #[.agg #[.int .i64 R, .int .i64 C, .int .i64 T, .int .i64 B, .bool false], .agg #[.int .i64 r, .int .i64 c, .bool false]] w fun e w' => e = .returned (.agg #[.int .i64 hr, .int .i64 hc, .bool false]) ∧ Below w.heap.size w w')
    (h42a : ∀ w, Calls Try.prog 42 #[.int .i64 a, .int .i64 1, .int .i64 R] w fun e w' => e = .returned (.int .i64 k1) ∧ Below w.heap.size w w')
    (h42c : ∀ w, Calls Try.prog 42 #[.int .i64 b, .int .i64 1, .int .i64 C] w fun e w' => e = .returned (.int .i64 k2) ∧ Below w.heap.size w w')
    (h42r : ∀ w, Calls Try.prog 42 #[.int .i64 r, .int .i64 0, .int .i64 (R - 1)] w fun e w' => e = .returned (.int .i64 hr) ∧ Below w.heap.size w w')
    (h42k : ∀ w, Calls Try.prog 42 #[.int .i64 c, .int .i64 0, .int .i64 (C - 1)] w fun e w' => e = .returned (.int .i64 hc) ∧ Below w.heap.size w w')
    (u0 : IntKind.i64.wrap (k1 - 1) = k1 - 1) (u1 : IntKind.i64.wrap (k2 - 1) = k2 - 1) (hrow : k1 - 1 = xr) (hcol : k2 - 1 = xc) :
    Calls Try.prog 10 #[.agg #[.int .i64 R, .int .i64 C, .int .i64 T, .int .i64 B, .bool false], .agg #[.int .i64 r, .int .i64 c, .bool false], .agg #[.int .i64 a, .int .i64 b]] W fun e w' => e = .returned (.bool true) ∧ Below W.heap.size W w' := by
  have hrefr := fun w => refright_c R C T B false w
  subst hcol
  subst hrow
  obtain ⟨h1, h2, h3, h4, -, -, -⟩ := areaB_spec hA
  have hfits := fun w => fits_c (R := R) (T := T) (B := B) h3 h4 false hr hc false w
  have v1 : IntKind.i64.wrap (R - 1) = R - 1 := IntWalk.i64_in _ (by omega)
  have v2 : IntKind.i64.wrap (C - 1) = C - 1 := IntWalk.i64_in _ (by omega)
  rw [hA] at hrefr
  rw [hF] at hfits
  clear hA hF
  go_enter Try.func10, Try.ntmps10
  go_upto_region 5 with (first
    | (go_at_call 33; refine (awake_c _).mono ?_; rintro _ w1 ⟨rfl, hb⟩; obtain ⟨B3, B4, B5, HB⟩ := boxes3 hb; clear hb; obtain ⟨c0, c1, c2, c3, c4⟩ := Blk.five B3)
    | (go_at_call 35; refine (ref_c R C T B false _).mono ?_; rintro _ w2 ⟨rfl, hb2⟩)
    | (go_at_call 34; refine (hrefr _).mono ?_; rintro _ w8 ⟨rfl, hb3⟩; have hb23 := hb2.trans (hb3.mono hb2.size); have N3 := B3.stays hb23; have N4 := B4.stays hb23; have N5 := B5.stays hb23; have NB := HB.trans (hb23.mono HB.size); clear c0 c1 c2 c3 c4 B3 B4 B5 HB hb2 hb3 hb23))
  refine wp_region_held_drew (S := (fun w' => Below w8.heap.size w8 w' ∧ (w'.cell? ⟨W.heap.size, 0, none⟩ = some (.int .i64 R) ∧ w'.cell? ⟨W.heap.size, 1, none⟩ = some (.int .i64 C) ∧ w'.cell? ⟨W.heap.size, 2, none⟩ = some (.int .i64 T) ∧ w'.cell? ⟨W.heap.size, 3, none⟩ = some (.int .i64 B) ∧ w'.cell? ⟨W.heap.size, 4, none⟩ = some (.bool false)) ∧ (w'.cell? ⟨W.heap.size + 1, 0, none⟩ = some (.int .i64 r) ∧ w'.cell? ⟨W.heap.size + 1, 1, none⟩ = some (.int .i64 c) ∧ w'.cell? ⟨W.heap.size + 1, 2, none⟩ = some (.bool false)) ∧ (w'.cell? ⟨W.heap.size + 1 + 1, 0, none⟩ = some (.int .i64 a) ∧ w'.cell? ⟨W.heap.size + 1 + 1, 1, none⟩ = some (.int .i64 b)))) (by kernel_rfl) (GoesR.S_of N3 N4 N5 (Joins.below_draws w8.heap.size w8 1)) (fun hHeld => ?_)
  refine takeH (i := 0) (N := some 16) (v := ?_) (a' := ?_) rfl rfl (by kernel_rfl) (by kernel_rfl) (by kernel_rfl) (fun _ _ _ h => h) (Or.inl ⟨by rfl, ?_⟩) hHeld ?_ ?_
  rotate_left
  · intro w' hSw
    go_split_ands
    go_simp
    with_reducible rfl
  rotate_left
  · simp only [Act.put, List.setIfInBounds_toArray, List.set_cons_zero, List.set_cons_succ]
    rfl
  refine takeH (i := 1) (N := some 17) (v := ?_) (a' := ?_) rfl rfl (by kernel_rfl) (by kernel_rfl) (by kernel_rfl) (fun _ _ _ h => h) (Or.inl ⟨by rfl, ?_⟩) hHeld ?_ ?_
  rotate_left
  · intro w' hSw
    go_split_ands
    go_simp
    with_reducible rfl
  rotate_left
  · simp only [Act.put, List.setIfInBounds_toArray, List.set_cons_zero, List.set_cons_succ]
    rfl
  refine takeH (i := 2) (N := some 18) (v := ?_) (a' := ?_) rfl rfl (by kernel_rfl) (by kernel_rfl) (by kernel_rfl) (fun _ _ _ h => h) (Or.inl ⟨by rfl, ?_⟩) hHeld ?_ ?_
  rotate_left
  · intro w' hSw
    go_split_ands
    go_simp
    with_reducible rfl
  rotate_left
  · simp only [Act.put, List.setIfInBounds_toArray, List.set_cons_zero, List.set_cons_succ]
    rfl
  refine takeH (i := 3) (N := some 19) (v := ?_) (a' := ?_) rfl rfl (by kernel_rfl) (by kernel_rfl) (by kernel_rfl) (fun _ _ _ h => h) (Or.inl ⟨by rfl, ?_⟩) hHeld ?_ ?_
  rotate_left
  · intro w' hSw
    go_split_ands
    go_simp
    with_reducible rfl
  rotate_left
  · simp only [Act.put, List.setIfInBounds_toArray, List.set_cons_zero, List.set_cons_succ]
    rfl
  refine takeH (i := 4) (N := some 20) (v := ?_) (a' := ?_) rfl rfl (by kernel_rfl) (by kernel_rfl) (by kernel_rfl) (fun _ _ _ h => h) (Or.inl ⟨by rfl, ?_⟩) hHeld ?_ ?_
  rotate_left
  · intro w' hSw
    go_split_ands
    go_simp
    with_reducible rfl
  rotate_left
  · simp only [Act.put, List.setIfInBounds_toArray, List.set_cons_zero, List.set_cons_succ]
    rfl
  refine takeH (i := 6) (N := some 22) (v := ?_) (a' := ?_) rfl rfl (by kernel_rfl) (by kernel_rfl) (by kernel_rfl) (fun _ _ _ h => h) (Or.inl ⟨by rfl, ?_⟩) hHeld ?_ ?_
  rotate_left
  · intro w' hSw
    go_split_ands
    go_simp
    with_reducible rfl
  rotate_left
  · simp only [Act.put, List.setIfInBounds_toArray, List.set_cons_zero, List.set_cons_succ]
    rfl
  refine takeH (i := 7) (N := some 23) (v := ?_) (a' := ?_) rfl rfl (by kernel_rfl) (by kernel_rfl) (by kernel_rfl) (fun _ _ _ h => h) (Or.inl ⟨by rfl, ?_⟩) hHeld ?_ ?_
  rotate_left
  · intro w' hSw
    go_split_ands
    go_simp
    with_reducible rfl
  rotate_left
  · simp only [Act.put, List.setIfInBounds_toArray, List.set_cons_zero, List.set_cons_succ]
    rfl
  refine relist #[true, true, true, true, true, false, true, true, false, false, false, false, false] 6 (by kernel_rfl) (by kernel_rfl) ?_
  clear hHeld
  refine GoesR.node0_0 (w0 := w8) (by kernel_rfl) ⟨_, rfl, rfl, rfl, rfl⟩ ⟨_, rfl, rfl, rfl, rfl⟩ ⟨_, rfl, rfl, rfl, rfl⟩ ⟨_, rfl, rfl, rfl, rfl⟩ ⟨_, rfl, rfl, rfl, rfl⟩ ⟨_, rfl, rfl, rfl, rfl⟩ (fun _ h => GoesR.S_of N3 N4 N5 h) hgo hhold (fun g7 g8 w9 e7 e8 _ b7 b8 hb => ?_) _ (Joins.below_draws w8.heap.size w8 1)
  have E3 := N3.stays hb
  have E4 := N4.stays hb
  have E5 := N5.stays hb
  have EB := NB.trans (hb.mono NB.size)
  clear N3 N4 N5 NB hb hgo hhold hrefr e7 e8
  obtain ⟨c0, c1, c2, c3, c4⟩ := Blk.five E3
  obtain ⟨d0, d1⟩ := Blk.two E5
  go_upto_region 9 with (first
    | (go_at_call 42; refine (h42a _).mono ?_; rintro _ y1 ⟨rfl, hb⟩; have F3 := E3.stays hb; have F4 := E4.stays hb; have F5 := E5.stays hb; have f7 := b7.stays hb; have f8 := b8.stays hb; have FB := EB.trans (hb.mono EB.size); clear c0 c1 c2 c3 c4 d0 d1 E3 E4 E5 b7 b8 EB hb; obtain ⟨c0, c1, c2, c3, c4⟩ := Blk.five F3; obtain ⟨d0, d1⟩ := Blk.two F5))
  refine wp_region_held_drew (S := (fun w' => Below y1.heap.size y1 w' ∧ (w'.cell? ⟨W.heap.size, 0, none⟩ = some (.int .i64 R) ∧ w'.cell? ⟨W.heap.size, 1, none⟩ = some (.int .i64 C) ∧ w'.cell? ⟨W.heap.size, 2, none⟩ = some (.int .i64 T) ∧ w'.cell? ⟨W.heap.size, 3, none⟩ = some (.int .i64 B) ∧ w'.cell? ⟨W.heap.size, 4, none⟩ = some (.bool false)) ∧ (w'.cell? ⟨W.heap.size + 1, 0, none⟩ = some (.int .i64 r) ∧ w'.cell? ⟨W.heap.size + 1, 1, none⟩ = some (.int .i64 c) ∧ w'.cell? ⟨W.heap.size + 1, 2, none⟩ = some (.bool false)) ∧ (w'.cell? ⟨W.heap.size + 1 + 1, 0, none⟩ = some (.int .i64 a) ∧ w'.cell? ⟨W.heap.size + 1 + 1, 1, none⟩ = some (.int .i64 b)) ∧ (w'.cell? ⟨g7, 0, none⟩ = some (.int .i64 (k1 - 1)) ∧ w'.cell? ⟨g7, 1, none⟩ = some (.int .i64 (k2 - 1)) ∧ w'.cell? ⟨g7, 2, none⟩ = some (.bool false)) ∧ (w'.cell? ⟨g8, 0, none⟩ = some (.int .i64 hr) ∧ w'.cell? ⟨g8, 1, none⟩ = some (.int .i64 hc) ∧ w'.cell? ⟨g8, 2, none⟩ = some (.bool false)))) (by kernel_rfl) (GoesR.S_of2 F3 F4 F5 f7 f8 (Joins.below_draws y1.heap.size y1 1)) (fun hHeld => ?_)
  refine takeH (i := 0) (N := some 40) (v := ?_) (a' := ?_) rfl rfl (by kernel_rfl) (by kernel_rfl) (by kernel_rfl) (fun _ _ _ h => h) (Or.inl ⟨by rfl, ?_⟩) hHeld ?_ ?_
  rotate_left
  · intro w' hSw
    go_split_ands
    go_simp
    with_reducible rfl
  rotate_left
  · simp only [Act.put, List.setIfInBounds_toArray, List.set_cons_zero, List.set_cons_succ]
    rfl
  refine takeH (i := 1) (N := some 41) (v := ?_) (a' := ?_) rfl rfl (by kernel_rfl) (by kernel_rfl) (by kernel_rfl) (fun _ _ _ h => h) (Or.inl ⟨by rfl, ?_⟩) hHeld ?_ ?_
  rotate_left
  · intro w' hSw
    clear hSw
    go_simp
    with_reducible rfl
  rotate_left
  · simp only [Act.put, List.setIfInBounds_toArray, List.set_cons_zero, List.set_cons_succ]
    rfl
  refine takeH (i := 2) (N := some 42) (v := ?_) (a' := ?_) rfl rfl (by kernel_rfl) (by kernel_rfl) (by kernel_rfl) (fun _ _ _ h => h) (Or.inl ⟨by rfl, ?_⟩) hHeld ?_ ?_
  rotate_left
  · intro w' hSw
    go_split_ands
    go_simp
    with_reducible rfl
  rotate_left
  · simp only [Act.put, List.setIfInBounds_toArray, List.set_cons_zero, List.set_cons_succ]
    rfl
  refine takeH (i := 3) (N := some 43) (v := ?_) (a' := ?_) rfl rfl (by kernel_rfl) (by kernel_rfl) (by kernel_rfl) (fun _ _ _ h => h) (Or.inl ⟨by rfl, ?_⟩) hHeld ?_ ?_
  rotate_left
  · intro w' hSw
    go_split_ands
    go_simp
    with_reducible rfl
  rotate_left
  · simp only [Act.put, List.setIfInBounds_toArray, List.set_cons_zero, List.set_cons_succ]
    rfl
  refine takeH (i := 4) (N := some 44) (v := ?_) (a' := ?_) rfl rfl (by kernel_rfl) (by kernel_rfl) (by kernel_rfl) (fun _ _ _ h => h) (Or.inl ⟨by rfl, ?_⟩) hHeld ?_ ?_
  rotate_left
  · intro w' hSw
    go_split_ands
    go_simp
    with_reducible rfl
  rotate_left
  · simp only [Act.put, List.setIfInBounds_toArray, List.set_cons_zero, List.set_cons_succ]
    rfl
  refine takeH (i := 5) (N := some 45) (v := ?_) (a' := ?_) rfl rfl (by kernel_rfl) (by kernel_rfl) (by kernel_rfl) (fun _ _ _ h => h) (Or.inl ⟨by rfl, ?_⟩) hHeld ?_ ?_
  rotate_left
  · intro w' hSw
    go_split_ands
    go_simp
    with_reducible rfl
  rotate_left
  · simp only [Act.put, List.setIfInBounds_toArray, List.set_cons_zero, List.set_cons_succ]
    rfl
  refine wpAnyH_ready (rs := [6]) (by kernel_rfl) (by simp) ?_
  refine AllReadyH.cons rfl (fun K hK => ?_) AllReadyH.nil
  go_simp
  with_reducible refine (h42c _).mono ?_
  rintro _ x46 ⟨rfl, hx46⟩
  go_simp
  refine hK.out _ _ (GoesR.S_of2 F3 F4 F5 f7 f8 (hHeld.1.trans (hx46.mono hHeld.1.size))) (fun hHeld => ?_)
  clear hK K
  refine takeH (i := 7) (N := some 47) (v := ?_) (a' := ?_) rfl rfl (by kernel_rfl) (by kernel_rfl) (by kernel_rfl) (fun _ _ _ h => h) (Or.inl ⟨by rfl, ?_⟩) hHeld ?_ ?_
  rotate_left
  · intro w' hSw
    clear hSw
    go_simp
    with_reducible rfl
  rotate_left
  · simp only [Act.put, List.setIfInBounds_toArray, List.set_cons_zero, List.set_cons_succ]
    rfl
  refine takeH (i := 8) (N := some 48) (v := ?_) (a' := ?_) rfl rfl (by kernel_rfl) (by kernel_rfl) (by kernel_rfl) (fun _ _ _ h => h) (Or.inl ⟨by rfl, ?_⟩) hHeld ?_ ?_
  rotate_left
  · intro w' hSw
    clear hSw
    go_simp
    with_reducible rfl
  rotate_left
  · simp only [Act.put, List.setIfInBounds_toArray, List.set_cons_zero, List.set_cons_succ]
    rfl
  refine takeH (i := 9) (N := some 49) (v := ?_) (a' := ?_) rfl rfl (by kernel_rfl) (by kernel_rfl) (by kernel_rfl) (fun _ _ _ h => h) (Or.inl ⟨by rfl, ?_⟩) hHeld ?_ ?_
  rotate_left
  · intro w' hSw
    clear hSw
    go_simp
    with_reducible rfl
  rotate_left
  · simp only [Act.put, List.setIfInBounds_toArray, List.set_cons_zero, List.set_cons_succ]
    rfl
  refine takeH (i := 10) (N := some 50) (v := ?_) (a' := ?_) rfl rfl (by kernel_rfl) (by kernel_rfl) (by kernel_rfl) (fun _ _ _ h => h) (Or.inl ⟨by rfl, ?_⟩) hHeld ?_ ?_
  rotate_left
  · intro w' hSw
    clear hSw
    go_simp
    with_reducible rfl
  rotate_left
  · simp only [Act.put, List.setIfInBounds_toArray, List.set_cons_zero, List.set_cons_succ]
    rfl
  refine takeH (i := 11) (N := some 51) (v := ?_) (a' := ?_) rfl rfl (by kernel_rfl) (by kernel_rfl) (by kernel_rfl) (fun _ _ _ h => h) (Or.inl ⟨by rfl, ?_⟩) hHeld ?_ ?_
  rotate_left
  · intro w' hSw
    go_split_ands
    go_simp
    with_reducible rfl
  rotate_left
  · simp only [Act.put, List.setIfInBounds_toArray, List.set_cons_zero, List.set_cons_succ]
    rfl
  refine takeH (i := 12) (N := some 52) (v := ?_) (a' := ?_) rfl rfl (by kernel_rfl) (by kernel_rfl) (by kernel_rfl) (fun _ _ _ h => h) (Or.inl ⟨by rfl, ?_⟩) hHeld ?_ ?_
  rotate_left
  · intro w' hSw
    go_split_ands
    go_simp
    with_reducible rfl
  rotate_left
  · simp only [Act.put, List.setIfInBounds_toArray, List.set_cons_zero, List.set_cons_succ]
    rfl
  refine wpAnyH_ready (rs := [13]) (by kernel_rfl) (by simp) ?_
  refine AllReadyH.cons rfl (fun K hK => ?_) AllReadyH.nil
  go_simp
  with_reducible refine (hfits _).mono ?_
  rintro _ x53 ⟨rfl, hx53⟩
  go_simp
  refine hK.out _ _ (GoesR.S_of2 F3 F4 F5 f7 f8 (hHeld.1.trans (hx53.mono hHeld.1.size))) (fun hHeld => ?_)
  clear hK K
  refine takeH (i := 14) (N := some 54) (v := ?_) (a' := ?_) rfl rfl (by kernel_rfl) (by kernel_rfl) (by kernel_rfl) (fun _ _ _ h => h) (Or.inl ⟨by rfl, ?_⟩) hHeld ?_ ?_
  rotate_left
  · intro w' hSw
    clear hSw
    go_simp
    with_reducible rfl
  rotate_left
  · simp only [Act.put, List.setIfInBounds_toArray, List.set_cons_zero, List.set_cons_succ]
    rfl
  refine takeH (i := 15) (N := some 55) (v := ?_) (a' := ?_) rfl rfl (by kernel_rfl) (by kernel_rfl) (by kernel_rfl) (fun _ _ _ h => h) (Or.inl ⟨by rfl, ?_⟩) hHeld ?_ ?_
  rotate_left
  · intro w' hSw
    clear hSw
    go_simp
    with_reducible rfl
  rotate_left
  · simp only [Act.put, List.setIfInBounds_toArray, List.set_cons_zero, List.set_cons_succ]
    rfl
  refine wpAnyH_done (by kernel_rfl) ?_ _
  have HY := hHeld.1
  clear hHeld
  go_upto_region 11 with (fail)
  refine wp_region_held_drew (S := (fun w' => Below y1.heap.size y1 w' ∧ (w'.cell? ⟨W.heap.size, 0, none⟩ = some (.int .i64 R) ∧ w'.cell? ⟨W.heap.size, 1, none⟩ = some (.int .i64 C) ∧ w'.cell? ⟨W.heap.size, 2, none⟩ = some (.int .i64 T) ∧ w'.cell? ⟨W.heap.size, 3, none⟩ = some (.int .i64 B) ∧ w'.cell? ⟨W.heap.size, 4, none⟩ = some (.bool false)) ∧ (w'.cell? ⟨W.heap.size + 1, 0, none⟩ = some (.int .i64 r) ∧ w'.cell? ⟨W.heap.size + 1, 1, none⟩ = some (.int .i64 c) ∧ w'.cell? ⟨W.heap.size + 1, 2, none⟩ = some (.bool false)) ∧ (w'.cell? ⟨W.heap.size + 1 + 1, 0, none⟩ = some (.int .i64 a) ∧ w'.cell? ⟨W.heap.size + 1 + 1, 1, none⟩ = some (.int .i64 b)) ∧ (w'.cell? ⟨g7, 0, none⟩ = some (.int .i64 (k1 - 1)) ∧ w'.cell? ⟨g7, 1, none⟩ = some (.int .i64 (k2 - 1)) ∧ w'.cell? ⟨g7, 2, none⟩ = some (.bool false)) ∧ (w'.cell? ⟨g8, 0, none⟩ = some (.int .i64 hr) ∧ w'.cell? ⟨g8, 1, none⟩ = some (.int .i64 hc) ∧ w'.cell? ⟨g8, 2, none⟩ = some (.bool false)))) (by kernel_rfl) (GoesR.S_of2 F3 F4 F5 f7 f8 (HY.trans (Joins.below_draws y1.heap.size _ 1))) (fun hHeld => ?_)
  refine takeH (i := 0) (N := some 56) (v := ?_) (a' := ?_) rfl rfl (by kernel_rfl) (by kernel_rfl) (by kernel_rfl) (fun _ _ _ h => h) (Or.inl ⟨by rfl, ?_⟩) hHeld ?_ ?_
  rotate_left
  · intro w' hSw
    go_split_ands
    go_simp
    with_reducible rfl
  rotate_left
  · simp only [Act.put, List.setIfInBounds_toArray, List.set_cons_zero, List.set_cons_succ]
    rfl
  refine takeH (i := 1) (N := some 57) (v := ?_) (a' := ?_) rfl rfl (by kernel_rfl) (by kernel_rfl) (by kernel_rfl) (fun _ _ _ h => h) (Or.inl ⟨by rfl, ?_⟩) hHeld ?_ ?_
  rotate_left
  · intro w' hSw
    go_split_ands
    go_simp
    with_reducible rfl
  rotate_left
  · simp only [Act.put, List.setIfInBounds_toArray, List.set_cons_zero, List.set_cons_succ]
    rfl
  refine takeH (i := 2) (N := some 58) (v := ?_) (a' := ?_) rfl rfl (by kernel_rfl) (by kernel_rfl) (by kernel_rfl) (fun _ _ _ h => h) (Or.inl ⟨by rfl, ?_⟩) hHeld ?_ ?_
  rotate_left
  · intro w' hSw
    go_split_ands
    go_simp
    with_reducible rfl
  rotate_left
  · simp only [Act.put, List.setIfInBounds_toArray, List.set_cons_zero, List.set_cons_succ]
    rfl
  refine takeH (i := 3) (N := some 59) (v := ?_) (a' := ?_) rfl rfl (by kernel_rfl) (by kernel_rfl) (by kernel_rfl) (fun _ _ _ h => h) (Or.inl ⟨by rfl, ?_⟩) hHeld ?_ ?_
  rotate_left
  · intro w' hSw
    go_split_ands
    go_simp
    with_reducible rfl
  rotate_left
  · simp only [Act.put, List.setIfInBounds_toArray, List.set_cons_zero, List.set_cons_succ]
    rfl
  refine takeH (i := 4) (N := some 60) (v := ?_) (a' := ?_) rfl rfl (by kernel_rfl) (by kernel_rfl) (by kernel_rfl) (fun _ _ _ h => h) (Or.inl ⟨by rfl, ?_⟩) hHeld ?_ ?_
  rotate_left
  · intro w' hSw
    go_split_ands
    go_simp
    with_reducible rfl
  rotate_left
  · simp only [Act.put, List.setIfInBounds_toArray, List.set_cons_zero, List.set_cons_succ]
    rfl
  refine takeH (i := 5) (N := some 61) (v := ?_) (a' := ?_) rfl rfl (by kernel_rfl) (by kernel_rfl) (by kernel_rfl) (fun _ _ _ h => h) (Or.inl ⟨by rfl, ?_⟩) hHeld ?_ ?_
  rotate_left
  · intro w' hSw
    go_split_ands
    go_simp
    with_reducible rfl
  rotate_left
  · simp only [Act.put, List.setIfInBounds_toArray, List.set_cons_zero, List.set_cons_succ]
    rfl
  refine takeH (i := 6) (N := some 62) (v := ?_) (a' := ?_) rfl rfl (by kernel_rfl) (by kernel_rfl) (by kernel_rfl) (fun _ _ _ h => h) (Or.inl ⟨by rfl, ?_⟩) hHeld ?_ ?_
  rotate_left
  · intro w' hSw
    clear hSw
    go_simp
    with_reducible rfl
  rotate_left
  · simp only [Act.put, List.setIfInBounds_toArray, List.set_cons_zero, List.set_cons_succ]
    rfl
  refine wpAnyH_ready (rs := [7]) (by kernel_rfl) (by simp) ?_
  refine AllReadyH.cons rfl (fun K hK => ?_) AllReadyH.nil
  go_simp
  with_reducible refine (h42r _).mono ?_
  rintro _ x63 ⟨rfl, hx63⟩
  go_simp
  refine hK.out _ _ (GoesR.S_of2 F3 F4 F5 f7 f8 (hHeld.1.trans (hx63.mono hHeld.1.size))) (fun hHeld => ?_)
  clear hK K
  refine takeH (i := 8) (N := some 64) (v := ?_) (a' := ?_) rfl rfl (by kernel_rfl) (by kernel_rfl) (by kernel_rfl) (fun _ _ _ h => h) (Or.inl ⟨by rfl, ?_⟩) hHeld ?_ ?_
  rotate_left
  · intro w' hSw
    clear hSw
    go_simp
    with_reducible rfl
  rotate_left
  · simp only [Act.put, List.setIfInBounds_toArray, List.set_cons_zero, List.set_cons_succ]
    rfl
  refine takeH (i := 9) (N := some 65) (v := ?_) (a' := ?_) rfl rfl (by kernel_rfl) (by kernel_rfl) (by kernel_rfl) (fun _ _ _ h => h) (Or.inl ⟨by rfl, ?_⟩) hHeld ?_ ?_
  rotate_left
  · intro w' hSw
    clear hSw
    go_simp
    with_reducible rfl
  rotate_left
  · simp only [Act.put, List.setIfInBounds_toArray, List.set_cons_zero, List.set_cons_succ]
    rfl
  refine takeH (i := 10) (N := some 66) (v := ?_) (a' := ?_) rfl rfl (by kernel_rfl) (by kernel_rfl) (by kernel_rfl) (fun _ _ _ h => h) (Or.inl ⟨by rfl, ?_⟩) hHeld ?_ ?_
  rotate_left
  · intro w' hSw
    go_split_ands
    go_simp
    with_reducible rfl
  rotate_left
  · simp only [Act.put, List.setIfInBounds_toArray, List.set_cons_zero, List.set_cons_succ]
    rfl
  refine takeH (i := 11) (N := some 67) (v := ?_) (a' := ?_) rfl rfl (by kernel_rfl) (by kernel_rfl) (by kernel_rfl) (fun _ _ _ h => h) (Or.inl ⟨by rfl, ?_⟩) hHeld ?_ ?_
  rotate_left
  · intro w' hSw
    go_split_ands
    go_simp
    with_reducible rfl
  rotate_left
  · simp only [Act.put, List.setIfInBounds_toArray, List.set_cons_zero, List.set_cons_succ]
    rfl
  refine takeH (i := 12) (N := some 68) (v := ?_) (a' := ?_) rfl rfl (by kernel_rfl) (by kernel_rfl) (by kernel_rfl) (fun _ _ _ h => h) (Or.inl ⟨by rfl, ?_⟩) hHeld ?_ ?_
  rotate_left
  · intro w' hSw
    go_split_ands
    go_simp
    with_reducible rfl
  rotate_left
  · simp only [Act.put, List.setIfInBounds_toArray, List.set_cons_zero, List.set_cons_succ]
    rfl
  refine takeH (i := 13) (N := some 69) (v := ?_) (a' := ?_) rfl rfl (by kernel_rfl) (by kernel_rfl) (by kernel_rfl) (fun _ _ _ h => h) (Or.inl ⟨by rfl, ?_⟩) hHeld ?_ ?_
  rotate_left
  · intro w' hSw
    go_split_ands
    go_simp
    with_reducible rfl
  rotate_left
  · simp only [Act.put, List.setIfInBounds_toArray, List.set_cons_zero, List.set_cons_succ]
    rfl
  refine takeH (i := 14) (N := some 70) (v := ?_) (a' := ?_) rfl rfl (by kernel_rfl) (by kernel_rfl) (by kernel_rfl) (fun _ _ _ h => h) (Or.inl ⟨by rfl, ?_⟩) hHeld ?_ ?_
  rotate_left
  · intro w' hSw
    go_split_ands
    go_simp
    with_reducible rfl
  rotate_left
  · simp only [Act.put, List.setIfInBounds_toArray, List.set_cons_zero, List.set_cons_succ]
    rfl
  refine takeH (i := 15) (N := some 71) (v := ?_) (a' := ?_) rfl rfl (by kernel_rfl) (by kernel_rfl) (by kernel_rfl) (fun _ _ _ h => h) (Or.inl ⟨by rfl, ?_⟩) hHeld ?_ ?_
  rotate_left
  · intro w' hSw
    go_split_ands
    go_simp
    with_reducible rfl
  rotate_left
  · simp only [Act.put, List.setIfInBounds_toArray, List.set_cons_zero, List.set_cons_succ]
    rfl
  refine takeH (i := 16) (N := some 72) (v := ?_) (a' := ?_) rfl rfl (by kernel_rfl) (by kernel_rfl) (by kernel_rfl) (fun _ _ _ h => h) (Or.inl ⟨by rfl, ?_⟩) hHeld ?_ ?_
  rotate_left
  · intro w' hSw
    clear hSw
    go_simp
    with_reducible rfl
  rotate_left
  · simp only [Act.put, List.setIfInBounds_toArray, List.set_cons_zero, List.set_cons_succ]
    rfl
  refine wpAnyH_ready (rs := [17]) (by kernel_rfl) (by simp) ?_
  refine AllReadyH.cons rfl (fun K hK => ?_) AllReadyH.nil
  go_simp
  with_reducible refine (h42k _).mono ?_
  rintro _ x73 ⟨rfl, hx73⟩
  go_simp
  refine hK.out _ _ (GoesR.S_of2 F3 F4 F5 f7 f8 (hHeld.1.trans (hx73.mono hHeld.1.size))) (fun hHeld => ?_)
  clear hK K
  refine takeH (i := 18) (N := some 74) (v := ?_) (a' := ?_) rfl rfl (by kernel_rfl) (by kernel_rfl) (by kernel_rfl) (fun _ _ _ h => h) (Or.inl ⟨by rfl, ?_⟩) hHeld ?_ ?_
  rotate_left
  · intro w' hSw
    clear hSw
    go_simp
    with_reducible rfl
  rotate_left
  · simp only [Act.put, List.setIfInBounds_toArray, List.set_cons_zero, List.set_cons_succ]
    rfl
  refine takeH (i := 19) (N := some 75) (v := ?_) (a' := ?_) rfl rfl (by kernel_rfl) (by kernel_rfl) (by kernel_rfl) (fun _ _ _ h => h) (Or.inl ⟨by rfl, ?_⟩) hHeld ?_ ?_
  rotate_left
  · intro w' hSw
    clear hSw
    go_simp
    with_reducible rfl
  rotate_left
  · simp only [Act.put, List.setIfInBounds_toArray, List.set_cons_zero, List.set_cons_succ]
    rfl
  refine takeH (i := 20) (N := some 76) (v := ?_) (a' := ?_) rfl rfl (by kernel_rfl) (by kernel_rfl) (by kernel_rfl) (fun _ _ _ h => h) (Or.inl ⟨by rfl, ?_⟩) hHeld ?_ ?_
  rotate_left
  · intro w' hSw
    clear hSw
    go_simp
    with_reducible rfl
  rotate_left
  · simp only [Act.put, List.setIfInBounds_toArray, List.set_cons_zero, List.set_cons_succ]
    rfl
  refine takeH (i := 21) (N := some 77) (v := ?_) (a' := ?_) rfl rfl (by kernel_rfl) (by kernel_rfl) (by kernel_rfl) (fun _ _ _ h => h) (Or.inl ⟨by rfl, ?_⟩) hHeld ?_ ?_
  rotate_left
  · intro w' hSw
    go_split_ands
    go_simp
    with_reducible rfl
  rotate_left
  · simp only [Act.put, List.setIfInBounds_toArray, List.set_cons_zero, List.set_cons_succ]
    rfl
  refine takeH (i := 22) (N := some 78) (v := ?_) (a' := ?_) rfl rfl (by kernel_rfl) (by kernel_rfl) (by kernel_rfl) (fun _ _ _ h => h) (Or.inl ⟨by rfl, ?_⟩) hHeld ?_ ?_
  rotate_left
  · intro w' hSw
    go_split_ands
    go_simp
    with_reducible rfl
  rotate_left
  · simp only [Act.put, List.setIfInBounds_toArray, List.set_cons_zero, List.set_cons_succ]
    rfl
  refine takeH (i := 23) (N := some 79) (v := ?_) (a' := ?_) rfl rfl (by kernel_rfl) (by kernel_rfl) (by kernel_rfl) (fun _ _ _ h => h) (Or.inl ⟨by rfl, ?_⟩) hHeld ?_ ?_
  rotate_left
  · intro w' hSw
    go_split_ands
    go_simp
    with_reducible rfl
  rotate_left
  · simp only [Act.put, List.setIfInBounds_toArray, List.set_cons_zero, List.set_cons_succ]
    rfl
  refine takeH (i := 24) (N := some 80) (v := ?_) (a' := ?_) rfl rfl (by kernel_rfl) (by kernel_rfl) (by kernel_rfl) (fun _ _ _ h => h) (Or.inl ⟨by rfl, ?_⟩) hHeld ?_ ?_
  rotate_left
  · intro w' hSw
    go_split_ands
    go_simp
    with_reducible rfl
  rotate_left
  · simp only [Act.put, List.setIfInBounds_toArray, List.set_cons_zero, List.set_cons_succ]
    rfl
  refine takeH (i := 25) (N := some 81) (v := ?_) (a' := ?_) rfl rfl (by kernel_rfl) (by kernel_rfl) (by kernel_rfl) (fun _ _ _ h => h) (Or.inl ⟨by rfl, ?_⟩) hHeld ?_ ?_
  rotate_left
  · intro w' hSw
    clear hSw
    go_simp
    with_reducible rfl
  rotate_left
  · simp only [Act.put, List.setIfInBounds_toArray, List.set_cons_zero, List.set_cons_succ]
    rfl
  refine takeH (i := 26) (N := some 82) (v := undef) (a' := ?_) rfl rfl (by kernel_rfl) (by kernel_rfl) (by kernel_rfl) (fun _ _ _ h => h) (Or.inr ⟨by rfl, rfl⟩) hHeld ?_ ?_
  rotate_left
  · simp only [Act.put, List.setIfInBounds_toArray, List.set_cons_zero, List.set_cons_succ]
    rfl
  refine takeH (i := 27) (N := some 83) (v := undef) (a' := ?_) rfl rfl (by kernel_rfl) (by kernel_rfl) (by kernel_rfl) (fun _ _ _ h => h) (Or.inr ⟨by rfl, rfl⟩) hHeld ?_ ?_
  rotate_left
  · simp only [Act.put, List.setIfInBounds_toArray, List.set_cons_zero, List.set_cons_succ]
    rfl
  refine takeH (i := 28) (N := some 84) (v := undef) (a' := ?_) rfl rfl (by kernel_rfl) (by kernel_rfl) (by kernel_rfl) (fun _ _ _ h => h) (Or.inr ⟨by rfl, rfl⟩) hHeld ?_ ?_
  rotate_left
  · simp only [Act.put, List.setIfInBounds_toArray, List.set_cons_zero, List.set_cons_succ]
    rfl
  refine takeH (i := 29) (N := some 85) (v := undef) (a' := ?_) rfl rfl (by kernel_rfl) (by kernel_rfl) (by kernel_rfl) (fun _ _ _ h => h) (Or.inr ⟨by rfl, rfl⟩) hHeld ?_ ?_
  rotate_left
  · simp only [Act.put, List.setIfInBounds_toArray, List.set_cons_zero, List.set_cons_succ]
    rfl
  refine takeH (i := 30) (N := some 86) (v := undef) (a' := ?_) rfl rfl (by kernel_rfl) (by kernel_rfl) (by kernel_rfl) (fun _ _ _ h => h) (Or.inr ⟨by rfl, rfl⟩) hHeld ?_ ?_
  rotate_left
  · simp only [Act.put, List.setIfInBounds_toArray, List.set_cons_zero, List.set_cons_succ]
    rfl
  refine takeH (i := 31) (N := some 87) (v := undef) (a' := ?_) rfl rfl (by kernel_rfl) (by kernel_rfl) (by kernel_rfl) (fun _ _ _ h => h) (Or.inr ⟨by rfl, rfl⟩) hHeld ?_ ?_
  rotate_left
  · simp only [Act.put, List.setIfInBounds_toArray, List.set_cons_zero, List.set_cons_succ]
    rfl
  refine takeH (i := 32) (N := some 88) (v := ?_) (a' := ?_) rfl rfl (by kernel_rfl) (by kernel_rfl) (by kernel_rfl) (fun _ _ _ h => h) (Or.inl ⟨by rfl, ?_⟩) hHeld ?_ ?_
  rotate_left
  · intro w' hSw
    clear hSw
    go_simp
    with_reducible rfl
  rotate_left
  · simp only [Act.put, List.setIfInBounds_toArray, List.set_cons_zero, List.set_cons_succ]
    rfl
  refine takeH (i := 33) (N := some 89) (v := ?_) (a' := ?_) rfl rfl (by kernel_rfl) (by kernel_rfl) (by kernel_rfl) (fun _ _ _ h => h) (Or.inl ⟨by rfl, ?_⟩) hHeld ?_ ?_
  rotate_left
  · intro w' hSw
    clear hSw
    go_simp
    with_reducible rfl
  rotate_left
  · simp only [Act.put, List.setIfInBounds_toArray, List.set_cons_zero, List.set_cons_succ]
    rfl
  refine takeH (i := 34) (N := some 90) (v := ?_) (a' := ?_) rfl rfl (by kernel_rfl) (by kernel_rfl) (by kernel_rfl) (fun _ _ _ h => h) (Or.inl ⟨by rfl, ?_⟩) hHeld ?_ ?_
  rotate_left
  · intro w' hSw
    clear hSw
    go_simp
    with_reducible rfl
  rotate_left
  · simp only [Act.put, List.setIfInBounds_toArray, List.set_cons_zero, List.set_cons_succ]
    rfl
  refine takeH (i := 35) (N := some 6) (v := ?_) (a' := ?_) rfl rfl (by kernel_rfl) (by kernel_rfl) (by kernel_rfl) (fun _ _ _ h => h) (Or.inl ⟨by rfl, ?_⟩) hHeld ?_ ?_
  rotate_left
  · intro w' hSw
    clear hSw
    go_simp
    with_reducible rfl
  rotate_left
  · simp only [Act.put, List.setIfInBounds_toArray, List.set_cons_zero, List.set_cons_succ]
    rfl
  refine wpAnyH_done (by kernel_rfl) ?_ _
  have HZ := hHeld.1
  go_wp2_with fail
  go_ret
  exact ⟨rfl, FB.trans (HZ.mono FB.size)⟩

set_option maxHeartbeats 8000000 in
set_option maxRecDepth 100000 in
theorem goes_false_true_ (R C T B r c a b xr xc k1 k2 hr hc : Int) (W : World) (hA : areaB R C T B = true) (hF : fitsB R C hr hc (c == C - 1) = true)
    (hgo : ∀ w, Calls Try.prog 40 #[.agg #[.int .i64 R, .int .i64 C, .int .i64 T, .int .i64 B, .bool false], .int .i64 a, .int .i64 b] w fun e w' => e = .returned (.agg #[.int .i64 xr, .int .i64 xc, .bool false]) ∧ Below w.heap.size w w')
    (hhold : ∀ w, Calls Try.prog 41 #[.agg #[.int .i64 R, .int .i64 C, .int .i64 T, .int .i64 B, .bool false], .agg #[.int .i64 r, .int .i64 c, .bool true]] w fun e w' => e = .returned (.agg #[.int .i64 hr, .int .i64 hc, .bool (c == C - 1)]) ∧ Below w.heap.size w w')
    (h42a : ∀ w, Calls Try.prog 42 #[.int .i64 a, .int .i64 1, .int .i64 R] w fun e w' => e = .returned (.int .i64 k1) ∧ Below w.heap.size w w')
    (h42c : ∀ w, Calls Try.prog 42 #[.int .i64 b, .int .i64 1, .int .i64 C] w fun e w' => e = .returned (.int .i64 k2) ∧ Below w.heap.size w w')
    (h42r : ∀ w, Calls Try.prog 42 #[.int .i64 r, .int .i64 0, .int .i64 (R - 1)] w fun e w' => e = .returned (.int .i64 hr) ∧ Below w.heap.size w w')
    (h42k : ∀ w, Calls Try.prog 42 #[.int .i64 c, .int .i64 0, .int .i64 (C - 1)] w fun e w' => e = .returned (.int .i64 hc) ∧ Below w.heap.size w w')
    (u0 : IntKind.i64.wrap (k1 - 1) = k1 - 1) (u1 : IntKind.i64.wrap (k2 - 1) = k2 - 1) (hrow : k1 - 1 = xr) (hcol : k2 - 1 = xc) :
    Calls Try.prog 10 #[.agg #[.int .i64 R, .int .i64 C, .int .i64 T, .int .i64 B, .bool false], .agg #[.int .i64 r, .int .i64 c, .bool true], .agg #[.int .i64 a, .int .i64 b]] W fun e w' => e = .returned (.bool true) ∧ Below W.heap.size W w' := by
  have hrefr := fun w => refright_c R C T B false w
  subst hcol
  subst hrow
  obtain ⟨h1, h2, h3, h4, -, -, -⟩ := areaB_spec hA
  have hfits := fun w => fits_c (R := R) (T := T) (B := B) h3 h4 false hr hc (c == C - 1) w
  have v1 : IntKind.i64.wrap (R - 1) = R - 1 := IntWalk.i64_in _ (by omega)
  have v2 : IntKind.i64.wrap (C - 1) = C - 1 := IntWalk.i64_in _ (by omega)
  rw [hA] at hrefr
  rw [hF] at hfits
  clear hA hF
  go_enter Try.func10, Try.ntmps10
  go_upto_region 5 with (first
    | (go_at_call 33; refine (awake_c _).mono ?_; rintro _ w1 ⟨rfl, hb⟩; obtain ⟨B3, B4, B5, HB⟩ := boxes3 hb; clear hb; obtain ⟨c0, c1, c2, c3, c4⟩ := Blk.five B3)
    | (go_at_call 35; refine (ref_c R C T B false _).mono ?_; rintro _ w2 ⟨rfl, hb2⟩)
    | (go_at_call 34; refine (hrefr _).mono ?_; rintro _ w8 ⟨rfl, hb3⟩; have hb23 := hb2.trans (hb3.mono hb2.size); have N3 := B3.stays hb23; have N4 := B4.stays hb23; have N5 := B5.stays hb23; have NB := HB.trans (hb23.mono HB.size); clear c0 c1 c2 c3 c4 B3 B4 B5 HB hb2 hb3 hb23))
  refine wp_region_held_drew (S := (fun w' => Below w8.heap.size w8 w' ∧ (w'.cell? ⟨W.heap.size, 0, none⟩ = some (.int .i64 R) ∧ w'.cell? ⟨W.heap.size, 1, none⟩ = some (.int .i64 C) ∧ w'.cell? ⟨W.heap.size, 2, none⟩ = some (.int .i64 T) ∧ w'.cell? ⟨W.heap.size, 3, none⟩ = some (.int .i64 B) ∧ w'.cell? ⟨W.heap.size, 4, none⟩ = some (.bool false)) ∧ (w'.cell? ⟨W.heap.size + 1, 0, none⟩ = some (.int .i64 r) ∧ w'.cell? ⟨W.heap.size + 1, 1, none⟩ = some (.int .i64 c) ∧ w'.cell? ⟨W.heap.size + 1, 2, none⟩ = some (.bool true)) ∧ (w'.cell? ⟨W.heap.size + 1 + 1, 0, none⟩ = some (.int .i64 a) ∧ w'.cell? ⟨W.heap.size + 1 + 1, 1, none⟩ = some (.int .i64 b)))) (by kernel_rfl) (GoesR.S_of N3 N4 N5 (Joins.below_draws w8.heap.size w8 1)) (fun hHeld => ?_)
  refine takeH (i := 0) (N := some 16) (v := ?_) (a' := ?_) rfl rfl (by kernel_rfl) (by kernel_rfl) (by kernel_rfl) (fun _ _ _ h => h) (Or.inl ⟨by rfl, ?_⟩) hHeld ?_ ?_
  rotate_left
  · intro w' hSw
    go_split_ands
    go_simp
    with_reducible rfl
  rotate_left
  · simp only [Act.put, List.setIfInBounds_toArray, List.set_cons_zero, List.set_cons_succ]
    rfl
  refine takeH (i := 1) (N := some 17) (v := ?_) (a' := ?_) rfl rfl (by kernel_rfl) (by kernel_rfl) (by kernel_rfl) (fun _ _ _ h => h) (Or.inl ⟨by rfl, ?_⟩) hHeld ?_ ?_
  rotate_left
  · intro w' hSw
    go_split_ands
    go_simp
    with_reducible rfl
  rotate_left
  · simp only [Act.put, List.setIfInBounds_toArray, List.set_cons_zero, List.set_cons_succ]
    rfl
  refine takeH (i := 2) (N := some 18) (v := ?_) (a' := ?_) rfl rfl (by kernel_rfl) (by kernel_rfl) (by kernel_rfl) (fun _ _ _ h => h) (Or.inl ⟨by rfl, ?_⟩) hHeld ?_ ?_
  rotate_left
  · intro w' hSw
    go_split_ands
    go_simp
    with_reducible rfl
  rotate_left
  · simp only [Act.put, List.setIfInBounds_toArray, List.set_cons_zero, List.set_cons_succ]
    rfl
  refine takeH (i := 3) (N := some 19) (v := ?_) (a' := ?_) rfl rfl (by kernel_rfl) (by kernel_rfl) (by kernel_rfl) (fun _ _ _ h => h) (Or.inl ⟨by rfl, ?_⟩) hHeld ?_ ?_
  rotate_left
  · intro w' hSw
    go_split_ands
    go_simp
    with_reducible rfl
  rotate_left
  · simp only [Act.put, List.setIfInBounds_toArray, List.set_cons_zero, List.set_cons_succ]
    rfl
  refine takeH (i := 4) (N := some 20) (v := ?_) (a' := ?_) rfl rfl (by kernel_rfl) (by kernel_rfl) (by kernel_rfl) (fun _ _ _ h => h) (Or.inl ⟨by rfl, ?_⟩) hHeld ?_ ?_
  rotate_left
  · intro w' hSw
    go_split_ands
    go_simp
    with_reducible rfl
  rotate_left
  · simp only [Act.put, List.setIfInBounds_toArray, List.set_cons_zero, List.set_cons_succ]
    rfl
  refine takeH (i := 6) (N := some 22) (v := ?_) (a' := ?_) rfl rfl (by kernel_rfl) (by kernel_rfl) (by kernel_rfl) (fun _ _ _ h => h) (Or.inl ⟨by rfl, ?_⟩) hHeld ?_ ?_
  rotate_left
  · intro w' hSw
    go_split_ands
    go_simp
    with_reducible rfl
  rotate_left
  · simp only [Act.put, List.setIfInBounds_toArray, List.set_cons_zero, List.set_cons_succ]
    rfl
  refine takeH (i := 7) (N := some 23) (v := ?_) (a' := ?_) rfl rfl (by kernel_rfl) (by kernel_rfl) (by kernel_rfl) (fun _ _ _ h => h) (Or.inl ⟨by rfl, ?_⟩) hHeld ?_ ?_
  rotate_left
  · intro w' hSw
    go_split_ands
    go_simp
    with_reducible rfl
  rotate_left
  · simp only [Act.put, List.setIfInBounds_toArray, List.set_cons_zero, List.set_cons_succ]
    rfl
  refine relist #[true, true, true, true, true, false, true, true, false, false, false, false, false] 6 (by kernel_rfl) (by kernel_rfl) ?_
  clear hHeld
  refine GoesR.node0_0 (w0 := w8) (by kernel_rfl) ⟨_, rfl, rfl, rfl, rfl⟩ ⟨_, rfl, rfl, rfl, rfl⟩ ⟨_, rfl, rfl, rfl, rfl⟩ ⟨_, rfl, rfl, rfl, rfl⟩ ⟨_, rfl, rfl, rfl, rfl⟩ ⟨_, rfl, rfl, rfl, rfl⟩ (fun _ h => GoesR.S_of N3 N4 N5 h) hgo hhold (fun g7 g8 w9 e7 e8 _ b7 b8 hb => ?_) _ (Joins.below_draws w8.heap.size w8 1)
  have E3 := N3.stays hb
  have E4 := N4.stays hb
  have E5 := N5.stays hb
  have EB := NB.trans (hb.mono NB.size)
  clear N3 N4 N5 NB hb hgo hhold hrefr e7 e8
  obtain ⟨c0, c1, c2, c3, c4⟩ := Blk.five E3
  obtain ⟨d0, d1⟩ := Blk.two E5
  go_upto_region 9 with (first
    | (go_at_call 42; refine (h42a _).mono ?_; rintro _ y1 ⟨rfl, hb⟩; have F3 := E3.stays hb; have F4 := E4.stays hb; have F5 := E5.stays hb; have f7 := b7.stays hb; have f8 := b8.stays hb; have FB := EB.trans (hb.mono EB.size); clear c0 c1 c2 c3 c4 d0 d1 E3 E4 E5 b7 b8 EB hb; obtain ⟨c0, c1, c2, c3, c4⟩ := Blk.five F3; obtain ⟨d0, d1⟩ := Blk.two F5))
  refine wp_region_held_drew (S := (fun w' => Below y1.heap.size y1 w' ∧ (w'.cell? ⟨W.heap.size, 0, none⟩ = some (.int .i64 R) ∧ w'.cell? ⟨W.heap.size, 1, none⟩ = some (.int .i64 C) ∧ w'.cell? ⟨W.heap.size, 2, none⟩ = some (.int .i64 T) ∧ w'.cell? ⟨W.heap.size, 3, none⟩ = some (.int .i64 B) ∧ w'.cell? ⟨W.heap.size, 4, none⟩ = some (.bool false)) ∧ (w'.cell? ⟨W.heap.size + 1, 0, none⟩ = some (.int .i64 r) ∧ w'.cell? ⟨W.heap.size + 1, 1, none⟩ = some (.int .i64 c) ∧ w'.cell? ⟨W.heap.size + 1, 2, none⟩ = some (.bool true)) ∧ (w'.cell? ⟨W.heap.size + 1 + 1, 0, none⟩ = some (.int .i64 a) ∧ w'.cell? ⟨W.heap.size + 1 + 1, 1, none⟩ = some (.int .i64 b)) ∧ (w'.cell? ⟨g7, 0, none⟩ = some (.int .i64 (k1 - 1)) ∧ w'.cell? ⟨g7, 1, none⟩ = some (.int .i64 (k2 - 1)) ∧ w'.cell? ⟨g7, 2, none⟩ = some (.bool false)) ∧ (w'.cell? ⟨g8, 0, none⟩ = some (.int .i64 hr) ∧ w'.cell? ⟨g8, 1, none⟩ = some (.int .i64 hc) ∧ w'.cell? ⟨g8, 2, none⟩ = some (.bool (c == C - 1))))) (by kernel_rfl) (GoesR.S_of2 F3 F4 F5 f7 f8 (Joins.below_draws y1.heap.size y1 1)) (fun hHeld => ?_)
  refine takeH (i := 0) (N := some 40) (v := ?_) (a' := ?_) rfl rfl (by kernel_rfl) (by kernel_rfl) (by kernel_rfl) (fun _ _ _ h => h) (Or.inl ⟨by rfl, ?_⟩) hHeld ?_ ?_
  rotate_left
  · intro w' hSw
    go_split_ands
    go_simp
    with_reducible rfl
  rotate_left
  · simp only [Act.put, List.setIfInBounds_toArray, List.set_cons_zero, List.set_cons_succ]
    rfl
  refine takeH (i := 1) (N := some 41) (v := ?_) (a' := ?_) rfl rfl (by kernel_rfl) (by kernel_rfl) (by kernel_rfl) (fun _ _ _ h => h) (Or.inl ⟨by rfl, ?_⟩) hHeld ?_ ?_
  rotate_left
  · intro w' hSw
    clear hSw
    go_simp
    with_reducible rfl
  rotate_left
  · simp only [Act.put, List.setIfInBounds_toArray, List.set_cons_zero, List.set_cons_succ]
    rfl
  refine takeH (i := 2) (N := some 42) (v := ?_) (a' := ?_) rfl rfl (by kernel_rfl) (by kernel_rfl) (by kernel_rfl) (fun _ _ _ h => h) (Or.inl ⟨by rfl, ?_⟩) hHeld ?_ ?_
  rotate_left
  · intro w' hSw
    go_split_ands
    go_simp
    with_reducible rfl
  rotate_left
  · simp only [Act.put, List.setIfInBounds_toArray, List.set_cons_zero, List.set_cons_succ]
    rfl
  refine takeH (i := 3) (N := some 43) (v := ?_) (a' := ?_) rfl rfl (by kernel_rfl) (by kernel_rfl) (by kernel_rfl) (fun _ _ _ h => h) (Or.inl ⟨by rfl, ?_⟩) hHeld ?_ ?_
  rotate_left
  · intro w' hSw
    go_split_ands
    go_simp
    with_reducible rfl
  rotate_left
  · simp only [Act.put, List.setIfInBounds_toArray, List.set_cons_zero, List.set_cons_succ]
    rfl
  refine takeH (i := 4) (N := some 44) (v := ?_) (a' := ?_) rfl rfl (by kernel_rfl) (by kernel_rfl) (by kernel_rfl) (fun _ _ _ h => h) (Or.inl ⟨by rfl, ?_⟩) hHeld ?_ ?_
  rotate_left
  · intro w' hSw
    go_split_ands
    go_simp
    with_reducible rfl
  rotate_left
  · simp only [Act.put, List.setIfInBounds_toArray, List.set_cons_zero, List.set_cons_succ]
    rfl
  refine takeH (i := 5) (N := some 45) (v := ?_) (a' := ?_) rfl rfl (by kernel_rfl) (by kernel_rfl) (by kernel_rfl) (fun _ _ _ h => h) (Or.inl ⟨by rfl, ?_⟩) hHeld ?_ ?_
  rotate_left
  · intro w' hSw
    go_split_ands
    go_simp
    with_reducible rfl
  rotate_left
  · simp only [Act.put, List.setIfInBounds_toArray, List.set_cons_zero, List.set_cons_succ]
    rfl
  refine wpAnyH_ready (rs := [6]) (by kernel_rfl) (by simp) ?_
  refine AllReadyH.cons rfl (fun K hK => ?_) AllReadyH.nil
  go_simp
  with_reducible refine (h42c _).mono ?_
  rintro _ x46 ⟨rfl, hx46⟩
  go_simp
  refine hK.out _ _ (GoesR.S_of2 F3 F4 F5 f7 f8 (hHeld.1.trans (hx46.mono hHeld.1.size))) (fun hHeld => ?_)
  clear hK K
  refine takeH (i := 7) (N := some 47) (v := ?_) (a' := ?_) rfl rfl (by kernel_rfl) (by kernel_rfl) (by kernel_rfl) (fun _ _ _ h => h) (Or.inl ⟨by rfl, ?_⟩) hHeld ?_ ?_
  rotate_left
  · intro w' hSw
    clear hSw
    go_simp
    with_reducible rfl
  rotate_left
  · simp only [Act.put, List.setIfInBounds_toArray, List.set_cons_zero, List.set_cons_succ]
    rfl
  refine takeH (i := 8) (N := some 48) (v := ?_) (a' := ?_) rfl rfl (by kernel_rfl) (by kernel_rfl) (by kernel_rfl) (fun _ _ _ h => h) (Or.inl ⟨by rfl, ?_⟩) hHeld ?_ ?_
  rotate_left
  · intro w' hSw
    clear hSw
    go_simp
    with_reducible rfl
  rotate_left
  · simp only [Act.put, List.setIfInBounds_toArray, List.set_cons_zero, List.set_cons_succ]
    rfl
  refine takeH (i := 9) (N := some 49) (v := ?_) (a' := ?_) rfl rfl (by kernel_rfl) (by kernel_rfl) (by kernel_rfl) (fun _ _ _ h => h) (Or.inl ⟨by rfl, ?_⟩) hHeld ?_ ?_
  rotate_left
  · intro w' hSw
    clear hSw
    go_simp
    with_reducible rfl
  rotate_left
  · simp only [Act.put, List.setIfInBounds_toArray, List.set_cons_zero, List.set_cons_succ]
    rfl
  refine takeH (i := 10) (N := some 50) (v := ?_) (a' := ?_) rfl rfl (by kernel_rfl) (by kernel_rfl) (by kernel_rfl) (fun _ _ _ h => h) (Or.inl ⟨by rfl, ?_⟩) hHeld ?_ ?_
  rotate_left
  · intro w' hSw
    clear hSw
    go_simp
    with_reducible rfl
  rotate_left
  · simp only [Act.put, List.setIfInBounds_toArray, List.set_cons_zero, List.set_cons_succ]
    rfl
  refine takeH (i := 11) (N := some 51) (v := ?_) (a' := ?_) rfl rfl (by kernel_rfl) (by kernel_rfl) (by kernel_rfl) (fun _ _ _ h => h) (Or.inl ⟨by rfl, ?_⟩) hHeld ?_ ?_
  rotate_left
  · intro w' hSw
    go_split_ands
    go_simp
    with_reducible rfl
  rotate_left
  · simp only [Act.put, List.setIfInBounds_toArray, List.set_cons_zero, List.set_cons_succ]
    rfl
  refine takeH (i := 12) (N := some 52) (v := ?_) (a' := ?_) rfl rfl (by kernel_rfl) (by kernel_rfl) (by kernel_rfl) (fun _ _ _ h => h) (Or.inl ⟨by rfl, ?_⟩) hHeld ?_ ?_
  rotate_left
  · intro w' hSw
    go_split_ands
    go_simp
    with_reducible rfl
  rotate_left
  · simp only [Act.put, List.setIfInBounds_toArray, List.set_cons_zero, List.set_cons_succ]
    rfl
  refine wpAnyH_ready (rs := [13]) (by kernel_rfl) (by simp) ?_
  refine AllReadyH.cons rfl (fun K hK => ?_) AllReadyH.nil
  go_simp
  with_reducible refine (hfits _).mono ?_
  rintro _ x53 ⟨rfl, hx53⟩
  go_simp
  refine hK.out _ _ (GoesR.S_of2 F3 F4 F5 f7 f8 (hHeld.1.trans (hx53.mono hHeld.1.size))) (fun hHeld => ?_)
  clear hK K
  refine takeH (i := 14) (N := some 54) (v := ?_) (a' := ?_) rfl rfl (by kernel_rfl) (by kernel_rfl) (by kernel_rfl) (fun _ _ _ h => h) (Or.inl ⟨by rfl, ?_⟩) hHeld ?_ ?_
  rotate_left
  · intro w' hSw
    clear hSw
    go_simp
    with_reducible rfl
  rotate_left
  · simp only [Act.put, List.setIfInBounds_toArray, List.set_cons_zero, List.set_cons_succ]
    rfl
  refine takeH (i := 15) (N := some 55) (v := ?_) (a' := ?_) rfl rfl (by kernel_rfl) (by kernel_rfl) (by kernel_rfl) (fun _ _ _ h => h) (Or.inl ⟨by rfl, ?_⟩) hHeld ?_ ?_
  rotate_left
  · intro w' hSw
    clear hSw
    go_simp
    with_reducible rfl
  rotate_left
  · simp only [Act.put, List.setIfInBounds_toArray, List.set_cons_zero, List.set_cons_succ]
    rfl
  refine wpAnyH_done (by kernel_rfl) ?_ _
  have HY := hHeld.1
  clear hHeld
  go_upto_region 11 with (fail)
  refine wp_region_held_drew (S := (fun w' => Below y1.heap.size y1 w' ∧ (w'.cell? ⟨W.heap.size, 0, none⟩ = some (.int .i64 R) ∧ w'.cell? ⟨W.heap.size, 1, none⟩ = some (.int .i64 C) ∧ w'.cell? ⟨W.heap.size, 2, none⟩ = some (.int .i64 T) ∧ w'.cell? ⟨W.heap.size, 3, none⟩ = some (.int .i64 B) ∧ w'.cell? ⟨W.heap.size, 4, none⟩ = some (.bool false)) ∧ (w'.cell? ⟨W.heap.size + 1, 0, none⟩ = some (.int .i64 r) ∧ w'.cell? ⟨W.heap.size + 1, 1, none⟩ = some (.int .i64 c) ∧ w'.cell? ⟨W.heap.size + 1, 2, none⟩ = some (.bool true)) ∧ (w'.cell? ⟨W.heap.size + 1 + 1, 0, none⟩ = some (.int .i64 a) ∧ w'.cell? ⟨W.heap.size + 1 + 1, 1, none⟩ = some (.int .i64 b)) ∧ (w'.cell? ⟨g7, 0, none⟩ = some (.int .i64 (k1 - 1)) ∧ w'.cell? ⟨g7, 1, none⟩ = some (.int .i64 (k2 - 1)) ∧ w'.cell? ⟨g7, 2, none⟩ = some (.bool false)) ∧ (w'.cell? ⟨g8, 0, none⟩ = some (.int .i64 hr) ∧ w'.cell? ⟨g8, 1, none⟩ = some (.int .i64 hc) ∧ w'.cell? ⟨g8, 2, none⟩ = some (.bool (c == C - 1))))) (by kernel_rfl) (GoesR.S_of2 F3 F4 F5 f7 f8 (HY.trans (Joins.below_draws y1.heap.size _ 1))) (fun hHeld => ?_)
  refine takeH (i := 0) (N := some 56) (v := ?_) (a' := ?_) rfl rfl (by kernel_rfl) (by kernel_rfl) (by kernel_rfl) (fun _ _ _ h => h) (Or.inl ⟨by rfl, ?_⟩) hHeld ?_ ?_
  rotate_left
  · intro w' hSw
    go_split_ands
    go_simp
    with_reducible rfl
  rotate_left
  · simp only [Act.put, List.setIfInBounds_toArray, List.set_cons_zero, List.set_cons_succ]
    rfl
  refine takeH (i := 1) (N := some 57) (v := ?_) (a' := ?_) rfl rfl (by kernel_rfl) (by kernel_rfl) (by kernel_rfl) (fun _ _ _ h => h) (Or.inl ⟨by rfl, ?_⟩) hHeld ?_ ?_
  rotate_left
  · intro w' hSw
    go_split_ands
    go_simp
    with_reducible rfl
  rotate_left
  · simp only [Act.put, List.setIfInBounds_toArray, List.set_cons_zero, List.set_cons_succ]
    rfl
  refine takeH (i := 2) (N := some 58) (v := ?_) (a' := ?_) rfl rfl (by kernel_rfl) (by kernel_rfl) (by kernel_rfl) (fun _ _ _ h => h) (Or.inl ⟨by rfl, ?_⟩) hHeld ?_ ?_
  rotate_left
  · intro w' hSw
    go_split_ands
    go_simp
    with_reducible rfl
  rotate_left
  · simp only [Act.put, List.setIfInBounds_toArray, List.set_cons_zero, List.set_cons_succ]
    rfl
  refine takeH (i := 3) (N := some 59) (v := ?_) (a' := ?_) rfl rfl (by kernel_rfl) (by kernel_rfl) (by kernel_rfl) (fun _ _ _ h => h) (Or.inl ⟨by rfl, ?_⟩) hHeld ?_ ?_
  rotate_left
  · intro w' hSw
    go_split_ands
    go_simp
    with_reducible rfl
  rotate_left
  · simp only [Act.put, List.setIfInBounds_toArray, List.set_cons_zero, List.set_cons_succ]
    rfl
  refine takeH (i := 4) (N := some 60) (v := ?_) (a' := ?_) rfl rfl (by kernel_rfl) (by kernel_rfl) (by kernel_rfl) (fun _ _ _ h => h) (Or.inl ⟨by rfl, ?_⟩) hHeld ?_ ?_
  rotate_left
  · intro w' hSw
    go_split_ands
    go_simp
    with_reducible rfl
  rotate_left
  · simp only [Act.put, List.setIfInBounds_toArray, List.set_cons_zero, List.set_cons_succ]
    rfl
  refine takeH (i := 5) (N := some 61) (v := ?_) (a' := ?_) rfl rfl (by kernel_rfl) (by kernel_rfl) (by kernel_rfl) (fun _ _ _ h => h) (Or.inl ⟨by rfl, ?_⟩) hHeld ?_ ?_
  rotate_left
  · intro w' hSw
    go_split_ands
    go_simp
    with_reducible rfl
  rotate_left
  · simp only [Act.put, List.setIfInBounds_toArray, List.set_cons_zero, List.set_cons_succ]
    rfl
  refine takeH (i := 6) (N := some 62) (v := ?_) (a' := ?_) rfl rfl (by kernel_rfl) (by kernel_rfl) (by kernel_rfl) (fun _ _ _ h => h) (Or.inl ⟨by rfl, ?_⟩) hHeld ?_ ?_
  rotate_left
  · intro w' hSw
    clear hSw
    go_simp
    with_reducible rfl
  rotate_left
  · simp only [Act.put, List.setIfInBounds_toArray, List.set_cons_zero, List.set_cons_succ]
    rfl
  refine wpAnyH_ready (rs := [7]) (by kernel_rfl) (by simp) ?_
  refine AllReadyH.cons rfl (fun K hK => ?_) AllReadyH.nil
  go_simp
  with_reducible refine (h42r _).mono ?_
  rintro _ x63 ⟨rfl, hx63⟩
  go_simp
  refine hK.out _ _ (GoesR.S_of2 F3 F4 F5 f7 f8 (hHeld.1.trans (hx63.mono hHeld.1.size))) (fun hHeld => ?_)
  clear hK K
  refine takeH (i := 8) (N := some 64) (v := ?_) (a' := ?_) rfl rfl (by kernel_rfl) (by kernel_rfl) (by kernel_rfl) (fun _ _ _ h => h) (Or.inl ⟨by rfl, ?_⟩) hHeld ?_ ?_
  rotate_left
  · intro w' hSw
    clear hSw
    go_simp
    with_reducible rfl
  rotate_left
  · simp only [Act.put, List.setIfInBounds_toArray, List.set_cons_zero, List.set_cons_succ]
    rfl
  refine takeH (i := 9) (N := some 65) (v := ?_) (a' := ?_) rfl rfl (by kernel_rfl) (by kernel_rfl) (by kernel_rfl) (fun _ _ _ h => h) (Or.inl ⟨by rfl, ?_⟩) hHeld ?_ ?_
  rotate_left
  · intro w' hSw
    clear hSw
    go_simp
    with_reducible rfl
  rotate_left
  · simp only [Act.put, List.setIfInBounds_toArray, List.set_cons_zero, List.set_cons_succ]
    rfl
  refine takeH (i := 10) (N := some 66) (v := ?_) (a' := ?_) rfl rfl (by kernel_rfl) (by kernel_rfl) (by kernel_rfl) (fun _ _ _ h => h) (Or.inl ⟨by rfl, ?_⟩) hHeld ?_ ?_
  rotate_left
  · intro w' hSw
    go_split_ands
    go_simp
    with_reducible rfl
  rotate_left
  · simp only [Act.put, List.setIfInBounds_toArray, List.set_cons_zero, List.set_cons_succ]
    rfl
  refine takeH (i := 11) (N := some 67) (v := ?_) (a' := ?_) rfl rfl (by kernel_rfl) (by kernel_rfl) (by kernel_rfl) (fun _ _ _ h => h) (Or.inl ⟨by rfl, ?_⟩) hHeld ?_ ?_
  rotate_left
  · intro w' hSw
    go_split_ands
    go_simp
    with_reducible rfl
  rotate_left
  · simp only [Act.put, List.setIfInBounds_toArray, List.set_cons_zero, List.set_cons_succ]
    rfl
  refine takeH (i := 12) (N := some 68) (v := ?_) (a' := ?_) rfl rfl (by kernel_rfl) (by kernel_rfl) (by kernel_rfl) (fun _ _ _ h => h) (Or.inl ⟨by rfl, ?_⟩) hHeld ?_ ?_
  rotate_left
  · intro w' hSw
    go_split_ands
    go_simp
    with_reducible rfl
  rotate_left
  · simp only [Act.put, List.setIfInBounds_toArray, List.set_cons_zero, List.set_cons_succ]
    rfl
  refine takeH (i := 13) (N := some 69) (v := ?_) (a' := ?_) rfl rfl (by kernel_rfl) (by kernel_rfl) (by kernel_rfl) (fun _ _ _ h => h) (Or.inl ⟨by rfl, ?_⟩) hHeld ?_ ?_
  rotate_left
  · intro w' hSw
    go_split_ands
    go_simp
    with_reducible rfl
  rotate_left
  · simp only [Act.put, List.setIfInBounds_toArray, List.set_cons_zero, List.set_cons_succ]
    rfl
  refine takeH (i := 14) (N := some 70) (v := ?_) (a' := ?_) rfl rfl (by kernel_rfl) (by kernel_rfl) (by kernel_rfl) (fun _ _ _ h => h) (Or.inl ⟨by rfl, ?_⟩) hHeld ?_ ?_
  rotate_left
  · intro w' hSw
    go_split_ands
    go_simp
    with_reducible rfl
  rotate_left
  · simp only [Act.put, List.setIfInBounds_toArray, List.set_cons_zero, List.set_cons_succ]
    rfl
  refine takeH (i := 15) (N := some 71) (v := ?_) (a' := ?_) rfl rfl (by kernel_rfl) (by kernel_rfl) (by kernel_rfl) (fun _ _ _ h => h) (Or.inl ⟨by rfl, ?_⟩) hHeld ?_ ?_
  rotate_left
  · intro w' hSw
    go_split_ands
    go_simp
    with_reducible rfl
  rotate_left
  · simp only [Act.put, List.setIfInBounds_toArray, List.set_cons_zero, List.set_cons_succ]
    rfl
  refine takeH (i := 16) (N := some 72) (v := ?_) (a' := ?_) rfl rfl (by kernel_rfl) (by kernel_rfl) (by kernel_rfl) (fun _ _ _ h => h) (Or.inl ⟨by rfl, ?_⟩) hHeld ?_ ?_
  rotate_left
  · intro w' hSw
    clear hSw
    go_simp
    with_reducible rfl
  rotate_left
  · simp only [Act.put, List.setIfInBounds_toArray, List.set_cons_zero, List.set_cons_succ]
    rfl
  refine wpAnyH_ready (rs := [17]) (by kernel_rfl) (by simp) ?_
  refine AllReadyH.cons rfl (fun K hK => ?_) AllReadyH.nil
  go_simp
  with_reducible refine (h42k _).mono ?_
  rintro _ x73 ⟨rfl, hx73⟩
  go_simp
  refine hK.out _ _ (GoesR.S_of2 F3 F4 F5 f7 f8 (hHeld.1.trans (hx73.mono hHeld.1.size))) (fun hHeld => ?_)
  clear hK K
  refine takeH (i := 18) (N := some 74) (v := ?_) (a' := ?_) rfl rfl (by kernel_rfl) (by kernel_rfl) (by kernel_rfl) (fun _ _ _ h => h) (Or.inl ⟨by rfl, ?_⟩) hHeld ?_ ?_
  rotate_left
  · intro w' hSw
    clear hSw
    go_simp
    with_reducible rfl
  rotate_left
  · simp only [Act.put, List.setIfInBounds_toArray, List.set_cons_zero, List.set_cons_succ]
    rfl
  refine takeH (i := 19) (N := some 75) (v := ?_) (a' := ?_) rfl rfl (by kernel_rfl) (by kernel_rfl) (by kernel_rfl) (fun _ _ _ h => h) (Or.inl ⟨by rfl, ?_⟩) hHeld ?_ ?_
  rotate_left
  · intro w' hSw
    clear hSw
    go_simp
    with_reducible rfl
  rotate_left
  · simp only [Act.put, List.setIfInBounds_toArray, List.set_cons_zero, List.set_cons_succ]
    rfl
  refine takeH (i := 20) (N := some 76) (v := ?_) (a' := ?_) rfl rfl (by kernel_rfl) (by kernel_rfl) (by kernel_rfl) (fun _ _ _ h => h) (Or.inl ⟨by rfl, ?_⟩) hHeld ?_ ?_
  rotate_left
  · intro w' hSw
    clear hSw
    go_simp
    with_reducible rfl
  rotate_left
  · simp only [Act.put, List.setIfInBounds_toArray, List.set_cons_zero, List.set_cons_succ]
    rfl
  refine takeH (i := 21) (N := some 77) (v := ?_) (a' := ?_) rfl rfl (by kernel_rfl) (by kernel_rfl) (by kernel_rfl) (fun _ _ _ h => h) (Or.inl ⟨by rfl, ?_⟩) hHeld ?_ ?_
  rotate_left
  · intro w' hSw
    go_split_ands
    go_simp
    with_reducible rfl
  rotate_left
  · simp only [Act.put, List.setIfInBounds_toArray, List.set_cons_zero, List.set_cons_succ]
    rfl
  refine takeH (i := 22) (N := some 78) (v := ?_) (a' := ?_) rfl rfl (by kernel_rfl) (by kernel_rfl) (by kernel_rfl) (fun _ _ _ h => h) (Or.inl ⟨by rfl, ?_⟩) hHeld ?_ ?_
  rotate_left
  · intro w' hSw
    go_split_ands
    go_simp
    with_reducible rfl
  rotate_left
  · simp only [Act.put, List.setIfInBounds_toArray, List.set_cons_zero, List.set_cons_succ]
    rfl
  refine takeH (i := 23) (N := some 79) (v := ?_) (a' := ?_) rfl rfl (by kernel_rfl) (by kernel_rfl) (by kernel_rfl) (fun _ _ _ h => h) (Or.inl ⟨by rfl, ?_⟩) hHeld ?_ ?_
  rotate_left
  · intro w' hSw
    go_split_ands
    go_simp
    with_reducible rfl
  rotate_left
  · simp only [Act.put, List.setIfInBounds_toArray, List.set_cons_zero, List.set_cons_succ]
    rfl
  refine takeH (i := 24) (N := some 80) (v := ?_) (a' := ?_) rfl rfl (by kernel_rfl) (by kernel_rfl) (by kernel_rfl) (fun _ _ _ h => h) (Or.inl ⟨by rfl, ?_⟩) hHeld ?_ ?_
  rotate_left
  · intro w' hSw
    go_split_ands
    go_simp
    with_reducible rfl
  rotate_left
  · simp only [Act.put, List.setIfInBounds_toArray, List.set_cons_zero, List.set_cons_succ]
    rfl
  refine takeH (i := 25) (N := some 81) (v := ?_) (a' := ?_) rfl rfl (by kernel_rfl) (by kernel_rfl) (by kernel_rfl) (fun _ _ _ h => h) (Or.inl ⟨by rfl, ?_⟩) hHeld ?_ ?_
  rotate_left
  · intro w' hSw
    clear hSw
    go_simp
    with_reducible rfl
  rotate_left
  · simp only [Act.put, List.setIfInBounds_toArray, List.set_cons_zero, List.set_cons_succ]
    rfl
  refine takeH (i := 26) (N := some 82) (v := ?_) (a' := ?_) rfl rfl (by kernel_rfl) (by kernel_rfl) (by kernel_rfl) (fun _ _ _ h => h) (Or.inl ⟨by rfl, ?_⟩) hHeld ?_ ?_
  rotate_left
  · intro w' hSw
    go_split_ands
    go_simp
    with_reducible rfl
  rotate_left
  · simp only [Act.put, List.setIfInBounds_toArray, List.set_cons_zero, List.set_cons_succ]
    rfl
  refine takeH (i := 27) (N := some 83) (v := ?_) (a' := ?_) rfl rfl (by kernel_rfl) (by kernel_rfl) (by kernel_rfl) (fun _ _ _ h => h) (Or.inl ⟨by rfl, ?_⟩) hHeld ?_ ?_
  rotate_left
  · intro w' hSw
    go_split_ands
    go_simp
    with_reducible rfl
  rotate_left
  · simp only [Act.put, List.setIfInBounds_toArray, List.set_cons_zero, List.set_cons_succ]
    rfl
  refine takeH (i := 28) (N := some 84) (v := ?_) (a' := ?_) rfl rfl (by kernel_rfl) (by kernel_rfl) (by kernel_rfl) (fun _ _ _ h => h) (Or.inl ⟨by rfl, ?_⟩) hHeld ?_ ?_
  rotate_left
  · intro w' hSw
    go_split_ands
    go_simp
    with_reducible rfl
  rotate_left
  · simp only [Act.put, List.setIfInBounds_toArray, List.set_cons_zero, List.set_cons_succ]
    rfl
  refine takeH (i := 29) (N := some 85) (v := ?_) (a' := ?_) rfl rfl (by kernel_rfl) (by kernel_rfl) (by kernel_rfl) (fun _ _ _ h => h) (Or.inl ⟨by rfl, ?_⟩) hHeld ?_ ?_
  rotate_left
  · intro w' hSw
    go_split_ands
    go_simp
    with_reducible rfl
  rotate_left
  · simp only [Act.put, List.setIfInBounds_toArray, List.set_cons_zero, List.set_cons_succ]
    rfl
  refine takeH (i := 30) (N := some 86) (v := ?_) (a' := ?_) rfl rfl (by kernel_rfl) (by kernel_rfl) (by kernel_rfl) (fun _ _ _ h => h) (Or.inl ⟨by rfl, ?_⟩) hHeld ?_ ?_
  rotate_left
  · intro w' hSw
    clear hSw
    go_simp
    with_reducible rfl
  rotate_left
  · simp only [Act.put, List.setIfInBounds_toArray, List.set_cons_zero, List.set_cons_succ]
    rfl
  refine takeH (i := 31) (N := some 87) (v := ?_) (a' := ?_) rfl rfl (by kernel_rfl) (by kernel_rfl) (by kernel_rfl) (fun _ _ _ h => h) (Or.inl ⟨by rfl, ?_⟩) hHeld ?_ ?_
  rotate_left
  · intro w' hSw
    clear hSw
    go_simp
    with_reducible rfl
  rotate_left
  · simp only [Act.put, List.setIfInBounds_toArray, List.set_cons_zero, List.set_cons_succ]
    rfl
  refine takeH (i := 32) (N := some 88) (v := ?_) (a' := ?_) rfl rfl (by kernel_rfl) (by kernel_rfl) (by kernel_rfl) (fun _ _ _ h => h) (Or.inl ⟨by rfl, ?_⟩) hHeld ?_ ?_
  rotate_left
  · intro w' hSw
    clear hSw
    go_simp
    with_reducible rfl
  rotate_left
  · simp only [Act.put, List.setIfInBounds_toArray, List.set_cons_zero, List.set_cons_succ]
    rfl
  refine takeH (i := 33) (N := some 89) (v := ?_) (a' := ?_) rfl rfl (by kernel_rfl) (by kernel_rfl) (by kernel_rfl) (fun _ _ _ h => h) (Or.inl ⟨by rfl, ?_⟩) hHeld ?_ ?_
  rotate_left
  · intro w' hSw
    clear hSw
    go_simp
    with_reducible rfl
  rotate_left
  · simp only [Act.put, List.setIfInBounds_toArray, List.set_cons_zero, List.set_cons_succ]
    rfl
  refine takeH (i := 34) (N := some 90) (v := ?_) (a' := ?_) rfl rfl (by kernel_rfl) (by kernel_rfl) (by kernel_rfl) (fun _ _ _ h => h) (Or.inl ⟨by rfl, ?_⟩) hHeld ?_ ?_
  rotate_left
  · intro w' hSw
    clear hSw
    go_simp
    with_reducible rfl
  rotate_left
  · simp only [Act.put, List.setIfInBounds_toArray, List.set_cons_zero, List.set_cons_succ]
    rfl
  refine takeH (i := 35) (N := some 6) (v := ?_) (a' := ?_) rfl rfl (by kernel_rfl) (by kernel_rfl) (by kernel_rfl) (fun _ _ _ h => h) (Or.inl ⟨by rfl, ?_⟩) hHeld ?_ ?_
  rotate_left
  · intro w' hSw
    clear hSw
    go_simp
    with_reducible rfl
  rotate_left
  · simp only [Act.put, List.setIfInBounds_toArray, List.set_cons_zero, List.set_cons_succ]
    rfl
  refine wpAnyH_done (by kernel_rfl) ?_ _
  have HZ := hHeld.1
  go_wp2_with fail
  go_ret
  exact ⟨rfl, FB.trans (HZ.mono FB.size)⟩

set_option maxHeartbeats 8000000 in
set_option maxRecDepth 100000 in
theorem goes_true_false_ (R C T B r c a b xr xc k1 k2 hr hc : Int) (W : World) (hA : areaB R C T B = true) (hF : fitsB R C hr hc false = true)
    (hgo : ∀ w, Calls Try.prog 40 #[.agg #[.int .i64 R, .int .i64 C, .int .i64 T, .int .i64 B, .bool true], .int .i64 a, .int .i64 b] w fun e w' => e = .returned (.agg #[.int .i64 xr, .int .i64 xc, .bool false]) ∧ Below w.heap.size w w')
    (hhold : ∀ w, Calls Try.prog 41 #[.agg #[.int .i64 R, .int .i64 C, .int .i64 T, .int .i64 B, .bool true], .agg #[.int .i64 r, .int .i64 c, .bool false]] w fun e w' => e = .returned (.agg #[.int .i64 hr, .int .i64 hc, .bool false]) ∧ Below w.heap.size w w')
    (h42a : ∀ w, Calls Try.prog 42 #[.int .i64 a, .int .i64 1, .int .i64 R] w fun e w' => e = .returned (.int .i64 k1) ∧ Below w.heap.size w w')
    (h42c : ∀ w, Calls Try.prog 42 #[.int .i64 b, .int .i64 1, .int .i64 C] w fun e w' => e = .returned (.int .i64 k2) ∧ Below w.heap.size w w')
    (h42r : ∀ w, Calls Try.prog 42 #[.int .i64 r, .int .i64 0, .int .i64 (R - 1)] w fun e w' => e = .returned (.int .i64 hr) ∧ Below w.heap.size w w')
    (h42k : ∀ w, Calls Try.prog 42 #[.int .i64 c, .int .i64 0, .int .i64 (C - 1)] w fun e w' => e = .returned (.int .i64 hc) ∧ Below w.heap.size w w')
    (u0 : IntKind.i64.wrap (k1 - 1) = k1 - 1) (u1 : IntKind.i64.wrap (k2 - 1) = k2 - 1) (hrow : (if B < T + (k1 - 1) then B else T + (k1 - 1)) = xr) (u2 : IntKind.i64.wrap (T + (k1 - 1)) = T + (k1 - 1)) (hcol : k2 - 1 = xc) :
    Calls Try.prog 10 #[.agg #[.int .i64 R, .int .i64 C, .int .i64 T, .int .i64 B, .bool true], .agg #[.int .i64 r, .int .i64 c, .bool false], .agg #[.int .i64 a, .int .i64 b]] W fun e w' => e = .returned (.bool true) ∧ Below W.heap.size W w' := by
  have hrefr := fun w => refright_c R C T B true w
  subst hcol
  obtain ⟨h1, h2, h3, h4, -, -, -⟩ := areaB_spec hA
  have hfits := fun w => fits_c (R := R) (T := T) (B := B) h3 h4 true hr hc false w
  have v1 : IntKind.i64.wrap (R - 1) = R - 1 := IntWalk.i64_in _ (by omega)
  have v2 : IntKind.i64.wrap (C - 1) = C - 1 := IntWalk.i64_in _ (by omega)
  rw [hA] at hrefr
  rw [hF] at hfits
  clear hA hF
  go_enter Try.func10, Try.ntmps10
  go_upto_region 5 with (first
    | (go_at_call 33; refine (awake_c _).mono ?_; rintro _ w1 ⟨rfl, hb⟩; obtain ⟨B3, B4, B5, HB⟩ := boxes3 hb; clear hb; obtain ⟨c0, c1, c2, c3, c4⟩ := Blk.five B3)
    | (go_at_call 35; refine (ref_c R C T B true _).mono ?_; rintro _ w2 ⟨rfl, hb2⟩)
    | (go_at_call 34; refine (hrefr _).mono ?_; rintro _ w8 ⟨rfl, hb3⟩; have hb23 := hb2.trans (hb3.mono hb2.size); have N3 := B3.stays hb23; have N4 := B4.stays hb23; have N5 := B5.stays hb23; have NB := HB.trans (hb23.mono HB.size); clear c0 c1 c2 c3 c4 B3 B4 B5 HB hb2 hb3 hb23))
  refine wp_region_held_drew (S := (fun w' => Below w8.heap.size w8 w' ∧ (w'.cell? ⟨W.heap.size, 0, none⟩ = some (.int .i64 R) ∧ w'.cell? ⟨W.heap.size, 1, none⟩ = some (.int .i64 C) ∧ w'.cell? ⟨W.heap.size, 2, none⟩ = some (.int .i64 T) ∧ w'.cell? ⟨W.heap.size, 3, none⟩ = some (.int .i64 B) ∧ w'.cell? ⟨W.heap.size, 4, none⟩ = some (.bool true)) ∧ (w'.cell? ⟨W.heap.size + 1, 0, none⟩ = some (.int .i64 r) ∧ w'.cell? ⟨W.heap.size + 1, 1, none⟩ = some (.int .i64 c) ∧ w'.cell? ⟨W.heap.size + 1, 2, none⟩ = some (.bool false)) ∧ (w'.cell? ⟨W.heap.size + 1 + 1, 0, none⟩ = some (.int .i64 a) ∧ w'.cell? ⟨W.heap.size + 1 + 1, 1, none⟩ = some (.int .i64 b)))) (by kernel_rfl) (GoesR.S_of N3 N4 N5 (Joins.below_draws w8.heap.size w8 1)) (fun hHeld => ?_)
  refine takeH (i := 0) (N := some 16) (v := ?_) (a' := ?_) rfl rfl (by kernel_rfl) (by kernel_rfl) (by kernel_rfl) (fun _ _ _ h => h) (Or.inl ⟨by rfl, ?_⟩) hHeld ?_ ?_
  rotate_left
  · intro w' hSw
    go_split_ands
    go_simp
    with_reducible rfl
  rotate_left
  · simp only [Act.put, List.setIfInBounds_toArray, List.set_cons_zero, List.set_cons_succ]
    rfl
  refine takeH (i := 1) (N := some 17) (v := ?_) (a' := ?_) rfl rfl (by kernel_rfl) (by kernel_rfl) (by kernel_rfl) (fun _ _ _ h => h) (Or.inl ⟨by rfl, ?_⟩) hHeld ?_ ?_
  rotate_left
  · intro w' hSw
    go_split_ands
    go_simp
    with_reducible rfl
  rotate_left
  · simp only [Act.put, List.setIfInBounds_toArray, List.set_cons_zero, List.set_cons_succ]
    rfl
  refine takeH (i := 2) (N := some 18) (v := ?_) (a' := ?_) rfl rfl (by kernel_rfl) (by kernel_rfl) (by kernel_rfl) (fun _ _ _ h => h) (Or.inl ⟨by rfl, ?_⟩) hHeld ?_ ?_
  rotate_left
  · intro w' hSw
    go_split_ands
    go_simp
    with_reducible rfl
  rotate_left
  · simp only [Act.put, List.setIfInBounds_toArray, List.set_cons_zero, List.set_cons_succ]
    rfl
  refine takeH (i := 3) (N := some 19) (v := ?_) (a' := ?_) rfl rfl (by kernel_rfl) (by kernel_rfl) (by kernel_rfl) (fun _ _ _ h => h) (Or.inl ⟨by rfl, ?_⟩) hHeld ?_ ?_
  rotate_left
  · intro w' hSw
    go_split_ands
    go_simp
    with_reducible rfl
  rotate_left
  · simp only [Act.put, List.setIfInBounds_toArray, List.set_cons_zero, List.set_cons_succ]
    rfl
  refine takeH (i := 4) (N := some 20) (v := ?_) (a' := ?_) rfl rfl (by kernel_rfl) (by kernel_rfl) (by kernel_rfl) (fun _ _ _ h => h) (Or.inl ⟨by rfl, ?_⟩) hHeld ?_ ?_
  rotate_left
  · intro w' hSw
    go_split_ands
    go_simp
    with_reducible rfl
  rotate_left
  · simp only [Act.put, List.setIfInBounds_toArray, List.set_cons_zero, List.set_cons_succ]
    rfl
  refine takeH (i := 6) (N := some 22) (v := ?_) (a' := ?_) rfl rfl (by kernel_rfl) (by kernel_rfl) (by kernel_rfl) (fun _ _ _ h => h) (Or.inl ⟨by rfl, ?_⟩) hHeld ?_ ?_
  rotate_left
  · intro w' hSw
    go_split_ands
    go_simp
    with_reducible rfl
  rotate_left
  · simp only [Act.put, List.setIfInBounds_toArray, List.set_cons_zero, List.set_cons_succ]
    rfl
  refine takeH (i := 7) (N := some 23) (v := ?_) (a' := ?_) rfl rfl (by kernel_rfl) (by kernel_rfl) (by kernel_rfl) (fun _ _ _ h => h) (Or.inl ⟨by rfl, ?_⟩) hHeld ?_ ?_
  rotate_left
  · intro w' hSw
    go_split_ands
    go_simp
    with_reducible rfl
  rotate_left
  · simp only [Act.put, List.setIfInBounds_toArray, List.set_cons_zero, List.set_cons_succ]
    rfl
  refine relist #[true, true, true, true, true, false, true, true, false, false, false, false, false] 6 (by kernel_rfl) (by kernel_rfl) ?_
  clear hHeld
  refine GoesR.node0_0 (w0 := w8) (by kernel_rfl) ⟨_, rfl, rfl, rfl, rfl⟩ ⟨_, rfl, rfl, rfl, rfl⟩ ⟨_, rfl, rfl, rfl, rfl⟩ ⟨_, rfl, rfl, rfl, rfl⟩ ⟨_, rfl, rfl, rfl, rfl⟩ ⟨_, rfl, rfl, rfl, rfl⟩ (fun _ h => GoesR.S_of N3 N4 N5 h) hgo hhold (fun g7 g8 w9 e7 e8 _ b7 b8 hb => ?_) _ (Joins.below_draws w8.heap.size w8 1)
  have E3 := N3.stays hb
  have E4 := N4.stays hb
  have E5 := N5.stays hb
  have EB := NB.trans (hb.mono NB.size)
  clear N3 N4 N5 NB hb hgo hhold hrefr e7 e8
  obtain ⟨c0, c1, c2, c3, c4⟩ := Blk.five E3
  obtain ⟨d0, d1⟩ := Blk.two E5
  go_upto_region 9 with (first
    | (go_at_call 42; refine (h42a _).mono ?_; rintro _ y1 ⟨rfl, hb⟩; have F3 := E3.stays hb; have F4 := E4.stays hb; have F5 := E5.stays hb; have f7 := b7.stays hb; have f8 := b8.stays hb; have FB := EB.trans (hb.mono EB.size); clear c0 c1 c2 c3 c4 d0 d1 E3 E4 E5 b7 b8 EB hb; obtain ⟨c0, c1, c2, c3, c4⟩ := Blk.five F3; obtain ⟨d0, d1⟩ := Blk.two F5))
  refine wp_region_held_drew (S := (fun w' => Below y1.heap.size y1 w' ∧ (w'.cell? ⟨W.heap.size, 0, none⟩ = some (.int .i64 R) ∧ w'.cell? ⟨W.heap.size, 1, none⟩ = some (.int .i64 C) ∧ w'.cell? ⟨W.heap.size, 2, none⟩ = some (.int .i64 T) ∧ w'.cell? ⟨W.heap.size, 3, none⟩ = some (.int .i64 B) ∧ w'.cell? ⟨W.heap.size, 4, none⟩ = some (.bool true)) ∧ (w'.cell? ⟨W.heap.size + 1, 0, none⟩ = some (.int .i64 r) ∧ w'.cell? ⟨W.heap.size + 1, 1, none⟩ = some (.int .i64 c) ∧ w'.cell? ⟨W.heap.size + 1, 2, none⟩ = some (.bool false)) ∧ (w'.cell? ⟨W.heap.size + 1 + 1, 0, none⟩ = some (.int .i64 a) ∧ w'.cell? ⟨W.heap.size + 1 + 1, 1, none⟩ = some (.int .i64 b)) ∧ (w'.cell? ⟨g7, 0, none⟩ = some (.int .i64 xr) ∧ w'.cell? ⟨g7, 1, none⟩ = some (.int .i64 (k2 - 1)) ∧ w'.cell? ⟨g7, 2, none⟩ = some (.bool false)) ∧ (w'.cell? ⟨g8, 0, none⟩ = some (.int .i64 hr) ∧ w'.cell? ⟨g8, 1, none⟩ = some (.int .i64 hc) ∧ w'.cell? ⟨g8, 2, none⟩ = some (.bool false)))) (by kernel_rfl) (GoesR.S_of2 F3 F4 F5 f7 f8 (Joins.below_draws y1.heap.size y1 1)) (fun hHeld => ?_)
  refine takeH (i := 0) (N := some 40) (v := ?_) (a' := ?_) rfl rfl (by kernel_rfl) (by kernel_rfl) (by kernel_rfl) (fun _ _ _ h => h) (Or.inl ⟨by rfl, ?_⟩) hHeld ?_ ?_
  rotate_left
  · intro w' hSw
    go_split_ands
    go_simp
    with_reducible rfl
  rotate_left
  · simp only [Act.put, List.setIfInBounds_toArray, List.set_cons_zero, List.set_cons_succ]
    rfl
  refine takeH (i := 1) (N := some 41) (v := ?_) (a' := ?_) rfl rfl (by kernel_rfl) (by kernel_rfl) (by kernel_rfl) (fun _ _ _ h => h) (Or.inl ⟨by rfl, ?_⟩) hHeld ?_ ?_
  rotate_left
  · intro w' hSw
    clear hSw
    go_simp
    with_reducible rfl
  rotate_left
  · simp only [Act.put, List.setIfInBounds_toArray, List.set_cons_zero, List.set_cons_succ]
    rfl
  refine takeH (i := 2) (N := some 42) (v := ?_) (a' := ?_) rfl rfl (by kernel_rfl) (by kernel_rfl) (by kernel_rfl) (fun _ _ _ h => h) (Or.inl ⟨by rfl, ?_⟩) hHeld ?_ ?_
  rotate_left
  · intro w' hSw
    go_split_ands
    go_simp
    with_reducible rfl
  rotate_left
  · simp only [Act.put, List.setIfInBounds_toArray, List.set_cons_zero, List.set_cons_succ]
    rfl
  refine takeH (i := 3) (N := some 43) (v := ?_) (a' := ?_) rfl rfl (by kernel_rfl) (by kernel_rfl) (by kernel_rfl) (fun _ _ _ h => h) (Or.inl ⟨by rfl, ?_⟩) hHeld ?_ ?_
  rotate_left
  · intro w' hSw
    go_split_ands
    go_simp
    with_reducible rfl
  rotate_left
  · simp only [Act.put, List.setIfInBounds_toArray, List.set_cons_zero, List.set_cons_succ]
    rfl
  refine takeH (i := 4) (N := some 44) (v := ?_) (a' := ?_) rfl rfl (by kernel_rfl) (by kernel_rfl) (by kernel_rfl) (fun _ _ _ h => h) (Or.inl ⟨by rfl, ?_⟩) hHeld ?_ ?_
  rotate_left
  · intro w' hSw
    go_split_ands
    go_simp
    with_reducible rfl
  rotate_left
  · simp only [Act.put, List.setIfInBounds_toArray, List.set_cons_zero, List.set_cons_succ]
    rfl
  refine takeH (i := 5) (N := some 45) (v := ?_) (a' := ?_) rfl rfl (by kernel_rfl) (by kernel_rfl) (by kernel_rfl) (fun _ _ _ h => h) (Or.inl ⟨by rfl, ?_⟩) hHeld ?_ ?_
  rotate_left
  · intro w' hSw
    go_split_ands
    go_simp
    with_reducible rfl
  rotate_left
  · simp only [Act.put, List.setIfInBounds_toArray, List.set_cons_zero, List.set_cons_succ]
    rfl
  refine wpAnyH_ready (rs := [6]) (by kernel_rfl) (by simp) ?_
  refine AllReadyH.cons rfl (fun K hK => ?_) AllReadyH.nil
  go_simp
  with_reducible refine (h42c _).mono ?_
  rintro _ x46 ⟨rfl, hx46⟩
  go_simp
  refine hK.out _ _ (GoesR.S_of2 F3 F4 F5 f7 f8 (hHeld.1.trans (hx46.mono hHeld.1.size))) (fun hHeld => ?_)
  clear hK K
  refine takeH (i := 7) (N := some 47) (v := ?_) (a' := ?_) rfl rfl (by kernel_rfl) (by kernel_rfl) (by kernel_rfl) (fun _ _ _ h => h) (Or.inl ⟨by rfl, ?_⟩) hHeld ?_ ?_
  rotate_left
  · intro w' hSw
    clear hSw
    go_simp
    with_reducible rfl
  rotate_left
  · simp only [Act.put, List.setIfInBounds_toArray, List.set_cons_zero, List.set_cons_succ]
    rfl
  refine takeH (i := 8) (N := some 48) (v := ?_) (a' := ?_) rfl rfl (by kernel_rfl) (by kernel_rfl) (by kernel_rfl) (fun _ _ _ h => h) (Or.inl ⟨by rfl, ?_⟩) hHeld ?_ ?_
  rotate_left
  · intro w' hSw
    clear hSw
    go_simp
    with_reducible rfl
  rotate_left
  · simp only [Act.put, List.setIfInBounds_toArray, List.set_cons_zero, List.set_cons_succ]
    rfl
  refine takeH (i := 9) (N := some 49) (v := ?_) (a' := ?_) rfl rfl (by kernel_rfl) (by kernel_rfl) (by kernel_rfl) (fun _ _ _ h => h) (Or.inl ⟨by rfl, ?_⟩) hHeld ?_ ?_
  rotate_left
  · intro w' hSw
    clear hSw
    go_simp
    with_reducible rfl
  rotate_left
  · simp only [Act.put, List.setIfInBounds_toArray, List.set_cons_zero, List.set_cons_succ]
    rfl
  refine takeH (i := 10) (N := some 50) (v := ?_) (a' := ?_) rfl rfl (by kernel_rfl) (by kernel_rfl) (by kernel_rfl) (fun _ _ _ h => h) (Or.inl ⟨by rfl, ?_⟩) hHeld ?_ ?_
  rotate_left
  · intro w' hSw
    clear hSw
    go_simp
    with_reducible rfl
  rotate_left
  · simp only [Act.put, List.setIfInBounds_toArray, List.set_cons_zero, List.set_cons_succ]
    rfl
  refine takeH (i := 11) (N := some 51) (v := ?_) (a' := ?_) rfl rfl (by kernel_rfl) (by kernel_rfl) (by kernel_rfl) (fun _ _ _ h => h) (Or.inl ⟨by rfl, ?_⟩) hHeld ?_ ?_
  rotate_left
  · intro w' hSw
    go_split_ands
    go_simp
    with_reducible rfl
  rotate_left
  · simp only [Act.put, List.setIfInBounds_toArray, List.set_cons_zero, List.set_cons_succ]
    rfl
  refine takeH (i := 12) (N := some 52) (v := ?_) (a' := ?_) rfl rfl (by kernel_rfl) (by kernel_rfl) (by kernel_rfl) (fun _ _ _ h => h) (Or.inl ⟨by rfl, ?_⟩) hHeld ?_ ?_
  rotate_left
  · intro w' hSw
    go_split_ands
    go_simp
    with_reducible rfl
  rotate_left
  · simp only [Act.put, List.setIfInBounds_toArray, List.set_cons_zero, List.set_cons_succ]
    rfl
  refine wpAnyH_ready (rs := [13]) (by kernel_rfl) (by simp) ?_
  refine AllReadyH.cons rfl (fun K hK => ?_) AllReadyH.nil
  go_simp
  with_reducible refine (hfits _).mono ?_
  rintro _ x53 ⟨rfl, hx53⟩
  go_simp
  refine hK.out _ _ (GoesR.S_of2 F3 F4 F5 f7 f8 (hHeld.1.trans (hx53.mono hHeld.1.size))) (fun hHeld => ?_)
  clear hK K
  refine takeH (i := 14) (N := some 54) (v := ?_) (a' := ?_) rfl rfl (by kernel_rfl) (by kernel_rfl) (by kernel_rfl) (fun _ _ _ h => h) (Or.inl ⟨by rfl, ?_⟩) hHeld ?_ ?_
  rotate_left
  · intro w' hSw
    clear hSw
    go_simp
    with_reducible rfl
  rotate_left
  · simp only [Act.put, List.setIfInBounds_toArray, List.set_cons_zero, List.set_cons_succ]
    rfl
  refine takeH (i := 15) (N := some 55) (v := ?_) (a' := ?_) rfl rfl (by kernel_rfl) (by kernel_rfl) (by kernel_rfl) (fun _ _ _ h => h) (Or.inl ⟨by rfl, ?_⟩) hHeld ?_ ?_
  rotate_left
  · intro w' hSw
    clear hSw
    go_simp
    with_reducible rfl
  rotate_left
  · simp only [Act.put, List.setIfInBounds_toArray, List.set_cons_zero, List.set_cons_succ]
    rfl
  refine wpAnyH_done (by kernel_rfl) ?_ _
  have HY := hHeld.1
  clear hHeld
  go_upto_region 11 with (fail)
  refine wp_region_held_drew (S := (fun w' => Below y1.heap.size y1 w' ∧ (w'.cell? ⟨W.heap.size, 0, none⟩ = some (.int .i64 R) ∧ w'.cell? ⟨W.heap.size, 1, none⟩ = some (.int .i64 C) ∧ w'.cell? ⟨W.heap.size, 2, none⟩ = some (.int .i64 T) ∧ w'.cell? ⟨W.heap.size, 3, none⟩ = some (.int .i64 B) ∧ w'.cell? ⟨W.heap.size, 4, none⟩ = some (.bool true)) ∧ (w'.cell? ⟨W.heap.size + 1, 0, none⟩ = some (.int .i64 r) ∧ w'.cell? ⟨W.heap.size + 1, 1, none⟩ = some (.int .i64 c) ∧ w'.cell? ⟨W.heap.size + 1, 2, none⟩ = some (.bool false)) ∧ (w'.cell? ⟨W.heap.size + 1 + 1, 0, none⟩ = some (.int .i64 a) ∧ w'.cell? ⟨W.heap.size + 1 + 1, 1, none⟩ = some (.int .i64 b)) ∧ (w'.cell? ⟨g7, 0, none⟩ = some (.int .i64 xr) ∧ w'.cell? ⟨g7, 1, none⟩ = some (.int .i64 (k2 - 1)) ∧ w'.cell? ⟨g7, 2, none⟩ = some (.bool false)) ∧ (w'.cell? ⟨g8, 0, none⟩ = some (.int .i64 hr) ∧ w'.cell? ⟨g8, 1, none⟩ = some (.int .i64 hc) ∧ w'.cell? ⟨g8, 2, none⟩ = some (.bool false)))) (by kernel_rfl) (GoesR.S_of2 F3 F4 F5 f7 f8 (HY.trans (Joins.below_draws y1.heap.size _ 1))) (fun hHeld => ?_)
  refine takeH (i := 0) (N := some 56) (v := ?_) (a' := ?_) rfl rfl (by kernel_rfl) (by kernel_rfl) (by kernel_rfl) (fun _ _ _ h => h) (Or.inl ⟨by rfl, ?_⟩) hHeld ?_ ?_
  rotate_left
  · intro w' hSw
    go_split_ands
    go_simp
    with_reducible rfl
  rotate_left
  · simp only [Act.put, List.setIfInBounds_toArray, List.set_cons_zero, List.set_cons_succ]
    rfl
  refine takeH (i := 1) (N := some 57) (v := ?_) (a' := ?_) rfl rfl (by kernel_rfl) (by kernel_rfl) (by kernel_rfl) (fun _ _ _ h => h) (Or.inl ⟨by rfl, ?_⟩) hHeld ?_ ?_
  rotate_left
  · intro w' hSw
    go_split_ands
    go_simp
    with_reducible rfl
  rotate_left
  · simp only [Act.put, List.setIfInBounds_toArray, List.set_cons_zero, List.set_cons_succ]
    rfl
  refine takeH (i := 2) (N := some 58) (v := ?_) (a' := ?_) rfl rfl (by kernel_rfl) (by kernel_rfl) (by kernel_rfl) (fun _ _ _ h => h) (Or.inl ⟨by rfl, ?_⟩) hHeld ?_ ?_
  rotate_left
  · intro w' hSw
    go_split_ands
    go_simp
    with_reducible rfl
  rotate_left
  · simp only [Act.put, List.setIfInBounds_toArray, List.set_cons_zero, List.set_cons_succ]
    rfl
  refine takeH (i := 3) (N := some 59) (v := ?_) (a' := ?_) rfl rfl (by kernel_rfl) (by kernel_rfl) (by kernel_rfl) (fun _ _ _ h => h) (Or.inl ⟨by rfl, ?_⟩) hHeld ?_ ?_
  rotate_left
  · intro w' hSw
    go_split_ands
    go_simp
    with_reducible rfl
  rotate_left
  · simp only [Act.put, List.setIfInBounds_toArray, List.set_cons_zero, List.set_cons_succ]
    rfl
  refine takeH (i := 4) (N := some 60) (v := ?_) (a' := ?_) rfl rfl (by kernel_rfl) (by kernel_rfl) (by kernel_rfl) (fun _ _ _ h => h) (Or.inl ⟨by rfl, ?_⟩) hHeld ?_ ?_
  rotate_left
  · intro w' hSw
    go_split_ands
    go_simp
    with_reducible rfl
  rotate_left
  · simp only [Act.put, List.setIfInBounds_toArray, List.set_cons_zero, List.set_cons_succ]
    rfl
  refine takeH (i := 5) (N := some 61) (v := ?_) (a' := ?_) rfl rfl (by kernel_rfl) (by kernel_rfl) (by kernel_rfl) (fun _ _ _ h => h) (Or.inl ⟨by rfl, ?_⟩) hHeld ?_ ?_
  rotate_left
  · intro w' hSw
    go_split_ands
    go_simp
    with_reducible rfl
  rotate_left
  · simp only [Act.put, List.setIfInBounds_toArray, List.set_cons_zero, List.set_cons_succ]
    rfl
  refine takeH (i := 6) (N := some 62) (v := ?_) (a' := ?_) rfl rfl (by kernel_rfl) (by kernel_rfl) (by kernel_rfl) (fun _ _ _ h => h) (Or.inl ⟨by rfl, ?_⟩) hHeld ?_ ?_
  rotate_left
  · intro w' hSw
    clear hSw
    go_simp
    with_reducible rfl
  rotate_left
  · simp only [Act.put, List.setIfInBounds_toArray, List.set_cons_zero, List.set_cons_succ]
    rfl
  refine wpAnyH_ready (rs := [7]) (by kernel_rfl) (by simp) ?_
  refine AllReadyH.cons rfl (fun K hK => ?_) AllReadyH.nil
  go_simp
  with_reducible refine (h42r _).mono ?_
  rintro _ x63 ⟨rfl, hx63⟩
  go_simp
  refine hK.out _ _ (GoesR.S_of2 F3 F4 F5 f7 f8 (hHeld.1.trans (hx63.mono hHeld.1.size))) (fun hHeld => ?_)
  clear hK K
  refine takeH (i := 8) (N := some 64) (v := ?_) (a' := ?_) rfl rfl (by kernel_rfl) (by kernel_rfl) (by kernel_rfl) (fun _ _ _ h => h) (Or.inl ⟨by rfl, ?_⟩) hHeld ?_ ?_
  rotate_left
  · intro w' hSw
    clear hSw
    go_simp
    with_reducible rfl
  rotate_left
  · simp only [Act.put, List.setIfInBounds_toArray, List.set_cons_zero, List.set_cons_succ]
    rfl
  refine takeH (i := 9) (N := some 65) (v := ?_) (a' := ?_) rfl rfl (by kernel_rfl) (by kernel_rfl) (by kernel_rfl) (fun _ _ _ h => h) (Or.inl ⟨by rfl, ?_⟩) hHeld ?_ ?_
  rotate_left
  · intro w' hSw
    clear hSw
    go_simp
    with_reducible rfl
  rotate_left
  · simp only [Act.put, List.setIfInBounds_toArray, List.set_cons_zero, List.set_cons_succ]
    rfl
  refine takeH (i := 10) (N := some 66) (v := ?_) (a' := ?_) rfl rfl (by kernel_rfl) (by kernel_rfl) (by kernel_rfl) (fun _ _ _ h => h) (Or.inl ⟨by rfl, ?_⟩) hHeld ?_ ?_
  rotate_left
  · intro w' hSw
    go_split_ands
    go_simp
    with_reducible rfl
  rotate_left
  · simp only [Act.put, List.setIfInBounds_toArray, List.set_cons_zero, List.set_cons_succ]
    rfl
  refine takeH (i := 11) (N := some 67) (v := ?_) (a' := ?_) rfl rfl (by kernel_rfl) (by kernel_rfl) (by kernel_rfl) (fun _ _ _ h => h) (Or.inl ⟨by rfl, ?_⟩) hHeld ?_ ?_
  rotate_left
  · intro w' hSw
    go_split_ands
    go_simp
    with_reducible rfl
  rotate_left
  · simp only [Act.put, List.setIfInBounds_toArray, List.set_cons_zero, List.set_cons_succ]
    rfl
  refine takeH (i := 12) (N := some 68) (v := ?_) (a' := ?_) rfl rfl (by kernel_rfl) (by kernel_rfl) (by kernel_rfl) (fun _ _ _ h => h) (Or.inl ⟨by rfl, ?_⟩) hHeld ?_ ?_
  rotate_left
  · intro w' hSw
    go_split_ands
    go_simp
    with_reducible rfl
  rotate_left
  · simp only [Act.put, List.setIfInBounds_toArray, List.set_cons_zero, List.set_cons_succ]
    rfl
  refine takeH (i := 13) (N := some 69) (v := ?_) (a' := ?_) rfl rfl (by kernel_rfl) (by kernel_rfl) (by kernel_rfl) (fun _ _ _ h => h) (Or.inl ⟨by rfl, ?_⟩) hHeld ?_ ?_
  rotate_left
  · intro w' hSw
    go_split_ands
    go_simp
    with_reducible rfl
  rotate_left
  · simp only [Act.put, List.setIfInBounds_toArray, List.set_cons_zero, List.set_cons_succ]
    rfl
  refine takeH (i := 14) (N := some 70) (v := ?_) (a' := ?_) rfl rfl (by kernel_rfl) (by kernel_rfl) (by kernel_rfl) (fun _ _ _ h => h) (Or.inl ⟨by rfl, ?_⟩) hHeld ?_ ?_
  rotate_left
  · intro w' hSw
    go_split_ands
    go_simp
    with_reducible rfl
  rotate_left
  · simp only [Act.put, List.setIfInBounds_toArray, List.set_cons_zero, List.set_cons_succ]
    rfl
  refine takeH (i := 15) (N := some 71) (v := ?_) (a' := ?_) rfl rfl (by kernel_rfl) (by kernel_rfl) (by kernel_rfl) (fun _ _ _ h => h) (Or.inl ⟨by rfl, ?_⟩) hHeld ?_ ?_
  rotate_left
  · intro w' hSw
    go_split_ands
    go_simp
    with_reducible rfl
  rotate_left
  · simp only [Act.put, List.setIfInBounds_toArray, List.set_cons_zero, List.set_cons_succ]
    rfl
  refine takeH (i := 16) (N := some 72) (v := ?_) (a' := ?_) rfl rfl (by kernel_rfl) (by kernel_rfl) (by kernel_rfl) (fun _ _ _ h => h) (Or.inl ⟨by rfl, ?_⟩) hHeld ?_ ?_
  rotate_left
  · intro w' hSw
    clear hSw
    go_simp
    with_reducible rfl
  rotate_left
  · simp only [Act.put, List.setIfInBounds_toArray, List.set_cons_zero, List.set_cons_succ]
    rfl
  refine wpAnyH_ready (rs := [17]) (by kernel_rfl) (by simp) ?_
  refine AllReadyH.cons rfl (fun K hK => ?_) AllReadyH.nil
  go_simp
  with_reducible refine (h42k _).mono ?_
  rintro _ x73 ⟨rfl, hx73⟩
  go_simp
  refine hK.out _ _ (GoesR.S_of2 F3 F4 F5 f7 f8 (hHeld.1.trans (hx73.mono hHeld.1.size))) (fun hHeld => ?_)
  clear hK K
  refine takeH (i := 18) (N := some 74) (v := ?_) (a' := ?_) rfl rfl (by kernel_rfl) (by kernel_rfl) (by kernel_rfl) (fun _ _ _ h => h) (Or.inl ⟨by rfl, ?_⟩) hHeld ?_ ?_
  rotate_left
  · intro w' hSw
    clear hSw
    go_simp
    with_reducible rfl
  rotate_left
  · simp only [Act.put, List.setIfInBounds_toArray, List.set_cons_zero, List.set_cons_succ]
    rfl
  refine takeH (i := 19) (N := some 75) (v := ?_) (a' := ?_) rfl rfl (by kernel_rfl) (by kernel_rfl) (by kernel_rfl) (fun _ _ _ h => h) (Or.inl ⟨by rfl, ?_⟩) hHeld ?_ ?_
  rotate_left
  · intro w' hSw
    clear hSw
    go_simp
    with_reducible rfl
  rotate_left
  · simp only [Act.put, List.setIfInBounds_toArray, List.set_cons_zero, List.set_cons_succ]
    rfl
  refine takeH (i := 20) (N := some 76) (v := ?_) (a' := ?_) rfl rfl (by kernel_rfl) (by kernel_rfl) (by kernel_rfl) (fun _ _ _ h => h) (Or.inl ⟨by rfl, ?_⟩) hHeld ?_ ?_
  rotate_left
  · intro w' hSw
    clear hSw
    go_simp
    with_reducible rfl
  rotate_left
  · simp only [Act.put, List.setIfInBounds_toArray, List.set_cons_zero, List.set_cons_succ]
    rfl
  refine takeH (i := 21) (N := some 77) (v := ?_) (a' := ?_) rfl rfl (by kernel_rfl) (by kernel_rfl) (by kernel_rfl) (fun _ _ _ h => h) (Or.inl ⟨by rfl, ?_⟩) hHeld ?_ ?_
  rotate_left
  · intro w' hSw
    go_split_ands
    go_simp
    with_reducible rfl
  rotate_left
  · simp only [Act.put, List.setIfInBounds_toArray, List.set_cons_zero, List.set_cons_succ]
    rfl
  refine takeH (i := 22) (N := some 78) (v := ?_) (a' := ?_) rfl rfl (by kernel_rfl) (by kernel_rfl) (by kernel_rfl) (fun _ _ _ h => h) (Or.inl ⟨by rfl, ?_⟩) hHeld ?_ ?_
  rotate_left
  · intro w' hSw
    go_split_ands
    go_simp
    with_reducible rfl
  rotate_left
  · simp only [Act.put, List.setIfInBounds_toArray, List.set_cons_zero, List.set_cons_succ]
    rfl
  refine takeH (i := 23) (N := some 79) (v := ?_) (a' := ?_) rfl rfl (by kernel_rfl) (by kernel_rfl) (by kernel_rfl) (fun _ _ _ h => h) (Or.inl ⟨by rfl, ?_⟩) hHeld ?_ ?_
  rotate_left
  · intro w' hSw
    go_split_ands
    go_simp
    with_reducible rfl
  rotate_left
  · simp only [Act.put, List.setIfInBounds_toArray, List.set_cons_zero, List.set_cons_succ]
    rfl
  refine takeH (i := 24) (N := some 80) (v := ?_) (a' := ?_) rfl rfl (by kernel_rfl) (by kernel_rfl) (by kernel_rfl) (fun _ _ _ h => h) (Or.inl ⟨by rfl, ?_⟩) hHeld ?_ ?_
  rotate_left
  · intro w' hSw
    go_split_ands
    go_simp
    with_reducible rfl
  rotate_left
  · simp only [Act.put, List.setIfInBounds_toArray, List.set_cons_zero, List.set_cons_succ]
    rfl
  refine takeH (i := 25) (N := some 81) (v := ?_) (a' := ?_) rfl rfl (by kernel_rfl) (by kernel_rfl) (by kernel_rfl) (fun _ _ _ h => h) (Or.inl ⟨by rfl, ?_⟩) hHeld ?_ ?_
  rotate_left
  · intro w' hSw
    clear hSw
    go_simp
    with_reducible rfl
  rotate_left
  · simp only [Act.put, List.setIfInBounds_toArray, List.set_cons_zero, List.set_cons_succ]
    rfl
  refine takeH (i := 26) (N := some 82) (v := undef) (a' := ?_) rfl rfl (by kernel_rfl) (by kernel_rfl) (by kernel_rfl) (fun _ _ _ h => h) (Or.inr ⟨by rfl, rfl⟩) hHeld ?_ ?_
  rotate_left
  · simp only [Act.put, List.setIfInBounds_toArray, List.set_cons_zero, List.set_cons_succ]
    rfl
  refine takeH (i := 27) (N := some 83) (v := undef) (a' := ?_) rfl rfl (by kernel_rfl) (by kernel_rfl) (by kernel_rfl) (fun _ _ _ h => h) (Or.inr ⟨by rfl, rfl⟩) hHeld ?_ ?_
  rotate_left
  · simp only [Act.put, List.setIfInBounds_toArray, List.set_cons_zero, List.set_cons_succ]
    rfl
  refine takeH (i := 28) (N := some 84) (v := undef) (a' := ?_) rfl rfl (by kernel_rfl) (by kernel_rfl) (by kernel_rfl) (fun _ _ _ h => h) (Or.inr ⟨by rfl, rfl⟩) hHeld ?_ ?_
  rotate_left
  · simp only [Act.put, List.setIfInBounds_toArray, List.set_cons_zero, List.set_cons_succ]
    rfl
  refine takeH (i := 29) (N := some 85) (v := undef) (a' := ?_) rfl rfl (by kernel_rfl) (by kernel_rfl) (by kernel_rfl) (fun _ _ _ h => h) (Or.inr ⟨by rfl, rfl⟩) hHeld ?_ ?_
  rotate_left
  · simp only [Act.put, List.setIfInBounds_toArray, List.set_cons_zero, List.set_cons_succ]
    rfl
  refine takeH (i := 30) (N := some 86) (v := undef) (a' := ?_) rfl rfl (by kernel_rfl) (by kernel_rfl) (by kernel_rfl) (fun _ _ _ h => h) (Or.inr ⟨by rfl, rfl⟩) hHeld ?_ ?_
  rotate_left
  · simp only [Act.put, List.setIfInBounds_toArray, List.set_cons_zero, List.set_cons_succ]
    rfl
  refine takeH (i := 31) (N := some 87) (v := undef) (a' := ?_) rfl rfl (by kernel_rfl) (by kernel_rfl) (by kernel_rfl) (fun _ _ _ h => h) (Or.inr ⟨by rfl, rfl⟩) hHeld ?_ ?_
  rotate_left
  · simp only [Act.put, List.setIfInBounds_toArray, List.set_cons_zero, List.set_cons_succ]
    rfl
  refine takeH (i := 32) (N := some 88) (v := ?_) (a' := ?_) rfl rfl (by kernel_rfl) (by kernel_rfl) (by kernel_rfl) (fun _ _ _ h => h) (Or.inl ⟨by rfl, ?_⟩) hHeld ?_ ?_
  rotate_left
  · intro w' hSw
    clear hSw
    go_simp
    with_reducible rfl
  rotate_left
  · simp only [Act.put, List.setIfInBounds_toArray, List.set_cons_zero, List.set_cons_succ]
    rfl
  refine takeH (i := 33) (N := some 89) (v := ?_) (a' := ?_) rfl rfl (by kernel_rfl) (by kernel_rfl) (by kernel_rfl) (fun _ _ _ h => h) (Or.inl ⟨by rfl, ?_⟩) hHeld ?_ ?_
  rotate_left
  · intro w' hSw
    clear hSw
    go_simp
    with_reducible rfl
  rotate_left
  · simp only [Act.put, List.setIfInBounds_toArray, List.set_cons_zero, List.set_cons_succ]
    rfl
  refine takeH (i := 34) (N := some 90) (v := ?_) (a' := ?_) rfl rfl (by kernel_rfl) (by kernel_rfl) (by kernel_rfl) (fun _ _ _ h => h) (Or.inl ⟨by rfl, ?_⟩) hHeld ?_ ?_
  rotate_left
  · intro w' hSw
    clear hSw
    go_simp
    with_reducible rfl
  rotate_left
  · simp only [Act.put, List.setIfInBounds_toArray, List.set_cons_zero, List.set_cons_succ]
    rfl
  refine takeH (i := 35) (N := some 6) (v := ?_) (a' := ?_) rfl rfl (by kernel_rfl) (by kernel_rfl) (by kernel_rfl) (fun _ _ _ h => h) (Or.inl ⟨by rfl, ?_⟩) hHeld ?_ ?_
  rotate_left
  · intro w' hSw
    clear hSw
    go_simp
    with_reducible rfl
  rotate_left
  · simp only [Act.put, List.setIfInBounds_toArray, List.set_cons_zero, List.set_cons_succ]
    rfl
  refine wpAnyH_done (by kernel_rfl) ?_ _
  have HZ := hHeld.1
  go_wp2_with fail
  go_ret
  exact ⟨rfl, FB.trans (HZ.mono FB.size)⟩

set_option maxHeartbeats 8000000 in
set_option maxRecDepth 100000 in
theorem goes_true_true_ (R C T B r c a b xr xc k1 k2 hr hc : Int) (W : World) (hA : areaB R C T B = true) (hF : fitsB R C hr hc (c == C - 1) = true)
    (hgo : ∀ w, Calls Try.prog 40 #[.agg #[.int .i64 R, .int .i64 C, .int .i64 T, .int .i64 B, .bool true], .int .i64 a, .int .i64 b] w fun e w' => e = .returned (.agg #[.int .i64 xr, .int .i64 xc, .bool false]) ∧ Below w.heap.size w w')
    (hhold : ∀ w, Calls Try.prog 41 #[.agg #[.int .i64 R, .int .i64 C, .int .i64 T, .int .i64 B, .bool true], .agg #[.int .i64 r, .int .i64 c, .bool true]] w fun e w' => e = .returned (.agg #[.int .i64 hr, .int .i64 hc, .bool (c == C - 1)]) ∧ Below w.heap.size w w')
    (h42a : ∀ w, Calls Try.prog 42 #[.int .i64 a, .int .i64 1, .int .i64 R] w fun e w' => e = .returned (.int .i64 k1) ∧ Below w.heap.size w w')
    (h42c : ∀ w, Calls Try.prog 42 #[.int .i64 b, .int .i64 1, .int .i64 C] w fun e w' => e = .returned (.int .i64 k2) ∧ Below w.heap.size w w')
    (h42r : ∀ w, Calls Try.prog 42 #[.int .i64 r, .int .i64 0, .int .i64 (R - 1)] w fun e w' => e = .returned (.int .i64 hr) ∧ Below w.heap.size w w')
    (h42k : ∀ w, Calls Try.prog 42 #[.int .i64 c, .int .i64 0, .int .i64 (C - 1)] w fun e w' => e = .returned (.int .i64 hc) ∧ Below w.heap.size w w')
    (u0 : IntKind.i64.wrap (k1 - 1) = k1 - 1) (u1 : IntKind.i64.wrap (k2 - 1) = k2 - 1) (hrow : (if B < T + (k1 - 1) then B else T + (k1 - 1)) = xr) (u2 : IntKind.i64.wrap (T + (k1 - 1)) = T + (k1 - 1)) (hcol : k2 - 1 = xc) :
    Calls Try.prog 10 #[.agg #[.int .i64 R, .int .i64 C, .int .i64 T, .int .i64 B, .bool true], .agg #[.int .i64 r, .int .i64 c, .bool true], .agg #[.int .i64 a, .int .i64 b]] W fun e w' => e = .returned (.bool true) ∧ Below W.heap.size W w' := by
  have hrefr := fun w => refright_c R C T B true w
  subst hcol
  obtain ⟨h1, h2, h3, h4, -, -, -⟩ := areaB_spec hA
  have hfits := fun w => fits_c (R := R) (T := T) (B := B) h3 h4 true hr hc (c == C - 1) w
  have v1 : IntKind.i64.wrap (R - 1) = R - 1 := IntWalk.i64_in _ (by omega)
  have v2 : IntKind.i64.wrap (C - 1) = C - 1 := IntWalk.i64_in _ (by omega)
  rw [hA] at hrefr
  rw [hF] at hfits
  clear hA hF
  go_enter Try.func10, Try.ntmps10
  go_upto_region 5 with (first
    | (go_at_call 33; refine (awake_c _).mono ?_; rintro _ w1 ⟨rfl, hb⟩; obtain ⟨B3, B4, B5, HB⟩ := boxes3 hb; clear hb; obtain ⟨c0, c1, c2, c3, c4⟩ := Blk.five B3)
    | (go_at_call 35; refine (ref_c R C T B true _).mono ?_; rintro _ w2 ⟨rfl, hb2⟩)
    | (go_at_call 34; refine (hrefr _).mono ?_; rintro _ w8 ⟨rfl, hb3⟩; have hb23 := hb2.trans (hb3.mono hb2.size); have N3 := B3.stays hb23; have N4 := B4.stays hb23; have N5 := B5.stays hb23; have NB := HB.trans (hb23.mono HB.size); clear c0 c1 c2 c3 c4 B3 B4 B5 HB hb2 hb3 hb23))
  refine wp_region_held_drew (S := (fun w' => Below w8.heap.size w8 w' ∧ (w'.cell? ⟨W.heap.size, 0, none⟩ = some (.int .i64 R) ∧ w'.cell? ⟨W.heap.size, 1, none⟩ = some (.int .i64 C) ∧ w'.cell? ⟨W.heap.size, 2, none⟩ = some (.int .i64 T) ∧ w'.cell? ⟨W.heap.size, 3, none⟩ = some (.int .i64 B) ∧ w'.cell? ⟨W.heap.size, 4, none⟩ = some (.bool true)) ∧ (w'.cell? ⟨W.heap.size + 1, 0, none⟩ = some (.int .i64 r) ∧ w'.cell? ⟨W.heap.size + 1, 1, none⟩ = some (.int .i64 c) ∧ w'.cell? ⟨W.heap.size + 1, 2, none⟩ = some (.bool true)) ∧ (w'.cell? ⟨W.heap.size + 1 + 1, 0, none⟩ = some (.int .i64 a) ∧ w'.cell? ⟨W.heap.size + 1 + 1, 1, none⟩ = some (.int .i64 b)))) (by kernel_rfl) (GoesR.S_of N3 N4 N5 (Joins.below_draws w8.heap.size w8 1)) (fun hHeld => ?_)
  refine takeH (i := 0) (N := some 16) (v := ?_) (a' := ?_) rfl rfl (by kernel_rfl) (by kernel_rfl) (by kernel_rfl) (fun _ _ _ h => h) (Or.inl ⟨by rfl, ?_⟩) hHeld ?_ ?_
  rotate_left
  · intro w' hSw
    go_split_ands
    go_simp
    with_reducible rfl
  rotate_left
  · simp only [Act.put, List.setIfInBounds_toArray, List.set_cons_zero, List.set_cons_succ]
    rfl
  refine takeH (i := 1) (N := some 17) (v := ?_) (a' := ?_) rfl rfl (by kernel_rfl) (by kernel_rfl) (by kernel_rfl) (fun _ _ _ h => h) (Or.inl ⟨by rfl, ?_⟩) hHeld ?_ ?_
  rotate_left
  · intro w' hSw
    go_split_ands
    go_simp
    with_reducible rfl
  rotate_left
  · simp only [Act.put, List.setIfInBounds_toArray, List.set_cons_zero, List.set_cons_succ]
    rfl
  refine takeH (i := 2) (N := some 18) (v := ?_) (a' := ?_) rfl rfl (by kernel_rfl) (by kernel_rfl) (by kernel_rfl) (fun _ _ _ h => h) (Or.inl ⟨by rfl, ?_⟩) hHeld ?_ ?_
  rotate_left
  · intro w' hSw
    go_split_ands
    go_simp
    with_reducible rfl
  rotate_left
  · simp only [Act.put, List.setIfInBounds_toArray, List.set_cons_zero, List.set_cons_succ]
    rfl
  refine takeH (i := 3) (N := some 19) (v := ?_) (a' := ?_) rfl rfl (by kernel_rfl) (by kernel_rfl) (by kernel_rfl) (fun _ _ _ h => h) (Or.inl ⟨by rfl, ?_⟩) hHeld ?_ ?_
  rotate_left
  · intro w' hSw
    go_split_ands
    go_simp
    with_reducible rfl
  rotate_left
  · simp only [Act.put, List.setIfInBounds_toArray, List.set_cons_zero, List.set_cons_succ]
    rfl
  refine takeH (i := 4) (N := some 20) (v := ?_) (a' := ?_) rfl rfl (by kernel_rfl) (by kernel_rfl) (by kernel_rfl) (fun _ _ _ h => h) (Or.inl ⟨by rfl, ?_⟩) hHeld ?_ ?_
  rotate_left
  · intro w' hSw
    go_split_ands
    go_simp
    with_reducible rfl
  rotate_left
  · simp only [Act.put, List.setIfInBounds_toArray, List.set_cons_zero, List.set_cons_succ]
    rfl
  refine takeH (i := 6) (N := some 22) (v := ?_) (a' := ?_) rfl rfl (by kernel_rfl) (by kernel_rfl) (by kernel_rfl) (fun _ _ _ h => h) (Or.inl ⟨by rfl, ?_⟩) hHeld ?_ ?_
  rotate_left
  · intro w' hSw
    go_split_ands
    go_simp
    with_reducible rfl
  rotate_left
  · simp only [Act.put, List.setIfInBounds_toArray, List.set_cons_zero, List.set_cons_succ]
    rfl
  refine takeH (i := 7) (N := some 23) (v := ?_) (a' := ?_) rfl rfl (by kernel_rfl) (by kernel_rfl) (by kernel_rfl) (fun _ _ _ h => h) (Or.inl ⟨by rfl, ?_⟩) hHeld ?_ ?_
  rotate_left
  · intro w' hSw
    go_split_ands
    go_simp
    with_reducible rfl
  rotate_left
  · simp only [Act.put, List.setIfInBounds_toArray, List.set_cons_zero, List.set_cons_succ]
    rfl
  refine relist #[true, true, true, true, true, false, true, true, false, false, false, false, false] 6 (by kernel_rfl) (by kernel_rfl) ?_
  clear hHeld
  refine GoesR.node0_0 (w0 := w8) (by kernel_rfl) ⟨_, rfl, rfl, rfl, rfl⟩ ⟨_, rfl, rfl, rfl, rfl⟩ ⟨_, rfl, rfl, rfl, rfl⟩ ⟨_, rfl, rfl, rfl, rfl⟩ ⟨_, rfl, rfl, rfl, rfl⟩ ⟨_, rfl, rfl, rfl, rfl⟩ (fun _ h => GoesR.S_of N3 N4 N5 h) hgo hhold (fun g7 g8 w9 e7 e8 _ b7 b8 hb => ?_) _ (Joins.below_draws w8.heap.size w8 1)
  have E3 := N3.stays hb
  have E4 := N4.stays hb
  have E5 := N5.stays hb
  have EB := NB.trans (hb.mono NB.size)
  clear N3 N4 N5 NB hb hgo hhold hrefr e7 e8
  obtain ⟨c0, c1, c2, c3, c4⟩ := Blk.five E3
  obtain ⟨d0, d1⟩ := Blk.two E5
  go_upto_region 9 with (first
    | (go_at_call 42; refine (h42a _).mono ?_; rintro _ y1 ⟨rfl, hb⟩; have F3 := E3.stays hb; have F4 := E4.stays hb; have F5 := E5.stays hb; have f7 := b7.stays hb; have f8 := b8.stays hb; have FB := EB.trans (hb.mono EB.size); clear c0 c1 c2 c3 c4 d0 d1 E3 E4 E5 b7 b8 EB hb; obtain ⟨c0, c1, c2, c3, c4⟩ := Blk.five F3; obtain ⟨d0, d1⟩ := Blk.two F5))
  refine wp_region_held_drew (S := (fun w' => Below y1.heap.size y1 w' ∧ (w'.cell? ⟨W.heap.size, 0, none⟩ = some (.int .i64 R) ∧ w'.cell? ⟨W.heap.size, 1, none⟩ = some (.int .i64 C) ∧ w'.cell? ⟨W.heap.size, 2, none⟩ = some (.int .i64 T) ∧ w'.cell? ⟨W.heap.size, 3, none⟩ = some (.int .i64 B) ∧ w'.cell? ⟨W.heap.size, 4, none⟩ = some (.bool true)) ∧ (w'.cell? ⟨W.heap.size + 1, 0, none⟩ = some (.int .i64 r) ∧ w'.cell? ⟨W.heap.size + 1, 1, none⟩ = some (.int .i64 c) ∧ w'.cell? ⟨W.heap.size + 1, 2, none⟩ = some (.bool true)) ∧ (w'.cell? ⟨W.heap.size + 1 + 1, 0, none⟩ = some (.int .i64 a) ∧ w'.cell? ⟨W.heap.size + 1 + 1, 1, none⟩ = some (.int .i64 b)) ∧ (w'.cell? ⟨g7, 0, none⟩ = some (.int .i64 xr) ∧ w'.cell? ⟨g7, 1, none⟩ = some (.int .i64 (k2 - 1)) ∧ w'.cell? ⟨g7, 2, none⟩ = some (.bool false)) ∧ (w'.cell? ⟨g8, 0, none⟩ = some (.int .i64 hr) ∧ w'.cell? ⟨g8, 1, none⟩ = some (.int .i64 hc) ∧ w'.cell? ⟨g8, 2, none⟩ = some (.bool (c == C - 1))))) (by kernel_rfl) (GoesR.S_of2 F3 F4 F5 f7 f8 (Joins.below_draws y1.heap.size y1 1)) (fun hHeld => ?_)
  refine takeH (i := 0) (N := some 40) (v := ?_) (a' := ?_) rfl rfl (by kernel_rfl) (by kernel_rfl) (by kernel_rfl) (fun _ _ _ h => h) (Or.inl ⟨by rfl, ?_⟩) hHeld ?_ ?_
  rotate_left
  · intro w' hSw
    go_split_ands
    go_simp
    with_reducible rfl
  rotate_left
  · simp only [Act.put, List.setIfInBounds_toArray, List.set_cons_zero, List.set_cons_succ]
    rfl
  refine takeH (i := 1) (N := some 41) (v := ?_) (a' := ?_) rfl rfl (by kernel_rfl) (by kernel_rfl) (by kernel_rfl) (fun _ _ _ h => h) (Or.inl ⟨by rfl, ?_⟩) hHeld ?_ ?_
  rotate_left
  · intro w' hSw
    clear hSw
    go_simp
    with_reducible rfl
  rotate_left
  · simp only [Act.put, List.setIfInBounds_toArray, List.set_cons_zero, List.set_cons_succ]
    rfl
  refine takeH (i := 2) (N := some 42) (v := ?_) (a' := ?_) rfl rfl (by kernel_rfl) (by kernel_rfl) (by kernel_rfl) (fun _ _ _ h => h) (Or.inl ⟨by rfl, ?_⟩) hHeld ?_ ?_
  rotate_left
  · intro w' hSw
    go_split_ands
    go_simp
    with_reducible rfl
  rotate_left
  · simp only [Act.put, List.setIfInBounds_toArray, List.set_cons_zero, List.set_cons_succ]
    rfl
  refine takeH (i := 3) (N := some 43) (v := ?_) (a' := ?_) rfl rfl (by kernel_rfl) (by kernel_rfl) (by kernel_rfl) (fun _ _ _ h => h) (Or.inl ⟨by rfl, ?_⟩) hHeld ?_ ?_
  rotate_left
  · intro w' hSw
    go_split_ands
    go_simp
    with_reducible rfl
  rotate_left
  · simp only [Act.put, List.setIfInBounds_toArray, List.set_cons_zero, List.set_cons_succ]
    rfl
  refine takeH (i := 4) (N := some 44) (v := ?_) (a' := ?_) rfl rfl (by kernel_rfl) (by kernel_rfl) (by kernel_rfl) (fun _ _ _ h => h) (Or.inl ⟨by rfl, ?_⟩) hHeld ?_ ?_
  rotate_left
  · intro w' hSw
    go_split_ands
    go_simp
    with_reducible rfl
  rotate_left
  · simp only [Act.put, List.setIfInBounds_toArray, List.set_cons_zero, List.set_cons_succ]
    rfl
  refine takeH (i := 5) (N := some 45) (v := ?_) (a' := ?_) rfl rfl (by kernel_rfl) (by kernel_rfl) (by kernel_rfl) (fun _ _ _ h => h) (Or.inl ⟨by rfl, ?_⟩) hHeld ?_ ?_
  rotate_left
  · intro w' hSw
    go_split_ands
    go_simp
    with_reducible rfl
  rotate_left
  · simp only [Act.put, List.setIfInBounds_toArray, List.set_cons_zero, List.set_cons_succ]
    rfl
  refine wpAnyH_ready (rs := [6]) (by kernel_rfl) (by simp) ?_
  refine AllReadyH.cons rfl (fun K hK => ?_) AllReadyH.nil
  go_simp
  with_reducible refine (h42c _).mono ?_
  rintro _ x46 ⟨rfl, hx46⟩
  go_simp
  refine hK.out _ _ (GoesR.S_of2 F3 F4 F5 f7 f8 (hHeld.1.trans (hx46.mono hHeld.1.size))) (fun hHeld => ?_)
  clear hK K
  refine takeH (i := 7) (N := some 47) (v := ?_) (a' := ?_) rfl rfl (by kernel_rfl) (by kernel_rfl) (by kernel_rfl) (fun _ _ _ h => h) (Or.inl ⟨by rfl, ?_⟩) hHeld ?_ ?_
  rotate_left
  · intro w' hSw
    clear hSw
    go_simp
    with_reducible rfl
  rotate_left
  · simp only [Act.put, List.setIfInBounds_toArray, List.set_cons_zero, List.set_cons_succ]
    rfl
  refine takeH (i := 8) (N := some 48) (v := ?_) (a' := ?_) rfl rfl (by kernel_rfl) (by kernel_rfl) (by kernel_rfl) (fun _ _ _ h => h) (Or.inl ⟨by rfl, ?_⟩) hHeld ?_ ?_
  rotate_left
  · intro w' hSw
    clear hSw
    go_simp
    with_reducible rfl
  rotate_left
  · simp only [Act.put, List.setIfInBounds_toArray, List.set_cons_zero, List.set_cons_succ]
    rfl
  refine takeH (i := 9) (N := some 49) (v := ?_) (a' := ?_) rfl rfl (by kernel_rfl) (by kernel_rfl) (by kernel_rfl) (fun _ _ _ h => h) (Or.inl ⟨by rfl, ?_⟩) hHeld ?_ ?_
  rotate_left
  · intro w' hSw
    clear hSw
    go_simp
    with_reducible rfl
  rotate_left
  · simp only [Act.put, List.setIfInBounds_toArray, List.set_cons_zero, List.set_cons_succ]
    rfl
  refine takeH (i := 10) (N := some 50) (v := ?_) (a' := ?_) rfl rfl (by kernel_rfl) (by kernel_rfl) (by kernel_rfl) (fun _ _ _ h => h) (Or.inl ⟨by rfl, ?_⟩) hHeld ?_ ?_
  rotate_left
  · intro w' hSw
    clear hSw
    go_simp
    with_reducible rfl
  rotate_left
  · simp only [Act.put, List.setIfInBounds_toArray, List.set_cons_zero, List.set_cons_succ]
    rfl
  refine takeH (i := 11) (N := some 51) (v := ?_) (a' := ?_) rfl rfl (by kernel_rfl) (by kernel_rfl) (by kernel_rfl) (fun _ _ _ h => h) (Or.inl ⟨by rfl, ?_⟩) hHeld ?_ ?_
  rotate_left
  · intro w' hSw
    go_split_ands
    go_simp
    with_reducible rfl
  rotate_left
  · simp only [Act.put, List.setIfInBounds_toArray, List.set_cons_zero, List.set_cons_succ]
    rfl
  refine takeH (i := 12) (N := some 52) (v := ?_) (a' := ?_) rfl rfl (by kernel_rfl) (by kernel_rfl) (by kernel_rfl) (fun _ _ _ h => h) (Or.inl ⟨by rfl, ?_⟩) hHeld ?_ ?_
  rotate_left
  · intro w' hSw
    go_split_ands
    go_simp
    with_reducible rfl
  rotate_left
  · simp only [Act.put, List.setIfInBounds_toArray, List.set_cons_zero, List.set_cons_succ]
    rfl
  refine wpAnyH_ready (rs := [13]) (by kernel_rfl) (by simp) ?_
  refine AllReadyH.cons rfl (fun K hK => ?_) AllReadyH.nil
  go_simp
  with_reducible refine (hfits _).mono ?_
  rintro _ x53 ⟨rfl, hx53⟩
  go_simp
  refine hK.out _ _ (GoesR.S_of2 F3 F4 F5 f7 f8 (hHeld.1.trans (hx53.mono hHeld.1.size))) (fun hHeld => ?_)
  clear hK K
  refine takeH (i := 14) (N := some 54) (v := ?_) (a' := ?_) rfl rfl (by kernel_rfl) (by kernel_rfl) (by kernel_rfl) (fun _ _ _ h => h) (Or.inl ⟨by rfl, ?_⟩) hHeld ?_ ?_
  rotate_left
  · intro w' hSw
    clear hSw
    go_simp
    with_reducible rfl
  rotate_left
  · simp only [Act.put, List.setIfInBounds_toArray, List.set_cons_zero, List.set_cons_succ]
    rfl
  refine takeH (i := 15) (N := some 55) (v := ?_) (a' := ?_) rfl rfl (by kernel_rfl) (by kernel_rfl) (by kernel_rfl) (fun _ _ _ h => h) (Or.inl ⟨by rfl, ?_⟩) hHeld ?_ ?_
  rotate_left
  · intro w' hSw
    clear hSw
    go_simp
    with_reducible rfl
  rotate_left
  · simp only [Act.put, List.setIfInBounds_toArray, List.set_cons_zero, List.set_cons_succ]
    rfl
  refine wpAnyH_done (by kernel_rfl) ?_ _
  have HY := hHeld.1
  clear hHeld
  go_upto_region 11 with (fail)
  refine wp_region_held_drew (S := (fun w' => Below y1.heap.size y1 w' ∧ (w'.cell? ⟨W.heap.size, 0, none⟩ = some (.int .i64 R) ∧ w'.cell? ⟨W.heap.size, 1, none⟩ = some (.int .i64 C) ∧ w'.cell? ⟨W.heap.size, 2, none⟩ = some (.int .i64 T) ∧ w'.cell? ⟨W.heap.size, 3, none⟩ = some (.int .i64 B) ∧ w'.cell? ⟨W.heap.size, 4, none⟩ = some (.bool true)) ∧ (w'.cell? ⟨W.heap.size + 1, 0, none⟩ = some (.int .i64 r) ∧ w'.cell? ⟨W.heap.size + 1, 1, none⟩ = some (.int .i64 c) ∧ w'.cell? ⟨W.heap.size + 1, 2, none⟩ = some (.bool true)) ∧ (w'.cell? ⟨W.heap.size + 1 + 1, 0, none⟩ = some (.int .i64 a) ∧ w'.cell? ⟨W.heap.size + 1 + 1, 1, none⟩ = some (.int .i64 b)) ∧ (w'.cell? ⟨g7, 0, none⟩ = some (.int .i64 xr) ∧ w'.cell? ⟨g7, 1, none⟩ = some (.int .i64 (k2 - 1)) ∧ w'.cell? ⟨g7, 2, none⟩ = some (.bool false)) ∧ (w'.cell? ⟨g8, 0, none⟩ = some (.int .i64 hr) ∧ w'.cell? ⟨g8, 1, none⟩ = some (.int .i64 hc) ∧ w'.cell? ⟨g8, 2, none⟩ = some (.bool (c == C - 1))))) (by kernel_rfl) (GoesR.S_of2 F3 F4 F5 f7 f8 (HY.trans (Joins.below_draws y1.heap.size _ 1))) (fun hHeld => ?_)
  refine takeH (i := 0) (N := some 56) (v := ?_) (a' := ?_) rfl rfl (by kernel_rfl) (by kernel_rfl) (by kernel_rfl) (fun _ _ _ h => h) (Or.inl ⟨by rfl, ?_⟩) hHeld ?_ ?_
  rotate_left
  · intro w' hSw
    go_split_ands
    go_simp
    with_reducible rfl
  rotate_left
  · simp only [Act.put, List.setIfInBounds_toArray, List.set_cons_zero, List.set_cons_succ]
    rfl
  refine takeH (i := 1) (N := some 57) (v := ?_) (a' := ?_) rfl rfl (by kernel_rfl) (by kernel_rfl) (by kernel_rfl) (fun _ _ _ h => h) (Or.inl ⟨by rfl, ?_⟩) hHeld ?_ ?_
  rotate_left
  · intro w' hSw
    go_split_ands
    go_simp
    with_reducible rfl
  rotate_left
  · simp only [Act.put, List.setIfInBounds_toArray, List.set_cons_zero, List.set_cons_succ]
    rfl
  refine takeH (i := 2) (N := some 58) (v := ?_) (a' := ?_) rfl rfl (by kernel_rfl) (by kernel_rfl) (by kernel_rfl) (fun _ _ _ h => h) (Or.inl ⟨by rfl, ?_⟩) hHeld ?_ ?_
  rotate_left
  · intro w' hSw
    go_split_ands
    go_simp
    with_reducible rfl
  rotate_left
  · simp only [Act.put, List.setIfInBounds_toArray, List.set_cons_zero, List.set_cons_succ]
    rfl
  refine takeH (i := 3) (N := some 59) (v := ?_) (a' := ?_) rfl rfl (by kernel_rfl) (by kernel_rfl) (by kernel_rfl) (fun _ _ _ h => h) (Or.inl ⟨by rfl, ?_⟩) hHeld ?_ ?_
  rotate_left
  · intro w' hSw
    go_split_ands
    go_simp
    with_reducible rfl
  rotate_left
  · simp only [Act.put, List.setIfInBounds_toArray, List.set_cons_zero, List.set_cons_succ]
    rfl
  refine takeH (i := 4) (N := some 60) (v := ?_) (a' := ?_) rfl rfl (by kernel_rfl) (by kernel_rfl) (by kernel_rfl) (fun _ _ _ h => h) (Or.inl ⟨by rfl, ?_⟩) hHeld ?_ ?_
  rotate_left
  · intro w' hSw
    go_split_ands
    go_simp
    with_reducible rfl
  rotate_left
  · simp only [Act.put, List.setIfInBounds_toArray, List.set_cons_zero, List.set_cons_succ]
    rfl
  refine takeH (i := 5) (N := some 61) (v := ?_) (a' := ?_) rfl rfl (by kernel_rfl) (by kernel_rfl) (by kernel_rfl) (fun _ _ _ h => h) (Or.inl ⟨by rfl, ?_⟩) hHeld ?_ ?_
  rotate_left
  · intro w' hSw
    go_split_ands
    go_simp
    with_reducible rfl
  rotate_left
  · simp only [Act.put, List.setIfInBounds_toArray, List.set_cons_zero, List.set_cons_succ]
    rfl
  refine takeH (i := 6) (N := some 62) (v := ?_) (a' := ?_) rfl rfl (by kernel_rfl) (by kernel_rfl) (by kernel_rfl) (fun _ _ _ h => h) (Or.inl ⟨by rfl, ?_⟩) hHeld ?_ ?_
  rotate_left
  · intro w' hSw
    clear hSw
    go_simp
    with_reducible rfl
  rotate_left
  · simp only [Act.put, List.setIfInBounds_toArray, List.set_cons_zero, List.set_cons_succ]
    rfl
  refine wpAnyH_ready (rs := [7]) (by kernel_rfl) (by simp) ?_
  refine AllReadyH.cons rfl (fun K hK => ?_) AllReadyH.nil
  go_simp
  with_reducible refine (h42r _).mono ?_
  rintro _ x63 ⟨rfl, hx63⟩
  go_simp
  refine hK.out _ _ (GoesR.S_of2 F3 F4 F5 f7 f8 (hHeld.1.trans (hx63.mono hHeld.1.size))) (fun hHeld => ?_)
  clear hK K
  refine takeH (i := 8) (N := some 64) (v := ?_) (a' := ?_) rfl rfl (by kernel_rfl) (by kernel_rfl) (by kernel_rfl) (fun _ _ _ h => h) (Or.inl ⟨by rfl, ?_⟩) hHeld ?_ ?_
  rotate_left
  · intro w' hSw
    clear hSw
    go_simp
    with_reducible rfl
  rotate_left
  · simp only [Act.put, List.setIfInBounds_toArray, List.set_cons_zero, List.set_cons_succ]
    rfl
  refine takeH (i := 9) (N := some 65) (v := ?_) (a' := ?_) rfl rfl (by kernel_rfl) (by kernel_rfl) (by kernel_rfl) (fun _ _ _ h => h) (Or.inl ⟨by rfl, ?_⟩) hHeld ?_ ?_
  rotate_left
  · intro w' hSw
    clear hSw
    go_simp
    with_reducible rfl
  rotate_left
  · simp only [Act.put, List.setIfInBounds_toArray, List.set_cons_zero, List.set_cons_succ]
    rfl
  refine takeH (i := 10) (N := some 66) (v := ?_) (a' := ?_) rfl rfl (by kernel_rfl) (by kernel_rfl) (by kernel_rfl) (fun _ _ _ h => h) (Or.inl ⟨by rfl, ?_⟩) hHeld ?_ ?_
  rotate_left
  · intro w' hSw
    go_split_ands
    go_simp
    with_reducible rfl
  rotate_left
  · simp only [Act.put, List.setIfInBounds_toArray, List.set_cons_zero, List.set_cons_succ]
    rfl
  refine takeH (i := 11) (N := some 67) (v := ?_) (a' := ?_) rfl rfl (by kernel_rfl) (by kernel_rfl) (by kernel_rfl) (fun _ _ _ h => h) (Or.inl ⟨by rfl, ?_⟩) hHeld ?_ ?_
  rotate_left
  · intro w' hSw
    go_split_ands
    go_simp
    with_reducible rfl
  rotate_left
  · simp only [Act.put, List.setIfInBounds_toArray, List.set_cons_zero, List.set_cons_succ]
    rfl
  refine takeH (i := 12) (N := some 68) (v := ?_) (a' := ?_) rfl rfl (by kernel_rfl) (by kernel_rfl) (by kernel_rfl) (fun _ _ _ h => h) (Or.inl ⟨by rfl, ?_⟩) hHeld ?_ ?_
  rotate_left
  · intro w' hSw
    go_split_ands
    go_simp
    with_reducible rfl
  rotate_left
  · simp only [Act.put, List.setIfInBounds_toArray, List.set_cons_zero, List.set_cons_succ]
    rfl
  refine takeH (i := 13) (N := some 69) (v := ?_) (a' := ?_) rfl rfl (by kernel_rfl) (by kernel_rfl) (by kernel_rfl) (fun _ _ _ h => h) (Or.inl ⟨by rfl, ?_⟩) hHeld ?_ ?_
  rotate_left
  · intro w' hSw
    go_split_ands
    go_simp
    with_reducible rfl
  rotate_left
  · simp only [Act.put, List.setIfInBounds_toArray, List.set_cons_zero, List.set_cons_succ]
    rfl
  refine takeH (i := 14) (N := some 70) (v := ?_) (a' := ?_) rfl rfl (by kernel_rfl) (by kernel_rfl) (by kernel_rfl) (fun _ _ _ h => h) (Or.inl ⟨by rfl, ?_⟩) hHeld ?_ ?_
  rotate_left
  · intro w' hSw
    go_split_ands
    go_simp
    with_reducible rfl
  rotate_left
  · simp only [Act.put, List.setIfInBounds_toArray, List.set_cons_zero, List.set_cons_succ]
    rfl
  refine takeH (i := 15) (N := some 71) (v := ?_) (a' := ?_) rfl rfl (by kernel_rfl) (by kernel_rfl) (by kernel_rfl) (fun _ _ _ h => h) (Or.inl ⟨by rfl, ?_⟩) hHeld ?_ ?_
  rotate_left
  · intro w' hSw
    go_split_ands
    go_simp
    with_reducible rfl
  rotate_left
  · simp only [Act.put, List.setIfInBounds_toArray, List.set_cons_zero, List.set_cons_succ]
    rfl
  refine takeH (i := 16) (N := some 72) (v := ?_) (a' := ?_) rfl rfl (by kernel_rfl) (by kernel_rfl) (by kernel_rfl) (fun _ _ _ h => h) (Or.inl ⟨by rfl, ?_⟩) hHeld ?_ ?_
  rotate_left
  · intro w' hSw
    clear hSw
    go_simp
    with_reducible rfl
  rotate_left
  · simp only [Act.put, List.setIfInBounds_toArray, List.set_cons_zero, List.set_cons_succ]
    rfl
  refine wpAnyH_ready (rs := [17]) (by kernel_rfl) (by simp) ?_
  refine AllReadyH.cons rfl (fun K hK => ?_) AllReadyH.nil
  go_simp
  with_reducible refine (h42k _).mono ?_
  rintro _ x73 ⟨rfl, hx73⟩
  go_simp
  refine hK.out _ _ (GoesR.S_of2 F3 F4 F5 f7 f8 (hHeld.1.trans (hx73.mono hHeld.1.size))) (fun hHeld => ?_)
  clear hK K
  refine takeH (i := 18) (N := some 74) (v := ?_) (a' := ?_) rfl rfl (by kernel_rfl) (by kernel_rfl) (by kernel_rfl) (fun _ _ _ h => h) (Or.inl ⟨by rfl, ?_⟩) hHeld ?_ ?_
  rotate_left
  · intro w' hSw
    clear hSw
    go_simp
    with_reducible rfl
  rotate_left
  · simp only [Act.put, List.setIfInBounds_toArray, List.set_cons_zero, List.set_cons_succ]
    rfl
  refine takeH (i := 19) (N := some 75) (v := ?_) (a' := ?_) rfl rfl (by kernel_rfl) (by kernel_rfl) (by kernel_rfl) (fun _ _ _ h => h) (Or.inl ⟨by rfl, ?_⟩) hHeld ?_ ?_
  rotate_left
  · intro w' hSw
    clear hSw
    go_simp
    with_reducible rfl
  rotate_left
  · simp only [Act.put, List.setIfInBounds_toArray, List.set_cons_zero, List.set_cons_succ]
    rfl
  refine takeH (i := 20) (N := some 76) (v := ?_) (a' := ?_) rfl rfl (by kernel_rfl) (by kernel_rfl) (by kernel_rfl) (fun _ _ _ h => h) (Or.inl ⟨by rfl, ?_⟩) hHeld ?_ ?_
  rotate_left
  · intro w' hSw
    clear hSw
    go_simp
    with_reducible rfl
  rotate_left
  · simp only [Act.put, List.setIfInBounds_toArray, List.set_cons_zero, List.set_cons_succ]
    rfl
  refine takeH (i := 21) (N := some 77) (v := ?_) (a' := ?_) rfl rfl (by kernel_rfl) (by kernel_rfl) (by kernel_rfl) (fun _ _ _ h => h) (Or.inl ⟨by rfl, ?_⟩) hHeld ?_ ?_
  rotate_left
  · intro w' hSw
    go_split_ands
    go_simp
    with_reducible rfl
  rotate_left
  · simp only [Act.put, List.setIfInBounds_toArray, List.set_cons_zero, List.set_cons_succ]
    rfl
  refine takeH (i := 22) (N := some 78) (v := ?_) (a' := ?_) rfl rfl (by kernel_rfl) (by kernel_rfl) (by kernel_rfl) (fun _ _ _ h => h) (Or.inl ⟨by rfl, ?_⟩) hHeld ?_ ?_
  rotate_left
  · intro w' hSw
    go_split_ands
    go_simp
    with_reducible rfl
  rotate_left
  · simp only [Act.put, List.setIfInBounds_toArray, List.set_cons_zero, List.set_cons_succ]
    rfl
  refine takeH (i := 23) (N := some 79) (v := ?_) (a' := ?_) rfl rfl (by kernel_rfl) (by kernel_rfl) (by kernel_rfl) (fun _ _ _ h => h) (Or.inl ⟨by rfl, ?_⟩) hHeld ?_ ?_
  rotate_left
  · intro w' hSw
    go_split_ands
    go_simp
    with_reducible rfl
  rotate_left
  · simp only [Act.put, List.setIfInBounds_toArray, List.set_cons_zero, List.set_cons_succ]
    rfl
  refine takeH (i := 24) (N := some 80) (v := ?_) (a' := ?_) rfl rfl (by kernel_rfl) (by kernel_rfl) (by kernel_rfl) (fun _ _ _ h => h) (Or.inl ⟨by rfl, ?_⟩) hHeld ?_ ?_
  rotate_left
  · intro w' hSw
    go_split_ands
    go_simp
    with_reducible rfl
  rotate_left
  · simp only [Act.put, List.setIfInBounds_toArray, List.set_cons_zero, List.set_cons_succ]
    rfl
  refine takeH (i := 25) (N := some 81) (v := ?_) (a' := ?_) rfl rfl (by kernel_rfl) (by kernel_rfl) (by kernel_rfl) (fun _ _ _ h => h) (Or.inl ⟨by rfl, ?_⟩) hHeld ?_ ?_
  rotate_left
  · intro w' hSw
    clear hSw
    go_simp
    with_reducible rfl
  rotate_left
  · simp only [Act.put, List.setIfInBounds_toArray, List.set_cons_zero, List.set_cons_succ]
    rfl
  refine takeH (i := 26) (N := some 82) (v := ?_) (a' := ?_) rfl rfl (by kernel_rfl) (by kernel_rfl) (by kernel_rfl) (fun _ _ _ h => h) (Or.inl ⟨by rfl, ?_⟩) hHeld ?_ ?_
  rotate_left
  · intro w' hSw
    go_split_ands
    go_simp
    with_reducible rfl
  rotate_left
  · simp only [Act.put, List.setIfInBounds_toArray, List.set_cons_zero, List.set_cons_succ]
    rfl
  refine takeH (i := 27) (N := some 83) (v := ?_) (a' := ?_) rfl rfl (by kernel_rfl) (by kernel_rfl) (by kernel_rfl) (fun _ _ _ h => h) (Or.inl ⟨by rfl, ?_⟩) hHeld ?_ ?_
  rotate_left
  · intro w' hSw
    go_split_ands
    go_simp
    with_reducible rfl
  rotate_left
  · simp only [Act.put, List.setIfInBounds_toArray, List.set_cons_zero, List.set_cons_succ]
    rfl
  refine takeH (i := 28) (N := some 84) (v := ?_) (a' := ?_) rfl rfl (by kernel_rfl) (by kernel_rfl) (by kernel_rfl) (fun _ _ _ h => h) (Or.inl ⟨by rfl, ?_⟩) hHeld ?_ ?_
  rotate_left
  · intro w' hSw
    go_split_ands
    go_simp
    with_reducible rfl
  rotate_left
  · simp only [Act.put, List.setIfInBounds_toArray, List.set_cons_zero, List.set_cons_succ]
    rfl
  refine takeH (i := 29) (N := some 85) (v := ?_) (a' := ?_) rfl rfl (by kernel_rfl) (by kernel_rfl) (by kernel_rfl) (fun _ _ _ h => h) (Or.inl ⟨by rfl, ?_⟩) hHeld ?_ ?_
  rotate_left
  · intro w' hSw
    go_split_ands
    go_simp
    with_reducible rfl
  rotate_left
  · simp only [Act.put, List.setIfInBounds_toArray, List.set_cons_zero, List.set_cons_succ]
    rfl
  refine takeH (i := 30) (N := some 86) (v := ?_) (a' := ?_) rfl rfl (by kernel_rfl) (by kernel_rfl) (by kernel_rfl) (fun _ _ _ h => h) (Or.inl ⟨by rfl, ?_⟩) hHeld ?_ ?_
  rotate_left
  · intro w' hSw
    clear hSw
    go_simp
    with_reducible rfl
  rotate_left
  · simp only [Act.put, List.setIfInBounds_toArray, List.set_cons_zero, List.set_cons_succ]
    rfl
  refine takeH (i := 31) (N := some 87) (v := ?_) (a' := ?_) rfl rfl (by kernel_rfl) (by kernel_rfl) (by kernel_rfl) (fun _ _ _ h => h) (Or.inl ⟨by rfl, ?_⟩) hHeld ?_ ?_
  rotate_left
  · intro w' hSw
    clear hSw
    go_simp
    with_reducible rfl
  rotate_left
  · simp only [Act.put, List.setIfInBounds_toArray, List.set_cons_zero, List.set_cons_succ]
    rfl
  refine takeH (i := 32) (N := some 88) (v := ?_) (a' := ?_) rfl rfl (by kernel_rfl) (by kernel_rfl) (by kernel_rfl) (fun _ _ _ h => h) (Or.inl ⟨by rfl, ?_⟩) hHeld ?_ ?_
  rotate_left
  · intro w' hSw
    clear hSw
    go_simp
    with_reducible rfl
  rotate_left
  · simp only [Act.put, List.setIfInBounds_toArray, List.set_cons_zero, List.set_cons_succ]
    rfl
  refine takeH (i := 33) (N := some 89) (v := ?_) (a' := ?_) rfl rfl (by kernel_rfl) (by kernel_rfl) (by kernel_rfl) (fun _ _ _ h => h) (Or.inl ⟨by rfl, ?_⟩) hHeld ?_ ?_
  rotate_left
  · intro w' hSw
    clear hSw
    go_simp
    with_reducible rfl
  rotate_left
  · simp only [Act.put, List.setIfInBounds_toArray, List.set_cons_zero, List.set_cons_succ]
    rfl
  refine takeH (i := 34) (N := some 90) (v := ?_) (a' := ?_) rfl rfl (by kernel_rfl) (by kernel_rfl) (by kernel_rfl) (fun _ _ _ h => h) (Or.inl ⟨by rfl, ?_⟩) hHeld ?_ ?_
  rotate_left
  · intro w' hSw
    clear hSw
    go_simp
    with_reducible rfl
  rotate_left
  · simp only [Act.put, List.setIfInBounds_toArray, List.set_cons_zero, List.set_cons_succ]
    rfl
  refine takeH (i := 35) (N := some 6) (v := ?_) (a' := ?_) rfl rfl (by kernel_rfl) (by kernel_rfl) (by kernel_rfl) (fun _ _ _ h => h) (Or.inl ⟨by rfl, ?_⟩) hHeld ?_ ?_
  rotate_left
  · intro w' hSw
    clear hSw
    go_simp
    with_reducible rfl
  rotate_left
  · simp only [Act.put, List.setIfInBounds_toArray, List.set_cons_zero, List.set_cons_succ]
    rfl
  refine wpAnyH_done (by kernel_rfl) ?_ _
  have HZ := hHeld.1
  go_wp2_with fail
  go_ret
  exact ⟨rfl, FB.trans (HZ.mono FB.size)⟩

theorem fits_no {R C : Int} (h1 : 1 ≤ R) (h3 : 1 ≤ C) (r c : Int) : fitsB R C (cl r 0 (R - 1)) (cl c 0 (C - 1)) false = true := by
  have ha := cl_bd (x := r) (a := 0) (b := R - 1) (by omega)
  have hb := cl_bd (x := c) (a := 0) (b := C - 1) (by omega)
  unfold fitsB
  rw [decide_eq_true (show 0 ≤ cl r 0 (R - 1) ∧ cl r 0 (R - 1) < R ∧ 0 ≤ cl c 0 (C - 1) ∧ cl c 0 (C - 1) < C by omega)]
  rfl
theorem fits_yes {R C : Int} (h1 : 1 ≤ R) (h3 : 1 ≤ C) (r c : Int) : fitsB R C (cl r 0 (R - 1)) (cl c 0 (C - 1)) (c == C - 1) = true := by
  by_cases e : c = C - 1
  · have ha := cl_bd (x := r) (a := 0) (b := R - 1) (by omega)
    have hc : cl c 0 (C - 1) = C - 1 := by rw [cl_at (by omega) (by omega)]; exact e
    unfold fitsB
    rw [hc, decide_eq_true (show 0 ≤ cl r 0 (R - 1) ∧ cl r 0 (R - 1) < R ∧ 0 ≤ C - 1 ∧ C - 1 < C by omega)]
    simp
  · rw [beq_ff e]
    exact fits_no h1 h3 r c

theorem CaretGoes (R C T B : Int) (o : Bool) (r c : Int) (q : Bool) (a b : Int) (W : World) (_w0 : (Lit.int .i64 R).wf = true) (_w1 : (Lit.int .i64 C).wf = true) (_w2 : (Lit.int .i64 T).wf = true) (_w3 : (Lit.int .i64 B).wf = true) (_w4 : (Lit.int .i64 r).wf = true) (_w5 : (Lit.int .i64 c).wf = true) (_w6 : (Lit.int .i64 a).wf = true) (_w7 : (Lit.int .i64 b).wf = true) :
    Calls Try.prog 10 #[.agg #[.int .i64 R, .int .i64 C, .int .i64 T, .int .i64 B, .bool o], .agg #[.int .i64 r, .int .i64 c, .bool q], .agg #[.int .i64 a, .int .i64 b]] W fun e w' => e = .returned (.bool true) ∧ Below W.heap.size W w' := by
  cases hA : areaB R C T B with
  | false => exact goes_out R C T B o r c q a b W hA
  | true =>
    obtain ⟨h1, h2, h3, h4, h5, h6, h7⟩ := areaB_spec hA
    have ka := cl_bd (x := a) h1
    have kb := cl_bd (x := b) h3
    have u0 : IntKind.i64.wrap (cl a 1 R - 1) = cl a 1 R - 1 := IntWalk.i64_in _ (by omega)
    have u1 : IntKind.i64.wrap (cl b 1 C - 1) = cl b 1 C - 1 := IntWalk.i64_in _ (by omega)
    have u2 : IntKind.i64.wrap (T + (cl a 1 R - 1)) = T + (cl a 1 R - 1) := IntWalk.i64_in _ (by omega)
    have hrow : (if B < T + (cl a 1 R - 1) then B else T + (cl a 1 R - 1)) = gr T B (cl a 1 R) := by
      unfold gr
      rw [show T + (cl a 1 R - 1) = T + cl a 1 R - 1 by omega]
    cases o with
    | false =>
      cases q with
      | false => exact goes_false_false_ R C T B r c a b _ _ _ _ _ _ W hA (fits_no h1 h3 r c) (fun w => goto_off_c h1 h2 h3 h4 a b w) (fun w => hold_no_c h1 h2 h3 h4 T B false r c w) (fun w => hold42 _ _ _ w) (fun w => hold42 _ _ _ w) (fun w => hold42 _ _ _ w) (fun w => hold42 _ _ _ w) u0 u1 rfl rfl
      | true => exact goes_false_true_ R C T B r c a b _ _ _ _ _ _ W hA (fits_yes h1 h3 r c) (fun w => goto_off_c h1 h2 h3 h4 a b w) (fun w => hold_yes_c h1 h2 h3 h4 T B false r c w) (fun w => hold42 _ _ _ w) (fun w => hold42 _ _ _ w) (fun w => hold42 _ _ _ w) (fun w => hold42 _ _ _ w) u0 u1 rfl rfl
    | true =>
      cases q with
      | false => exact goes_true_false_ R C T B r c a b _ _ _ _ _ _ W hA (fits_no h1 h3 r c) (fun w => goto_on_c h1 h2 h3 h4 h5 (by omega) a b w) (fun w => hold_no_c h1 h2 h3 h4 T B true r c w) (fun w => hold42 _ _ _ w) (fun w => hold42 _ _ _ w) (fun w => hold42 _ _ _ w) (fun w => hold42 _ _ _ w) u0 u1 hrow u2 rfl
      | true => exact goes_true_true_ R C T B r c a b _ _ _ _ _ _ W hA (fits_yes h1 h3 r c) (fun w => goto_on_c h1 h2 h3 h4 h5 (by omega) a b w) (fun w => hold_yes_c h1 h2 h3 h4 T B true r c w) (fun w => hold42 _ _ _ w) (fun w => hold42 _ _ _ w) (fun w => hold42 _ _ _ w) (fun w => hold42 _ _ _ w) u0 u1 hrow u2 rfl
end Go.Proofs.Ytagciaanfjllnaa.Walk
