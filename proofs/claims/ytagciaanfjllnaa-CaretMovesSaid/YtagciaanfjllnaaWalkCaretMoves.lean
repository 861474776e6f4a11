/- CaretMoves, the walk: whatever the area, the place and the number, the call returns true and changes no old memory. -/
import Derived.Test.YtagciaanfjllnaaCaretC
import Derived.Test.YtagciaanfjllnaaPureCaretMoves
import Derived.Test.YtagciaanfjllnaaPCaretMovesx1
import Derived.Test.YtagciaanfjllnaaRegionL
import Derived.Test.YtagciaanfjllnaaMovesR
import Derived.IntWalk
import Derived.Test.YtagciaanfjllnaaRegion
import Derived.Lib.SmallJoins
import Derived.OpenShut
import Derived.RegionTactic
import Derived.ChangeAlike
import Derived.BigRegion
import Derived.Deep.RegionHeld3
import Derived.Deep.DrawnRows
import Derived.Deep.DeepCutAuto
namespace Go.Proofs.Ytagciaanfjllnaa.Walk
open Go.RowKit Go.Proofs.YtagciaanfjllnaaW.PrintWords Go.Proofs.YtagciaanfjllnaaW.PrintMore Go.Proofs.Ytagciaanfjllnaa.Base Go.Proofs.Ytagciaanfjllnaa.CaretC Go.Proofs.Ytagciaanfjllnaa.Pure.CaretAreas Go.Proofs.Ytagciaanfjllnaa.Reg Go.Proofs.Ytagciaanfjllnaa.PCaretMoves Go.Proofs.Ytagciaanfjllnaa.Pure.CaretMoves
set_option linter.unusedVariables false
attribute [local go_sem high] Go.Proofs.Ytagciaanfjllnaa.PCaretMoves.eqA65
attribute [local go_sem ↓] Go.wp_at_zero Go.wp_at_succ

theorem boxes2M {W w1 : World} {a b : Array Value} (h : Below ((W.alloc (.cells a 63)).alloc (.cells b 65)).heap.size ((W.alloc (.cells a 63)).alloc (.cells b 65)) w1) :
    Blk w1 W.heap.size 63 a ∧ Blk w1 (W.heap.size + 1) 65 b ∧ Below W.heap.size W w1 := by
  have h4 := Blk.new (W.alloc (.cells a 63)) 65 b
  rw [World.size_alloc] at h4
  exact ⟨((Blk.new W 63 a).alloc _).stays h, h4.stays h, (Joins.below_alloc2 W _ _).trans (h.mono (by simp; omega))⟩

theorem fitsB_specM {R C r c : Int} {q : Bool} (h : fitsB R C r c q = true) : 0 ≤ r ∧ r < R ∧ 0 ≤ c ∧ c < C ∧ (q = true → c = C - 1) := by
  unfold fitsB at h
  simp at h
  obtain ⟨⟨h1, h2, h3, h4⟩, h5⟩ := h
  exact ⟨h1, h2, h3, h4, fun hq => by
    rcases h5 with h5 | h5
    · rw [hq] at h5; cases h5
    · exact h5⟩

set_option maxHeartbeats 1000000 in
set_option maxRecDepth 100000 in
theorem moves_out1 (R C T B : Int) (o : Bool) (r c : Int) (q : Bool) (n : Int) (W : World) (hA : areaB R C T B = false) :
    Calls Try.prog 12 #[.agg #[.int .i64 R, .int .i64 C, .int .i64 T, .int .i64 B, .bool o], .agg #[.int .i64 r, .int .i64 c, .bool q], .int .i64 n] W fun e w' => e = .returned (.bool true) ∧ Below W.heap.size W w' := by
  have hrefr := fun w => refright_c R C T B o w
  rw [hA] at hrefr
  clear hA
  go_enter Try.func12, Try.ntmps12
  go_wp2_with (first
    | (go_at_call 33; refine (awake_c _).mono ?_; rintro _ w1 ⟨rfl, hb⟩; obtain ⟨B3, B4, HB⟩ := boxes2M hb; clear hb; obtain ⟨c0, c1, c2, c3, c4⟩ := Blk.five B3)
    | (go_at_call 35; refine (ref_c R C T B o _).mono ?_; rintro _ w2 ⟨rfl, hb2⟩)
    | (go_at_call 34; refine (hrefr _).mono ?_; rintro _ w3 ⟨rfl, hb3⟩; have hb23 := hb2.trans (hb3.mono hb2.size); have GB := HB.trans (hb23.mono HB.size)))
  go_ret
  exact ⟨rfl, GB⟩

set_option maxHeartbeats 1000000 in
set_option maxRecDepth 100000 in
theorem moves_out2 (R C T B : Int) (o : Bool) (r c : Int) (q : Bool) (n : Int) (W : World) (hA : areaB R C T B = true) (hF : fitsB R C r c q = false) :
    Calls Try.prog 12 #[.agg #[.int .i64 R, .int .i64 C, .int .i64 T, .int .i64 B, .bool o], .agg #[.int .i64 r, .int .i64 c, .bool q], .int .i64 n] W fun e w' => e = .returned (.bool true) ∧ Below W.heap.size W w' := by
  have hrefr := fun w => refright_c R C T B o w
  obtain ⟨h1, h2, h3, h4, -, -, -⟩ := areaB_spec hA
  have hfits := fun w => fits_c (R := R) (T := T) (B := B) h3 h4 o r c q w
  rw [hA] at hrefr
  rw [hF] at hfits
  clear hA hF
  go_enter Try.func12, Try.ntmps12
  go_wp2_with (first
    | (go_at_call 33; refine (awake_c _).mono ?_; rintro _ w1 ⟨rfl, hb⟩; obtain ⟨B3, B4, HB⟩ := boxes2M hb; clear hb; obtain ⟨c0, c1, c2, c3, c4⟩ := Blk.five B3)
    | (go_at_call 35; refine (ref_c R C T B o _).mono ?_; rintro _ w2 ⟨rfl, hb2⟩)
    | (go_at_call 34; refine (hrefr _).mono ?_; rintro _ w3 ⟨rfl, hb3⟩; have hb23 := hb2.trans (hb3.mono hb2.size); have G3 := B3.stays hb23; have G4 := B4.stays hb23; have GB := HB.trans (hb23.mono HB.size); clear c0 c1 c2 c3 c4; obtain ⟨c0, c1, c2, c3, c4⟩ := Blk.five G3; obtain ⟨e0, e1, e2, -, -, -⟩ := G4.three)
    | (go_at_call 39; refine (hfits _).mono ?_; rintro _ w4 ⟨rfl, hb4⟩))
  go_ret
  exact ⟨rfl, GB.trans (hb4.mono GB.size)⟩

theorem S_of7 {w9 w' : World} {g3 g4 g7 g8 g9 g10 : Nat} {R C T B r c u d lc rc : Int} {o q : Bool} (E3 : Blk w9 g3 63 #[.int .i64 R, .int .i64 C, .int .i64 T, .int .i64 B, .bool o]) (E4 : Blk w9 g4 65 #[.int .i64 r, .int .i64 c, .bool q])
    (b7 : Blk w9 g7 65 #[.int .i64 u, .int .i64 c, .bool false]) (b8 : Blk w9 g8 65 #[.int .i64 d, .int .i64 c, .bool false]) (b9 : Blk w9 g9 65 #[.int .i64 r, .int .i64 lc, .bool false]) (b10 : Blk w9 g10 65 #[.int .i64 r, .int .i64 rc, .bool false]) (h : Below w9.heap.size w9 w') :
    (fun w' => Below w9.heap.size w9 w' ∧ (w'.cell? ⟨g3, 0, none⟩ = some (.int .i64 R) ∧ w'.cell? ⟨g3, 1, none⟩ = some (.int .i64 C) ∧ w'.cell? ⟨g3, 2, none⟩ = some (.int .i64 T) ∧ w'.cell? ⟨g3, 3, none⟩ = some (.int .i64 B) ∧ w'.cell? ⟨g3, 4, none⟩ = some (.bool o)) ∧ (w'.cell? ⟨g4, 0, none⟩ = some (.int .i64 r) ∧ w'.cell? ⟨g4, 1, none⟩ = some (.int .i64 c)) ∧ (w'.cell? ⟨g7, 0, none⟩ = some (.int .i64 u) ∧ w'.cell? ⟨g7, 1, none⟩ = some (.int .i64 c) ∧ w'.cell? ⟨g7, 2, none⟩ = some (.bool false)) ∧ (w'.cell? ⟨g8, 0, none⟩ = some (.int .i64 d) ∧ w'.cell? ⟨g8, 1, none⟩ = some (.int .i64 c) ∧ w'.cell? ⟨g8, 2, none⟩ = some (.bool false)) ∧ (w'.cell? ⟨g9, 0, none⟩ = some (.int .i64 r) ∧ w'.cell? ⟨g9, 1, none⟩ = some (.int .i64 lc) ∧ w'.cell? ⟨g9, 2, none⟩ = some (.bool false)) ∧ (w'.cell? ⟨g10, 0, none⟩ = some (.int .i64 r) ∧ w'.cell? ⟨g10, 1, none⟩ = some (.int .i64 rc) ∧ w'.cell? ⟨g10, 2, none⟩ = some (.bool false))) w' :=
  ⟨h, Blk.five (E3.stays h), ⟨(E4.stays h).cell 0, (E4.stays h).cell 1⟩, ⟨(b7.stays h).cell 0, (b7.stays h).cell 1, (b7.stays h).cell 2⟩, ⟨(b8.stays h).cell 0, (b8.stays h).cell 1, (b8.stays h).cell 2⟩, ⟨(b9.stays h).cell 0, (b9.stays h).cell 1, (b9.stays h).cell 2⟩, (b10.stays h).cell 0, (b10.stays h).cell 1, (b10.stays h).cell 2⟩

theorem kM_lo {n : Int} (h : n < 1) : Value.int .i64 1 = .int .i64 (kM n) := by
  unfold kM; rw [mx_le (by omega), mn_le (by omega)]
theorem kM_mid {n : Int} (h : ¬ n < 1) (h2 : n ≤ 300) : Value.int .i64 n = .int .i64 (kM n) := by
  unfold kM; rw [mx_ge (by omega), mn_le (by omega)]
theorem kM_hi {n : Int} (h2 : ¬ n ≤ 300) : Value.int .i64 300 = .int .i64 (kM n) := by
  unfold kM; rw [mx_ge (by omega), mn_ge (by omega)]
set_option maxHeartbeats 8000000 in
set_option maxRecDepth 100000 in
theorem moves_in (R C T B : Int) (o : Bool) (r c : Int) (q : Bool) (n u d lc rc : Int) (W : World) (hA : areaB R C T B = true) (hF : fitsB R C r c q = true)
    (hup : ∀ w, Calls Try.prog 47 #[.agg #[.int .i64 R, .int .i64 C, .int .i64 T, .int .i64 B, .bool o], .agg #[.int .i64 r, .int .i64 c, .bool q], .int .i64 n] w fun e w' => e = .returned (.agg #[.int .i64 u, .int .i64 c, .bool false]) ∧ Below w.heap.size w w') (hdown : ∀ w, Calls Try.prog 48 #[.agg #[.int .i64 R, .int .i64 C, .int .i64 T, .int .i64 B, .bool o], .agg #[.int .i64 r, .int .i64 c, .bool q], .int .i64 n] w fun e w' => e = .returned (.agg #[.int .i64 d, .int .i64 c, .bool false]) ∧ Below w.heap.size w w') (hleft : ∀ w, Calls Try.prog 49 #[.agg #[.int .i64 R, .int .i64 C, .int .i64 T, .int .i64 B, .bool o], .agg #[.int .i64 r, .int .i64 c, .bool q], .int .i64 n] w fun e w' => e = .returned (.agg #[.int .i64 r, .int .i64 lc, .bool false]) ∧ Below w.heap.size w w') (hahead : ∀ w, Calls Try.prog 50 #[.agg #[.int .i64 R, .int .i64 C, .int .i64 T, .int .i64 B, .bool o], .agg #[.int .i64 r, .int .i64 c, .bool q], .int .i64 n] w fun e w' => e = .returned (.agg #[.int .i64 r, .int .i64 rc, .bool false]) ∧ Below w.heap.size w w')
    (hsu : ∀ w, Calls Try.prog 46 #[.agg #[.int .i64 R, .int .i64 C, .int .i64 T, .int .i64 B, .bool o], .int .i64 r, .int .i64 (-1), .int .i64 n] w fun e w' => e = .returned (.int .i64 u) ∧ Below w.heap.size w w')
    (hsd : ∀ w, Calls Try.prog 46 #[.agg #[.int .i64 R, .int .i64 C, .int .i64 T, .int .i64 B, .bool o], .int .i64 r, .int .i64 1, .int .i64 n] w fun e w' => e = .returned (.int .i64 d) ∧ Below w.heap.size w w')
    (hhl : ∀ w, Calls Try.prog 42 #[.int .i64 (c - kM n), .int .i64 0, .int .i64 (C - 1)] w fun e w' => e = .returned (.int .i64 lc) ∧ Below w.heap.size w w')
    (hha : ∀ w, Calls Try.prog 42 #[.int .i64 (c + kM n), .int .i64 0, .int .i64 (C - 1)] w fun e w' => e = .returned (.int .i64 rc) ∧ Below w.heap.size w w') :
    Calls Try.prog 12 #[.agg #[.int .i64 R, .int .i64 C, .int .i64 T, .int .i64 B, .bool o], .agg #[.int .i64 r, .int .i64 c, .bool q], .int .i64 n] W fun e w' => e = .returned (.bool true) ∧ Below W.heap.size W w' := by
  have hrefr := fun w => refright_c R C T B o w
  obtain ⟨h1, h2, h3, h4, -, -, -⟩ := areaB_spec hA
  obtain ⟨r0, r1, r2, r3, -⟩ := fitsB_specM hF
  obtain ⟨m0, m1⟩ := kM_bd n
  have hfits := fun w => fits_c (R := R) (T := T) (B := B) h3 h4 o r c q w
  rw [hA] at hrefr
  rw [hF] at hfits
  clear hA hF
  go_enter Try.func12, Try.ntmps12
  go_upto_region 5 with (first
    | (go_at_call 33; refine (awake_c _).mono ?_; rintro _ w1 ⟨rfl, hb⟩; obtain ⟨B3, B4, HB⟩ := boxes2M hb; clear hb; obtain ⟨c0, c1, c2, c3, c4⟩ := Blk.five B3)
    | (go_at_call 35; refine (ref_c R C T B o _).mono ?_; rintro _ w2 ⟨rfl, hb2⟩)
    | (go_at_call 34; refine (hrefr _).mono ?_; rintro _ w3 ⟨rfl, hb3⟩; have hb23 := hb2.trans (hb3.mono hb2.size); have G3 := B3.stays hb23; have G4 := B4.stays hb23; have GB := HB.trans (hb23.mono HB.size); clear c0 c1 c2 c3 c4 B3 B4 HB hb2 hb3 hb23; obtain ⟨c0, c1, c2, c3, c4⟩ := Blk.five G3; obtain ⟨e0, e1, e2, -, -, -⟩ := G4.three)
    | (go_at_call 39; refine (hfits _).mono ?_; rintro _ w8 ⟨rfl, hb4⟩; have N3 := G3.stays hb4; have N4 := G4.stays hb4; have NB := GB.trans (hb4.mono GB.size); clear c0 c1 c2 c3 c4 e0 e1 e2 G3 G4 GB hb4))
  refine wp_region_held_drew (S := (fun w' => Below w8.heap.size w8 w' ∧ (w'.cell? ⟨W.heap.size, 0, none⟩ = some (.int .i64 R) ∧ w'.cell? ⟨W.heap.size, 1, none⟩ = some (.int .i64 C) ∧ w'.cell? ⟨W.heap.size, 2, none⟩ = some (.int .i64 T) ∧ w'.cell? ⟨W.heap.size, 3, none⟩ = some (.int .i64 B) ∧ w'.cell? ⟨W.heap.size, 4, none⟩ = some (.bool o)) ∧ w'.cell? ⟨W.heap.size + 1, 0, none⟩ = some (.int .i64 r) ∧ w'.cell? ⟨W.heap.size + 1, 1, none⟩ = some (.int .i64 c) ∧ w'.cell? ⟨W.heap.size + 1, 2, none⟩ = some (.bool q))) (by kernel_rfl) (MovesR.S_of N3 N4 (Joins.below_draws w8.heap.size w8 1)) (fun hHeld => ?_)
  refine takeH (i := 0) (N := some 24) (v := ?_) (a' := ?_) rfl rfl (by kernel_rfl) (by kernel_rfl) (by kernel_rfl) (fun _ _ _ h => h) (Or.inl ⟨by rfl, ?_⟩) hHeld ?_ ?_
  rotate_left
  · intro w' hSw
    go_split_ands
    go_simp
    with_reducible rfl
  rotate_left
  · simp only [Act.put, List.setIfInBounds_toArray, List.set_cons_zero, List.set_cons_succ]
    rfl
  refine takeH (i := 1) (N := some 25) (v := ?_) (a' := ?_) rfl rfl (by kernel_rfl) (by kernel_rfl) (by kernel_rfl) (fun _ _ _ h => h) (Or.inl ⟨by rfl, ?_⟩) hHeld ?_ ?_
  rotate_left
  · intro w' hSw
    go_split_ands
    go_simp
    with_reducible rfl
  rotate_left
  · simp only [Act.put, List.setIfInBounds_toArray, List.set_cons_zero, List.set_cons_succ]
    rfl
  refine takeH (i := 2) (N := some 26) (v := ?_) (a' := ?_) rfl rfl (by kernel_rfl) (by kernel_rfl) (by kernel_rfl) (fun _ _ _ h => h) (Or.inl ⟨by rfl, ?_⟩) hHeld ?_ ?_
  rotate_left
  · intro w' hSw
    clear hSw
    go_simp
    with_reducible rfl
  rotate_left
  · simp only [Act.put, List.setIfInBounds_toArray, List.set_cons_zero, List.set_cons_succ]
    rfl
  refine takeH (i := 4) (N := some 28) (v := ?_) (a' := ?_) rfl rfl (by kernel_rfl) (by kernel_rfl) (by kernel_rfl) (fun _ _ _ h => h) (Or.inl ⟨by rfl, ?_⟩) hHeld ?_ ?_
  rotate_left
  · intro w' hSw
    go_split_ands
    go_simp
    with_reducible rfl
  rotate_left
  · simp only [Act.put, List.setIfInBounds_toArray, List.set_cons_zero, List.set_cons_succ]
    rfl
  refine takeH (i := 5) (N := some 29) (v := ?_) (a' := ?_) rfl rfl (by kernel_rfl) (by kernel_rfl) (by kernel_rfl) (fun _ _ _ h => h) (Or.inl ⟨by rfl, ?_⟩) hHeld ?_ ?_
  rotate_left
  · intro w' hSw
    go_split_ands
    go_simp
    with_reducible rfl
  rotate_left
  · simp only [Act.put, List.setIfInBounds_toArray, List.set_cons_zero, List.set_cons_succ]
    rfl
  refine takeH (i := 6) (N := some 30) (v := ?_) (a' := ?_) rfl rfl (by kernel_rfl) (by kernel_rfl) (by kernel_rfl) (fun _ _ _ h => h) (Or.inl ⟨by rfl, ?_⟩) hHeld ?_ ?_
  rotate_left
  · intro w' hSw
    clear hSw
    go_simp
    with_reducible rfl
  rotate_left
  · simp only [Act.put, List.setIfInBounds_toArray, List.set_cons_zero, List.set_cons_succ]
    rfl
  refine takeH (i := 8) (N := some 32) (v := ?_) (a' := ?_) rfl rfl (by kernel_rfl) (by kernel_rfl) (by kernel_rfl) (fun _ _ _ h => h) (Or.inl ⟨by rfl, ?_⟩) hHeld ?_ ?_
  rotate_left
  · intro w' hSw
    go_split_ands
    go_simp
    with_reducible rfl
  rotate_left
  · simp only [Act.put, List.setIfInBounds_toArray, List.set_cons_zero, List.set_cons_succ]
    rfl
  refine takeH (i := 9) (N := some 33) (v := ?_) (a' := ?_) rfl rfl (by kernel_rfl) (by kernel_rfl) (by kernel_rfl) (fun _ _ _ h => h) (Or.inl ⟨by rfl, ?_⟩) hHeld ?_ ?_
  rotate_left
  · intro w' hSw
    go_split_ands
    go_simp
    with_reducible rfl
  rotate_left
  · simp only [Act.put, List.setIfInBounds_toArray, List.set_cons_zero, List.set_cons_succ]
    rfl
  refine takeH (i := 10) (N := some 34) (v := ?_) (a' := ?_) rfl rfl (by kernel_rfl) (by kernel_rfl) (by kernel_rfl) (fun _ _ _ h => h) (Or.inl ⟨by rfl, ?_⟩) hHeld ?_ ?_
  rotate_left
  · intro w' hSw
    clear hSw
    go_simp
    with_reducible rfl
  rotate_left
  · simp only [Act.put, List.setIfInBounds_toArray, List.set_cons_zero, List.set_cons_succ]
    rfl
  refine takeH (i := 12) (N := some 36) (v := ?_) (a' := ?_) rfl rfl (by kernel_rfl) (by kernel_rfl) (by kernel_rfl) (fun _ _ _ h => h) (Or.inl ⟨by rfl, ?_⟩) hHeld ?_ ?_
  rotate_left
  · intro w' hSw
    go_split_ands
    go_simp
    with_reducible rfl
  rotate_left
  · simp only [Act.put, List.setIfInBounds_toArray, List.set_cons_zero, List.set_cons_succ]
    rfl
  refine takeH (i := 13) (N := some 37) (v := ?_) (a' := ?_) rfl rfl (by kernel_rfl) (by kernel_rfl) (by kernel_rfl) (fun _ _ _ h => h) (Or.inl ⟨by rfl, ?_⟩) hHeld ?_ ?_
  rotate_left
  · intro w' hSw
    go_split_ands
    go_simp
    with_reducible rfl
  rotate_left
  · simp only [Act.put, List.setIfInBounds_toArray, List.set_cons_zero, List.set_cons_succ]
    rfl
  refine takeH (i := 14) (N := some 38) (v := ?_) (a' := ?_) rfl rfl (by kernel_rfl) (by kernel_rfl) (by kernel_rfl) (fun _ _ _ h => h) (Or.inl ⟨by rfl, ?_⟩) hHeld ?_ ?_
  rotate_left
  · intro w' hSw
    clear hSw
    go_simp
    with_reducible rfl
  rotate_left
  · simp only [Act.put, List.setIfInBounds_toArray, List.set_cons_zero, List.set_cons_succ]
    rfl
  refine relist #[true, true, true, false, true, true, true, false, true, true, true, false, true, true, true, false, false, false, false, false, false, false, false, false] 12 (by kernel_rfl) (by kernel_rfl) ?_
  clear hHeld
  refine MovesR.node0_0 (w0 := w8) (by kernel_rfl) ⟨_, rfl, rfl, rfl, rfl⟩ ⟨_, rfl, rfl, rfl, rfl⟩ ⟨_, rfl, rfl, rfl, rfl⟩ ⟨_, rfl, rfl, rfl, rfl⟩ ⟨_, rfl, rfl, rfl, rfl⟩ ⟨_, rfl, rfl, rfl, rfl⟩ ⟨_, rfl, rfl, rfl, rfl⟩ ⟨_, rfl, rfl, rfl, rfl⟩ ⟨_, rfl, rfl, rfl, rfl⟩ ⟨_, rfl, rfl, rfl, rfl⟩ ⟨_, rfl, rfl, rfl, rfl⟩ ⟨_, rfl, rfl, rfl, rfl⟩ (fun _ h => MovesR.S_of N3 N4 h) hup hdown hleft hahead (fun g7 g8 g9 g10 w9 e7 e8 e9 e10 _ _ _ _ _ _ b7 b8 b9 b10 hb => ?_) _ (Joins.below_draws w8.heap.size w8 1)
  have E3 := N3.stays hb
  have E4 := N4.stays hb
  have EB := NB.trans (hb.mono NB.size)
  clear N3 N4 NB hb hup hdown hleft hahead hrefr hfits e7 e8 e9 e10
  go_upto_region 6 with (fail)
  go_cut [11] (fun s11 wx => s11 = .int .i64 (kM n) ∧ w9 = wx)
  case first =>
    clear hsu hsd hhl hha
    by_cases g1 : n < 1
    · go_wp2_with fail
      go_meet
      exact ⟨kM_lo g1, rfl⟩
    · by_cases g2 : n ≤ 300
      · go_wp2_with fail
        go_meet
        exact ⟨kM_mid (by omega) g2, rfl⟩
      · go_wp2_with fail
        go_meet
        exact ⟨kM_hi (by omega), rfl⟩
  case rest =>
    obtain ⟨rfl, rfl⟩ := hcut
    have s1 : IntKind.i64.wrap (c - kM n) = c - kM n := IntWalk.i64_in _ (by omega)
    have s2 : IntKind.i64.wrap (C - 1) = C - 1 := IntWalk.i64_in _ (by omega)
    have s3 : IntKind.i64.wrap (c + kM n) = c + kM n := IntWalk.i64_in _ (by omega)
    go_wp2_with fail
    refine wp_region_held_drew (S := (fun w' => Below w9.heap.size w9 w' ∧ (w'.cell? ⟨W.heap.size, 0, none⟩ = some (.int .i64 R) ∧ w'.cell? ⟨W.heap.size, 1, none⟩ = some (.int .i64 C) ∧ w'.cell? ⟨W.heap.size, 2, none⟩ = some (.int .i64 T) ∧ w'.cell? ⟨W.heap.size, 3, none⟩ = some (.int .i64 B) ∧ w'.cell? ⟨W.heap.size, 4, none⟩ = some (.bool o)) ∧ (w'.cell? ⟨W.heap.size + 1, 0, none⟩ = some (.int .i64 r) ∧ w'.cell? ⟨W.heap.size + 1, 1, none⟩ = some (.int .i64 c)) ∧ (w'.cell? ⟨g7, 0, none⟩ = some (.int .i64 u) ∧ w'.cell? ⟨g7, 1, none⟩ = some (.int .i64 c) ∧ w'.cell? ⟨g7, 2, none⟩ = some (.bool false)) ∧ (w'.cell? ⟨g8, 0, none⟩ = some (.int .i64 d) ∧ w'.cell? ⟨g8, 1, none⟩ = some (.int .i64 c) ∧ w'.cell? ⟨g8, 2, none⟩ = some (.bool false)) ∧ (w'.cell? ⟨g9, 0, none⟩ = some (.int .i64 r) ∧ w'.cell? ⟨g9, 1, none⟩ = some (.int .i64 lc) ∧ w'.cell? ⟨g9, 2, none⟩ = some (.bool false)) ∧ (w'.cell? ⟨g10, 0, none⟩ = some (.int .i64 r) ∧ w'.cell? ⟨g10, 1, none⟩ = some (.int .i64 rc) ∧ w'.cell? ⟨g10, 2, none⟩ = some (.bool false)))) (by kernel_rfl) (S_of7 E3 E4 b7 b8 b9 b10 (Joins.below_draws w9.heap.size w9 1)) (fun hHeld => ?_)
    refine takeH (i := 0) (N := some 43) (v := ?_) (a' := ?_) rfl rfl (by kernel_rfl) (by kernel_rfl) (by kernel_rfl) (fun _ _ _ h => h) (Or.inl ⟨by rfl, ?_⟩) hHeld ?_ ?_
    rotate_left
    · intro w' hSw
      go_split_ands
      go_simp
      with_reducible rfl
    rotate_left
    · simp only [Act.put, List.setIfInBounds_toArray, List.set_cons_zero, List.set_cons_succ]
      rfl
    refine takeH (i := 1) (N := some 44) (v := ?_) (a' := ?_) rfl rfl (by kernel_rfl) (by kernel_rfl) (by kernel_rfl) (fun _ _ _ h => h) (Or.inl ⟨by rfl, ?_⟩) hHeld ?_ ?_
    rotate_left
    · intro w' hSw
      go_split_ands
      go_simp
      with_reducible rfl
    rotate_left
    · simp only [Act.put, List.setIfInBounds_toArray, List.set_cons_zero, List.set_cons_succ]
      rfl
    refine takeH (i := 3) (N := some 46) (v := ?_) (a' := ?_) rfl rfl (by kernel_rfl) (by kernel_rfl) (by kernel_rfl) (fun _ _ _ h => h) (Or.inl ⟨by rfl, ?_⟩) hHeld ?_ ?_
    rotate_left
    · intro w' hSw
      clear hSw
      go_simp
      with_reducible rfl
    rotate_left
    · simp only [Act.put, List.setIfInBounds_toArray, List.set_cons_zero, List.set_cons_succ]
      rfl
    refine takeH (i := 4) (N := some 47) (v := ?_) (a' := ?_) rfl rfl (by kernel_rfl) (by kernel_rfl) (by kernel_rfl) (fun _ _ _ h => h) (Or.inl ⟨by rfl, ?_⟩) hHeld ?_ ?_
    rotate_left
    · intro w' hSw
      go_split_ands
      go_simp
      with_reducible rfl
    rotate_left
    · simp only [Act.put, List.setIfInBounds_toArray, List.set_cons_zero, List.set_cons_succ]
      rfl
    refine takeH (i := 5) (N := some 48) (v := ?_) (a' := ?_) rfl rfl (by kernel_rfl) (by kernel_rfl) (by kernel_rfl) (fun _ _ _ h => h) (Or.inl ⟨by rfl, ?_⟩) hHeld ?_ ?_
    rotate_left
    · intro w' hSw
      clear hSw
      go_simp
      with_reducible rfl
    rotate_left
    · simp only [Act.put, List.setIfInBounds_toArray, List.set_cons_zero, List.set_cons_succ]
      rfl
    refine takeH (i := 7) (N := some 50) (v := ?_) (a' := ?_) rfl rfl (by kernel_rfl) (by kernel_rfl) (by kernel_rfl) (fun _ _ _ h => h) (Or.inl ⟨by rfl, ?_⟩) hHeld ?_ ?_
    rotate_left
    · intro w' hSw
      clear hSw
      go_simp
      with_reducible rfl
    rotate_left
    · simp only [Act.put, List.setIfInBounds_toArray, List.set_cons_zero, List.set_cons_succ]
      rfl
    refine takeH (i := 8) (N := some 51) (v := ?_) (a' := ?_) rfl rfl (by kernel_rfl) (by kernel_rfl) (by kernel_rfl) (fun _ _ _ h => h) (Or.inl ⟨by rfl, ?_⟩) hHeld ?_ ?_
    rotate_left
    · intro w' hSw
      go_split_ands
      go_simp
      with_reducible rfl
    rotate_left
    · simp only [Act.put, List.setIfInBounds_toArray, List.set_cons_zero, List.set_cons_succ]
      rfl
    refine wpAnyH_ready (rs := [2]) (by kernel_rfl) (by simp) ?_
    refine AllReadyH.cons rfl (fun K hK => ?_) AllReadyH.nil
    go_simp
    with_reducible refine (ref_c R C T B o _).mono ?_
    rintro _ x45 ⟨rfl, hx45⟩
    go_simp
    refine hK.out _ _ (S_of7 E3 E4 b7 b8 b9 b10 (hHeld.1.trans (hx45.mono hHeld.1.size))) (fun hHeld => ?_)
    clear hK K
    refine wpAnyH_ready (rs := [6]) (by kernel_rfl) (by simp) ?_
    refine AllReadyH.cons rfl (fun K hK => ?_) AllReadyH.nil
    go_simp
    with_reducible refine (hsu _).mono ?_
    rintro _ x49 ⟨rfl, hx49⟩
    go_simp
    refine hK.out _ _ (S_of7 E3 E4 b7 b8 b9 b10 (hHeld.1.trans (hx49.mono hHeld.1.size))) (fun hHeld => ?_)
    clear hK K
    refine takeH (i := 9) (N := some 52) (v := ?_) (a' := ?_) rfl rfl (by kernel_rfl) (by kernel_rfl) (by kernel_rfl) (fun _ _ _ h => h) (Or.inl ⟨by rfl, ?_⟩) hHeld ?_ ?_
    rotate_left
    · intro w' hSw
      clear hSw
      go_simp
      with_reducible rfl
    rotate_left
    · simp only [Act.put, List.setIfInBounds_toArray, List.set_cons_zero, List.set_cons_succ]
      rfl
    refine takeH (i := 10) (N := some 53) (v := ?_) (a' := ?_) rfl rfl (by kernel_rfl) (by kernel_rfl) (by kernel_rfl) (fun _ _ _ h => h) (Or.inl ⟨by rfl, ?_⟩) hHeld ?_ ?_
    rotate_left
    · intro w' hSw
      clear hSw
      go_simp
      with_reducible rfl
    rotate_left
    · simp only [Act.put, List.setIfInBounds_toArray, List.set_cons_zero, List.set_cons_succ]
      rfl
    refine takeH (i := 11) (N := some 54) (v := ?_) (a' := ?_) rfl rfl (by kernel_rfl) (by kernel_rfl) (by kernel_rfl) (fun _ _ _ h => h) (Or.inl ⟨by rfl, ?_⟩) hHeld ?_ ?_
    rotate_left
    · intro w' hSw
      clear hSw
      go_simp
      with_reducible rfl
    rotate_left
    · simp only [Act.put, List.setIfInBounds_toArray, List.set_cons_zero, List.set_cons_succ]
      rfl
    refine takeH (i := 12) (N := some 55) (v := ?_) (a' := ?_) rfl rfl (by kernel_rfl) (by kernel_rfl) (by kernel_rfl) (fun _ _ _ h => h) (Or.inl ⟨by rfl, ?_⟩) hHeld ?_ ?_
    rotate_left
    · intro w' hSw
      go_split_ands
      go_simp
      with_reducible rfl
    rotate_left
    · simp only [Act.put, List.setIfInBounds_toArray, List.set_cons_zero, List.set_cons_succ]
      rfl
    refine takeH (i := 13) (N := some 56) (v := ?_) (a' := ?_) rfl rfl (by kernel_rfl) (by kernel_rfl) (by kernel_rfl) (fun _ _ _ h => h) (Or.inl ⟨by rfl, ?_⟩) hHeld ?_ ?_
    rotate_left
    · intro w' hSw
      go_split_ands
      go_simp
      with_reducible rfl
    rotate_left
    · simp only [Act.put, List.setIfInBounds_toArray, List.set_cons_zero, List.set_cons_succ]
      rfl
    refine takeH (i := 15) (N := some 58) (v := ?_) (a' := ?_) rfl rfl (by kernel_rfl) (by kernel_rfl) (by kernel_rfl) (fun _ _ _ h => h) (Or.inl ⟨by rfl, ?_⟩) hHeld ?_ ?_
    rotate_left
    · intro w' hSw
      clear hSw
      go_simp
      with_reducible rfl
    rotate_left
    · simp only [Act.put, List.setIfInBounds_toArray, List.set_cons_zero, List.set_cons_succ]
      rfl
    refine takeH (i := 16) (N := some 59) (v := ?_) (a' := ?_) rfl rfl (by kernel_rfl) (by kernel_rfl) (by kernel_rfl) (fun _ _ _ h => h) (Or.inl ⟨by rfl, ?_⟩) hHeld ?_ ?_
    rotate_left
    · intro w' hSw
      go_split_ands
      go_simp
      with_reducible rfl
    rotate_left
    · simp only [Act.put, List.setIfInBounds_toArray, List.set_cons_zero, List.set_cons_succ]
      rfl
    refine takeH (i := 17) (N := some 60) (v := ?_) (a' := ?_) rfl rfl (by kernel_rfl) (by kernel_rfl) (by kernel_rfl) (fun _ _ _ h => h) (Or.inl ⟨by rfl, ?_⟩) hHeld ?_ ?_
    rotate_left
    · intro w' hSw
      clear hSw
      go_simp
      with_reducible rfl
    rotate_left
    · simp only [Act.put, List.setIfInBounds_toArray, List.set_cons_zero, List.set_cons_succ]
      rfl
    refine takeH (i := 19) (N := some 62) (v := ?_) (a' := ?_) rfl rfl (by kernel_rfl) (by kernel_rfl) (by kernel_rfl) (fun _ _ _ h => h) (Or.inl ⟨by rfl, ?_⟩) hHeld ?_ ?_
    rotate_left
    · intro w' hSw
      clear hSw
      go_simp
      with_reducible rfl
    rotate_left
    · simp only [Act.put, List.setIfInBounds_toArray, List.set_cons_zero, List.set_cons_succ]
      rfl
    refine takeH (i := 20) (N := some 63) (v := ?_) (a' := ?_) rfl rfl (by kernel_rfl) (by kernel_rfl) (by kernel_rfl) (fun _ _ _ h => h) (Or.inl ⟨by rfl, ?_⟩) hHeld ?_ ?_
    rotate_left
    · intro w' hSw
      go_split_ands
      go_simp
      with_reducible rfl
    rotate_left
    · simp only [Act.put, List.setIfInBounds_toArray, List.set_cons_zero, List.set_cons_succ]
      rfl
    refine wpAnyH_ready (rs := [14]) (by kernel_rfl) (by simp) ?_
    refine AllReadyH.cons rfl (fun K hK => ?_) AllReadyH.nil
    go_simp
    with_reducible refine (ref_c R C T B o _).mono ?_
    rintro _ x57 ⟨rfl, hx57⟩
    go_simp
    refine hK.out _ _ (S_of7 E3 E4 b7 b8 b9 b10 (hHeld.1.trans (hx57.mono hHeld.1.size))) (fun hHeld => ?_)
    clear hK K
    refine wpAnyH_ready (rs := [18]) (by kernel_rfl) (by simp) ?_
    refine AllReadyH.cons rfl (fun K hK => ?_) AllReadyH.nil
    go_simp
    with_reducible refine (hsd _).mono ?_
    rintro _ x61 ⟨rfl, hx61⟩
    go_simp
    refine hK.out _ _ (S_of7 E3 E4 b7 b8 b9 b10 (hHeld.1.trans (hx61.mono hHeld.1.size))) (fun hHeld => ?_)
    clear hK K
    refine takeH (i := 21) (N := some 64) (v := ?_) (a' := ?_) rfl rfl (by kernel_rfl) (by kernel_rfl) (by kernel_rfl) (fun _ _ _ h => h) (Or.inl ⟨by rfl, ?_⟩) hHeld ?_ ?_
    rotate_left
    · intro w' hSw
      clear hSw
      go_simp
      with_reducible rfl
    rotate_left
    · simp only [Act.put, List.setIfInBounds_toArray, List.set_cons_zero, List.set_cons_succ]
      rfl
    refine takeH (i := 22) (N := some 65) (v := ?_) (a' := ?_) rfl rfl (by kernel_rfl) (by kernel_rfl) (by kernel_rfl) (fun _ _ _ h => h) (Or.inl ⟨by rfl, ?_⟩) hHeld ?_ ?_
    rotate_left
    · intro w' hSw
      clear hSw
      go_simp
      with_reducible rfl
    rotate_left
    · simp only [Act.put, List.setIfInBounds_toArray, List.set_cons_zero, List.set_cons_succ]
      rfl
    refine takeH (i := 23) (N := some 66) (v := ?_) (a' := ?_) rfl rfl (by kernel_rfl) (by kernel_rfl) (by kernel_rfl) (fun _ _ _ h => h) (Or.inl ⟨by rfl, ?_⟩) hHeld ?_ ?_
    rotate_left
    · intro w' hSw
      clear hSw
      go_simp
      with_reducible rfl
    rotate_left
    · simp only [Act.put, List.setIfInBounds_toArray, List.set_cons_zero, List.set_cons_succ]
      rfl
    refine takeH (i := 24) (N := some 67) (v := ?_) (a' := ?_) rfl rfl (by kernel_rfl) (by kernel_rfl) (by kernel_rfl) (fun _ _ _ h => h) (Or.inl ⟨by rfl, ?_⟩) hHeld ?_ ?_
    rotate_left
    · intro w' hSw
      clear hSw
      go_simp
      with_reducible rfl
    rotate_left
    · simp only [Act.put, List.setIfInBounds_toArray, List.set_cons_zero, List.set_cons_succ]
      rfl
    refine takeH (i := 25) (N := some 68) (v := ?_) (a' := ?_) rfl rfl (by kernel_rfl) (by kernel_rfl) (by kernel_rfl) (fun _ _ _ h => h) (Or.inl ⟨by rfl, ?_⟩) hHeld ?_ ?_
    rotate_left
    · intro w' hSw
      go_split_ands
      go_simp
      with_reducible rfl
    rotate_left
    · simp only [Act.put, List.setIfInBounds_toArray, List.set_cons_zero, List.set_cons_succ]
      rfl
    refine takeH (i := 26) (N := some 69) (v := ?_) (a' := ?_) rfl rfl (by kernel_rfl) (by kernel_rfl) (by kernel_rfl) (fun _ _ _ h => h) (Or.inl ⟨by rfl, ?_⟩) hHeld ?_ ?_
    rotate_left
    · intro w' hSw
      clear hSw
      go_simp
      with_reducible rfl
    rotate_left
    · simp only [Act.put, List.setIfInBounds_toArray, List.set_cons_zero, List.set_cons_succ]
      rfl
    refine takeH (i := 27) (N := some 70) (v := ?_) (a' := ?_) rfl rfl (by kernel_rfl) (by kernel_rfl) (by kernel_rfl) (fun _ _ _ h => h) (Or.inl ⟨by rfl, ?_⟩) hHeld ?_ ?_
    rotate_left
    · intro w' hSw
      go_split_ands
      go_simp
      with_reducible rfl
    rotate_left
    · simp only [Act.put, List.setIfInBounds_toArray, List.set_cons_zero, List.set_cons_succ]
      rfl
    refine takeH (i := 28) (N := some 71) (v := ?_) (a' := ?_) rfl rfl (by kernel_rfl) (by kernel_rfl) (by kernel_rfl) (fun _ _ _ h => h) (Or.inl ⟨by rfl, ?_⟩) hHeld ?_ ?_
    rotate_left
    · intro w' hSw
      clear hSw
      go_simp
      with_reducible rfl
    rotate_left
    · simp only [Act.put, List.setIfInBounds_toArray, List.set_cons_zero, List.set_cons_succ]
      rfl
    refine takeH (i := 29) (N := some 72) (v := ?_) (a' := ?_) rfl rfl (by kernel_rfl) (by kernel_rfl) (by kernel_rfl) (fun _ _ _ h => h) (Or.inl ⟨by rfl, ?_⟩) hHeld ?_ ?_
    rotate_left
    · intro w' hSw
      go_split_ands
      go_simp
      with_reducible rfl
    rotate_left
    · simp only [Act.put, List.setIfInBounds_toArray, List.set_cons_zero, List.set_cons_succ]
      rfl
    refine takeH (i := 30) (N := some 73) (v := ?_) (a' := ?_) rfl rfl (by kernel_rfl) (by kernel_rfl) (by kernel_rfl) (fun _ _ _ h => h) (Or.inl ⟨by rfl, ?_⟩) hHeld ?_ ?_
    rotate_left
    · intro w' hSw
      clear hSw
      go_simp
      with_reducible rfl
    rotate_left
    · simp only [Act.put, List.setIfInBounds_toArray, List.set_cons_zero, List.set_cons_succ]
      rfl
    refine takeH (i := 31) (N := some 74) (v := ?_) (a' := ?_) rfl rfl (by kernel_rfl) (by kernel_rfl) (by kernel_rfl) (fun _ _ _ h => h) (Or.inl ⟨by rfl, ?_⟩) hHeld ?_ ?_
    rotate_left
    · intro w' hSw
      clear hSw
      go_simp
      with_reducible rfl
    rotate_left
    · simp only [Act.put, List.setIfInBounds_toArray, List.set_cons_zero, List.set_cons_succ]
      rfl
    refine takeH (i := 32) (N := some 75) (v := ?_) (a' := ?_) rfl rfl (by kernel_rfl) (by kernel_rfl) (by kernel_rfl) (fun _ _ _ h => h) (Or.inl ⟨by rfl, ?_⟩) hHeld ?_ ?_
    rotate_left
    · intro w' hSw
      clear hSw
      go_simp
      with_reducible rfl
    rotate_left
    · simp only [Act.put, List.setIfInBounds_toArray, List.set_cons_zero, List.set_cons_succ]
      rfl
    refine takeH (i := 33) (N := some 76) (v := ?_) (a' := ?_) rfl rfl (by kernel_rfl) (by kernel_rfl) (by kernel_rfl) (fun _ _ _ h => h) (Or.inl ⟨by rfl, ?_⟩) hHeld ?_ ?_
    rotate_left
    · intro w' hSw
      go_split_ands
      go_simp
      with_reducible rfl
    rotate_left
    · simp only [Act.put, List.setIfInBounds_toArray, List.set_cons_zero, List.set_cons_succ]
      rfl
    refine takeH (i := 34) (N := some 77) (v := ?_) (a' := ?_) rfl rfl (by kernel_rfl) (by kernel_rfl) (by kernel_rfl) (fun _ _ _ h => h) (Or.inl ⟨by rfl, ?_⟩) hHeld ?_ ?_
    rotate_left
    · intro w' hSw
      clear hSw
      go_simp
      with_reducible rfl
    rotate_left
    · simp only [Act.put, List.setIfInBounds_toArray, List.set_cons_zero, List.set_cons_succ]
      rfl
    refine wpAnyH_ready (rs := [35]) (by kernel_rfl) (by simp) ?_
    refine AllReadyH.cons rfl (fun K hK => ?_) AllReadyH.nil
    go_simp
    with_reducible refine (hhl _).mono ?_
    rintro _ x78 ⟨rfl, hx78⟩
    go_simp
    refine hK.out _ _ (S_of7 E3 E4 b7 b8 b9 b10 (hHeld.1.trans (hx78.mono hHeld.1.size))) (fun hHeld => ?_)
    clear hK K
    refine takeH (i := 36) (N := some 79) (v := ?_) (a' := ?_) rfl rfl (by kernel_rfl) (by kernel_rfl) (by kernel_rfl) (fun _ _ _ h => h) (Or.inl ⟨by rfl, ?_⟩) hHeld ?_ ?_
    rotate_left
    · intro w' hSw
      clear hSw
      go_simp
      with_reducible rfl
    rotate_left
    · simp only [Act.put, List.setIfInBounds_toArray, List.set_cons_zero, List.set_cons_succ]
      rfl
    refine takeH (i := 37) (N := some 80) (v := ?_) (a' := ?_) rfl rfl (by kernel_rfl) (by kernel_rfl) (by kernel_rfl) (fun _ _ _ h => h) (Or.inl ⟨by rfl, ?_⟩) hHeld ?_ ?_
    rotate_left
    · intro w' hSw
      clear hSw
      go_simp
      with_reducible rfl
    rotate_left
    · simp only [Act.put, List.setIfInBounds_toArray, List.set_cons_zero, List.set_cons_succ]
      rfl
    refine takeH (i := 38) (N := some 81) (v := ?_) (a' := ?_) rfl rfl (by kernel_rfl) (by kernel_rfl) (by kernel_rfl) (fun _ _ _ h => h) (Or.inl ⟨by rfl, ?_⟩) hHeld ?_ ?_
    rotate_left
    · intro w' hSw
      clear hSw
      go_simp
      with_reducible rfl
    rotate_left
    · simp only [Act.put, List.setIfInBounds_toArray, List.set_cons_zero, List.set_cons_succ]
      rfl
    refine takeH (i := 39) (N := some 82) (v := ?_) (a' := ?_) rfl rfl (by kernel_rfl) (by kernel_rfl) (by kernel_rfl) (fun _ _ _ h => h) (Or.inl ⟨by rfl, ?_⟩) hHeld ?_ ?_
    rotate_left
    · intro w' hSw
      clear hSw
      go_simp
      with_reducible rfl
    rotate_left
    · simp only [Act.put, List.setIfInBounds_toArray, List.set_cons_zero, List.set_cons_succ]
      rfl
    refine takeH (i := 40) (N := some 83) (v := ?_) (a' := ?_) rfl rfl (by kernel_rfl) (by kernel_rfl) (by kernel_rfl) (fun _ _ _ h => h) (Or.inl ⟨by rfl, ?_⟩) hHeld ?_ ?_
    rotate_left
    · intro w' hSw
      go_split_ands
      go_simp
      with_reducible rfl
    rotate_left
    · simp only [Act.put, List.setIfInBounds_toArray, List.set_cons_zero, List.set_cons_succ]
      rfl
    refine takeH (i := 41) (N := some 84) (v := ?_) (a' := ?_) rfl rfl (by kernel_rfl) (by kernel_rfl) (by kernel_rfl) (fun _ _ _ h => h) (Or.inl ⟨by rfl, ?_⟩) hHeld ?_ ?_
    rotate_left
    · intro w' hSw
      clear hSw
      go_simp
      with_reducible rfl
    rotate_left
    · simp only [Act.put, List.setIfInBounds_toArray, List.set_cons_zero, List.set_cons_succ]
      rfl
    refine takeH (i := 42) (N := some 85) (v := ?_) (a' := ?_) rfl rfl (by kernel_rfl) (by kernel_rfl) (by kernel_rfl) (fun _ _ _ h => h) (Or.inl ⟨by rfl, ?_⟩) hHeld ?_ ?_
    rotate_left
    · intro w' hSw
      go_split_ands
      go_simp
      with_reducible rfl
    rotate_left
    · simp only [Act.put, List.setIfInBounds_toArray, List.set_cons_zero, List.set_cons_succ]
      rfl
    refine takeH (i := 43) (N := some 86) (v := ?_) (a' := ?_) rfl rfl (by kernel_rfl) (by kernel_rfl) (by kernel_rfl) (fun _ _ _ h => h) (Or.inl ⟨by rfl, ?_⟩) hHeld ?_ ?_
    rotate_left
    · intro w' hSw
      clear hSw
      go_simp
      with_reducible rfl
    rotate_left
    · simp only [Act.put, List.setIfInBounds_toArray, List.set_cons_zero, List.set_cons_succ]
      rfl
    refine takeH (i := 44) (N := some 87) (v := ?_) (a' := ?_) rfl rfl (by kernel_rfl) (by kernel_rfl) (by kernel_rfl) (fun _ _ _ h => h) (Or.inl ⟨by rfl, ?_⟩) hHeld ?_ ?_
    rotate_left
    · intro w' hSw
      go_split_ands
      go_simp
      with_reducible rfl
    rotate_left
    · simp only [Act.put, List.setIfInBounds_toArray, List.set_cons_zero, List.set_cons_succ]
      rfl
    refine takeH (i := 45) (N := some 88) (v := ?_) (a' := ?_) rfl rfl (by kernel_rfl) (by kernel_rfl) (by kernel_rfl) (fun _ _ _ h => h) (Or.inl ⟨by rfl, ?_⟩) hHeld ?_ ?_
    rotate_left
    · intro w' hSw
      clear hSw
      go_simp
      with_reducible rfl
    rotate_left
    · simp only [Act.put, List.setIfInBounds_toArray, List.set_cons_zero, List.set_cons_succ]
      rfl
    refine takeH (i := 46) (N := some 89) (v := ?_) (a' := ?_) rfl rfl (by kernel_rfl) (by kernel_rfl) (by kernel_rfl) (fun _ _ _ h => h) (Or.inl ⟨by rfl, ?_⟩) hHeld ?_ ?_
    rotate_left
    · intro w' hSw
      clear hSw
      go_simp
      with_reducible rfl
    rotate_left
    · simp only [Act.put, List.setIfInBounds_toArray, List.set_cons_zero, List.set_cons_succ]
      rfl
    refine takeH (i := 47) (N := some 90) (v := ?_) (a' := ?_) rfl rfl (by kernel_rfl) (by kernel_rfl) (by kernel_rfl) (fun _ _ _ h => h) (Or.inl ⟨by rfl, ?_⟩) hHeld ?_ ?_
    rotate_left
    · intro w' hSw
      clear hSw
      go_simp
      with_reducible rfl
    rotate_left
    · simp only [Act.put, List.setIfInBounds_toArray, List.set_cons_zero, List.set_cons_succ]
      rfl
    refine takeH (i := 48) (N := some 91) (v := ?_) (a' := ?_) rfl rfl (by kernel_rfl) (by kernel_rfl) (by kernel_rfl) (fun _ _ _ h => h) (Or.inl ⟨by rfl, ?_⟩) hHeld ?_ ?_
    rotate_left
    · intro w' hSw
      go_split_ands
      go_simp
      with_reducible rfl
    rotate_left
    · simp only [Act.put, List.setIfInBounds_toArray, List.set_cons_zero, List.set_cons_succ]
      rfl
    refine takeH (i := 49) (N := some 92) (v := ?_) (a' := ?_) rfl rfl (by kernel_rfl) (by kernel_rfl) (by kernel_rfl) (fun _ _ _ h => h) (Or.inl ⟨by rfl, ?_⟩) hHeld ?_ ?_
    rotate_left
    · intro w' hSw
      clear hSw
      go_simp
      with_reducible rfl
    rotate_left
    · simp only [Act.put, List.setIfInBounds_toArray, List.set_cons_zero, List.set_cons_succ]
      rfl
    refine wpAnyH_ready (rs := [50]) (by kernel_rfl) (by simp) ?_
    refine AllReadyH.cons rfl (fun K hK => ?_) AllReadyH.nil
    go_simp
    with_reducible refine (hha _).mono ?_
    rintro _ x93 ⟨rfl, hx93⟩
    go_simp
    refine hK.out _ _ (S_of7 E3 E4 b7 b8 b9 b10 (hHeld.1.trans (hx93.mono hHeld.1.size))) (fun hHeld => ?_)
    clear hK K
    refine takeH (i := 51) (N := some 94) (v := ?_) (a' := ?_) rfl rfl (by kernel_rfl) (by kernel_rfl) (by kernel_rfl) (fun _ _ _ h => h) (Or.inl ⟨by rfl, ?_⟩) hHeld ?_ ?_
    rotate_left
    · intro w' hSw
      clear hSw
      go_simp
      with_reducible rfl
    rotate_left
    · simp only [Act.put, List.setIfInBounds_toArray, List.set_cons_zero, List.set_cons_succ]
      rfl
    refine takeH (i := 52) (N := some 95) (v := ?_) (a' := ?_) rfl rfl (by kernel_rfl) (by kernel_rfl) (by kernel_rfl) (fun _ _ _ h => h) (Or.inl ⟨by rfl, ?_⟩) hHeld ?_ ?_
    rotate_left
    · intro w' hSw
      clear hSw
      go_simp
      with_reducible rfl
    rotate_left
    · simp only [Act.put, List.setIfInBounds_toArray, List.set_cons_zero, List.set_cons_succ]
      rfl
    refine takeH (i := 53) (N := some 96) (v := ?_) (a' := ?_) rfl rfl (by kernel_rfl) (by kernel_rfl) (by kernel_rfl) (fun _ _ _ h => h) (Or.inl ⟨by rfl, ?_⟩) hHeld ?_ ?_
    rotate_left
    · intro w' hSw
      clear hSw
      go_simp
      with_reducible rfl
    rotate_left
    · simp only [Act.put, List.setIfInBounds_toArray, List.set_cons_zero, List.set_cons_succ]
      rfl
    refine takeH (i := 54) (N := some 6) (v := ?_) (a' := ?_) rfl rfl (by kernel_rfl) (by kernel_rfl) (by kernel_rfl) (fun _ _ _ h => h) (Or.inl ⟨by rfl, ?_⟩) hHeld ?_ ?_
    rotate_left
    · intro w' hSw
      clear hSw
      go_simp
      with_reducible rfl
    rotate_left
    · simp only [Act.put, List.setIfInBounds_toArray, List.set_cons_zero, List.set_cons_succ]
      rfl
    refine wpAnyH_done (by kernel_rfl) ?_ _
    have HZ := hHeld.1
    go_wp2_with fail
    go_ret
    exact ⟨rfl, EB.trans (HZ.mono EB.size)⟩
theorem hold_c {a b e r : Int} (h : batonref14_Hold.f a b e = some r) (w : World) : Calls Try.prog 42 #[.int .i64 a, .int .i64 b, .int .i64 e] w fun x w' => x = .returned (.int .i64 r) ∧ Below w.heap.size w w' := by
  refine (batonref14_Hold.calls a b e r w h).mono ?_
  rintro x w' ⟨rfl, n, rfl⟩
  exact ⟨rfl, Joins.below_draws _ _ _⟩

theorem CaretMoves (R C T B : Int) (o : Bool) (r c : Int) (q : Bool) (n : Int) (W : World) (_w0 : (Lit.int .i64 R).wf = true) (_w1 : (Lit.int .i64 C).wf = true) (_w2 : (Lit.int .i64 T).wf = true) (_w3 : (Lit.int .i64 B).wf = true) (_w4 : (Lit.int .i64 r).wf = true) (_w5 : (Lit.int .i64 c).wf = true) (_w6 : (Lit.int .i64 n).wf = true) :
    Calls Try.prog 12 #[.agg #[.int .i64 R, .int .i64 C, .int .i64 T, .int .i64 B, .bool o], .agg #[.int .i64 r, .int .i64 c, .bool q], .int .i64 n] W fun e w' => e = .returned (.bool true) ∧ Below W.heap.size W w' := by
  cases hA : areaB R C T B with
  | false => exact moves_out1 R C T B o r c q n W hA
  | true =>
    cases hF : fitsB R C r c q with
    | false => exact moves_out2 R C T B o r c q n W hA hF
    | true =>
      obtain ⟨h1, h2, h3, h4, h5, h6, -⟩ := areaB_spec hA
      obtain ⟨r0, r1, r2, r3, -⟩ := fitsB_specM hF
      have hk := kM_bd n
      exact moves_in R C T B o r c q n (upM T r (kM n)) (dnM R B r (kM n)) (mx (c - kM n) 0) (mn (c + kM n) (C - 1)) W hA hF
        (fun w => caret_Up.calls _ _ _ _ _ _ _ _ _ _ _ _ w (up_some o q h1 h2 h5 r0 r1)) (fun w => caret_Down.calls _ _ _ _ _ _ _ _ _ _ _ _ w (down_some o q h1 h2 h6 r0 r1))
        (fun w => caret_Left.calls _ _ _ _ _ _ _ _ _ _ _ _ w (left_some o q h3 h4 r2 r3)) (fun w => caret_Ahead.calls _ _ _ _ _ _ _ _ _ _ _ _ w (ahead_some o q h3 h4 r2 r3))
        (fun w => batonref14_Step.calls _ _ _ _ _ _ _ _ _ _ w (step_up n o h1 h2 h5 r0 r1)) (fun w => batonref14_Step.calls _ _ _ _ _ _ _ _ _ _ w (step_down n o h1 h2 h6 r0 r1))
        (fun w => hold_c (hold_left r2 r3 hk.1) w) (fun w => hold_c (hold_ahead r2 r3 hk.1) w)
end Go.Proofs.Ytagciaanfjllnaa.Walk
