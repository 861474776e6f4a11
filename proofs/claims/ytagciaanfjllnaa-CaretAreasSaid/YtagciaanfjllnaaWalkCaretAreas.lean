/- CaretAreas, the walk: whatever the area, the place and the two numbers, the call returns true and changes no old memory. -/
import Derived.Test.YtagciaanfjllnaaCaretC
import Derived.Test.YtagciaanfjllnaaRegion
import Derived.Lib.SmallJoins
import Derived.OpenShut
import Derived.Deep.RegionHeld3
import Derived.Deep.DrawnRows
import Derived.Deep.DeepCutAuto
import Derived.Deep.QuietTactic
import Derived.BigQuiet
namespace Go.Proofs.Ytagciaanfjllnaa.Walk
open Go.RowKit Go.Proofs.Ytagciaanfjllnaa.Base Go.Proofs.Ytagciaanfjllnaa.CaretC Go.Proofs.Ytagciaanfjllnaa.Pure.CaretAreas Go.Proofs.Ytagciaanfjllnaa.Reg
set_option linter.unusedVariables false

theorem eqA63 (d : Nat) (w : World) (x0 y0 x1 y1 x2 y2 x3 y3 : Int) (x4 y4 : Bool) :
    (Op.equalIn (d + 2) 63 (.agg #[.int .i64 x0, .int .i64 x1, .int .i64 x2, .int .i64 x3, .bool x4]) (.agg #[.int .i64 y0, .int .i64 y1, .int .i64 y2, .int .i64 y3, .bool y4])).run Try.prog w = .ok (x0 == y0 && (x1 == y1 && (x2 == y2 && (x3 == y3 && (x4 == y4))))) w := by
  refine Go.Proofs.YtagciaanfjllnaaW.PrintWords.eqA_of Try.underlying63 (by kernel_rfl) ?_
  refine Go.Proofs.YtagciaanfjllnaaW.PrintWords.eqf_cons (by rfl) (by go_simp; rfl) (by go_simp; rfl) (by go_simp) ?_
  refine Go.Proofs.YtagciaanfjllnaaW.PrintWords.eqf_cons (by rfl) (by go_simp; rfl) (by go_simp; rfl) (by go_simp) ?_
  refine Go.Proofs.YtagciaanfjllnaaW.PrintWords.eqf_cons (by rfl) (by go_simp; rfl) (by go_simp; rfl) (by go_simp) ?_
  refine Go.Proofs.YtagciaanfjllnaaW.PrintWords.eqf_cons (by rfl) (by go_simp; rfl) (by go_simp; rfl) (by go_simp) ?_
  exact Go.Proofs.YtagciaanfjllnaaW.PrintWords.eqf_last (by rfl) (by go_simp; rfl) (by go_simp; rfl) (by go_simp)
attribute [local go_sem high] eqA63
attribute [local go_sem ↓] Go.wp_at_zero Go.wp_at_succ

theorem boxes {W w1 : World} {a b c : Array Value} (h : Below (((W.alloc (.cells a 63)).alloc (.cells b 65)).alloc (.cells c 28)).heap.size (((W.alloc (.cells a 63)).alloc (.cells b 65)).alloc (.cells c 28)) w1) :
    Blk w1 W.heap.size 63 a ∧ Blk w1 (W.heap.size + 1) 65 b ∧ Blk w1 (W.heap.size + 2) 28 c ∧ Below W.heap.size W w1 := by
  have h4 := Blk.new (W.alloc (.cells a 63)) 65 b
  have h5 := Blk.new ((W.alloc (.cells a 63)).alloc (.cells b 65)) 28 c
  rw [World.size_alloc] at h4 h5
  rw [World.size_alloc] at h5
  exact ⟨(((Blk.new W 63 a).alloc _).alloc _).stays h, (h4.alloc _).stays h, h5.stays h, (Joins.below_alloc3 W _ _ _).trans (h.mono (by simp; omega))⟩

set_option maxHeartbeats 2000000 in
set_option maxRecDepth 100000 in
theorem areas_unsized (R C T B : Int) (o : Bool) (r c : Int) (q : Bool) (s t : Int) (W : World) (hs : ¬ (1 ≤ R ∧ R ≤ 60 ∧ 1 ≤ C ∧ C ≤ 132)) :
    Calls Try.prog 9 #[.agg #[.int .i64 R, .int .i64 C, .int .i64 T, .int .i64 B, .bool o], .agg #[.int .i64 r, .int .i64 c, .bool q], .agg #[.int .i64 s, .int .i64 t]] W fun e w' => e = .returned (.bool true) ∧ Below W.heap.size W w' := by
  have hA : areaB R C T B = false := areaB_false (by omega)
  have hright := fun w => right_c R C T B o w
  have hrefr := fun w => refright_c R C T B o w
  have hwhole := fun w => whole_no_c hs w
  rw [hA] at hright hrefr
  have hcase : R < 1 ∨ (1 ≤ R ∧ 60 < R) ∨ (1 ≤ R ∧ R ≤ 60 ∧ C < 1) ∨ (1 ≤ R ∧ R ≤ 60 ∧ 1 ≤ C ∧ 132 < C) := by omega
  clear hs hA
  rcases hcase with h1 | ⟨h1, h2⟩ | ⟨h1, h2, h3⟩ | ⟨h1, h2, h3, h4⟩
  all_goals
    go_enter Try.func9, Try.ntmps9
    go_wp2_with (first
      | (go_at_call 33; refine (awake_c _).mono ?_; rintro _ w1 ⟨rfl, hb⟩; obtain ⟨B3, B4, B5, HB⟩ := boxes hb; clear hb; obtain ⟨c0, c1, c2, c3, c4⟩ := Blk.five B3)
      | (go_at_call 35; refine (ref_c R C T B o _).mono ?_; rintro _ w2 ⟨rfl, hb2⟩)
      | (go_at_call 34; refine (hrefr _).mono ?_; rintro _ w3 ⟨rfl, hb3⟩; have hb23 := hb2.trans (hb3.mono hb2.size); have G3 := B3.stays hb23; have GB := HB.trans (hb23.mono HB.size); clear c0 c1 c2 c3 c4 hb2 hb3; obtain ⟨c0, c1, c2, c3, c4⟩ := Blk.five G3)
      | (go_at_call 36; refine (hwhole _).mono ?_; rintro _ w4 ⟨rfl, hb4⟩; have K3 := (G3.stays hb4).alloc (.cells #[.int .i64 0, .int .i64 0, .int .i64 0, .int .i64 0, .bool false] 63); have K8 := Blk.new w4 63 #[.int .i64 0, .int .i64 0, .int .i64 0, .int .i64 0, .bool false]; have KB := (GB.trans (hb4.mono GB.size)).alloc (by have := GB.size; have := hb4.size; omega) (.cells #[.int .i64 0, .int .i64 0, .int .i64 0, .int .i64 0, .bool false] 63); clear c0 c1 c2 c3 c4; obtain ⟨c0, c1, c2, c3, c4⟩ := Blk.five K3; obtain ⟨d0, d1, d2, d3, d4⟩ := Blk.five K8)
      | (go_at_call 37; refine (hright _).mono ?_; rintro _ w5 ⟨rfl, hb5⟩; have L8 := K8.stays hb5; have LB := KB.trans (hb5.mono KB.size); clear c0 c1 c2 c3 c4 d0 d1 d2 d3 d4; obtain ⟨d0, d1, d2, d3, d4⟩ := Blk.five L8))
    go_ret
    exact ⟨rfl, LB⟩

set_option maxHeartbeats 2000000 in
set_option maxRecDepth 100000 in
theorem areas_no (R C T B : Int) (o : Bool) (r c : Int) (q : Bool) (s t : Int) (W : World) (hs : 1 ≤ R ∧ R ≤ 60 ∧ 1 ≤ C ∧ C ≤ 132) (hA : areaB R C T B = false) :
    Calls Try.prog 9 #[.agg #[.int .i64 R, .int .i64 C, .int .i64 T, .int .i64 B, .bool o], .agg #[.int .i64 r, .int .i64 c, .bool q], .agg #[.int .i64 s, .int .i64 t]] W fun e w' => e = .returned (.bool true) ∧ Below W.heap.size W w' := by
  have hright := fun w => right_c R C T B o w
  have hrefr := fun w => refright_c R C T B o w
  have hwhole := fun w => whole_yes_c hs w
  rw [hA] at hright hrefr
  obtain ⟨h1, h2, h3, h4⟩ := hs
  clear hA
  go_enter Try.func9, Try.ntmps9
  go_wp2_with (first
      | (go_at_call 33; refine (awake_c _).mono ?_; rintro _ w1 ⟨rfl, hb⟩; obtain ⟨B3, B4, B5, HB⟩ := boxes hb; clear hb; obtain ⟨c0, c1, c2, c3, c4⟩ := Blk.five B3)
      | (go_at_call 35; refine (ref_c R C T B o _).mono ?_; rintro _ w2 ⟨rfl, hb2⟩)
      | (go_at_call 34; refine (hrefr _).mono ?_; rintro _ w3 ⟨rfl, hb3⟩; have hb23 := hb2.trans (hb3.mono hb2.size); have G3 := B3.stays hb23; have G4 := B4.stays hb23; have G5 := B5.stays hb23; have GB := HB.trans (hb23.mono HB.size); clear c0 c1 c2 c3 c4 hb2 hb3 B3 B4 B5 HB hb23; obtain ⟨c0, c1, c2, c3, c4⟩ := Blk.five G3)
      | (go_at_call 36; refine (hwhole _).mono ?_; rintro _ w4 ⟨rfl, hb4⟩; have K3 := (G3.stays hb4).alloc (.cells #[.int .i64 R, .int .i64 C, .int .i64 0, .int .i64 (R - 1), .bool false] 63); have K4 := (G4.stays hb4).alloc (.cells #[.int .i64 R, .int .i64 C, .int .i64 0, .int .i64 (R - 1), .bool false] 63); have K5 := (G5.stays hb4).alloc (.cells #[.int .i64 R, .int .i64 C, .int .i64 0, .int .i64 (R - 1), .bool false] 63); have K8 := Blk.new w4 63 #[.int .i64 R, .int .i64 C, .int .i64 0, .int .i64 (R - 1), .bool false]; have KB := (GB.trans (hb4.mono GB.size)).alloc (by have := GB.size; have := hb4.size; omega) (.cells #[.int .i64 R, .int .i64 C, .int .i64 0, .int .i64 (R - 1), .bool false] 63); clear c0 c1 c2 c3 c4 G3 G4 G5 GB hb4; obtain ⟨c0, c1, c2, c3, c4⟩ := Blk.five K3; obtain ⟨d0, d1, d2, d3, d4⟩ := Blk.five K8)
      | (go_at_call 37; refine (hright _).mono ?_; rintro _ w5 ⟨rfl, hb5⟩; have L3 := K3.stays hb5; have L4 := K4.stays hb5; have L5 := K5.stays hb5; have L8 := K8.stays hb5; have LB := KB.trans (hb5.mono KB.size); clear c0 c1 c2 c3 c4 d0 d1 d2 d3 d4 K3 K4 K5 K8 KB hb5; obtain ⟨c0, c1, c2, c3, c4⟩ := Blk.five L3; obtain ⟨d0, d1, d2, d3, d4⟩ := Blk.five L8))
  go_ret
  exact ⟨rfl, LB⟩

theorem fits_low {R C r c : Int} {q : Bool} (h : ¬ (0 ≤ r ∧ r < R ∧ 0 ≤ c ∧ c < C)) : Value.bool false = .bool (fitsB R C r c q) := by
  unfold fitsB; rw [decide_eq_false h]; rfl
theorem fits_free {R C r c : Int} (h : 0 ≤ r ∧ r < R ∧ 0 ≤ c ∧ c < C) : Value.bool true = .bool (fitsB R C r c false) := by
  unfold fitsB; rw [decide_eq_true h]; rfl
theorem fits_wait {R C r c : Int} (h : 0 ≤ r ∧ r < R ∧ 0 ≤ c ∧ c < C) : Value.bool (c == C - 1) = .bool (fitsB R C r c true) := by
  unfold fitsB; rw [decide_eq_true h]; rfl

set_option maxHeartbeats 4000000 in
set_option maxRecDepth 100000 in
theorem areas_yes (R C T B : Int) (o : Bool) (r c : Int) (q : Bool) (s t : Int) (W : World) (hA : areaB R C T B = true) :
    Calls Try.prog 9 #[.agg #[.int .i64 R, .int .i64 C, .int .i64 T, .int .i64 B, .bool o], .agg #[.int .i64 r, .int .i64 c, .bool q], .agg #[.int .i64 s, .int .i64 t]] W fun e w' => e = .returned (.bool true) ∧ Below W.heap.size W w' := by
  have hright := fun w => right_c R C T B o w
  have hrefr := fun w => refright_c R C T B o w
  obtain ⟨h1, h2, h3, h4, h5, h6, h7⟩ := areaB_spec hA
  have hwhole := fun w => whole_yes_c ⟨h1, h2, h3, h4⟩ w
  rw [hA] at hright hrefr
  clear hA h7
  go_enter Try.func9, Try.ntmps9
  go_upto_region 10 with (first
      | (go_at_call 33; refine (awake_c _).mono ?_; rintro _ w1 ⟨rfl, hb⟩; obtain ⟨B3, B4, B5, HB⟩ := boxes hb; clear hb; obtain ⟨c0, c1, c2, c3, c4⟩ := Blk.five B3)
      | (go_at_call 35; refine (ref_c R C T B o _).mono ?_; rintro _ w2 ⟨rfl, hb2⟩)
      | (go_at_call 34; refine (hrefr _).mono ?_; rintro _ w3 ⟨rfl, hb3⟩; have hb23 := hb2.trans (hb3.mono hb2.size); have G3 := B3.stays hb23; have G4 := B4.stays hb23; have G5 := B5.stays hb23; have GB := HB.trans (hb23.mono HB.size); clear c0 c1 c2 c3 c4 hb2 hb3 B3 B4 B5 HB hb23; obtain ⟨c0, c1, c2, c3, c4⟩ := Blk.five G3)
      | (go_at_call 36; refine (hwhole _).mono ?_; rintro _ w4 ⟨rfl, hb4⟩; have K3 := (G3.stays hb4).alloc (.cells #[.int .i64 R, .int .i64 C, .int .i64 0, .int .i64 (R - 1), .bool false] 63); have K4 := (G4.stays hb4).alloc (.cells #[.int .i64 R, .int .i64 C, .int .i64 0, .int .i64 (R - 1), .bool false] 63); have K5 := (G5.stays hb4).alloc (.cells #[.int .i64 R, .int .i64 C, .int .i64 0, .int .i64 (R - 1), .bool false] 63); have K8 := Blk.new w4 63 #[.int .i64 R, .int .i64 C, .int .i64 0, .int .i64 (R - 1), .bool false]; have KB := (GB.trans (hb4.mono GB.size)).alloc (by have := GB.size; have := hb4.size; omega) (.cells #[.int .i64 R, .int .i64 C, .int .i64 0, .int .i64 (R - 1), .bool false] 63); clear c0 c1 c2 c3 c4 G3 G4 G5 GB hb4; obtain ⟨c0, c1, c2, c3, c4⟩ := Blk.five K3; obtain ⟨d0, d1, d2, d3, d4⟩ := Blk.five K8)
      | (go_at_call 37; refine (hright _).mono ?_; rintro _ w5 ⟨rfl, hb5⟩; have L3 := K3.stays hb5; have L4 := K4.stays hb5; have L5 := K5.stays hb5; have L8 := K8.stays hb5; have LB := KB.trans (hb5.mono KB.size); clear c0 c1 c2 c3 c4 d0 d1 d2 d3 d4 K3 K4 K5 K8 KB hb5; obtain ⟨c0, c1, c2, c3, c4⟩ := Blk.five L3; obtain ⟨d0, d1, d2, d3, d4⟩ := Blk.five L8))
  obtain ⟨e0, e1, e2, -, -, -⟩ := L4.three
  go_cut [11] (fun s11 wx => s11 = .bool (fitsB R C r c q) ∧ wx = w5)
  case first =>
    clear hright hrefr hwhole
    by_cases g1 : 0 ≤ r
    · by_cases g2 : r < R
      · by_cases g3 : 0 ≤ c
        · by_cases g4 : c < C
          · cases q with
            | false =>
              go_wp2_with fail
              go_meet
              exact ⟨fits_free ⟨g1, g2, g3, g4⟩, rfl⟩
            | true =>
              go_wp2_with fail
              go_meet
              exact ⟨fits_wait ⟨g1, g2, g3, g4⟩, rfl⟩
          · go_wp2_with fail
            go_meet
            exact ⟨fits_low (by omega), rfl⟩
        · go_wp2_with fail
          go_meet
          exact ⟨fits_low (by omega), rfl⟩
      · go_wp2_with fail
        go_meet
        exact ⟨fits_low (by omega), rfl⟩
    · go_wp2_with fail
      go_meet
      exact ⟨fits_low (by omega), rfl⟩
  case rest =>
    obtain ⟨rfl, rfl⟩ := hcut
    obtain ⟨z0, z1⟩ := Blk.two L5
    have hfits := fun w => fits_c (R := R) (T := T) (B := B) h3 h4 o r c q w
    obtain ⟨tm, htm⟩ : ∃ tm, tm = topM s := ⟨_, rfl⟩
    obtain ⟨bm, hbm⟩ : ∃ bm, bm = botM R t := ⟨_, rfl⟩
    obtain ⟨xt, hxt⟩ : ∃ xt, xt = tm - 1 := ⟨_, rfl⟩
    have hmar := fun w => margins_c (R := R) C T B o s t h1 h2 w
    have hbd := topM_bd s t R
    rw [← htm, ← hbm] at hmar hbd
    have hsc : (s < 1 ∧ tm = 1 ∧ xt = 0) ∨ (1 ≤ s ∧ tm = s ∧ xt = s - 1) := by
      rw [hxt, htm]; unfold topM
      by_cases hs1 : s < 1
      · rw [if_pos hs1]; omega
      · rw [if_neg hs1]; omega
    have htc : (t < 1 ∧ bm = R) ∨ (1 ≤ t ∧ t ≤ R ∧ bm = t) ∨ (1 ≤ t ∧ R < t ∧ bm = R) := by
      rw [hbm]; unfold botM
      by_cases ht1 : t < 1 ∨ R < t
      · rw [if_pos ht1]; omega
      · rw [if_neg ht1]; omega
    clear htm hbm
    by_cases hok : tm < bm
    · obtain ⟨m1, m2, m3⟩ := hbd hok h1 h2
      clear hbd
      have hd : decide (tm < bm) = true := decide_eq_true hok
      simp only [if_pos hok, hd] at hmar
      have hA2 : areaB R C (tm - 1) (bm - 1) = true := areaB_true (by omega)
      have href2 := fun w => refright_c R C (tm - 1) (bm - 1) o w
      rw [hA2] at href2
      rw [← hxt] at hmar href2
      clear hA2 hd hxt
      go_upto_region 12 with (go_at_call 38; refine (hmar _).mono ?_; rintro _ w6 ⟨rfl, hb6⟩; have M3 := (L3.stays hb6).alloc (.cells #[.int .i64 R, .int .i64 C, .int .i64 xt, .int .i64 (bm - 1), .bool o] 63); have M4 := (L4.stays hb6).alloc (.cells #[.int .i64 R, .int .i64 C, .int .i64 xt, .int .i64 (bm - 1), .bool o] 63); have M5 := (L5.stays hb6).alloc (.cells #[.int .i64 R, .int .i64 C, .int .i64 xt, .int .i64 (bm - 1), .bool o] 63); have M12 := Blk.new w6 63 #[.int .i64 R, .int .i64 C, .int .i64 xt, .int .i64 (bm - 1), .bool o]; have MB := (LB.trans (hb6.mono LB.size)).alloc (by have := LB.size; have := hb6.size; omega) (.cells #[.int .i64 R, .int .i64 C, .int .i64 xt, .int .i64 (bm - 1), .bool o] 63); clear c0 c1 c2 c3 c4 d0 d1 d2 d3 d4 e0 e1 e2 z0 z1 L3 L4 L5 L8 LB hb6; obtain ⟨c0, c1, c2, c3, c4⟩ := Blk.five M3; obtain ⟨d0, d1, d2, d3, d4⟩ := Blk.five M12; obtain ⟨e0, e1, e2, -, -, -⟩ := M4.three; obtain ⟨z0, z1⟩ := Blk.two M5)
      clear m1 m2
      rcases hsc with ⟨hs1, rfl, rfl⟩ | ⟨hs1, rfl, rfl⟩ <;> rcases htc with ⟨ht1, rfl⟩ | ⟨ht1, ht2, rfl⟩ | ⟨ht1, ht2, rfl⟩
      all_goals
        go_quiet (fail)
        go_wp2_with (first
          | (go_at_call 39; refine (hfits _).mono ?_; rintro _ w7 ⟨rfl, hb7⟩; have N3 := (Blk.drewN M3 _).stays hb7; have N12 := (Blk.drewN M12 _).stays hb7; have NB := (Joins.below_le (Below.trans MB (Joins.below_draws _ _ _)) (Nat.le_refl _)).trans (hb7.mono MB.size); clear c0 c1 c2 c3 c4 d0 d1 d2 d3 d4 e0 e1 e2 z0 z1; obtain ⟨c0, c1, c2, c3, c4⟩ := Blk.five N3; obtain ⟨d0, d1, d2, d3, d4⟩ := Blk.five N12)
          | (go_at_call 35; refine (ref_c _ _ _ _ _ _).mono ?_; rintro _ w8 ⟨rfl, hb8⟩)
          | (go_at_call 34; refine (href2 _).mono ?_; rintro _ w9 ⟨rfl, hb9⟩))
        go_ret
        exact ⟨rfl, NB.trans ((hb8.trans (hb9.mono hb8.size)).mono NB.size)⟩
    · clear hbd hxt
      have hd : decide (tm < bm) = false := decide_eq_false hok
      simp only [if_neg hok, hd] at hmar
      go_upto_region 12 with (go_at_call 38; refine (hmar _).mono ?_; rintro _ w6 ⟨rfl, hb6⟩; have M3 := (L3.stays hb6).alloc (.cells #[.int .i64 R, .int .i64 C, .int .i64 (T), .int .i64 (B), .bool o] 63); have M4 := (L4.stays hb6).alloc (.cells #[.int .i64 R, .int .i64 C, .int .i64 (T), .int .i64 (B), .bool o] 63); have M5 := (L5.stays hb6).alloc (.cells #[.int .i64 R, .int .i64 C, .int .i64 (T), .int .i64 (B), .bool o] 63); have M12 := Blk.new w6 63 #[.int .i64 R, .int .i64 C, .int .i64 (T), .int .i64 (B), .bool o]; have MB := (LB.trans (hb6.mono LB.size)).alloc (by have := LB.size; have := hb6.size; omega) (.cells #[.int .i64 R, .int .i64 C, .int .i64 (T), .int .i64 (B), .bool o] 63); clear c0 c1 c2 c3 c4 d0 d1 d2 d3 d4 e0 e1 e2 z0 z1 L3 L4 L5 L8 LB hb6; obtain ⟨c0, c1, c2, c3, c4⟩ := Blk.five M3; obtain ⟨d0, d1, d2, d3, d4⟩ := Blk.five M12; obtain ⟨e0, e1, e2, -, -, -⟩ := M4.three; obtain ⟨z0, z1⟩ := Blk.two M5)
      rcases hsc with ⟨hs1, rfl, rfl⟩ | ⟨hs1, rfl, rfl⟩ <;> rcases htc with ⟨ht1, rfl⟩ | ⟨ht1, ht2, rfl⟩ | ⟨ht1, ht2, rfl⟩
      all_goals
        go_quiet (fail)
        go_wp2_with (go_at_call 39; refine (hfits _).mono ?_; rintro _ w7 ⟨rfl, hb7⟩; have N3 := (Blk.drewN M3 _).stays hb7; have N12 := (Blk.drewN M12 _).stays hb7; have NB := (Joins.below_le (Below.trans MB (Joins.below_draws _ _ _)) (Nat.le_refl _)).trans (hb7.mono MB.size); clear c0 c1 c2 c3 c4 d0 d1 d2 d3 d4 e0 e1 e2 z0 z1; obtain ⟨c0, c1, c2, c3, c4⟩ := Blk.five N3; obtain ⟨d0, d1, d2, d3, d4⟩ := Blk.five N12)
        go_ret
        exact ⟨rfl, NB⟩

theorem CaretAreas (R C T B : Int) (o : Bool) (r c : Int) (q : Bool) (s t : Int) (W : World) (_w0 : (Lit.int .i64 R).wf = true) (_w1 : (Lit.int .i64 C).wf = true) (_w2 : (Lit.int .i64 T).wf = true) (_w3 : (Lit.int .i64 B).wf = true) (_w4 : (Lit.int .i64 r).wf = true) (_w5 : (Lit.int .i64 c).wf = true) (_w6 : (Lit.int .i64 s).wf = true) (_w7 : (Lit.int .i64 t).wf = true) :
    Calls Try.prog 9 #[.agg #[.int .i64 R, .int .i64 C, .int .i64 T, .int .i64 B, .bool o], .agg #[.int .i64 r, .int .i64 c, .bool q], .agg #[.int .i64 s, .int .i64 t]] W fun e w' => e = .returned (.bool true) ∧ Below W.heap.size W w' := by
  by_cases hs : 1 ≤ R ∧ R ≤ 60 ∧ 1 ≤ C ∧ C ≤ 132
  · cases hA : areaB R C T B with
    | true => exact areas_yes R C T B o r c q s t W hA
    | false => exact areas_no R C T B o r c q s t W hs hA
  · exact areas_unsized R C T B o r c q s t W hs
end Go.Proofs.Ytagciaanfjllnaa.Walk
