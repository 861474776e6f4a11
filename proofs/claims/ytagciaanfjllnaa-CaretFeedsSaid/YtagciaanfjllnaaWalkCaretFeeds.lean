/- CaretFeeds, the walk: whatever the area, the place and the mark, the call returns true and changes no old memory. -/
import Derived.Test.YtagciaanfjllnaaCaretC
import Derived.Test.YtagciaanfjllnaaPureCaretFeeds
import Derived.Test.YtagciaanfjllnaaPCaretFeedsx1
import Derived.Test.YtagciaanfjllnaaRegion
import Derived.Lib.SmallJoins
import Derived.OpenShut
import Derived.RegionTactic
import Derived.ChangeAlike
import Derived.BigRegion
import Derived.Deep.RegionHeld3
import Derived.Deep.DrawnRows
import Derived.Deep.DeepCutAuto
namespace Go.Proofs.Ytagciaanfjllnaa.Walk
open Go.RowKit Go.Proofs.Ytagciaanfjllnaa.Base Go.Proofs.Ytagciaanfjllnaa.CaretC Go.Proofs.Ytagciaanfjllnaa.Pure.CaretAreas Go.Proofs.Ytagciaanfjllnaa.Reg Go.Proofs.Ytagciaanfjllnaa.PCaretFeeds Go.Proofs.Ytagciaanfjllnaa.Pure.CaretFeeds
set_option linter.unusedVariables false
attribute [local go_sem high] Go.Proofs.Ytagciaanfjllnaa.PCaretFeeds.eqA65
attribute [local go_sem ↓] Go.wp_at_zero Go.wp_at_succ

theorem boxes2 {W w1 : World} {a b : Array Value} (h : Below ((W.alloc (.cells a 63)).alloc (.cells b 65)).heap.size ((W.alloc (.cells a 63)).alloc (.cells b 65)) w1) :
    Blk w1 W.heap.size 63 a ∧ Blk w1 (W.heap.size + 1) 65 b ∧ Below W.heap.size W w1 := by
  have h4 := Blk.new (W.alloc (.cells a 63)) 65 b
  rw [World.size_alloc] at h4
  exact ⟨((Blk.new W 63 a).alloc _).stays h, h4.stays h, (Joins.below_alloc2 W _ _).trans (h.mono (by simp; omega))⟩

theorem fitsB_spec {R C r c : Int} {q : Bool} (h : fitsB R C r c q = true) : 0 ≤ r ∧ r < R ∧ 0 ≤ c ∧ c < C ∧ (q = true → c = C - 1) := by
  unfold fitsB at h
  simp at h
  obtain ⟨⟨h1, h2, h3, h4⟩, h5⟩ := h
  exact ⟨h1, h2, h3, h4, fun hq => by
    rcases h5 with h5 | h5
    · rw [hq] at h5; cases h5
    · exact h5⟩

set_option maxHeartbeats 1000000 in
set_option maxRecDepth 100000 in
theorem feeds_out1 (R C T B : Int) (o : Bool) (r c : Int) (q s : Bool) (W : World) (hA : areaB R C T B = false) :
    Calls Try.prog 11 #[.agg #[.int .i64 R, .int .i64 C, .int .i64 T, .int .i64 B, .bool o], .agg #[.int .i64 r, .int .i64 c, .bool q], .bool s] W fun e w' => e = .returned (.bool true) ∧ Below W.heap.size W w' := by
  have hrefr := fun w => refright_c R C T B o w
  rw [hA] at hrefr
  clear hA
  go_enter Try.func11, Try.ntmps11
  go_wp2_with (first
    | (go_at_call 33; refine (awake_c _).mono ?_; rintro _ w1 ⟨rfl, hb⟩; obtain ⟨B3, B4, HB⟩ := boxes2 hb; clear hb; obtain ⟨c0, c1, c2, c3, c4⟩ := Blk.five B3)
    | (go_at_call 35; refine (ref_c R C T B o _).mono ?_; rintro _ w2 ⟨rfl, hb2⟩)
    | (go_at_call 34; refine (hrefr _).mono ?_; rintro _ w3 ⟨rfl, hb3⟩; have hb23 := hb2.trans (hb3.mono hb2.size); have GB := HB.trans (hb23.mono HB.size)))
  go_ret
  exact ⟨rfl, GB⟩

set_option maxHeartbeats 1000000 in
set_option maxRecDepth 100000 in
theorem feeds_out2 (R C T B : Int) (o : Bool) (r c : Int) (q s : Bool) (W : World) (hA : areaB R C T B = true) (hF : fitsB R C r c q = false) :
    Calls Try.prog 11 #[.agg #[.int .i64 R, .int .i64 C, .int .i64 T, .int .i64 B, .bool o], .agg #[.int .i64 r, .int .i64 c, .bool q], .bool s] W fun e w' => e = .returned (.bool true) ∧ Below W.heap.size W w' := by
  have hrefr := fun w => refright_c R C T B o w
  obtain ⟨h1, h2, h3, h4, -, -, -⟩ := areaB_spec hA
  have hfits := fun w => fits_c (R := R) (T := T) (B := B) h3 h4 o r c q w
  rw [hA] at hrefr
  rw [hF] at hfits
  clear hA hF
  go_enter Try.func11, Try.ntmps11
  go_wp2_with (first
    | (go_at_call 33; refine (awake_c _).mono ?_; rintro _ w1 ⟨rfl, hb⟩; obtain ⟨B3, B4, HB⟩ := boxes2 hb; clear hb; obtain ⟨c0, c1, c2, c3, c4⟩ := Blk.five B3)
    | (go_at_call 35; refine (ref_c R C T B o _).mono ?_; rintro _ w2 ⟨rfl, hb2⟩)
    | (go_at_call 34; refine (hrefr _).mono ?_; rintro _ w3 ⟨rfl, hb3⟩; have hb23 := hb2.trans (hb3.mono hb2.size); have G3 := B3.stays hb23; have G4 := B4.stays hb23; have GB := HB.trans (hb23.mono HB.size); clear c0 c1 c2 c3 c4; obtain ⟨c0, c1, c2, c3, c4⟩ := Blk.five G3; obtain ⟨e0, e1, e2, -, -, -⟩ := G4.three)
    | (go_at_call 39; refine (hfits _).mono ?_; rintro _ w4 ⟨rfl, hb4⟩))
  go_ret
  exact ⟨rfl, GB.trans (hb4.mono GB.size)⟩

theorem S_of8 {W w8 w' : World} {R C T B r c : Int} {o q : Bool} (N3 : Blk w8 W.heap.size 63 #[.int .i64 R, .int .i64 C, .int .i64 T, .int .i64 B, .bool o]) (N4 : Blk w8 (W.heap.size + 1) 65 #[.int .i64 r, .int .i64 c, .bool q]) (h : Below w8.heap.size w8 w') :
    Below w8.heap.size w8 w' ∧ (w'.cell? ⟨W.heap.size, 0, none⟩ = some (.int .i64 R) ∧ w'.cell? ⟨W.heap.size, 1, none⟩ = some (.int .i64 C) ∧ w'.cell? ⟨W.heap.size, 2, none⟩ = some (.int .i64 T) ∧ w'.cell? ⟨W.heap.size, 3, none⟩ = some (.int .i64 B) ∧ w'.cell? ⟨W.heap.size, 4, none⟩ = some (.bool o)) ∧ (w'.cell? ⟨W.heap.size + 1, 0, none⟩ = some (.int .i64 r) ∧ w'.cell? ⟨W.heap.size + 1, 1, none⟩ = some (.int .i64 c) ∧ w'.cell? ⟨W.heap.size + 1, 2, none⟩ = some (.bool q)) :=
  ⟨h, Blk.five (N3.stays h), (N4.stays h).cell 0, (N4.stays h).cell 1, (N4.stays h).cell 2⟩

theorem two_a {w8 : World} {v : Array Value} : ∃ g12 g13 : Nat, Value.pointer (some ⟨w8.heap.size, 0, none⟩) = .pointer (some ⟨g12, 0, none⟩) ∧ Value.pointer (some ⟨w8.heap.size + 1, 0, none⟩) = .pointer (some ⟨g13, 0, none⟩) ∧ g12 ≠ g13 ∧ w8.heap.size ≤ g12 ∧ w8.heap.size ≤ g13 ∧
    Blk ((w8.alloc (.cells v 65)).alloc (.cells v 65)).drew g12 65 v ∧ Blk ((w8.alloc (.cells v 65)).alloc (.cells v 65)).drew g13 65 v ∧ Below w8.heap.size w8 ((w8.alloc (.cells v 65)).alloc (.cells v 65)).drew := by
  have h := Blk.new (w8.alloc (.cells v 65)) 65 v
  rw [World.size_alloc] at h
  exact ⟨_, _, rfl, rfl, by omega, by omega, by omega, (((Blk.new w8 65 v).alloc _).drew), h.drew, (Joins.below_alloc2 _ _ _).drew⟩
theorem two_b {w8 : World} {v : Array Value} : ∃ g12 g13 : Nat, Value.pointer (some ⟨w8.heap.size + 1, 0, none⟩) = .pointer (some ⟨g12, 0, none⟩) ∧ Value.pointer (some ⟨w8.heap.size, 0, none⟩) = .pointer (some ⟨g13, 0, none⟩) ∧ g12 ≠ g13 ∧ w8.heap.size ≤ g12 ∧ w8.heap.size ≤ g13 ∧
    Blk ((w8.alloc (.cells v 65)).alloc (.cells v 65)).drew g12 65 v ∧ Blk ((w8.alloc (.cells v 65)).alloc (.cells v 65)).drew g13 65 v ∧ Below w8.heap.size w8 ((w8.alloc (.cells v 65)).alloc (.cells v 65)).drew := by
  obtain ⟨a, b, h1, h2, h3, h4, h5, h6, h7, h8⟩ := two_a (w8 := w8) (v := v)
  exact ⟨b, a, h2, h1, Ne.symm h3, h5, h4, h7, h6, h8⟩

set_option maxHeartbeats 4000000 in
set_option maxRecDepth 100000 in
theorem feeds_in (R C T B : Int) (o : Bool) (r c : Int) (q s : Bool) (d u fu bu wc : Int) (ww : Bool) (W : World) (hA : areaB R C T B = true) (hF : fitsB R C r c q = true)
    (hfeed : ∀ w, Calls Try.prog 43 #[.agg #[.int .i64 R, .int .i64 C, .int .i64 T, .int .i64 B, .bool o], .agg #[.int .i64 r, .int .i64 c, .bool q]] w fun e w' => e = .returned (.tuple #[.agg #[.int .i64 d, .int .i64 c, .bool q], .int .i64 fu]) ∧ Below w.heap.size w w')
    (hback : ∀ w, Calls Try.prog 44 #[.agg #[.int .i64 R, .int .i64 C, .int .i64 T, .int .i64 B, .bool o], .agg #[.int .i64 r, .int .i64 c, .bool q]] w fun e w' => e = .returned (.tuple #[.agg #[.int .i64 u, .int .i64 c, .bool q], .int .i64 bu]) ∧ Below w.heap.size w w')
    (hwrote : ∀ w, Calls Try.prog 45 #[.agg #[.int .i64 R, .int .i64 C, .int .i64 T, .int .i64 B, .bool o], .agg #[.int .i64 r, .int .i64 c, .bool q], .bool s] w fun e w' => e = .returned (.agg #[.int .i64 r, .int .i64 wc, .bool ww]) ∧ Below w.heap.size w w')
    (hsd : ∀ w, Calls Try.prog 46 #[.agg #[.int .i64 R, .int .i64 C, .int .i64 T, .int .i64 B, .bool o], .int .i64 r, .int .i64 1, .int .i64 1] w fun e w' => e = .returned (.int .i64 d) ∧ Below w.heap.size w w')
    (hsu : ∀ w, Calls Try.prog 46 #[.agg #[.int .i64 R, .int .i64 C, .int .i64 T, .int .i64 B, .bool o], .int .i64 r, .int .i64 (-1), .int .i64 1] w fun e w' => e = .returned (.int .i64 u) ∧ Below w.heap.size w w')
    (hfu : (fu = 1 ∧ (r == B) = true) ∨ (fu = 0 ∧ (r == B) = false)) (hbu : (bu = 1 ∧ (r == T) = true) ∨ (bu = 0 ∧ (r == T) = false))
    (hwc : ((c == C - 1) = true ∧ wc = c ∧ ww = s) ∨ ((c == C - 1) = false ∧ wc = c + 1 ∧ ww = false)) :
    Calls Try.prog 11 #[.agg #[.int .i64 R, .int .i64 C, .int .i64 T, .int .i64 B, .bool o], .agg #[.int .i64 r, .int .i64 c, .bool q], .bool s] W fun e w' => e = .returned (.bool true) ∧ Below W.heap.size W w' := by
  have hrefr := fun w => refright_c R C T B o w
  obtain ⟨h1, h2, h3, h4, -, -, -⟩ := areaB_spec hA
  obtain ⟨r0, r1, r2, r3, -⟩ := fitsB_spec hF
  have hfits := fun w => fits_c (R := R) (T := T) (B := B) h3 h4 o r c q w
  rw [hA] at hrefr
  rw [hF] at hfits
  clear hA hF
  go_enter Try.func11, Try.ntmps11
  go_upto_region 8 with (first
    | (go_at_call 33; refine (awake_c _).mono ?_; rintro _ w1 ⟨rfl, hb⟩; obtain ⟨B3, B4, HB⟩ := boxes2 hb; clear hb; obtain ⟨c0, c1, c2, c3, c4⟩ := Blk.five B3)
    | (go_at_call 35; refine (ref_c R C T B o _).mono ?_; rintro _ w2 ⟨rfl, hb2⟩)
    | (go_at_call 34; refine (hrefr _).mono ?_; rintro _ w3 ⟨rfl, hb3⟩; have hb23 := hb2.trans (hb3.mono hb2.size); have G3 := B3.stays hb23; have G4 := B4.stays hb23; have GB := HB.trans (hb23.mono HB.size); clear c0 c1 c2 c3 c4 B3 B4 HB hb2 hb3 hb23; obtain ⟨c0, c1, c2, c3, c4⟩ := Blk.five G3; obtain ⟨e0, e1, e2, -, -, -⟩ := G4.three)
    | (go_at_call 39; refine (hfits _).mono ?_; rintro _ w4 ⟨rfl, hb4⟩; have K3 := G3.stays hb4; have K4 := G4.stays hb4; have KB := GB.trans (hb4.mono GB.size); clear c0 c1 c2 c3 c4 e0 e1 e2 G3 G4 GB hb4; obtain ⟨c0, c1, c2, c3, c4⟩ := Blk.five K3; obtain ⟨e0, e1, e2, -, -, -⟩ := K4.three)
    | (go_at_call 43; refine (hfeed _).mono ?_; rintro _ w5 ⟨rfl, hb5⟩; have L3 := (K3.stays hb5).alloc (.cells #[.int .i64 d, .int .i64 c, .bool q] 65); have L4 := (K4.stays hb5).alloc (.cells #[.int .i64 d, .int .i64 c, .bool q] 65); have L7 := Blk.new w5 65 #[.int .i64 d, .int .i64 c, .bool q]; have LB := (KB.trans (hb5.mono KB.size)).alloc (by have := KB.size; have := hb5.size; omega) (.cells #[.int .i64 d, .int .i64 c, .bool q] 65); clear c0 c1 c2 c3 c4 e0 e1 e2 K3 K4 KB hb5; obtain ⟨c0, c1, c2, c3, c4⟩ := Blk.five L3; obtain ⟨e0, e1, e2, -, -, -⟩ := L4.three)
    | (go_at_call 44; refine (hback _).mono ?_; rintro _ w6 ⟨rfl, hb6⟩; have M3 := (L3.stays hb6).alloc (.cells #[.int .i64 u, .int .i64 c, .bool q] 65); have M4 := (L4.stays hb6).alloc (.cells #[.int .i64 u, .int .i64 c, .bool q] 65); have M7 := (L7.stays hb6).alloc (.cells #[.int .i64 u, .int .i64 c, .bool q] 65); have M9 := Blk.new w6 65 #[.int .i64 u, .int .i64 c, .bool q]; have MB := (LB.trans (hb6.mono LB.size)).alloc (by have := LB.size; have := hb6.size; omega) (.cells #[.int .i64 u, .int .i64 c, .bool q] 65); clear c0 c1 c2 c3 c4 e0 e1 e2 L3 L4 L7 LB hb6; obtain ⟨c0, c1, c2, c3, c4⟩ := Blk.five M3; obtain ⟨e0, e1, e2, -, -, -⟩ := M4.three)
    | (go_at_call 45; refine (hwrote _).mono ?_; rintro _ w7 ⟨rfl, hb7⟩; have N3 := (M3.stays hb7).alloc (.cells #[.int .i64 r, .int .i64 wc, .bool ww] 65); have N4 := (M4.stays hb7).alloc (.cells #[.int .i64 r, .int .i64 wc, .bool ww] 65); have N7 := (M7.stays hb7).alloc (.cells #[.int .i64 r, .int .i64 wc, .bool ww] 65); have N9 := (M9.stays hb7).alloc (.cells #[.int .i64 r, .int .i64 wc, .bool ww] 65); have N11 := Blk.new w7 65 #[.int .i64 r, .int .i64 wc, .bool ww]; have NB := (MB.trans (hb7.mono MB.size)).alloc (by have := MB.size; have := hb7.size; omega) (.cells #[.int .i64 r, .int .i64 wc, .bool ww] 65); clear c0 c1 c2 c3 c4 e0 e1 e2 M3 M4 M7 M9 MB hb7; obtain ⟨c0, c1, c2, c3, c4⟩ := Blk.five N3; obtain ⟨e0, e1, e2, -, -, -⟩ := N4.three))
  generalize w7.alloc (.cells #[.int .i64 r, .int .i64 wc, .bool ww] 65) = w8 at *
  go_cut [12, 13] (fun s12 s13 wx => ∃ g12 g13 : Nat, s12 = .pointer (some ⟨g12, 0, none⟩) ∧ s13 = .pointer (some ⟨g13, 0, none⟩) ∧ g12 ≠ g13 ∧ w8.heap.size ≤ g12 ∧ w8.heap.size ≤ g13 ∧ Blk wx g12 65 #[.int .i64 r, .int .i64 c, .bool q] ∧ Blk wx g13 65 #[.int .i64 r, .int .i64 c, .bool q] ∧ Below w8.heap.size w8 wx)
  case first =>
    have hz4 := N4.lt
    have hz4b : W.heap.size + 1 < w8.heap.size + 1 := by omega
    have hz4c : W.heap.size < w8.heap.size := by omega
    go_region
    all_goals (go_wp2_with fail; go_meet)
    all_goals (first | exact two_a | exact two_b)
  case rest =>
    obtain ⟨g12, g13, rfl, rfl, hne, hg12, hg13, Q12, Q13, HX⟩ := hcut
    clear c0 c1 c2 c3 c4 e0 e1 e2
    go_wp2_with fail
    refine wp_region_held_drew (S := (fun w' => Below w8.heap.size w8 w' ∧ (w'.cell? ⟨W.heap.size, 0, none⟩ = some (.int .i64 R) ∧ w'.cell? ⟨W.heap.size, 1, none⟩ = some (.int .i64 C) ∧ w'.cell? ⟨W.heap.size, 2, none⟩ = some (.int .i64 T) ∧ w'.cell? ⟨W.heap.size, 3, none⟩ = some (.int .i64 B) ∧ w'.cell? ⟨W.heap.size, 4, none⟩ = some (.bool o)) ∧ (w'.cell? ⟨W.heap.size + 1, 0, none⟩ = some (.int .i64 r) ∧ w'.cell? ⟨W.heap.size + 1, 1, none⟩ = some (.int .i64 c) ∧ w'.cell? ⟨W.heap.size + 1, 2, none⟩ = some (.bool q)))) (by kernel_rfl) (S_of8 N3 N4 HX.drew) (fun hHeld => ?_)
    refine takeH (i := 0) (N := some 44) (v := ?_) (a' := ?_) rfl rfl (by kernel_rfl) (by kernel_rfl) (by kernel_rfl) (fun _ _ _ h => h) (Or.inl ⟨by rfl, ?_⟩) hHeld ?_ ?_
    rotate_left
    · intro w' hSw
      go_split_ands
      go_simp
      with_reducible rfl
    rotate_left
    · simp only [Act.put, List.setIfInBounds_toArray, List.set_cons_zero, List.set_cons_succ]
      rfl
    refine takeH (i := 2) (N := some 46) (v := ?_) (a' := ?_) rfl rfl (by kernel_rfl) (by kernel_rfl) (by kernel_rfl) (fun _ _ _ h => h) (Or.inl ⟨by rfl, ?_⟩) hHeld ?_ ?_
    rotate_left
    · intro w' hSw
      clear hSw
      go_simp
      with_reducible rfl
    rotate_left
    · simp only [Act.put, List.setIfInBounds_toArray, List.set_cons_zero, List.set_cons_succ]
      rfl
    refine takeH (i := 3) (N := some 47) (v := ?_) (a' := ?_) rfl rfl (by kernel_rfl) (by kernel_rfl) (by kernel_rfl) (fun _ _ _ h => h) (Or.inl ⟨by rfl, ?_⟩) hHeld ?_ ?_
    rotate_left
    · intro w' hSw
      go_split_ands
      go_simp
      with_reducible rfl
    rotate_left
    · simp only [Act.put, List.setIfInBounds_toArray, List.set_cons_zero, List.set_cons_succ]
      rfl
    refine wpAnyH_ready (rs := [1]) (by kernel_rfl) (by simp) ?_
    refine AllReadyH.cons rfl (fun K hK => ?_) AllReadyH.nil
    go_simp
    refine (ref_c R C T B o _).mono ?_
    rintro _ x1 ⟨rfl, hx1⟩
    go_simp
    refine hK.out _ _ (S_of8 N3 N4 (hHeld.1.trans (hx1.mono hHeld.1.size))) (fun hHeld => ?_)
    clear hK K
    refine wpAnyH_ready (rs := [4]) (by kernel_rfl) (by simp) ?_
    refine AllReadyH.cons rfl (fun K hK => ?_) AllReadyH.nil
    go_simp
    refine (hsd _).mono ?_
    rintro _ x2 ⟨rfl, hx2⟩
    have P12 := ((Q12.drew).stays hx1).stays hx2
    have P13 := ((Q13.drew).stays hx1).stays hx2
    obtain ⟨y0, y1, y2, f0, f1, f2⟩ := P12.three
    go_simp
    refine hK.out _ _ (S_of8 N3 N4 (hHeld.1.trans (hx2.mono hHeld.1.size))) (fun hHeld => ?_)
    clear hK K
    refine takeH (i := 5) (N := some 49) (v := ?_) (a' := ?_) rfl rfl (by kernel_rfl) (by kernel_rfl) (by kernel_rfl) (fun _ _ _ h => h) (Or.inl ⟨by rfl, ?_⟩) hHeld ?_ ?_
    rotate_left
    · intro w' hSw
      clear hSw
      go_simp
      with_reducible rfl
    rotate_left
    · simp only [Act.put, List.setIfInBounds_toArray, List.set_cons_zero, List.set_cons_succ]
      rfl
    refine wpAnyH_ready (rs := [6]) (by kernel_rfl) (by simp) ?_
    refine AllReadyH.cons rfl (fun K hK => ?_) AllReadyH.nil
    go_simp
    refine hK.out _ _ (S_of8 N3 N4 (hHeld.1.setCell (p := ⟨g12, 0, none⟩) hg12 _)) (fun hHeld => ?_)
    clear hK K
    refine wpAnyH_done (by kernel_rfl) ?_ _
    have HY := hHeld.1
    have R12 := P12.set_ 0 (.int .i64 d)
    have R13 := P13.far (p := ⟨g12, 0, none⟩) (Ne.symm hne) (.int .i64 d)
    clear hHeld y0 y1 y2 f0 f1 f2 P12 P13 hx1 hx2
    generalize x2.setCell ⟨g12, 0, none⟩ (.int .i64 d) = x3 at *
    go_wp2_with fail
    refine wp_region_held_drew (S := (fun w' => Below w8.heap.size w8 w' ∧ (w'.cell? ⟨W.heap.size, 0, none⟩ = some (.int .i64 R) ∧ w'.cell? ⟨W.heap.size, 1, none⟩ = some (.int .i64 C) ∧ w'.cell? ⟨W.heap.size, 2, none⟩ = some (.int .i64 T) ∧ w'.cell? ⟨W.heap.size, 3, none⟩ = some (.int .i64 B) ∧ w'.cell? ⟨W.heap.size, 4, none⟩ = some (.bool o)) ∧ (w'.cell? ⟨W.heap.size + 1, 0, none⟩ = some (.int .i64 r) ∧ w'.cell? ⟨W.heap.size + 1, 1, none⟩ = some (.int .i64 c) ∧ w'.cell? ⟨W.heap.size + 1, 2, none⟩ = some (.bool q)))) (by kernel_rfl) (S_of8 N3 N4 HY.drew) (fun hHeld => ?_)
    refine takeH (i := 0) (N := some 50) (v := ?_) (a' := ?_) rfl rfl (by kernel_rfl) (by kernel_rfl) (by kernel_rfl) (fun _ _ _ h => h) (Or.inl ⟨by rfl, ?_⟩) hHeld ?_ ?_
    rotate_left
    · intro w' hSw
      go_split_ands
      go_simp
      with_reducible rfl
    rotate_left
    · simp only [Act.put, List.setIfInBounds_toArray, List.set_cons_zero, List.set_cons_succ]
      rfl
    refine takeH (i := 2) (N := some 52) (v := ?_) (a' := ?_) rfl rfl (by kernel_rfl) (by kernel_rfl) (by kernel_rfl) (fun _ _ _ h => h) (Or.inl ⟨by rfl, ?_⟩) hHeld ?_ ?_
    rotate_left
    · intro w' hSw
      clear hSw
      go_simp
      with_reducible rfl
    rotate_left
    · simp only [Act.put, List.setIfInBounds_toArray, List.set_cons_zero, List.set_cons_succ]
      rfl
    refine takeH (i := 3) (N := some 53) (v := ?_) (a' := ?_) rfl rfl (by kernel_rfl) (by kernel_rfl) (by kernel_rfl) (fun _ _ _ h => h) (Or.inl ⟨by rfl, ?_⟩) hHeld ?_ ?_
    rotate_left
    · intro w' hSw
      go_split_ands
      go_simp
      with_reducible rfl
    rotate_left
    · simp only [Act.put, List.setIfInBounds_toArray, List.set_cons_zero, List.set_cons_succ]
      rfl
    refine wpAnyH_ready (rs := [1]) (by kernel_rfl) (by simp) ?_
    refine AllReadyH.cons rfl (fun K hK => ?_) AllReadyH.nil
    go_simp
    refine (ref_c R C T B o _).mono ?_
    rintro _ x1n ⟨rfl, hx1n⟩
    go_simp
    refine hK.out _ _ (S_of8 N3 N4 (hHeld.1.trans (hx1n.mono hHeld.1.size))) (fun hHeld => ?_)
    clear hK K
    refine wpAnyH_ready (rs := [4]) (by kernel_rfl) (by simp) ?_
    refine AllReadyH.cons rfl (fun K hK => ?_) AllReadyH.nil
    go_simp
    refine (hsu _).mono ?_
    rintro _ x2n ⟨rfl, hx2n⟩
    have P12n := ((R12.drew).stays hx1n).stays hx2n
    have P13n := ((R13.drew).stays hx1n).stays hx2n
    obtain ⟨y0, y1, y2, f0, f1, f2⟩ := P13n.three
    go_simp
    refine hK.out _ _ (S_of8 N3 N4 (hHeld.1.trans (hx2n.mono hHeld.1.size))) (fun hHeld => ?_)
    clear hK K
    refine takeH (i := 5) (N := some 55) (v := ?_) (a' := ?_) rfl rfl (by kernel_rfl) (by kernel_rfl) (by kernel_rfl) (fun _ _ _ h => h) (Or.inl ⟨by rfl, ?_⟩) hHeld ?_ ?_
    rotate_left
    · intro w' hSw
      clear hSw
      go_simp
      with_reducible rfl
    rotate_left
    · simp only [Act.put, List.setIfInBounds_toArray, List.set_cons_zero, List.set_cons_succ]
      rfl
    refine wpAnyH_ready (rs := [6]) (by kernel_rfl) (by simp) ?_
    refine AllReadyH.cons rfl (fun K hK => ?_) AllReadyH.nil
    go_simp
    refine hK.out _ _ (S_of8 N3 N4 (hHeld.1.setCell (p := ⟨g13, 0, none⟩) hg13 _)) (fun hHeld => ?_)
    clear hK K
    refine wpAnyH_done (by kernel_rfl) ?_ _
    have HZ := hHeld.1
    have T12 := P12n.far (p := ⟨g13, 0, none⟩) hne (.int .i64 u)
    have T13 := P13n.set_ 0 (.int .i64 u)
    clear hHeld y0 y1 y2 f0 f1 f2 P12n P13n hx1n hx2n R12 R13 HY HX Q12 Q13
    generalize x2n.setCell ⟨g13, 0, none⟩ (.int .i64 u) = x4 at *
    have E3 := N3.stays HZ
    have E4 := N4.stays HZ
    have E7 := N7.stays HZ
    have E9 := N9.stays HZ
    have E11 := N11.stays HZ
    have EB := NB.trans (HZ.mono NB.size)
    clear N3 N4 N7 N9 N11 NB HZ
    obtain ⟨c0, c1, c2, c3, c4⟩ := Blk.five E3
    obtain ⟨e0, e1, e2, -, -, -⟩ := E4.three
    obtain ⟨i0, i1, i2, -, -, -⟩ := E7.three
    obtain ⟨j0, j1, j2, -, -, -⟩ := E9.three
    obtain ⟨k0, k1, k2, -, -, -⟩ := E11.three
    obtain ⟨l0, l1, l2, -, -, -⟩ := Blk.three (a := .int .i64 d) (b := .int .i64 c) (c := .bool q) T12
    obtain ⟨m0, m1, m2, -, -, -⟩ := Blk.three (a := .int .i64 u) (b := .int .i64 c) (c := .bool q) T13
    clear E3 E4 E7 E9 E11 T12 T13 hfeed hback hwrote hsd hsu hrefr hfits
    rcases hfu with ⟨rfl, hfu⟩ | ⟨rfl, hfu⟩ <;> rcases hbu with ⟨rfl, hbu⟩ | ⟨rfl, hbu⟩ <;> rcases hwc with ⟨hwc, rfl, rfl⟩ | ⟨hwc, rfl, rfl⟩
    all_goals
      go_wp2_with fail
      go_ret
      exact ⟨rfl, EB⟩

theorem CaretFeeds (R C T B : Int) (o : Bool) (r c : Int) (q s : Bool) (W : World) (_w0 : (Lit.int .i64 R).wf = true) (_w1 : (Lit.int .i64 C).wf = true) (_w2 : (Lit.int .i64 T).wf = true) (_w3 : (Lit.int .i64 B).wf = true) (_w4 : (Lit.int .i64 r).wf = true) (_w5 : (Lit.int .i64 c).wf = true) :
    Calls Try.prog 11 #[.agg #[.int .i64 R, .int .i64 C, .int .i64 T, .int .i64 B, .bool o], .agg #[.int .i64 r, .int .i64 c, .bool q], .bool s] W fun e w' => e = .returned (.bool true) ∧ Below W.heap.size W w' := by
  cases hA : areaB R C T B with
  | false => exact feeds_out1 R C T B o r c q s W hA
  | true =>
    cases hF : fitsB R C r c q with
    | false => exact feeds_out2 R C T B o r c q s W hA hF
    | true =>
      obtain ⟨h1, h2, h3, h4, -, -, -⟩ := areaB_spec hA
      obtain ⟨r0, r1, r2, r3, -⟩ := fitsB_spec hF
      refine feeds_in R C T B o r c q s (dn R B r) (up1 T r) (if r = B then 1 else 0) (if r = T then 1 else 0) (if c = C - 1 then c else c + 1) (if c = C - 1 then s else false) W hA hF
        (fun w => caret_Feed.calls _ _ _ _ _ _ _ _ _ _ _ _ w (feed_some o q h1 h2 r0 r1)) (fun w => caret_Back.calls _ _ _ _ _ _ _ _ _ _ _ _ w (back_some o q h1 h2 r0 r1)) (fun w => ?_)
        (fun w => ?_) (fun w => ?_) ?_ ?_ ?_
      · by_cases hc : c = C - 1
        · rw [if_pos hc, if_pos hc]; exact caret_Wrote.calls _ _ _ _ _ _ _ _ _ _ _ _ w (wrote_end o q s h3 h4 hc)
        · rw [if_neg hc, if_neg hc]; exact caret_Wrote.calls _ _ _ _ _ _ _ _ _ _ _ _ w (wrote_on o q s h3 h4 r2 r3 hc)
      · exact batonref14_Step.calls _ _ _ _ _ _ _ _ _ _ w (step_down 0 o h1 h2 r0 r1)
      · exact batonref14_Step.calls _ _ _ _ _ _ _ _ _ _ w (step_up 0 o h1 h2 r0 r1)
      · by_cases hc : r = B
        · left; rw [if_pos hc]; exact ⟨rfl, by simp [hc]⟩
        · right; rw [if_neg hc]; exact ⟨rfl, by simp [hc]⟩
      · by_cases hc : r = T
        · left; rw [if_pos hc]; exact ⟨rfl, by simp [hc]⟩
        · right; rw [if_neg hc]; exact ⟨rfl, by simp [hc]⟩
      · by_cases hc : c = C - 1
        · left; rw [if_pos hc, if_pos hc]; exact ⟨by simp [hc], rfl, rfl⟩
        · right; rw [if_neg hc, if_neg hc]; exact ⟨by simp [hc], rfl, rfl⟩
end Go.Proofs.Ytagciaanfjllnaa.Walk
