/- The law TopKeys: the contract of inbox.Take, of what comes in order or late. -/
import Derived.Test.YtagciaanfjllnaaKeysE
namespace Go.Proofs.Ytagciaanfjllnaa.Keys
open Go Go.RowKit Go.Proofs.Ytagciaanfjllnaa.Base Go.Proofs.Ytagciaanfjllnaa.Opens Go.Proofs.Ytagciaanfjllnaa.Reg Go.Proofs.YtagciaanfjllnaaW.PrintWords
set_option linter.unusedVariables false
set_option linter.unusedSimpArgs false
attribute [local go_sem ↓] Go.wp_at_zero Go.wp_at_succ
attribute [local go_sem high] eq32 eq45

/-- what is held when i of the bytes have been looked at: those from N on -/
def hL (f N : Nat) (d : List Int) : Nat → List (Int × Int)
  | 0 => []
  | i + 1 => if f + i < N then hL f N d i else hL f N d i ++ [((f : Int) + i, d.getD i 0)]
theorem hL_len (f N : Nat) (d : List Int) (hf : f ≤ N) : ∀ i, (hL f N d i).length = i - (N - f)
  | 0 => by simp [hL]
  | i + 1 => by
    rw [hL]
    by_cases h : f + i < N
    · rw [if_pos h, hL_len f N d hf i]; omega
    · rw [if_neg h, List.length_append, hL_len f N d hf i, List.length_singleton]; omega
theorem hL_at (f N : Nat) (d : List Int) (hf : f ≤ N) : ∀ i j, j < i - (N - f) → (hL f N d i).getD j (0, 0) = ((N : Int) + j, d.getD (N - f + j) 0)
  | 0, j, h => by omega
  | i + 1, j, h => by
    rw [hL]
    by_cases hc : f + i < N
    · omega
    · rw [if_neg hc]
      have hl := hL_len f N d hf i
      by_cases hj : j < i - (N - f)
      · rw [List.getD_eq_getElem?_getD, List.getElem?_append_left (by omega), ← List.getD_eq_getElem?_getD]
        exact hL_at f N d hf i j hj
      · have e : j = (hL f N d i).length := by omega
        rw [List.getD_eq_getElem?_getD, List.getElem?_append_right (by omega), e, Nat.sub_self]
        simp only [List.getElem?_cons_zero, Option.getD_some, Prod.mk.injEq]
        rw [hl]
        exact ⟨by omega, by congr 1; omega⟩
theorem ownH_form {B : Nat} {w : World} {v : Value} {l : List (Int × Int)} (h : OwnH B w v l) : ∃ A n c, v = .slice A n c := by
  obtain ⟨A, c, h1, _⟩ := h.form
  exact ⟨A, _, c, h1⟩
def lenOf : Value → Nat
  | .slice _ n _ => n
  | _ => 0
theorem OwnH.form3 {B n c : Nat} {A : Option Addr} {w : World} {l : List (Int × Int)} (h : OwnH B w (.slice A n c) l) : ∃ g cur, n = l.length ∧ l.length ≤ c ∧ c ≤ maxLen ∧ (A = none → c = 0) ∧ (0 < l.length → A = some ⟨g, 0, none⟩ ∧ Blk w g 122 cur ∧ ∀ j, j < l.length → cur[j * 2]? = some (.int .i64 (l.getD j (0, 0)).1) ∧ cur[j * 2 + 1]? = some (.int .u8 (l.getD j (0, 0)).2)) := by
  rcases h.2 with ⟨h1, h2⟩ | ⟨g, cap, cur, h1, h2, h3, h4, h5, h6, h7⟩
  · cases h1
    exact ⟨0, #[], by omega, by omega, Nat.zero_le _, fun _ => rfl, fun h0 => by omega⟩
  · cases h1
    refine ⟨g, cur, rfl, h4, h5, fun e => (by cases e), fun _ => ⟨rfl, h3, fun j hj => ?_⟩⟩
    obtain ⟨k0, k1⟩ := encH_at l j hj
    rw [← h7] at k0 k1
    rw [List.getElem?_take, if_pos (by omega)] at k0 k1
    simp only [Array.getElem?_toList] at k0 k1
    exact ⟨k0, k1⟩
theorem row_form {B e size n : Nat} {w : World} {v : Value} {xs : List Value} (h : w.ownsRow B e size v n xs) : ∃ A c, v = .slice A n c := by
  rcases Joins.ownsRow_forms h with ⟨h1, h2⟩ | ⟨g, cap, h1⟩
  · exact ⟨none, 0, by rw [h1, h2]⟩
  · exact ⟨_, cap, h1⟩
theorem row_len {B e n c : Nat} {w : World} {A : Option Addr} {l : List Int} (h : Own .u8 e B w (.slice A n c) l) : n = l.length := by
  rcases h.2 with ⟨h1, h2⟩ | ⟨g, cap, cur, h1, _⟩
  · cases h1; omega
  · cases h1; rfl
theorem row_farB {B e size n : Nat} {w : World} {v : Value} {xs : List Value} {g : Nat} {t : TypeId} {cs : Array Value} (h : w.ownsRow B e size v n xs) (hD : Blk w g t cs) (ht : t ≠ e) (i : Nat) (u : Value) : (w.setCell ⟨g, i, none⟩ u).ownsRow B e size v n xs := row_far h hD ht i u
theorem Blk.set1of2 {w : World} {g : Nat} {t : TypeId} {x y : Value} (h : Blk w g t #[x, y]) (b : Value) : Blk (w.setCell ⟨g, 1, none⟩ b) g t #[x, b] := by
  simpa using h.set_ 1 b
theorem Blk.set0of2 {w : World} {g : Nat} {t : TypeId} {x y : Value} (h : Blk w g t #[x, y]) (b : Value) : Blk (w.setCell ⟨g, 0, none⟩ b) g t #[b, y] := by
  simpa using h.set_ 0 b

set_option maxHeartbeats 4000000 in
set_option maxRecDepth 100000 in
theorem take_pos {N f : Nat} {A B : Option Addr} {d : List Int} {c c' : Nat} {W : World} (hA : A = none → c = 0) (hc0 : c ≤ maxLen) (hf : f ≤ N) (hN : N ≤ 10000) (hd0 : (0 : Int) < d.length) (hd : d.length ≤ 16) (h2 : Rd W (.slice B d.length c') d) :
    Calls Try.prog 59 #[.agg #[.int .i64 (N : Int), .slice A 0 c], .int .i64 (f : Int), .slice B d.length c', .int .i64 256] W fun e w' => ∃ A' ca v', e = .returned (.tuple #[.agg #[.int .i64 ((N + (d.length - (N - f)) : Nat) : Int), .slice A' 0 ca], v', .int .i64 0]) ∧ (A' = none → ca = 0) ∧ ca ≤ maxLen ∧ Own .u8 5 W.heap.size w' v' (d.drop (N - f)) ∧ Below W.heap.size W w' := by
  have hcm := Lib.hid hc0
  clear hc0
  have n1 : ¬ (f : Int) < 0 := by omega
  have n2 : ¬ (281474976710656 : Int) < (d.length : Int) := by omega
  have s1 : IntKind.i64.wrap ((281474976710656 : Int) - d.length) = 281474976710656 - d.length := IntWalk.i64_in _ (by omega)
  have n3 : ¬ (281474976710656 : Int) - d.length < (f : Int) := by omega
  have s2 : IntKind.i64.wrap ((f : Int) + d.length) = f + d.length := IntWalk.i64_in _ (by omega)
  have s3 : IntKind.i64.wrap ((f : Int) + d.length - N) = f + d.length - N := IntWalk.i64_in _ (by omega)
  have n4 : ¬ (64 : Int) < (f : Int) + d.length - N := by omega
  go_enter Try.func59, Try.ntmps59
  have N0 : Blk ((W.alloc (.cells #[.int .i64 (N : Int), .slice A 0 c] 47)).alloc (.cells #[.int .i64 0, .slice none 0 0] 47)) W.heap.size 47 #[.int .i64 (N : Int), .slice A 0 c] := (Blk.new W 47 _).alloc _
  have N1 := new2 W #[.int .i64 (N : Int), .slice A 0 c] #[.int .i64 0, .slice none 0 0] 47 47
  have NB := Joins.below_alloc2 W (.cells #[.int .i64 (N : Int), .slice A 0 c] 47) (.cells #[.int .i64 0, .slice none 0 0] 47)
  go_upto_region 7 with (fail)
  go_cut [11] (fun s11 wx => ∃ gy v0, s11 = .pointer (some ⟨gy, 0, none⟩) ∧ W.heap.size + 2 ≤ gy ∧ Blk wx gy 47 #[.int .i64 (N : Int), v0] ∧ OwnH W.heap.size wx v0 [] ∧ Below W.heap.size W wx ∧ Blk wx W.heap.size 47 #[.int .i64 (N : Int), .slice A 0 c] ∧ Blk wx (W.heap.size + 1) 47 #[.int .i64 0, .slice none 0 0])
  case first =>
    have M0 := Blk.drew N0
    have M1 := Blk.drew N1
    have MB : Below W.heap.size W (World.drew ((W.alloc (.cells #[.int .i64 (N : Int), .slice A 0 c] 47)).alloc (.cells #[.int .i64 0, .slice none 0 0] 47))) := Below.trans NB (Joins.below_draws W.heap.size _ 1)
    have M2 : W.heap.size + 2 ≤ (World.drew ((W.alloc (.cells #[.int .i64 (N : Int), .slice A 0 c] 47)).alloc (.cells #[.int .i64 0, .slice none 0 0] 47))).heap.size := by show W.heap.size + 2 ≤ ((W.alloc _).alloc _).heap.size; rw [World.size_alloc, World.size_alloc]; exact Nat.le_refl _
    generalize hw0 : World.drew ((W.alloc (.cells #[.int .i64 (N : Int), .slice A 0 c] 47)).alloc (.cells #[.int .i64 0, .slice none 0 0] 47)) = w0 at M0 M1 MB M2
    refine wp_region_held_drew (S := fun w' => w'.cell? ⟨W.heap.size, 0, none⟩ = some (.int .i64 (N : Int)) ∧ w'.cell? ⟨W.heap.size, 1, none⟩ = some (.slice A 0 c)) (by kernel_rfl) (by rw [hw0]; exact ⟨M0.cell 0, M0.cell 1⟩) (fun hHeld => ?_)
    refine takeH (i := 0) (N := some 46) (v := ?_) (a' := ?_) rfl rfl (by kernel_rfl) (by kernel_rfl) (by kernel_rfl) (fun _ _ _ h => h) (Or.inl ⟨by rfl, ?_⟩) hHeld ?_ ?_
    rotate_left
    · intro w' hSw
      clear hSw
      go_simp
      with_reducible rfl
    rotate_left
    · simp only [Act.put, List.setIfInBounds_toArray, List.set_cons_zero, List.set_cons_succ]
      rfl
    refine takeH (i := 2) (N := some 48) (v := ?_) (a' := ?_) rfl rfl (by kernel_rfl) (by kernel_rfl) (by kernel_rfl) (fun _ _ _ h => h) (Or.inl ⟨by rfl, ?_⟩) hHeld ?_ ?_
    rotate_left
    · intro w' hSw
      clear hSw
      go_simp
      with_reducible rfl
    rotate_left
    · simp only [Act.put, List.setIfInBounds_toArray, List.set_cons_zero, List.set_cons_succ]
      rfl
    refine takeH (i := 1) (N := some 47) (v := ?_) (a' := ?_) rfl rfl (by kernel_rfl) (by kernel_rfl) (by kernel_rfl) (fun _ _ _ h => h) (Or.inl ⟨by rfl, ?_⟩) hHeld ?_ ?_
    rotate_left
    · intro w' hSw
      go_split_ands
      go_simp
      with_reducible rfl
    rotate_left
    · simp only [Act.put, List.setIfInBounds_toArray, List.set_cons_zero, List.set_cons_succ]
      rfl
    refine takeH (i := 3) (N := some 49) (v := ?_) (a' := ?_) rfl rfl (by kernel_rfl) (by kernel_rfl) (by kernel_rfl) (fun _ _ _ h => h) (Or.inl ⟨by rfl, ?_⟩) hHeld ?_ ?_
    rotate_left
    · intro w' hSw
      go_split_ands
      go_simp
      with_reducible rfl
    rotate_left
    · simp only [Act.put, List.setIfInBounds_toArray, List.set_cons_zero, List.set_cons_succ]
      rfl
    refine wpAnyH_ready (rs := [4, 6]) (by kernel_rfl) (by simp) ?_
    refine AllReadyH.cons rfl (fun K hK => ?_) (AllReadyH.cons rfl (fun K hK => ?_) AllReadyH.nil)
    · go_simp
      refine (cloneH_c A c _ hA hcm.out).mono ?_
      rintro _ x ⟨v0, rfl, ho, hx⟩
      obtain ⟨A0, c0, rfl, -, -⟩ := ho.form
      have Z0 := Blk.stays M0 hx
      have Z1 := Blk.stays M1 hx
      have ZB := MB.trans (hx.mono (Below.size MB))
      refine hK.out _ _ ⟨Z0.cell 0, Z0.cell 1⟩ (fun hHeld => ?_)
      clear hK K
      refine takeH (i := 5) (N := some 51) (v := ?_) (a' := ?_) rfl rfl (by kernel_rfl) (by kernel_rfl) (by kernel_rfl) (fun _ _ _ h => h) (Or.inl ⟨by rfl, ?_⟩) hHeld ?_ ?_
      rotate_left
      · intro w' hSw
        clear hSw
        go_simp
        with_reducible rfl
      rotate_left
      · simp only [Act.put, List.setIfInBounds_toArray, List.set_cons_zero, List.set_cons_succ]
        rfl
      refine wpAnyH_ready (rs := [6]) (by kernel_rfl) (by simp) ?_
      refine AllReadyH.cons rfl (fun K hK => ?_) AllReadyH.nil
      go_simp
      have U0 := Z0.alloc (.cells #[.int .i64 0, .slice none 0 0] 47)
      refine hK.out _ _ ⟨U0.cell 0, U0.cell 1⟩ (fun hHeld => ?_)
      clear hK K
      refine wpAnyH_ready (rs := [7]) (by kernel_rfl) (by simp) ?_
      refine AllReadyH.cons rfl (fun K hK => ?_) AllReadyH.nil
      go_simp
      have V0 := Z0.alloc (.cells #[.int .i64 (N : Int), .slice A0 0 c0] 47)
      have V1 := Z1.alloc (.cells #[.int .i64 (N : Int), .slice A0 0 c0] 47)
      have VB := ZB.alloc ZB.size (.cells #[.int .i64 (N : Int), .slice A0 0 c0] 47)
      have VY := Blk.new x 47 #[.int .i64 (N : Int), .slice A0 0 c0]
      have VO := row_alloc ho (.cells #[.int .i64 (N : Int), .slice A0 0 c0] 47)
      refine hK.out _ _ ⟨V0.cell 0, V0.cell 1⟩ (fun hHeld => ?_)
      refine wpAnyH_done (by kernel_rfl) ?_ _
      clear hK K hHeld
      go_wp2_with fail
      go_meet
      exact ⟨x.heap.size, _, rfl, Nat.le_trans M2 hx.size, VY, Joins.ownsRow_le VO (Nat.le_trans (Nat.le_add_right _ 2) M2), VB, V0, V1⟩
    · go_simp
      have U0 := M0.alloc (.cells #[.int .i64 0, .slice none 0 0] 47)
      have U1 := M1.alloc (.cells #[.int .i64 0, .slice none 0 0] 47)
      have UB := MB.alloc MB.size (.cells #[.int .i64 0, .slice none 0 0] 47)
      have UY := Blk.new w0 47 #[.int .i64 0, .slice none 0 0]
      refine hK.out _ _ ⟨U0.cell 0, U0.cell 1⟩ (fun hHeld => ?_)
      clear hK K
      refine wpAnyH_ready (rs := [4]) (by kernel_rfl) (by simp) ?_
      refine AllReadyH.cons rfl (fun K hK => ?_) AllReadyH.nil
      go_simp
      refine (cloneH_c A c _ hA hcm.out).mono ?_
      rintro _ x ⟨v0, rfl, ho, hx⟩
      obtain ⟨A0, c0, rfl, -, -⟩ := ho.form
      have Z0 := Blk.stays U0 hx
      have Z1 := Blk.stays U1 hx
      have ZB := UB.trans (hx.mono (Below.size UB))
      have ZY := UY.stays hx
      refine hK.out _ _ ⟨Z0.cell 0, Z0.cell 1⟩ (fun hHeld => ?_)
      clear hK K
      refine takeH (i := 5) (N := some 51) (v := ?_) (a' := ?_) rfl rfl (by kernel_rfl) (by kernel_rfl) (by kernel_rfl) (fun _ _ _ h => h) (Or.inl ⟨by rfl, ?_⟩) hHeld ?_ ?_
      rotate_left
      · intro w' hSw
        clear hSw
        go_simp
        with_reducible rfl
      rotate_left
      · simp only [Act.put, List.setIfInBounds_toArray, List.set_cons_zero, List.set_cons_succ]
        rfl
      refine wpAnyH_ready (rs := [7]) (by kernel_rfl) (by simp) ?_
      refine AllReadyH.cons rfl (fun K hK => ?_) AllReadyH.nil
      obtain ⟨p0, p1, q0, q1⟩ := Blk.two ZY
      go_simp
      have V0 := Blk.far2 Z0 (Nat.ne_of_lt M0.lt) (.int .i64 (N : Int)) (.slice A0 ([] : List (Int × Int)).length c0)
      have V1 := Blk.far2 Z1 (Nat.ne_of_lt M1.lt) (.int .i64 (N : Int)) (.slice A0 ([] : List (Int × Int)).length c0)
      refine hK.out _ _ ⟨V0.cell 0, V0.cell 1⟩ (fun hHeld => ?_)
      refine wpAnyH_done (by kernel_rfl) ?_ _
      clear hK K hHeld
      go_wp2_with fail
      go_meet
      exact ⟨w0.heap.size, _, rfl, M2, Blk.set2 ZY _ _, row_far2 (Joins.ownsRow_le ho UB.size) ZY (by decide) _ _, below_set2 ZB MB.size _ _, V0, V1⟩
  case rest =>
    clear N0 N1 NB
    obtain ⟨gy, v0, rfl, hgy, HY, HO, HB, HD0, HD1⟩ := hcut
    obtain ⟨A0, n0, c0, rfl⟩ := ownH_form HO
    obtain ⟨x0, x1, x2, x3⟩ := Blk.two HY
    have hne0 : W.heap.size ≠ gy := by omega
    have hne1 : W.heap.size + 1 ≠ gy := by omega
    have hgyW : W.heap.size ≤ gy := by omega
    clear s1 s2 s3 n1 n2 n3 n4
    go_wp2_with fail
    go_loopw [12, 13, 54] (fun v12 v13 v54 wr => ∃ (i : Nat) (v : Value), i ≤ d.length ∧ v54 = .int .i64 i ∧ OwnH W.heap.size wr v (hL f N d i) ∧ Below W.heap.size W wr ∧ Blk wr W.heap.size 47 #[.int .i64 (N : Int), .slice A 0 c] ∧ Blk wr (W.heap.size + 1) 47 #[.int .i64 0, .slice none 0 0] ∧ Blk wr gy 47 #[.int .i64 (N : Int), v]) (fun _ _ v54 _ => d.length - (intOf v54).toNat)
    case atStart => exact ⟨0, _, Nat.zero_le _, rfl, HO, HB, HD0, HD1, HY⟩
    case round =>
      clear HO HB HD0 HD1 HY x0 x1 x2 x3
      obtain ⟨i, v, hi, rfl, HO, HB, HD0, HD1, HY⟩ := hrel
      obtain ⟨A1, n1, c1, rfl⟩ := ownH_form HO
      obtain ⟨x0, x1, x2, x3⟩ := Blk.two HY
      obtain ⟨y0, y1, y2, y3⟩ := Blk.two HD0
      by_cases hlt : i < d.length
      · have hk0 : (0 : Int) ≤ (i : Int) := Int.natCast_nonneg _
        have hk1 : (i : Int) < (d.length : Int) := by omega
        have g2 := h2.stays HB
        obtain ⟨b2, o2, rfl, hb2⟩ := g2.some_ (by omega)
        have e2 := g2.cellAt hlt
        obtain ⟨x, hx⟩ : ∃ x, d.getD i 0 = x := ⟨_, rfl⟩
        rw [hx] at e2
        have s1 : IntKind.i64.wrap ((f : Int) + (i : Int)) = f + i := IntWalk.i64_in _ (by omega)
        have HLn := hL_len f N d hf i
        have hless : ∀ j, j < (hL f N d i).length → ((hL f N d i).getD j (0, 0)).1 < (f : Int) + i := fun j hj => by
          rw [hL_at f N d hf i j (by omega)]
          simp only
          omega
        by_cases hnew : (f : Int) + i < N
        · have HX := Lib.hid (show hL f N d (i + 1) = hL f N d i by rw [hL, if_pos (by omega)])
          have HC := hold_old (b := x) HO (by omega) hless hnew
          clear hless hx g2
          go_wp2_with (first | (go_at_call 73; refine HC.mono ?_; rintro _ w1 ⟨rfl, hb⟩; have HO' := HO.stays hb; have HB' := HB.trans (hb.mono HB.size); have HD0' := HD0.stays hb; have HD1' := HD1.stays hb; have HY' := HY.stays hb; clear x0 x1 x2 x3 y0 y1 y2 y3; obtain ⟨x0, x1, x2, x3⟩ := Blk.two HY'))
          go_roundw
          case rel => exact ⟨i + 1, _, by omega, by go_num, by rw [HX.out]; exact row_far HO' HY' (by decide) _ _, HB'.setCell hgyW _, HD0'.far hne0 _, HD1'.far hne1 _, Blk.set1of2 HY' _⟩
          case measure => simp [intOf]; omega
        · have HX := Lib.hid (show hL f N d (i + 1) = hL f N d i ++ [((f : Int) + i, x)] by rw [hL, if_neg (by omega), hx])
          have HC := hold_new (b := x) HO (by omega) HB.size hless hnew
          clear hless hx g2
          go_wp2_with (first | (go_at_call 73; refine HC.mono ?_; rintro _ w1 ⟨v', rfl, ho, hgr⟩; obtain ⟨A3, n3, c3, rfl⟩ := ownH_form ho; have HB' := below_grown HB hgr HO HB.size (Nat.le_refl _); have HD0' := Blk.grown HD0 hgr (row_neT HO HD0 (by decide)); have HD1' := Blk.grown HD1 hgr (row_neT HO HD1 (by decide)); have HY' := Blk.grown HY hgr (row_neT HO HY (by decide)); clear x0 x1 x2 x3 y0 y1 y2 y3; obtain ⟨x0, x1, x2, x3⟩ := Blk.two HY'))
          go_roundw
          case rel => exact ⟨i + 1, _, by omega, by go_num, by rw [HX.out]; exact row_far ho HY' (by decide) _ _, HB'.setCell hgyW _, HD0'.far hne0 _, HD1'.far hne1 _, Blk.set1of2 HY' _⟩
          case measure => simp [intOf]; omega
      · have hin : i = d.length := by omega
        subst hin
        clear hi hlt x0 x1 x2 x3 y0 y1 y2 y3
        have HLn := hL_len f N d hf d.length
        obtain ⟨K, hK⟩ : ∃ K, d.length - (N - f) = K := ⟨_, rfl⟩
        rw [hK] at HLn
        obtain ⟨g, cur, hh⟩ := HO.form3
        rw [HLn] at hh
        obtain ⟨hn1, hcap, hcm1, hnone, hsome⟩ := hh
        subst hn1
        have hcur : ∀ j, j < n1 → cur[j * 2]? = some (.int .i64 ((N : Int) + j)) ∧ cur[j * 2 + 1]? = some (.int .u8 ((d.drop (N - f)).getD j 0)) := fun j hj => by
          obtain ⟨e1, e2⟩ := (hsome (by omega)).2.2 j hj
          rw [hL_at f N d hf d.length j (by omega)] at e1 e2
          refine ⟨e1, ?_⟩
          rw [e2, List.getD_eq_getElem?_getD (l := d.drop (N - f)), List.getElem?_drop, ← List.getD_eq_getElem?_getD]
        have hcurB := fun h0 => (hsome h0).2.1
        have hA1 := fun h0 => (hsome h0).1
        have hdl : (d.drop (N - f)).length = n1 := by rw [List.length_drop]; omega
        have hres : ((N + (d.length - (N - f)) : Nat) : Int) = (N : Int) + (n1 : Int) := by rw [hK]; omega
        have HRES := Lib.hid hres
        have hn16 : n1 ≤ 16 := by omega
        obtain ⟨r, hr⟩ : ∃ r, d.drop (N - f) = r := ⟨_, rfl⟩
        rw [hr] at hdl hcur
        have HR := Lib.hid hr
        clear hr
        have H2 := Lib.hid h2
        have HCM := Lib.hid hcm1
        clear hsome HO hres h2 HLn hK hA hcm1
        go_wp2_with fail
        go_loopw [14] (fun v14 wq => ∃ (k q off cv : Nat) (Av : Option Addr), k + q = n1 ∧ Blk wq gy 47 #[.int .i64 ((N : Int) + (k : Int)), .slice Av q cv] ∧ q ≤ cv ∧ cv ≤ maxLen ∧ (Av = none → cv = 0) ∧ (0 < q → Av = some ⟨g, off, none⟩ ∧ off = k * 2) ∧ Own .u8 5 W.heap.size wq v14 (r.take k) ∧ Below W.heap.size W wq ∧ Blk wq (W.heap.size + 1) 47 #[.int .i64 0, .slice none 0 0] ∧ (0 < n1 → Blk wq g 122 cur)) (fun v14 _ => n1 - lenOf v14)
        case atStart => exact ⟨0, n1, 0, c1, A1, by omega, by simpa using HY, hcap, HCM.out, hnone, fun h0 => ⟨hA1 h0, rfl⟩, Own.nil _ _ _ _, HB, HD1, hcurB⟩
        case round =>
          clear HY hcap hnone hA1 HB HD0 HD1 hcurB
          obtain ⟨k, q, off, cv, Av, hkq, HY, hqc, hcvm, hnone, hAv, HO, HB, HD1, hG⟩ := hrel
          have hcvM := Lib.hid hcvm
          clear hcvm
          have hkl : (r.take k).length = k := by rw [List.length_take]; omega
          obtain ⟨x0, x1, x2, x3⟩ := Blk.two HY
          by_cases hq : 0 < q
          · obtain ⟨q', rfl⟩ : ∃ q', q = q' + 1 := ⟨q - 1, by omega⟩
            obtain ⟨rfl, hoff⟩ := hAv hq
            have hkn : k < n1 := by omega
            have hGB := hG (by omega)
            obtain ⟨e1, e2⟩ := hcur k hkn
            have f1 := (hGB.cell (k * 2)).trans e1
            have f2 := (hGB.cell (k * 2 + 1)).trans e2
            rw [← hoff] at f1 f2
            obtain ⟨x, hx⟩ : ∃ x, r.getD k 0 = x := ⟨_, rfl⟩
            rw [hx] at f2
            have HX := Lib.hid hx
            have HOFF := Lib.hid hoff
            have s1 : IntKind.i64.wrap ((N : Int) + (k : Int) + 1) = N + k + 1 := IntWalk.i64_in _ (by omega)
            have g1 : (0 : Int) < ((q' + 1 : Nat) : Int) := by omega
            have g2 : (1 : Int) ≤ ((q' + 1 : Nat) : Int) := by omega
            have ho2 : wr.ownsRow W.heap.size 5 1 u14 k (encs .u8 (r.take k)) := by have h := HO; unfold Own at h; rw [hkl] at h; exact h
            obtain ⟨Au, cu, rfl⟩ := row_form ho2
            have HKL := Lib.hid hkl
            have hgg : g ≠ gy := Blk.ne_ hGB HY (by decide)
            have hneG : g ≠ gy := hgg
            clear hx hoff e1 e2 hkl hAv HO hcur
            by_cases hc1 : cv = 1
            · subst hc1
              obtain rfl : q' = 0 := by omega
              obtain rfl : n1 = k + 1 := by omega
              go_wp2_with fail
              go_quiet (fail)
              go_wp2_with (at_builtin; (refine wpList_app rfl (.tmp 85) (.tmp 91) 32 rfl Try.underlying32 info5 rfl (by decide) (by rfl) (by rfl) (row_alloc (row_stays ho2 (Joins.below_draws _ _ nq)) _) (src_1' _ _ _ _ _ (by simp) rfl) (by simp only [World.size_alloc]; have := HB.size; simp; omega) (by omega) (by decide) ?_); intro v' w' ho' hgr _; obtain ⟨Ao, co, rfl⟩ := row_form ho'; have HYd := Blk.grown ((HY.drewN nq).alloc _) hgr (row_neT ho2 HY (by decide)); have HGd := Blk.grown ((hGB.drewN nq).alloc _) hgr (row_neT ho2 hGB (by decide)); clear x0 x1 x2 x3; obtain ⟨x0, x1, x2, x3⟩ := Blk.two HYd)
              go_roundw
              case rel => exact ⟨k + 1, 0, off, 0, some ⟨g, off, none⟩, by omega, by rw [show ((N : Int) + ((k + 1 : Nat) : Int)) = N + k + 1 by omega]; exact Blk.set0of2 (Blk.set1of2 HYd _) _, by omega, by have := hcvM.out; omega, fun e => (by cases e), fun h0 => absurd h0 (by omega), by rw [take_snoc (by omega), HX.out]; exact row_far (row_far (Own.of ho' (by rw [HKL.out]; rfl)) HYd (by decide) _ _) (Blk.set1of2 HYd _) (by decide) _ _, ((below_grown ((HB.trans (Joins.below_draws _ _ nq)).alloc (by have := HB.size; simp; omega) _) hgr (row_alloc (row_stays ho2 (Joins.below_draws _ _ nq)) _) (by simp only [World.size_alloc]; have := HB.size; simp; omega) (Nat.le_refl _)).setCell hgyW _).setCell hgyW _, (Blk.far (Blk.far (Blk.grown ((HD1.drewN nq).alloc _) hgr (row_neT ho2 HD1 (by decide))) hne1 _) hne1 _), fun h0 => (Blk.far (Blk.far HGd hneG _) hneG _)⟩
              case measure => simp [intOf, lenOf] <;> omega
            · have hc2 : ¬ cv = 1 := hc1
              have hc3 : (1 : Int) ≤ (cv : Int) := by omega
              go_wp2_with fail
              go_quiet (fail)
              go_wp2_with (at_builtin; (refine wpList_app rfl (.tmp 85) (.tmp 91) 32 rfl Try.underlying32 info5 rfl (by decide) (by rfl) (by rfl) (row_alloc (row_stays ho2 (Joins.below_draws _ _ nq)) _) (src_1' _ _ _ _ _ (by simp) rfl) (by simp only [World.size_alloc]; have := HB.size; simp; omega) (by omega) (by decide) ?_); intro v' w' ho' hgr _; obtain ⟨Ao, co, rfl⟩ := row_form ho'; have HYd := Blk.grown ((HY.drewN nq).alloc _) hgr (row_neT ho2 HY (by decide)); have HGd := Blk.grown ((hGB.drewN nq).alloc _) hgr (row_neT ho2 hGB (by decide)); clear x0 x1 x2 x3; obtain ⟨x0, x1, x2, x3⟩ := Blk.two HYd)
              go_roundw
              case rel => exact ⟨k + 1, q', off + 2, cv - 1, some ⟨g, off + 2, none⟩, by omega, by rw [show ((N : Int) + ((k + 1 : Nat) : Int)) = N + k + 1 by omega]; exact Blk.set0of2 (Blk.set1of2 HYd _) _, by omega, by have := hcvM.out; omega, fun e => (by cases e), fun h0 => ⟨rfl, by have := HOFF.out; omega⟩, by rw [take_snoc (by omega), HX.out]; exact row_far (row_far (Own.of ho' (by rw [HKL.out]; rfl)) HYd (by decide) _ _) (Blk.set1of2 HYd _) (by decide) _ _, ((below_grown ((HB.trans (Joins.below_draws _ _ nq)).alloc (by have := HB.size; simp; omega) _) hgr (row_alloc (row_stays ho2 (Joins.below_draws _ _ nq)) _) (by simp only [World.size_alloc]; have := HB.size; simp; omega) (Nat.le_refl _)).setCell hgyW _).setCell hgyW _, (Blk.far (Blk.far (Blk.grown ((HD1.drewN nq).alloc _) hgr (row_neT ho2 HD1 (by decide))) hne1 _) hne1 _), fun h0 => (Blk.far (Blk.far HGd hneG _) hneG _)⟩
              case measure => simp [intOf, lenOf] <;> omega
          · have hq0 : q = 0 := by omega
            subst hq0
            obtain rfl : k = n1 := by omega
            rw [List.take_of_length_le (by omega)] at HO
            obtain ⟨Ao, no, co, rfl⟩ := own_form HO
            have hno := (row_len HO)
            rw [hdl] at hno
            subst hno
            have n256 : ¬ (256 : Int) < (no : Int) := by omega
            clear hcur hG hAv
            obtain ⟨p0, p1, p2, p3⟩ := Blk.two HD1
            go_wp2_with fail
            go_quiet (fail)
            go_wp2_with fail
            refine bodyPost_ret (results_ctt rfl _ _ (W.heap.size + 1) 47 _ (0, 0) _ rfl (Blk.set2 (HD1.drewN nq) _ _) Try.underlying47 rfl (by kernel_rfl)) rfl ?_
            rw [HRES.out]
            exact ⟨Av, cv, _, rfl, hnone, hcvM.out, by rw [HR.out]; exact row_far2 (row_stays HO (Joins.below_draws _ _ nq)) (HD1.drewN nq) (by decide) _ _, below_set2 (HB.trans (Joins.below_draws _ _ nq)) (Nat.le_succ _) _ _⟩
set_option maxHeartbeats 4000000 in
set_option maxRecDepth 100000 in
theorem take_nil {N f : Nat} {A B : Option Addr} {d : List Int} {c c' : Nat} {W : World} (hA : A = none → c = 0) (hc0 : c ≤ maxLen) (hf : f ≤ N) (hN : N ≤ 10000) (hd0 : ¬ (0 : Int) < d.length) (hd : d.length ≤ 16) (h2 : Rd W (.slice B d.length c') d) :
    Calls Try.prog 59 #[.agg #[.int .i64 (N : Int), .slice A 0 c], .int .i64 (f : Int), .slice B d.length c', .int .i64 256] W fun e w' => ∃ A' ca v', e = .returned (.tuple #[.agg #[.int .i64 ((N + (d.length - (N - f)) : Nat) : Int), .slice A' 0 ca], v', .int .i64 0]) ∧ (A' = none → ca = 0) ∧ ca ≤ maxLen ∧ Own .u8 5 W.heap.size w' v' (d.drop (N - f)) ∧ Below W.heap.size W w' := by
  have hcm := Lib.hid hc0
  clear hc0
  have n1 : ¬ (f : Int) < 0 := by omega
  have n2 : ¬ (281474976710656 : Int) < (d.length : Int) := by omega
  have s1 : IntKind.i64.wrap ((281474976710656 : Int) - d.length) = 281474976710656 - d.length := IntWalk.i64_in _ (by omega)
  have n3 : ¬ (281474976710656 : Int) - d.length < (f : Int) := by omega
  have s2 : IntKind.i64.wrap ((f : Int) + d.length) = f + d.length := IntWalk.i64_in _ (by omega)
  have s3 : IntKind.i64.wrap ((f : Int) + d.length - N) = f + d.length - N := IntWalk.i64_in _ (by omega)
  have n4 : ¬ (64 : Int) < (f : Int) + d.length - N := by omega
  go_enter Try.func59, Try.ntmps59
  have N0 : Blk ((W.alloc (.cells #[.int .i64 (N : Int), .slice A 0 c] 47)).alloc (.cells #[.int .i64 0, .slice none 0 0] 47)) W.heap.size 47 #[.int .i64 (N : Int), .slice A 0 c] := (Blk.new W 47 _).alloc _
  have N1 := new2 W #[.int .i64 (N : Int), .slice A 0 c] #[.int .i64 0, .slice none 0 0] 47 47
  have NB := Joins.below_alloc2 W (.cells #[.int .i64 (N : Int), .slice A 0 c] 47) (.cells #[.int .i64 0, .slice none 0 0] 47)
  go_upto_region 7 with (fail)
  go_cut [11] (fun s11 wx => ∃ gy v0, s11 = .pointer (some ⟨gy, 0, none⟩) ∧ W.heap.size + 2 ≤ gy ∧ Blk wx gy 47 #[.int .i64 (N : Int), v0] ∧ OwnH W.heap.size wx v0 [] ∧ Below W.heap.size W wx ∧ Blk wx W.heap.size 47 #[.int .i64 (N : Int), .slice A 0 c] ∧ Blk wx (W.heap.size + 1) 47 #[.int .i64 0, .slice none 0 0])
  case first =>
    have M0 := Blk.drew N0
    have M1 := Blk.drew N1
    have MB : Below W.heap.size W (World.drew ((W.alloc (.cells #[.int .i64 (N : Int), .slice A 0 c] 47)).alloc (.cells #[.int .i64 0, .slice none 0 0] 47))) := Below.trans NB (Joins.below_draws W.heap.size _ 1)
    have M2 : W.heap.size + 2 ≤ (World.drew ((W.alloc (.cells #[.int .i64 (N : Int), .slice A 0 c] 47)).alloc (.cells #[.int .i64 0, .slice none 0 0] 47))).heap.size := by show W.heap.size + 2 ≤ ((W.alloc _).alloc _).heap.size; rw [World.size_alloc, World.size_alloc]; exact Nat.le_refl _
    generalize hw0 : World.drew ((W.alloc (.cells #[.int .i64 (N : Int), .slice A 0 c] 47)).alloc (.cells #[.int .i64 0, .slice none 0 0] 47)) = w0 at M0 M1 MB M2
    refine wp_region_held_drew (S := fun w' => w'.cell? ⟨W.heap.size, 0, none⟩ = some (.int .i64 (N : Int)) ∧ w'.cell? ⟨W.heap.size, 1, none⟩ = some (.slice A 0 c)) (by kernel_rfl) (by rw [hw0]; exact ⟨M0.cell 0, M0.cell 1⟩) (fun hHeld => ?_)
    refine takeH (i := 0) (N := some 46) (v := ?_) (a' := ?_) rfl rfl (by kernel_rfl) (by kernel_rfl) (by kernel_rfl) (fun _ _ _ h => h) (Or.inl ⟨by rfl, ?_⟩) hHeld ?_ ?_
    rotate_left
    · intro w' hSw
      clear hSw
      go_simp
      with_reducible rfl
    rotate_left
    · simp only [Act.put, List.setIfInBounds_toArray, List.set_cons_zero, List.set_cons_succ]
      rfl
    refine takeH (i := 2) (N := some 48) (v := ?_) (a' := ?_) rfl rfl (by kernel_rfl) (by kernel_rfl) (by kernel_rfl) (fun _ _ _ h => h) (Or.inl ⟨by rfl, ?_⟩) hHeld ?_ ?_
    rotate_left
    · intro w' hSw
      clear hSw
      go_simp
      with_reducible rfl
    rotate_left
    · simp only [Act.put, List.setIfInBounds_toArray, List.set_cons_zero, List.set_cons_succ]
      rfl
    refine takeH (i := 1) (N := some 47) (v := ?_) (a' := ?_) rfl rfl (by kernel_rfl) (by kernel_rfl) (by kernel_rfl) (fun _ _ _ h => h) (Or.inl ⟨by rfl, ?_⟩) hHeld ?_ ?_
    rotate_left
    · intro w' hSw
      go_split_ands
      go_simp
      with_reducible rfl
    rotate_left
    · simp only [Act.put, List.setIfInBounds_toArray, List.set_cons_zero, List.set_cons_succ]
      rfl
    refine takeH (i := 3) (N := some 49) (v := ?_) (a' := ?_) rfl rfl (by kernel_rfl) (by kernel_rfl) (by kernel_rfl) (fun _ _ _ h => h) (Or.inl ⟨by rfl, ?_⟩) hHeld ?_ ?_
    rotate_left
    · intro w' hSw
      go_split_ands
      go_simp
      with_reducible rfl
    rotate_left
    · simp only [Act.put, List.setIfInBounds_toArray, List.set_cons_zero, List.set_cons_succ]
      rfl
    refine wpAnyH_ready (rs := [4, 6]) (by kernel_rfl) (by simp) ?_
    refine AllReadyH.cons rfl (fun K hK => ?_) (AllReadyH.cons rfl (fun K hK => ?_) AllReadyH.nil)
    · go_simp
      refine (cloneH_c A c _ hA hcm.out).mono ?_
      rintro _ x ⟨v0, rfl, ho, hx⟩
      obtain ⟨A0, c0, rfl, -, -⟩ := ho.form
      have Z0 := Blk.stays M0 hx
      have Z1 := Blk.stays M1 hx
      have ZB := MB.trans (hx.mono (Below.size MB))
      refine hK.out _ _ ⟨Z0.cell 0, Z0.cell 1⟩ (fun hHeld => ?_)
      clear hK K
      refine takeH (i := 5) (N := some 51) (v := ?_) (a' := ?_) rfl rfl (by kernel_rfl) (by kernel_rfl) (by kernel_rfl) (fun _ _ _ h => h) (Or.inl ⟨by rfl, ?_⟩) hHeld ?_ ?_
      rotate_left
      · intro w' hSw
        clear hSw
        go_simp
        with_reducible rfl
      rotate_left
      · simp only [Act.put, List.setIfInBounds_toArray, List.set_cons_zero, List.set_cons_succ]
        rfl
      refine wpAnyH_ready (rs := [6]) (by kernel_rfl) (by simp) ?_
      refine AllReadyH.cons rfl (fun K hK => ?_) AllReadyH.nil
      go_simp
      have U0 := Z0.alloc (.cells #[.int .i64 0, .slice none 0 0] 47)
      refine hK.out _ _ ⟨U0.cell 0, U0.cell 1⟩ (fun hHeld => ?_)
      clear hK K
      refine wpAnyH_ready (rs := [7]) (by kernel_rfl) (by simp) ?_
      refine AllReadyH.cons rfl (fun K hK => ?_) AllReadyH.nil
      go_simp
      have V0 := Z0.alloc (.cells #[.int .i64 (N : Int), .slice A0 0 c0] 47)
      have V1 := Z1.alloc (.cells #[.int .i64 (N : Int), .slice A0 0 c0] 47)
      have VB := ZB.alloc ZB.size (.cells #[.int .i64 (N : Int), .slice A0 0 c0] 47)
      have VY := Blk.new x 47 #[.int .i64 (N : Int), .slice A0 0 c0]
      have VO := row_alloc ho (.cells #[.int .i64 (N : Int), .slice A0 0 c0] 47)
      refine hK.out _ _ ⟨V0.cell 0, V0.cell 1⟩ (fun hHeld => ?_)
      refine wpAnyH_done (by kernel_rfl) ?_ _
      clear hK K hHeld
      go_wp2_with fail
      go_meet
      exact ⟨x.heap.size, _, rfl, Nat.le_trans M2 hx.size, VY, Joins.ownsRow_le VO (Nat.le_trans (Nat.le_add_right _ 2) M2), VB, V0, V1⟩
    · go_simp
      have U0 := M0.alloc (.cells #[.int .i64 0, .slice none 0 0] 47)
      have U1 := M1.alloc (.cells #[.int .i64 0, .slice none 0 0] 47)
      have UB := MB.alloc MB.size (.cells #[.int .i64 0, .slice none 0 0] 47)
      have UY := Blk.new w0 47 #[.int .i64 0, .slice none 0 0]
      refine hK.out _ _ ⟨U0.cell 0, U0.cell 1⟩ (fun hHeld => ?_)
      clear hK K
      refine wpAnyH_ready (rs := [4]) (by kernel_rfl) (by simp) ?_
      refine AllReadyH.cons rfl (fun K hK => ?_) AllReadyH.nil
      go_simp
      refine (cloneH_c A c _ hA hcm.out).mono ?_
      rintro _ x ⟨v0, rfl, ho, hx⟩
      obtain ⟨A0, c0, rfl, -, -⟩ := ho.form
      have Z0 := Blk.stays U0 hx
      have Z1 := Blk.stays U1 hx
      have ZB := UB.trans (hx.mono (Below.size UB))
      have ZY := UY.stays hx
      refine hK.out _ _ ⟨Z0.cell 0, Z0.cell 1⟩ (fun hHeld => ?_)
      clear hK K
      refine takeH (i := 5) (N := some 51) (v := ?_) (a' := ?_) rfl rfl (by kernel_rfl) (by kernel_rfl) (by kernel_rfl) (fun _ _ _ h => h) (Or.inl ⟨by rfl, ?_⟩) hHeld ?_ ?_
      rotate_left
      · intro w' hSw
        clear hSw
        go_simp
        with_reducible rfl
      rotate_left
      · simp only [Act.put, List.setIfInBounds_toArray, List.set_cons_zero, List.set_cons_succ]
        rfl
      refine wpAnyH_ready (rs := [7]) (by kernel_rfl) (by simp) ?_
      refine AllReadyH.cons rfl (fun K hK => ?_) AllReadyH.nil
      obtain ⟨p0, p1, q0, q1⟩ := Blk.two ZY
      go_simp
      have V0 := Blk.far2 Z0 (Nat.ne_of_lt M0.lt) (.int .i64 (N : Int)) (.slice A0 ([] : List (Int × Int)).length c0)
      have V1 := Blk.far2 Z1 (Nat.ne_of_lt M1.lt) (.int .i64 (N : Int)) (.slice A0 ([] : List (Int × Int)).length c0)
      refine hK.out _ _ ⟨V0.cell 0, V0.cell 1⟩ (fun hHeld => ?_)
      refine wpAnyH_done (by kernel_rfl) ?_ _
      clear hK K hHeld
      go_wp2_with fail
      go_meet
      exact ⟨w0.heap.size, _, rfl, M2, Blk.set2 ZY _ _, row_far2 (Joins.ownsRow_le ho UB.size) ZY (by decide) _ _, below_set2 ZB MB.size _ _, V0, V1⟩
  case rest =>
    clear N0 N1 NB
    obtain ⟨gy, v0, rfl, hgy, HY, HO, HB, HD0, HD1⟩ := hcut
    obtain ⟨A0, n0, c0, rfl⟩ := ownH_form HO
    obtain ⟨x0, x1, x2, x3⟩ := Blk.two HY
    have hne0 : W.heap.size ≠ gy := by omega
    have hne1 : W.heap.size + 1 ≠ gy := by omega
    have hgyW : W.heap.size ≤ gy := by omega
    clear s1 s2 s3 n1 n2 n3 n4
    go_wp2_with fail
    go_loopw [12, 13, 54] (fun v12 v13 v54 wr => ∃ (i : Nat) (v : Value), i ≤ d.length ∧ v54 = .int .i64 i ∧ OwnH W.heap.size wr v (hL f N d i) ∧ Below W.heap.size W wr ∧ Blk wr W.heap.size 47 #[.int .i64 (N : Int), .slice A 0 c] ∧ Blk wr (W.heap.size + 1) 47 #[.int .i64 0, .slice none 0 0] ∧ Blk wr gy 47 #[.int .i64 (N : Int), v]) (fun _ _ v54 _ => d.length - (intOf v54).toNat)
    case atStart => exact ⟨0, _, Nat.zero_le _, rfl, HO, HB, HD0, HD1, HY⟩
    case round =>
      clear HO HB HD0 HD1 HY x0 x1 x2 x3
      obtain ⟨i, v, hi, rfl, HO, HB, HD0, HD1, HY⟩ := hrel
      obtain ⟨A1, n1, c1, rfl⟩ := ownH_form HO
      obtain ⟨x0, x1, x2, x3⟩ := Blk.two HY
      obtain ⟨y0, y1, y2, y3⟩ := Blk.two HD0
      by_cases hlt : i < d.length
      · exfalso
        omega
      · have hin : i = d.length := by omega
        subst hin
        clear hi hlt x0 x1 x2 x3 y0 y1 y2 y3
        have HLn := hL_len f N d hf d.length
        obtain ⟨K, hK⟩ : ∃ K, d.length - (N - f) = K := ⟨_, rfl⟩
        rw [hK] at HLn
        obtain ⟨g, cur, hh⟩ := HO.form3
        rw [HLn] at hh
        obtain ⟨hn1, hcap, hcm1, hnone, hsome⟩ := hh
        subst hn1
        have hcur : ∀ j, j < n1 → cur[j * 2]? = some (.int .i64 ((N : Int) + j)) ∧ cur[j * 2 + 1]? = some (.int .u8 ((d.drop (N - f)).getD j 0)) := fun j hj => by
          obtain ⟨e1, e2⟩ := (hsome (by omega)).2.2 j hj
          rw [hL_at f N d hf d.length j (by omega)] at e1 e2
          refine ⟨e1, ?_⟩
          rw [e2, List.getD_eq_getElem?_getD (l := d.drop (N - f)), List.getElem?_drop, ← List.getD_eq_getElem?_getD]
        have hcurB := fun h0 => (hsome h0).2.1
        have hA1 := fun h0 => (hsome h0).1
        have hdl : (d.drop (N - f)).length = n1 := by rw [List.length_drop]; omega
        have hres : ((N + (d.length - (N - f)) : Nat) : Int) = (N : Int) + (n1 : Int) := by rw [hK]; omega
        have HRES := Lib.hid hres
        have hn16 : n1 ≤ 16 := by omega
        obtain ⟨r, hr⟩ : ∃ r, d.drop (N - f) = r := ⟨_, rfl⟩
        rw [hr] at hdl hcur
        have HR := Lib.hid hr
        clear hr
        have H2 := Lib.hid h2
        have HCM := Lib.hid hcm1
        clear hsome HO hres h2 HLn hK hA hcm1
        go_wp2_with fail
        go_loopw [14] (fun v14 wq => ∃ (k q off cv : Nat) (Av : Option Addr), k + q = n1 ∧ Blk wq gy 47 #[.int .i64 ((N : Int) + (k : Int)), .slice Av q cv] ∧ q ≤ cv ∧ cv ≤ maxLen ∧ (Av = none → cv = 0) ∧ (0 < q → Av = some ⟨g, off, none⟩ ∧ off = k * 2) ∧ Own .u8 5 W.heap.size wq v14 (r.take k) ∧ Below W.heap.size W wq ∧ Blk wq (W.heap.size + 1) 47 #[.int .i64 0, .slice none 0 0] ∧ (0 < n1 → Blk wq g 122 cur)) (fun v14 _ => n1 - lenOf v14)
        case atStart => exact ⟨0, n1, 0, c1, A1, by omega, by simpa using HY, hcap, HCM.out, hnone, fun h0 => ⟨hA1 h0, rfl⟩, Own.nil _ _ _ _, HB, HD1, hcurB⟩
        case round =>
          clear HY hcap hnone hA1 HB HD0 HD1 hcurB
          obtain ⟨k, q, off, cv, Av, hkq, HY, hqc, hcvm, hnone, hAv, HO, HB, HD1, hG⟩ := hrel
          have hcvM := Lib.hid hcvm
          clear hcvm
          have hkl : (r.take k).length = k := by rw [List.length_take]; omega
          obtain ⟨x0, x1, x2, x3⟩ := Blk.two HY
          by_cases hq : 0 < q
          · obtain ⟨q', rfl⟩ : ∃ q', q = q' + 1 := ⟨q - 1, by omega⟩
            obtain ⟨rfl, hoff⟩ := hAv hq
            have hkn : k < n1 := by omega
            have hGB := hG (by omega)
            obtain ⟨e1, e2⟩ := hcur k hkn
            have f1 := (hGB.cell (k * 2)).trans e1
            have f2 := (hGB.cell (k * 2 + 1)).trans e2
            rw [← hoff] at f1 f2
            obtain ⟨x, hx⟩ : ∃ x, r.getD k 0 = x := ⟨_, rfl⟩
            rw [hx] at f2
            have HX := Lib.hid hx
            have HOFF := Lib.hid hoff
            have s1 : IntKind.i64.wrap ((N : Int) + (k : Int) + 1) = N + k + 1 := IntWalk.i64_in _ (by omega)
            have g1 : (0 : Int) < ((q' + 1 : Nat) : Int) := by omega
            have g2 : (1 : Int) ≤ ((q' + 1 : Nat) : Int) := by omega
            have ho2 : wr.ownsRow W.heap.size 5 1 u14 k (encs .u8 (r.take k)) := by have h := HO; unfold Own at h; rw [hkl] at h; exact h
            obtain ⟨Au, cu, rfl⟩ := row_form ho2
            have HKL := Lib.hid hkl
            have hgg : g ≠ gy := Blk.ne_ hGB HY (by decide)
            have hneG : g ≠ gy := hgg
            clear hx hoff e1 e2 hkl hAv HO hcur
            by_cases hc1 : cv = 1
            · subst hc1
              obtain rfl : q' = 0 := by omega
              obtain rfl : n1 = k + 1 := by omega
              go_wp2_with fail
              go_quiet (fail)
              go_wp2_with (at_builtin; (refine wpList_app rfl (.tmp 85) (.tmp 91) 32 rfl Try.underlying32 info5 rfl (by decide) (by rfl) (by rfl) (row_alloc (row_stays ho2 (Joins.below_draws _ _ nq)) _) (src_1' _ _ _ _ _ (by simp) rfl) (by simp only [World.size_alloc]; have := HB.size; simp; omega) (by omega) (by decide) ?_); intro v' w' ho' hgr _; obtain ⟨Ao, co, rfl⟩ := row_form ho'; have HYd := Blk.grown ((HY.drewN nq).alloc _) hgr (row_neT ho2 HY (by decide)); have HGd := Blk.grown ((hGB.drewN nq).alloc _) hgr (row_neT ho2 hGB (by decide)); clear x0 x1 x2 x3; obtain ⟨x0, x1, x2, x3⟩ := Blk.two HYd)
              go_roundw
              case rel => exact ⟨k + 1, 0, off, 0, some ⟨g, off, none⟩, by omega, by rw [show ((N : Int) + ((k + 1 : Nat) : Int)) = N + k + 1 by omega]; exact Blk.set0of2 (Blk.set1of2 HYd _) _, by omega, by have := hcvM.out; omega, fun e => (by cases e), fun h0 => absurd h0 (by omega), by rw [take_snoc (by omega), HX.out]; exact row_far (row_far (Own.of ho' (by rw [HKL.out]; rfl)) HYd (by decide) _ _) (Blk.set1of2 HYd _) (by decide) _ _, ((below_grown ((HB.trans (Joins.below_draws _ _ nq)).alloc (by have := HB.size; simp; omega) _) hgr (row_alloc (row_stays ho2 (Joins.below_draws _ _ nq)) _) (by simp only [World.size_alloc]; have := HB.size; simp; omega) (Nat.le_refl _)).setCell hgyW _).setCell hgyW _, (Blk.far (Blk.far (Blk.grown ((HD1.drewN nq).alloc _) hgr (row_neT ho2 HD1 (by decide))) hne1 _) hne1 _), fun h0 => (Blk.far (Blk.far HGd hneG _) hneG _)⟩
              case measure => simp [intOf, lenOf] <;> omega
            · have hc2 : ¬ cv = 1 := hc1
              have hc3 : (1 : Int) ≤ (cv : Int) := by omega
              go_wp2_with fail
              go_quiet (fail)
              go_wp2_with (at_builtin; (refine wpList_app rfl (.tmp 85) (.tmp 91) 32 rfl Try.underlying32 info5 rfl (by decide) (by rfl) (by rfl) (row_alloc (row_stays ho2 (Joins.below_draws _ _ nq)) _) (src_1' _ _ _ _ _ (by simp) rfl) (by simp only [World.size_alloc]; have := HB.size; simp; omega) (by omega) (by decide) ?_); intro v' w' ho' hgr _; obtain ⟨Ao, co, rfl⟩ := row_form ho'; have HYd := Blk.grown ((HY.drewN nq).alloc _) hgr (row_neT ho2 HY (by decide)); have HGd := Blk.grown ((hGB.drewN nq).alloc _) hgr (row_neT ho2 hGB (by decide)); clear x0 x1 x2 x3; obtain ⟨x0, x1, x2, x3⟩ := Blk.two HYd)
              go_roundw
              case rel => exact ⟨k + 1, q', off + 2, cv - 1, some ⟨g, off + 2, none⟩, by omega, by rw [show ((N : Int) + ((k + 1 : Nat) : Int)) = N + k + 1 by omega]; exact Blk.set0of2 (Blk.set1of2 HYd _) _, by omega, by have := hcvM.out; omega, fun e => (by cases e), fun h0 => ⟨rfl, by have := HOFF.out; omega⟩, by rw [take_snoc (by omega), HX.out]; exact row_far (row_far (Own.of ho' (by rw [HKL.out]; rfl)) HYd (by decide) _ _) (Blk.set1of2 HYd _) (by decide) _ _, ((below_grown ((HB.trans (Joins.below_draws _ _ nq)).alloc (by have := HB.size; simp; omega) _) hgr (row_alloc (row_stays ho2 (Joins.below_draws _ _ nq)) _) (by simp only [World.size_alloc]; have := HB.size; simp; omega) (Nat.le_refl _)).setCell hgyW _).setCell hgyW _, (Blk.far (Blk.far (Blk.grown ((HD1.drewN nq).alloc _) hgr (row_neT ho2 HD1 (by decide))) hne1 _) hne1 _), fun h0 => (Blk.far (Blk.far HGd hneG _) hneG _)⟩
              case measure => simp [intOf, lenOf] <;> omega
          · have hq0 : q = 0 := by omega
            subst hq0
            obtain rfl : k = n1 := by omega
            rw [List.take_of_length_le (by omega)] at HO
            obtain ⟨Ao, no, co, rfl⟩ := own_form HO
            have hno := (row_len HO)
            rw [hdl] at hno
            subst hno
            have n256 : ¬ (256 : Int) < (no : Int) := by omega
            clear hcur hG hAv
            obtain ⟨p0, p1, p2, p3⟩ := Blk.two HD1
            go_wp2_with fail
            go_quiet (fail)
            go_wp2_with fail
            refine bodyPost_ret (results_ctt rfl _ _ (W.heap.size + 1) 47 _ (0, 0) _ rfl (Blk.set2 (HD1.drewN nq) _ _) Try.underlying47 rfl (by kernel_rfl)) rfl ?_
            rw [HRES.out]
            exact ⟨Av, cv, _, rfl, hnone, hcvM.out, by rw [HR.out]; exact row_far2 (row_stays HO (Joins.below_draws _ _ nq)) (HD1.drewN nq) (by decide) _ _, below_set2 (HB.trans (Joins.below_draws _ _ nq)) (Nat.le_succ _) _ _⟩

theorem take_c {N f : Nat} {A B : Option Addr} {d : List Int} {c c' : Nat} {W : World} (hA : A = none → c = 0) (hc0 : c ≤ maxLen) (hf : f ≤ N) (hN : N ≤ 10000) (hd : d.length ≤ 16) (h2 : Rd W (.slice B d.length c') d) :
    Calls Try.prog 59 #[.agg #[.int .i64 (N : Int), .slice A 0 c], .int .i64 (f : Int), .slice B d.length c', .int .i64 256] W fun e w' => ∃ A' ca v', e = .returned (.tuple #[.agg #[.int .i64 ((N + (d.length - (N - f)) : Nat) : Int), .slice A' 0 ca], v', .int .i64 0]) ∧ (A' = none → ca = 0) ∧ ca ≤ maxLen ∧ Own .u8 5 W.heap.size w' v' (d.drop (N - f)) ∧ Below W.heap.size W w' := by
  by_cases hd0 : (0 : Int) < d.length
  · exact take_pos hA hc0 hf hN hd0 hd h2
  · exact take_nil hA hc0 hf hN hd0 hd h2
end Go.Proofs.Ytagciaanfjllnaa.Keys
