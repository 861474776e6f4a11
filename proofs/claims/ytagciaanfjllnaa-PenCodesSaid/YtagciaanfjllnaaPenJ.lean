/- The pen's contracts: the document's numbers of a pen. -/
import Derived.Test.YtagciaanfjllnaaPenI
namespace Go.Proofs.Ytagciaanfjllnaa.PenC
open Go Go.RowKit Go.Proofs.Ytagciaanfjllnaa.Base Go.Proofs.Ytagciaanfjllnaa.Opens Go.Proofs.Ytagciaanfjllnaa.Reg Go.Proofs.Ytagciaanfjllnaa.PPenCodes Go.Proofs.YtagciaanfjllnaaW.PrintWords Go.Proofs.YtagciaanfjllnaaW.PrintMore
set_option linter.unusedVariables false
set_option linter.unusedSimpArgs false
attribute [local go_sem ↓] Go.wp_at_zero Go.wp_at_succ

def tab14 : Array Value := #[.int .i64 1, .int .i64 1, .int .i64 2, .int .i64 2, .int .i64 3, .int .i64 4, .int .i64 4, .int .i64 8, .int .i64 5, .int .i64 16, .int .i64 7, .int .i64 32, .int .i64 9, .int .i64 64]
theorem tab_at : ∀ i : Fin 7, tab14[i.val * 2]? = some (.int .i64 (num i)) ∧ tab14[i.val * 2 + 1]? = some (.int .i64 (mkOf i)) := fun i => by
  match i with
  | 0 => exact ⟨rfl, rfl⟩
  | 1 => exact ⟨rfl, rfl⟩
  | 2 => exact ⟨rfl, rfl⟩
  | 3 => exact ⟨rfl, rfl⟩
  | 4 => exact ⟨rfl, rfl⟩
  | 5 => exact ⟨rfl, rfl⟩
  | 6 => exact ⟨rfl, rfl⟩
theorem has_fin : ∀ k : Fin 128, ∀ i : Fin 7, wrap64 (Int.tdiv (k.val : Int) (mkOf i.val)) = Int.tdiv (k.val : Int) (mkOf i.val) ∧ mkOf i.val ≠ 0 := by decide +kernel
theorem has_c {m : Int} {i : Nat} (h0 : 0 ≤ m) (h1 : m ≤ 127) (hi : i < 7) (w : World) : Calls Try.prog 70 #[.int .i64 m, .int .i64 (mkOf i)] w fun e w' => e = .returned (.bool (hasF m (mkOf i))) ∧ Drawn0 w w' := by
  obtain ⟨k, rfl⟩ := fin_of h0 h1
  obtain ⟨e1, e2⟩ := has_fin k ⟨i, hi⟩
  simp only at e1 e2
  refine batonref12_has.calls _ _ _ w ?_
  unfold batonref12_has.f
  rw [if_neg e2, e1]
  rfl
theorem ref_yes {m : Int} {i : Nat} (h : hasF m (mkOf i) = true) : 0 :: refL m (i + 1) = (0 :: refL m i) ++ [num i] := by
  simp [refL, List.range_succ, List.filter_append, h]
theorem ref_no {m : Int} {i : Nat} (h : hasF m (mkOf i) = false) : 0 :: refL m (i + 1) = 0 :: refL m i := by
  simp [refL, List.range_succ, List.filter_append, h]
theorem ref_len (m : Int) (i : Nat) : (0 :: refL m i).length ≤ i + 1 := by
  rw [List.length_cons]
  unfold refL
  rw [List.length_map]
  have := List.length_filter_le (fun j => hasF m (mkOf j)) (List.range i)
  rw [List.length_range] at this
  omega
theorem row_ne {B g : Nat} {t : TypeId} {cs : Array Value} {w : World} {v : Value} {l : List Int} (h : Row B w v l) (hD : Blk w g t cs) (ht : t ≠ 3) : some g ≠ v.ownBlock := fun e => by
  rcases h.2 with ⟨h1, _⟩ | ⟨g2, cap, cur, h1, _, h2, _⟩
  · rw [h1] at e; simp [Value.ownBlock] at e
  · rw [h1] at e
    simp only [Value.ownBlock, Option.some.injEq] at e
    subst e
    exact Blk.ne_ hD h2 ht rfl
theorem blk_appT {B g : Nat} {t : TypeId} {cs : Array Value} {w w' : World} {v : Value} {l : List Int} {o : Obj} (hD : Blk w g t cs) (hg : (w.alloc o).grownBy w' v.ownBlock) (hown : Row B w v l) (ht : t ≠ 3) : Blk w' g t cs :=
  Blk.grown (hD.alloc o) hg (row_ne hown hD ht)
theorem tab_cells {w : World} {g : Nat} (h : Blk w g 28 tab14) {i : Nat} (hi : i < 7) : w.cell? ⟨g, i * 2, none⟩ = some (.int .i64 (num i)) ∧ w.cell? ⟨g, i * 2 + 1, none⟩ = some (.int .i64 (mkOf i)) := by
  obtain ⟨e1, e2⟩ := tab_at ⟨i, hi⟩
  exact ⟨(h.cell _).trans e1, (h.cell _).trans e2⟩

theorem cells_3 (w : World) (x y z : Int) : ∀ j s, (encI [x, y, z])[j]? = some s → (w.alloc (.cells #[.int .i64 x, .int .i64 y, .int .i64 z] 3)).cell? ((⟨w.heap.size, 0, none⟩ : Addr).add j) = some s := by
  intro j s hj
  have hB := Blk.new w 3 #[.int .i64 x, .int .i64 y, .int .i64 z]
  match j, hj with
  | 0, hj => simp [encI] at hj; subst hj; exact hB.cell 0
  | 1, hj => simp [encI] at hj; subst hj; exact hB.cell 1
  | 2, hj => simp [encI] at hj; subst hj; exact hB.cell 2
theorem row_of' {B : Nat} {w : World} {v : Value} {l m m' : List Int} {n : Nat} (h : w.ownsRow B 3 1 v n (encI l ++ encI m)) (hn : n = l.length + m.length) (e : m' = m) : Row B w v (l ++ m') := by
  subst e
  exact row_of h hn
theorem col_0 {c a : Int} (h : c = 0) : colL c a = [] := by rw [colL, if_pos h]
theorem col_8 {c a : Int} (h1 : 1 ≤ c) (h2 : c ≤ 8) : colL c a = [a + c - 1] := by rw [colL, if_neg (by omega), if_pos h2]
theorem col_16 {c a : Int} (h1 : 9 ≤ c) (h2 : c ≤ 16) : colL c a = [a + 60 + c - 9] := by rw [colL, if_neg (by omega), if_neg (by omega), if_pos h2]
theorem col_256 {c a : Int} (h1 : 16 < c) : colL c a = [a + 8, 5, c - 1] := by rw [colL, if_neg (by omega), if_neg (by omega), if_neg (by omega)]
/-- how far the colours are told: v6 of the two -/
structure Stage (B : Nat) (l0 l1 l2 : List Int) (w : World) (v3 v6 : Value) : Prop where
  out : v6 = .int .i64 0 ∧ Row B w v3 l0 ∨ v6 = .int .i64 1 ∧ Row B w v3 (l0 ++ l1) ∨ v6 = .int .i64 2 ∧ Row B w v3 ((l0 ++ l1) ++ l2)
theorem one_eq {x y : Int} (h : x = y) : [x] = [y] := by rw [h]

set_option maxHeartbeats 4000000 in
set_option maxRecDepth 100000 in
theorem marks_c (W : World) : Calls Try.prog 69 #[] W fun e w' => e = .returned (.slice (some ⟨W.heap.size, 0, none⟩) 7 7) ∧ Blk w' W.heap.size 28 tab14 ∧ Below W.heap.size W w' := by
  go_enter Try.func69, Try.ntmps69
  go_wp2_with fail
  go_ret
  exact ⟨rfl, Blk.new W 28 tab14, (Below.refl _ _).alloc (Nat.le_refl _) _⟩

set_option maxHeartbeats 4000000 in
set_option maxRecDepth 100000 in
theorem codes56 (p : Int × Int × Int) (hp : RightP p) (W : World) : Calls Try.prog 56 #[.agg #[.int .i64 p.1, .int .i64 p.2.1, .int .i64 p.2.2]] W fun e w' => ∃ v, e = .returned v ∧ Row W.heap.size w' v (codesL p) ∧ Below W.heap.size W w' := by
  obtain ⟨ti, ti0, ti1, ti2, ti3⟩ := info_parts info3
  obtain ⟨h1, h2, h3, h4, h5, h6⟩ := hp
  go_enter Try.func56, Try.ntmps56
  have B0 := Blk.new W 90 #[.int .i64 p.1, .int .i64 p.2.1, .int .i64 p.2.2]
  have R0 := row_lit (B := W.heap.size + 1) (W.alloc (.cells #[.int .i64 p.1, .int .i64 p.2.1, .int .i64 p.2.2] 90)) [0] (by simp only [World.size_alloc]; exact Nat.le_refl _) (by decide)
  rw [World.size_alloc] at R0
  go_wp2_with (go_at_call 69; refine (marks_c _).mono ?_; rintro _ w1 ⟨rfl, hT, hb⟩)
  have HT1 : Blk w1 (W.heap.size + 2) 28 tab14 := by simpa using hT
  have HB1 : Below W.heap.size W w1 := (Joins.below_alloc2 W _ _).trans (hb.mono (by simp; omega))
  have HD1 : Blk w1 W.heap.size 90 #[.int .i64 p.1, .int .i64 p.2.1, .int .i64 p.2.2] := (B0.alloc _).stays hb
  have HO1 := row_stays R0 hb
  clear hT hb R0 B0
  go_loopw [3, 5] (fun v3 v5 wr => ∃ i : Nat, i ≤ 7 ∧ v5 = .int .i64 i ∧ Row (W.heap.size + 1) wr v3 (0 :: refL p.2.2 i) ∧ Below W.heap.size W wr ∧ Blk wr W.heap.size 90 #[.int .i64 p.1, .int .i64 p.2.1, .int .i64 p.2.2] ∧ Blk wr (W.heap.size + 2) 28 tab14) (fun _ v5 _ => 7 - (intOf v5).toNat)
  case atStart => exact ⟨0, by omega, rfl, HO1, HB1, HD1, HT1⟩
  case round =>
    clear HT1 HB1 HD1 HO1
    obtain ⟨i, hi, rfl, hown, HB, HD, HT⟩ := hrel
    by_cases hlt : i < 7
    · have hk1 : (i : Int) < 7 := by omega
      have hk0 : (0 : Int) ≤ (i : Int) := Int.natCast_nonneg _
      by_cases hh : hasF p.2.2 (mkOf i) = true
      · have HL := Lib.hid (ref_yes hh)
        have g3 : (0 :: refL p.2.2 i).length + 1 ≤ maxLen := by have := ref_len p.2.2 i; unfold maxLen; omega
        have g4 : ((0 :: refL p.2.2 i).length + 1) * 8 ≤ 140737488355328 := by have := ref_len p.2.2 i; omega
        go_wp2_with fail
        have EO := row_stays hown (Joins.below_draws wr.heap.size wr 1)
        have ED := Blk.drew HD
        have ET := Blk.drew HT
        have EB := Below.trans HB (Joins.below_draws W.heap.size wr 1)
        refine wp_region_held_drew (S := fun w' => w'.cell? ⟨W.heap.size, 2, none⟩ = some (.int .i64 p.2.2) ∧ w'.cell? ⟨W.heap.size + 2, i * 2 + 1, none⟩ = some (.int .i64 (mkOf i))) (by kernel_rfl) (⟨ED.cell 2, (tab_cells ET hlt).2⟩) (fun hHeld => ?_)
        refine takeH (i := 0) (N := some 16) (v := ?_) (a' := ?_) rfl rfl (by kernel_rfl) (by kernel_rfl) (by kernel_rfl) (fun _ _ _ h => h) (Or.inl ⟨by rfl, ?_⟩) hHeld ?_ ?_
        rotate_left
        · intro w' hSw
          clear hSw
          go_simp
          with_reducible rfl
        rotate_left
        · simp only [Act.put, List.setIfInBounds_toArray, List.set_cons_zero, List.set_cons_succ]
          rfl
        refine takeH (i := 2) (N := some 18) (v := ?_) (a' := ?_) rfl rfl (by kernel_rfl) (by kernel_rfl) (by kernel_rfl) (fun _ _ _ h => h) (Or.inl ⟨by rfl, ?_⟩) hHeld ?_ ?_
        rotate_left
        · intro w' hSw
          clear hSw
          go_simp
          with_reducible rfl
        rotate_left
        · simp only [Act.put, List.setIfInBounds_toArray, List.set_cons_zero, List.set_cons_succ]
          rfl
        refine takeH (i := 3) (N := some 19) (v := ?_) (a' := ?_) rfl rfl (by kernel_rfl) (by kernel_rfl) (by kernel_rfl) (fun _ _ _ h => h) (Or.inl ⟨by rfl, ?_⟩) hHeld ?_ ?_
        rotate_left
        · intro w' hSw
          clear hSw
          go_simp
          with_reducible rfl
        rotate_left
        · simp only [Act.put, List.setIfInBounds_toArray, List.set_cons_zero, List.set_cons_succ]
          rfl
        refine takeH (i := 4) (N := some 20) (v := ?_) (a' := ?_) rfl rfl (by kernel_rfl) (by kernel_rfl) (by kernel_rfl) (fun _ _ _ h => h) (Or.inl ⟨by rfl, ?_⟩) hHeld ?_ ?_
        rotate_left
        · intro w' hSw
          clear hSw
          go_simp
          with_reducible rfl
        rotate_left
        · simp only [Act.put, List.setIfInBounds_toArray, List.set_cons_zero, List.set_cons_succ]
          rfl
        refine takeH (i := 5) (N := some 21) (v := ?_) (a' := ?_) rfl rfl (by kernel_rfl) (by kernel_rfl) (by kernel_rfl) (fun _ _ _ h => h) (Or.inl ⟨by rfl, ?_⟩) hHeld ?_ ?_
        rotate_left
        · intro w' hSw
          clear hSw
          go_simp
          with_reducible rfl
        rotate_left
        · simp only [Act.put, List.setIfInBounds_toArray, List.set_cons_zero, List.set_cons_succ]
          rfl
        refine takeH (i := 1) (N := some 17) (v := ?_) (a' := ?_) rfl rfl (by kernel_rfl) (by kernel_rfl) (by kernel_rfl) (fun _ _ _ h => h) (Or.inl ⟨by rfl, ?_⟩) hHeld ?_ ?_
        rotate_left
        · intro w' hSw
          go_split_ands
          go_simp
          with_reducible rfl
        rotate_left
        · simp only [Act.put, List.setIfInBounds_toArray, List.set_cons_zero, List.set_cons_succ]
          rfl
        refine takeH (i := 6) (N := some 22) (v := ?_) (a' := ?_) rfl rfl (by kernel_rfl) (by kernel_rfl) (by kernel_rfl) (fun _ _ _ h => h) (Or.inl ⟨by rfl, ?_⟩) hHeld ?_ ?_
        rotate_left
        · intro w' hSw
          go_split_ands
          go_simp
          with_reducible rfl
        rotate_left
        · simp only [Act.put, List.setIfInBounds_toArray, List.set_cons_zero, List.set_cons_succ]
          rfl
        refine wpAnyH_ready (rs := [7]) (by kernel_rfl) (by simp) ?_
        refine AllReadyH.cons rfl (fun K hK => ?_) AllReadyH.nil
        go_simp
        refine (has_c h5 h6 hlt _).mono ?_
        rintro _ x ⟨rfl, ⟨q, rfl⟩⟩
        rw [hh]
        have XO := row_stays EO (Joins.below_draws wr.drew.heap.size wr.drew q)
        have XD := ED.drewN q
        have XT := ET.drewN q
        have XB := EB.trans (Joins.below_draws W.heap.size wr.drew q)
        refine hK.out _ _ (⟨XD.cell 2, (tab_cells XT hlt).2⟩) (fun hHeld => ?_)
        clear hK K
        refine wpAnyH_done (by kernel_rfl) ?_ _
        clear hHeld
        generalize wr.drew.drewN q = x at *
        have c0 := (tab_cells XT hlt).1
        have g5 : ∀ o, W.heap.size + 1 ≤ (x.alloc o).heap.size := fun o => by have := XD.lt; simp; omega
        go_wp2_with (at_builtin; (refine wpList_append_own _ rfl (.tmp 24) (.tmp 30) 48 rfl (W.heap.size + 1) 3 ti (.int .i64 0) 1 8 Try.underlying48 ti0 ti1 ti2 ti3 rfl (by decide) _ (0 :: refL p.2.2 i).length (encI (0 :: refL p.2.2 i)) (by rfl) (XO.alloc _) ⟨x.heap.size, 0, none⟩ 1 1 (encI [num i]) (by rfl) rfl (cells_1 _ _) (enc_one _) g3 g4 (g5 _) ?_); intro v' w' hown' hgrow _)
        go_roundw
        case rel => exact ⟨i + 1, by omega, by go_num, by rw [HL.out]; exact row_of hown' rfl, below_app XB hgrow XO XB.size (by omega), blk_app XD hgrow XO (by omega), blk_appT XT hgrow XO (by decide)⟩
        case measure => simp [intOf]; omega
      · have hh' : hasF p.2.2 (mkOf i) = false := by simpa using hh
        have HL := Lib.hid (ref_no hh')
        clear hh
        go_wp2_with fail
        have EO := row_stays hown (Joins.below_draws wr.heap.size wr 1)
        have ED := Blk.drew HD
        have ET := Blk.drew HT
        have EB := Below.trans HB (Joins.below_draws W.heap.size wr 1)
        refine wp_region_held_drew (S := fun w' => w'.cell? ⟨W.heap.size, 2, none⟩ = some (.int .i64 p.2.2) ∧ w'.cell? ⟨W.heap.size + 2, i * 2 + 1, none⟩ = some (.int .i64 (mkOf i))) (by kernel_rfl) (⟨ED.cell 2, (tab_cells ET hlt).2⟩) (fun hHeld => ?_)
        refine takeH (i := 0) (N := some 16) (v := ?_) (a' := ?_) rfl rfl (by kernel_rfl) (by kernel_rfl) (by kernel_rfl) (fun _ _ _ h => h) (Or.inl ⟨by rfl, ?_⟩) hHeld ?_ ?_
        rotate_left
        · intro w' hSw
          clear hSw
          go_simp
          with_reducible rfl
        rotate_left
        · simp only [Act.put, List.setIfInBounds_toArray, List.set_cons_zero, List.set_cons_succ]
          rfl
        refine takeH (i := 2) (N := some 18) (v := ?_) (a' := ?_) rfl rfl (by kernel_rfl) (by kernel_rfl) (by kernel_rfl) (fun _ _ _ h => h) (Or.inl ⟨by rfl, ?_⟩) hHeld ?_ ?_
        rotate_left
        · intro w' hSw
          clear hSw
          go_simp
          with_reducible rfl
        rotate_left
        · simp only [Act.put, List.setIfInBounds_toArray, List.set_cons_zero, List.set_cons_succ]
          rfl
        refine takeH (i := 3) (N := some 19) (v := ?_) (a' := ?_) rfl rfl (by kernel_rfl) (by kernel_rfl) (by kernel_rfl) (fun _ _ _ h => h) (Or.inl ⟨by rfl, ?_⟩) hHeld ?_ ?_
        rotate_left
        · intro w' hSw
          clear hSw
          go_simp
          with_reducible rfl
        rotate_left
        · simp only [Act.put, List.setIfInBounds_toArray, List.set_cons_zero, List.set_cons_succ]
          rfl
        refine takeH (i := 4) (N := some 20) (v := ?_) (a' := ?_) rfl rfl (by kernel_rfl) (by kernel_rfl) (by kernel_rfl) (fun _ _ _ h => h) (Or.inl ⟨by rfl, ?_⟩) hHeld ?_ ?_
        rotate_left
        · intro w' hSw
          clear hSw
          go_simp
          with_reducible rfl
        rotate_left
        · simp only [Act.put, List.setIfInBounds_toArray, List.set_cons_zero, List.set_cons_succ]
          rfl
        refine takeH (i := 5) (N := some 21) (v := ?_) (a' := ?_) rfl rfl (by kernel_rfl) (by kernel_rfl) (by kernel_rfl) (fun _ _ _ h => h) (Or.inl ⟨by rfl, ?_⟩) hHeld ?_ ?_
        rotate_left
        · intro w' hSw
          clear hSw
          go_simp
          with_reducible rfl
        rotate_left
        · simp only [Act.put, List.setIfInBounds_toArray, List.set_cons_zero, List.set_cons_succ]
          rfl
        refine takeH (i := 1) (N := some 17) (v := ?_) (a' := ?_) rfl rfl (by kernel_rfl) (by kernel_rfl) (by kernel_rfl) (fun _ _ _ h => h) (Or.inl ⟨by rfl, ?_⟩) hHeld ?_ ?_
        rotate_left
        · intro w' hSw
          go_split_ands
          go_simp
          with_reducible rfl
        rotate_left
        · simp only [Act.put, List.setIfInBounds_toArray, List.set_cons_zero, List.set_cons_succ]
          rfl
        refine takeH (i := 6) (N := some 22) (v := ?_) (a' := ?_) rfl rfl (by kernel_rfl) (by kernel_rfl) (by kernel_rfl) (fun _ _ _ h => h) (Or.inl ⟨by rfl, ?_⟩) hHeld ?_ ?_
        rotate_left
        · intro w' hSw
          go_split_ands
          go_simp
          with_reducible rfl
        rotate_left
        · simp only [Act.put, List.setIfInBounds_toArray, List.set_cons_zero, List.set_cons_succ]
          rfl
        refine wpAnyH_ready (rs := [7]) (by kernel_rfl) (by simp) ?_
        refine AllReadyH.cons rfl (fun K hK => ?_) AllReadyH.nil
        go_simp
        refine (has_c h5 h6 hlt _).mono ?_
        rintro _ x ⟨rfl, ⟨q, rfl⟩⟩
        rw [hh']
        have XO := row_stays EO (Joins.below_draws wr.drew.heap.size wr.drew q)
        have XD := ED.drewN q
        have XT := ET.drewN q
        have XB := EB.trans (Joins.below_draws W.heap.size wr.drew q)
        refine hK.out _ _ (⟨XD.cell 2, (tab_cells XT hlt).2⟩) (fun hHeld => ?_)
        clear hK K
        refine wpAnyH_done (by kernel_rfl) ?_ _
        clear hHeld
        generalize wr.drew.drewN q = x at *
        go_wp2_with fail
        go_roundw
        case rel => exact ⟨i + 1, by omega, by go_num, by rw [HL.out]; exact XO, XB, XD, XT⟩
        case measure => simp [intOf]; omega
    · have hi7 : i = 7 := by omega
      subst hi7
      rw [show ((7 : Nat) : Int) = 7 from rfl]
      have L0 := marks_len p.2.2 10
      rw [ref_marks h5 h6] at hown
      obtain ⟨l0, hL0⟩ : ∃ l0, 0 :: marksL p.2.2 10 = l0 := ⟨_, rfl⟩
      rw [hL0] at hown L0
      have HR : ∀ v w, Row (W.heap.size + 1) w v (l0 ++ (colL p.1 30 ++ colL p.2.1 40)) → Row W.heap.size w v (codesL p) := fun v w h => by unfold codesL; rw [List.nil_append, hL0]; exact row_le h (by omega)
      clear HT hlt hi
      go_wp2_with fail
      go_loopw [3, 6, 7] (fun v3 v6 v7 wr => Stage (W.heap.size + 1) l0 (colL p.1 30) (colL p.2.1 40) wr v3 v6 ∧ Below W.heap.size W wr ∧ Blk wr W.heap.size 90 #[.int .i64 p.1, .int .i64 p.2.1, .int .i64 p.2.2]) (fun _ v6 _ _ => 2 - (intOf v6).toNat)
      case atStart => exact ⟨⟨Or.inl ⟨rfl, hown⟩⟩, HB, HD⟩
      case round =>
        clear hown HB HD
        obtain ⟨⟨hcase⟩, HB, HD⟩ := hrel
        obtain ⟨c0, c1, c2, y0, y1, y2⟩ := Blk.three HD
        have g5 : ∀ o, W.heap.size + 1 ≤ (wr.alloc o).heap.size := fun o => by have := HD.lt; simp; omega
        rcases hcase with ⟨rfl, hown⟩ | ⟨rfl, hown⟩ | ⟨rfl, hown⟩
        · by_cases q0 : p.1 = 0
          · have n1 : ¬ (1 : Int) ≤ p.1 := by omega
            have n9 : ¬ (9 : Int) ≤ p.1 := by omega
            have n16 : ¬ (16 : Int) < p.1 := by omega
            have HQ := Lib.hid q0
            clear q0
            go_wp2_with fail
            go_roundw
            case rel => exact ⟨⟨Or.inr (Or.inl ⟨by go_num, by rw [col_0 HQ.out, List.append_nil]; exact hown⟩)⟩, HB, HD⟩
            case measure => simp [intOf]
          by_cases q1 : p.1 ≤ 8
          · have n1 : (1 : Int) ≤ p.1 := by omega
            have s1 : IntKind.i64.wrap (29 + p.1) = 29 + p.1 := IntWalk.i64_in _ (by omega)
            have g3 : l0.length + 1 ≤ maxLen := by first | (unfold maxLen; omega) | (rw [List.length_append]; have := col_len p.1 30; unfold maxLen; omega)
            have g4 : (l0.length + 1) * 8 ≤ 140737488355328 := by first | omega | (rw [List.length_append]; have := col_len p.1 30; omega)
            clear h1 h2 h3 h4 h5 h6 q0
            go_wp2_with (at_builtin; (refine wpList_append_own _ rfl (.tmp 49) (.tmp 55) 48 rfl (W.heap.size + 1) 3 ti (.int .i64 0) 1 8 Try.underlying48 ti0 ti1 ti2 ti3 rfl (by decide) _ l0.length (encI l0) (by rfl) (hown.alloc _) ⟨wr.heap.size, 0, none⟩ 1 1 (encI [29 + p.1]) (by rfl) rfl (cells_1 _ _) (enc_one _) g3 g4 (g5 _) ?_); intro v' w' hown' hgrow _)
            go_roundw
            case rel => exact ⟨⟨Or.inr (Or.inl ⟨by go_num, row_of' hown' rfl ((col_8 n1 q1).trans (one_eq (by omega)))⟩)⟩, below_app HB hgrow hown HB.size (by omega), blk_app HD hgrow hown (by omega)⟩
            case measure => simp [intOf]
          by_cases q2 : p.1 ≤ 16
          · have n1 : (1 : Int) ≤ p.1 := by omega
            have n8 : ¬ p.1 ≤ 8 := q1
            have n9 : (9 : Int) ≤ p.1 := by omega
            have s1 : IntKind.i64.wrap (81 + p.1) = 81 + p.1 := IntWalk.i64_in _ (by omega)
            have g3 : l0.length + 1 ≤ maxLen := by first | (unfold maxLen; omega) | (rw [List.length_append]; have := col_len p.1 30; unfold maxLen; omega)
            have g4 : (l0.length + 1) * 8 ≤ 140737488355328 := by first | omega | (rw [List.length_append]; have := col_len p.1 30; omega)
            clear h1 h2 h3 h4 h5 h6 q0
            go_wp2_with (at_builtin; (refine wpList_append_own _ rfl (.tmp 64) (.tmp 70) 48 rfl (W.heap.size + 1) 3 ti (.int .i64 0) 1 8 Try.underlying48 ti0 ti1 ti2 ti3 rfl (by decide) _ l0.length (encI l0) (by rfl) (hown.alloc _) ⟨wr.heap.size, 0, none⟩ 1 1 (encI [81 + p.1]) (by rfl) rfl (cells_1 _ _) (enc_one _) g3 g4 (g5 _) ?_); intro v' w' hown' hgrow _)
            go_roundw
            case rel => exact ⟨⟨Or.inr (Or.inl ⟨by go_num, row_of' hown' rfl ((col_16 n9 q2).trans (one_eq (by omega)))⟩)⟩, below_app HB hgrow hown HB.size (by omega), blk_app HD hgrow hown (by omega)⟩
            case measure => simp [intOf]
          have n1 : (1 : Int) ≤ p.1 := by omega
          have n8 : ¬ p.1 ≤ 8 := q1
          have n9 : (9 : Int) ≤ p.1 := by omega
          have n16 : ¬ p.1 ≤ 16 := q2
          have n17 : (16 : Int) < p.1 := by omega
          have s1 : IntKind.i64.wrap (p.1 - 1) = p.1 - 1 := IntWalk.i64_in _ (by omega)
          have g3 : l0.length + 3 ≤ maxLen := by first | (unfold maxLen; omega) | (rw [List.length_append]; have := col_len p.1 30; unfold maxLen; omega)
          have g4 : (l0.length + 3) * 8 ≤ 140737488355328 := by first | omega | (rw [List.length_append]; have := col_len p.1 30; omega)
          clear h1 h2 h3 h4 h5 h6 q0
          go_wp2_with (at_builtin; (refine wpList_append_own _ rfl (.tmp 75) (.tmp 81) 48 rfl (W.heap.size + 1) 3 ti (.int .i64 0) 1 8 Try.underlying48 ti0 ti1 ti2 ti3 rfl (by decide) _ l0.length (encI l0) (by rfl) (hown.alloc _) ⟨wr.heap.size, 0, none⟩ 3 3 (encI [38, 5, p.1 - 1]) (by rfl) rfl (cells_3 _ _ _ _) (enc_one _) g3 g4 (g5 _) ?_); intro v' w' hown' hgrow _)
          go_roundw
          case rel => exact ⟨⟨Or.inr (Or.inl ⟨by go_num, row_of' hown' rfl ((col_256 n17).trans (rfl))⟩)⟩, below_app HB hgrow hown HB.size (by omega), blk_app HD hgrow hown (by omega)⟩
          case measure => simp [intOf]
        · by_cases q0 : p.2.1 = 0
          · have n1 : ¬ (1 : Int) ≤ p.2.1 := by omega
            have n9 : ¬ (9 : Int) ≤ p.2.1 := by omega
            have n16 : ¬ (16 : Int) < p.2.1 := by omega
            have HQ := Lib.hid q0
            clear q0
            go_wp2_with fail
            go_roundw
            case rel => exact ⟨⟨Or.inr (Or.inr ⟨by go_num, by rw [col_0 HQ.out, List.append_nil]; exact hown⟩)⟩, HB, HD⟩
            case measure => simp [intOf]
          by_cases q1 : p.2.1 ≤ 8
          · have n1 : (1 : Int) ≤ p.2.1 := by omega
            have s1 : IntKind.i64.wrap (39 + p.2.1) = 39 + p.2.1 := IntWalk.i64_in _ (by omega)
            have g3 : (l0 ++ colL p.1 30).length + 1 ≤ maxLen := by first | (unfold maxLen; omega) | (rw [List.length_append]; have := col_len p.1 30; unfold maxLen; omega)
            have g4 : ((l0 ++ colL p.1 30).length + 1) * 8 ≤ 140737488355328 := by first | omega | (rw [List.length_append]; have := col_len p.1 30; omega)
            clear h1 h2 h3 h4 h5 h6 q0
            go_wp2_with (at_builtin; (refine wpList_append_own _ rfl (.tmp 49) (.tmp 55) 48 rfl (W.heap.size + 1) 3 ti (.int .i64 0) 1 8 Try.underlying48 ti0 ti1 ti2 ti3 rfl (by decide) _ (l0 ++ colL p.1 30).length (encI (l0 ++ colL p.1 30)) (by rfl) (hown.alloc _) ⟨wr.heap.size, 0, none⟩ 1 1 (encI [39 + p.2.1]) (by rfl) rfl (cells_1 _ _) (enc_one _) g3 g4 (g5 _) ?_); intro v' w' hown' hgrow _)
            go_roundw
            case rel => exact ⟨⟨Or.inr (Or.inr ⟨by go_num, row_of' hown' rfl ((col_8 n1 q1).trans (one_eq (by omega)))⟩)⟩, below_app HB hgrow hown HB.size (by omega), blk_app HD hgrow hown (by omega)⟩
            case measure => simp [intOf]
          by_cases q2 : p.2.1 ≤ 16
          · have n1 : (1 : Int) ≤ p.2.1 := by omega
            have n8 : ¬ p.2.1 ≤ 8 := q1
            have n9 : (9 : Int) ≤ p.2.1 := by omega
            have s1 : IntKind.i64.wrap (91 + p.2.1) = 91 + p.2.1 := IntWalk.i64_in _ (by omega)
            have g3 : (l0 ++ colL p.1 30).length + 1 ≤ maxLen := by first | (unfold maxLen; omega) | (rw [List.length_append]; have := col_len p.1 30; unfold maxLen; omega)
            have g4 : ((l0 ++ colL p.1 30).length + 1) * 8 ≤ 140737488355328 := by first | omega | (rw [List.length_append]; have := col_len p.1 30; omega)
            clear h1 h2 h3 h4 h5 h6 q0
            go_wp2_with (at_builtin; (refine wpList_append_own _ rfl (.tmp 64) (.tmp 70) 48 rfl (W.heap.size + 1) 3 ti (.int .i64 0) 1 8 Try.underlying48 ti0 ti1 ti2 ti3 rfl (by decide) _ (l0 ++ colL p.1 30).length (encI (l0 ++ colL p.1 30)) (by rfl) (hown.alloc _) ⟨wr.heap.size, 0, none⟩ 1 1 (encI [91 + p.2.1]) (by rfl) rfl (cells_1 _ _) (enc_one _) g3 g4 (g5 _) ?_); intro v' w' hown' hgrow _)
            go_roundw
            case rel => exact ⟨⟨Or.inr (Or.inr ⟨by go_num, row_of' hown' rfl ((col_16 n9 q2).trans (one_eq (by omega)))⟩)⟩, below_app HB hgrow hown HB.size (by omega), blk_app HD hgrow hown (by omega)⟩
            case measure => simp [intOf]
          have n1 : (1 : Int) ≤ p.2.1 := by omega
          have n8 : ¬ p.2.1 ≤ 8 := q1
          have n9 : (9 : Int) ≤ p.2.1 := by omega
          have n16 : ¬ p.2.1 ≤ 16 := q2
          have n17 : (16 : Int) < p.2.1 := by omega
          have s1 : IntKind.i64.wrap (p.2.1 - 1) = p.2.1 - 1 := IntWalk.i64_in _ (by omega)
          have g3 : (l0 ++ colL p.1 30).length + 3 ≤ maxLen := by first | (unfold maxLen; omega) | (rw [List.length_append]; have := col_len p.1 30; unfold maxLen; omega)
          have g4 : ((l0 ++ colL p.1 30).length + 3) * 8 ≤ 140737488355328 := by first | omega | (rw [List.length_append]; have := col_len p.1 30; omega)
          clear h1 h2 h3 h4 h5 h6 q0
          go_wp2_with (at_builtin; (refine wpList_append_own _ rfl (.tmp 75) (.tmp 81) 48 rfl (W.heap.size + 1) 3 ti (.int .i64 0) 1 8 Try.underlying48 ti0 ti1 ti2 ti3 rfl (by decide) _ (l0 ++ colL p.1 30).length (encI (l0 ++ colL p.1 30)) (by rfl) (hown.alloc _) ⟨wr.heap.size, 0, none⟩ 3 3 (encI [48, 5, p.2.1 - 1]) (by rfl) rfl (cells_3 _ _ _ _) (enc_one _) g3 g4 (g5 _) ?_); intro v' w' hown' hgrow _)
          go_roundw
          case rel => exact ⟨⟨Or.inr (Or.inr ⟨by go_num, row_of' hown' rfl ((col_256 n17).trans (rfl))⟩)⟩, below_app HB hgrow hown HB.size (by omega), blk_app HD hgrow hown (by omega)⟩
          case measure => simp [intOf]
        · go_wp2_with fail
          go_ret
          exact ⟨_, rfl, HR _ _ (by rw [← List.append_assoc]; exact hown), HB⟩
end Go.Proofs.Ytagciaanfjllnaa.PenC
