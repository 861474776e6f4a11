/- The law TopKeys: the contract of take. -/
import Derived.Test.YtagciaanfjllnaaKeysI
namespace Go.Proofs.Ytagciaanfjllnaa.Keys
open Go Go.RowKit Go.Proofs.Ytagciaanfjllnaa.Base Go.Proofs.Ytagciaanfjllnaa.Opens Go.Proofs.Ytagciaanfjllnaa.Reg Go.Proofs.YtagciaanfjllnaaW.PrintWords
set_option linter.unusedVariables false
set_option linter.unusedSimpArgs false
attribute [local go_sem ↓] Go.wp_at_zero Go.wp_at_succ
attribute [local go_sem high] eq32 eq45

theorem set23 {w : World} {g : Nat} {t : TypeId} {a b c d e f h i j : Value} (hB : Blk w g t #[a, b, c, d, e, f, h, i, j]) (x y : Value) : Blk ((w.setCell ⟨g, 2, none⟩ x).setCell ⟨g, 3, none⟩ y) g t #[a, b, x, y, e, f, h, i, j] := by
  simpa using (hB.set_ 2 x).set_ 3 y
theorem set5 {w : World} {g : Nat} {t : TypeId} {a b c d e f h i j : Value} (hB : Blk w g t #[a, b, c, d, e, f, h, i, j]) (x : Value) : Blk (w.setCell ⟨g, 5, none⟩ x) g t #[a, b, c, d, e, x, h, i, j] := by
  simpa using hB.set_ 5 x
theorem set8 {w : World} {g : Nat} {t : TypeId} {a b c d e f h i j : Value} (hB : Blk w g t #[a, b, c, d, e, f, h, i, j]) (x : Value) : Blk (w.setCell ⟨g, 8, none⟩ x) g t #[a, b, c, d, e, f, h, i, x] := by
  simpa using hB.set_ 8 x
theorem take_more (T : List Int) (f m N : Nat) (hf : f ≤ N) (hm : f + m ≤ T.length) (hN : N ≤ T.length) : T.take N ++ ((T.drop f).take m).drop (N - f) = T.take (N + (m - (N - f))) := by
  rw [List.drop_take, List.drop_drop, show f + (N - f) = N by omega]
  apply List.ext_getElem?
  intro i
  rcases Nat.lt_or_ge i N with h | h
  · rw [List.getElem?_append_left (by rw [List.length_take]; omega), List.getElem?_take, List.getElem?_take, if_pos h, if_pos (by omega)]
  · rw [List.getElem?_append_right (by rw [List.length_take]; omega), List.length_take, Nat.min_eq_left hN, List.getElem?_take, List.getElem?_take, List.getElem?_drop]
    by_cases h2 : i - N < m - (N - f)
    · rw [if_pos h2, if_pos (by omega)]; congr 1; omega
    · rw [if_neg h2, if_neg (by omega)]
/-- what take leaves -/
structure Took (B gk : Nat) (T : List Int) (F N : Nat) (fs : List Int) (ds : List (List Int)) (ak : List Int) (vs : List Value) (j : Nat) (w' : World) : Prop where
  out : ∃ (N' : Nat) (k' : KV), N ≤ N' ∧ N' ≤ T.length ∧ (∃ f m : Nat, fs.getD j 0 = (f : Int) ∧ f ≤ N ∧ ds.getD j [] = (T.drop f).take m ∧ m ≤ 16 ∧ f + m ≤ T.length ∧ N' = N + (m - (N - f))) ∧ Inv B gk w' T F N' fs ds (ak ++ [(N' : Int)]) vs k'
/-- some are taken -/
theorem Inv.take {B gk : Nat} {T : List Int} {F N : Nat} {fs ak : List Int} {ds : List (List Int)} {vs : List Value} {k : KV} {W : World} {w' : World} {N' : Nat} {h' g' a' : Value} (h : Inv B gk W T F N fs ds ak vs k) (hc : Chg W w' gk [k.given, k.acks]) (hblk : Blk w' gk 50 (kcells F N' { k with held := h', given := g', acks := a' }))
    (hN : N ≤ N') (hNT : N' ≤ T.length) (held : ∃ A c, h' = .slice A 0 c ∧ (A = none → c = 0) ∧ c ≤ maxLen) (gv : Own .u8 5 B w' g' (T.take N')) (ac : Own .i64 3 B w' a' (ak ++ [(N' : Int)])) (hng : NewAt W k.given g') (hna : NewAt W k.acks a') :
    Inv B gk w' T F N' fs ds (ak ++ [(N' : Int)]) vs { k with held := h', given := g', acks := a' } :=
  have ap5 : ∀ {v : Value} {l : List Int}, Own .u8 5 B W v l → Apart v k.given → ∀ u ∈ [k.given, k.acks], Apart v u := fun hv ha u hu => by
    simp only [List.mem_cons, List.not_mem_nil, or_false] at hu
    rcases hu with rfl | rfl
    · exact ha
    · exact apart_type hv h.ac (by decide)
  ⟨hblk, h.hB, Nat.le_trans h.hFN hN, hNT, h.hT, h.hbox, row_chg h.rb hc h.blk (by decide) (ap5 h.rb h.s3.2), held, row_chg h.ty hc h.blk (by decide) (ap5 h.ty h.s1), gv,
    row_chg h.fi hc h.blk (by decide) (fun u hu => by
      simp only [List.mem_cons, List.not_mem_nil, or_false] at hu
      rcases hu with rfl | rfl
      · exact apart_type h.fi h.gv (by decide)
      · exact h.s2), ac,
    row_chg h.da hc h.blk (by decide) (fun u hu => by
      simp only [List.mem_cons, List.not_mem_nil, or_false] at hu
      rcases hu with rfl | rfl
      · exact apart_type h.da h.gv (by decide)
      · exact apart_type h.da h.ac (by decide)), h.vl, h.fl,
    fun j hj => row_chg (h.ch j hj) hc h.blk (by decide) (ap5 (h.ch j hj) (h.s4 j hj).2),
    fun j hj => by
      obtain ⟨f, m, h1, h2, h3, h4, h5⟩ := h.log j hj
      exact ⟨f, m, h1, Nat.le_trans h2 hN, h3, h4, h5⟩,
    fun j hj => by
      rw [List.length_append, List.length_singleton] at hj
      by_cases hj2 : j < ak.length
      · rw [getD_old hj2]
        obtain ⟨n, h1, h2⟩ := h.acl j hj2
        exact ⟨n, h1, Nat.le_trans h2 hN⟩
      · rw [getD_new (by omega)]
        exact ⟨N', rfl, Nat.le_refl _⟩,
    hng.apart h.ty h.s1, hna.apart h.fi h.s2, ⟨h.s3.1, hng.apart h.rb h.s3.2⟩, fun j hj => ⟨(h.s4 j hj).1, hng.apart (h.ch j hj) (h.s4 j hj).2⟩⟩

set_option maxHeartbeats 4000000 in
set_option maxRecDepth 100000 in
theorem taken_c {B gk : Nat} {T : List Int} {F N : Nat} {fs ak : List Int} {ds : List (List Int)} {vs : List Value} {k : KV} {W : World} {j : Nat} (hI : Inv B gk W T F N fs ds ak vs k) (hj : j < fs.length) (hcf : fs.length ≤ 1000) (hca : ak.length ≤ 1000) :
    Calls Try.prog 26 #[.pointer (some ⟨gk, 0, none⟩), .int .i64 (j : Int)] W fun e w' => e = .returned (.bool true) ∧ Took B gk T F N fs ds ak vs j w' ∧ Below B W w' := by
  have hS := hI.slices
  obtain ⟨bytes, held, typed, given, first, data, acks⟩ := k
  obtain ⟨⟨A1, n1, c1, e1⟩, ⟨A2, n2, c2, e2⟩, ⟨A3, n3, c3, e3⟩, ⟨A4, n4, c4, e4⟩, ⟨A5, n5, c5, e5⟩, ⟨A6, n6, c6, e6⟩, ⟨A7, n7, c7, e7⟩⟩ := hS
  simp only at e1 e2 e3 e4 e5 e6 e7
  subst e1 e2 e3 e4 e5 e6 e7
  have hK : Blk W gk 50 #[.int .i64 (F : Int), .slice A1 n1 c1, .int .i64 (N : Int), .slice A2 n2 c2, .slice A3 n3 c3, .slice A4 n4 c4, .slice A5 n5 c5, .slice A6 n6 c6, .slice A7 n7 c7] := hI.blk
  have hl1 : n1 = (T.drop F).length := row_len hI.rb
  have hbd := hI.hbox
  have hT := hI.hT
  have hFN := hI.hFN
  have hNT := hI.hNT
  have hBg := hI.hB
  obtain ⟨f, m, hf1, hf2, hm, hfm, hd⟩ := hI.log j (by rw [← hI.fl]; exact hj)
  have hjd : j < ds.length := by rw [← hI.fl]; exact hj
  have hjv : j < vs.length := by rw [hI.vl]; exact hjd
  have hch := hI.ch j hjd
  rw [hd] at hch
  have hdl : ((T.drop f).take m).length = m := by rw [List.length_take, List.length_drop]; omega
  obtain ⟨Ah, chh, eh, hA2, hc2⟩ := hI.held
  cases eh
  obtain ⟨g5, c5', e5⟩ := Joins.ownsRow_form hI.fi (by omega)
  cases e5
  obtain ⟨g6, c6', e6⟩ := Joins.ownsRow_form hI.da (by omega)
  cases e6
  have hfc := World.ownsRow.cells hI.fi (g := g5) rfl j _ (encs_at hj)
  rw [Go.WideShapes.add_plain, Nat.zero_add, hf1] at hfc
  obtain ⟨Bj, nj, cj, ej⟩ := own_form hch
  have hvj : vs[j]? = some (.slice Bj nj cj) := by
    rw [← ej, List.getD_eq_getElem?_getD, List.getElem?_eq_getElem hjv]; rfl
  have hdc := World.ownsRow.cells hI.da (g := g6) rfl j _ hvj
  rw [Go.WideShapes.add_plain, Nat.zero_add] at hdc
  rw [ej] at hch
  have hnj : nj = ((T.drop f).take m).length := row_len hch
  rw [hdl] at hnj
  subst nj
  have hrd := hch.rd
  have HI := Lib.hid hI
  have HCH := Lib.hid hch
  have hWB : B ≤ W.heap.size := Nat.le_trans hBg (Nat.le_of_lt hK.lt)
  have hjj0 : (0 : Int) ≤ (j : Int) := Int.natCast_nonneg _
  have hjj1 : (j : Int) < (fs.length : Int) := by omega
  have hjj2 : (j : Int) < (vs.length : Int) := by omega
  have HA2 := Lib.hid hA2
  have HC2 := Lib.hid hc2
  obtain ⟨m0, m1, m2, m3, m4, m5, m6, m7, m8, z0, z1, z2, z3, z4, z5, z6, z7, z8⟩ := nine hK
  have hTake : ∀ w, Rd w (.slice Bj m cj) ((T.drop f).take m) → Calls Try.prog 59 #[.agg #[.int .i64 (N : Int), .slice A2 0 c2], .int .i64 (f : Int), .slice Bj m cj, .int .i64 256] w fun e w' => ∃ A' ca v', e = .returned (.tuple #[.agg #[.int .i64 ((N + (m - (N - f)) : Nat) : Int), .slice A' 0 ca], v', .int .i64 0]) ∧ (A' = none → ca = 0) ∧ ca ≤ maxLen ∧ Own .u8 5 w.heap.size w' v' (((T.drop f).take m).drop (N - f)) ∧ Below w.heap.size w w' := fun w hw => by
    have h := take_c (d := (T.drop f).take m) (c' := cj) (B := Bj) HA2.out HC2.out hf2 (by omega) (by omega) (by rw [hdl]; exact hw)
    rw [hdl] at h
    exact h
  have HM := Lib.hid (take_more T f m N hf2 hfm hNT)
  obtain ⟨N', hN'⟩ : ∃ N', N + (m - (N - f)) = N' := ⟨_, rfl⟩
  rw [hN'] at hTake
  obtain ⟨r, hr⟩ : ∃ r, ((T.drop f).take m).drop (N - f) = r := ⟨_, rfl⟩
  rw [hr] at hTake
  have HR := Lib.hid hr
  have HN := Lib.hid hN'
  have HD := Lib.hid hd
  have hr16 : r.length ≤ 16 := by rw [← hr, List.length_drop, hdl]; omega
  have hNle : N ≤ N' ∧ N' ≤ T.length := by omega
  clear hI hch hA2 hc2 hr hN' hd hl1 ej hvj
  go_enter Try.func26, Try.ntmps26
  go_wp2_with fail
  go_cut [5, 6, 7] (fun s5 s6 s7 wx => ∃ gx A' ca A8 n8 c8, s5 = .pointer (some ⟨gx, 0, none⟩) ∧ s6 = .slice A8 n8 c8 ∧ s7 = .int .i64 0 ∧ W.heap.size ≤ gx ∧ Blk wx gx 47 #[.int .i64 (N' : Int), .slice A' 0 ca] ∧ (A' = none → ca = 0) ∧ ca ≤ maxLen ∧ Own .u8 5 W.heap.size wx (.slice A8 n8 c8) r ∧ Below W.heap.size W wx)
  case first =>
    have hS0 : W.drew.cell? ⟨gk, 2, none⟩ = some (.int .i64 (N : Int)) ∧ W.drew.cell? ⟨gk, 3, none⟩ = some (.slice A2 0 c2) ∧ W.drew.cell? ⟨gk, 6, none⟩ = some (.slice (some ⟨g5, 0, none⟩) fs.length c5) ∧ W.drew.cell? ⟨gk, 7, none⟩ = some (.slice (some ⟨g6, 0, none⟩) vs.length c6) ∧ W.drew.cell? ⟨g5, j, none⟩ = some (.int .i64 (f : Int)) ∧ W.drew.cell? ⟨g6, j, none⟩ = some (.slice Bj m cj) := ⟨m2, m3, m6, m7, hfc, hdc⟩
    have hrd0 : Rd W.drew (.slice Bj m cj) ((T.drop f).take m) := hrd
    have hgk0 : gk < W.drew.heap.size := hK.lt
    have hg50 : g5 < W.drew.heap.size := cell_lt (p := ⟨g5, j, none⟩) hfc
    have hg60 : g6 < W.drew.heap.size := cell_lt (p := ⟨g6, j, none⟩) hdc
    have hSk : ∀ w', Below W.drew.heap.size W.drew w' → w'.cell? ⟨gk, 2, none⟩ = some (.int .i64 (N : Int)) ∧ w'.cell? ⟨gk, 3, none⟩ = some (.slice A2 0 c2) ∧ w'.cell? ⟨gk, 6, none⟩ = some (.slice (some ⟨g5, 0, none⟩) fs.length c5) ∧ w'.cell? ⟨gk, 7, none⟩ = some (.slice (some ⟨g6, 0, none⟩) vs.length c6) ∧ w'.cell? ⟨g5, j, none⟩ = some (.int .i64 (f : Int)) ∧ w'.cell? ⟨g6, j, none⟩ = some (.slice Bj m cj) := fun w' hb => ⟨(hb.cell (p := ⟨gk, 2, none⟩) hgk0).trans m2, (hb.cell (p := ⟨gk, 3, none⟩) hgk0).trans m3, (hb.cell (p := ⟨gk, 6, none⟩) hgk0).trans m6, (hb.cell (p := ⟨gk, 7, none⟩) hgk0).trans m7, (hb.cell (p := ⟨g5, j, none⟩) hg50).trans hfc, (hb.cell (p := ⟨g6, j, none⟩) hg60).trans hdc⟩
    have hB0 : Below W.heap.size W W.drew := Joins.below_draws W.heap.size W 1
    clear m0 m1 m2 m3 m4 m5 m6 m7 m8 z0 z1 z2 z3 z4 z5 z6 z7 z8 hfc hdc
    refine wp_region_held_drew (S := fun w' => w'.cell? ⟨gk, 2, none⟩ = some (.int .i64 (N : Int)) ∧ w'.cell? ⟨gk, 3, none⟩ = some (.slice A2 0 c2) ∧ w'.cell? ⟨gk, 6, none⟩ = some (.slice (some ⟨g5, 0, none⟩) fs.length c5) ∧ w'.cell? ⟨gk, 7, none⟩ = some (.slice (some ⟨g6, 0, none⟩) vs.length c6) ∧ w'.cell? ⟨g5, j, none⟩ = some (.int .i64 (f : Int)) ∧ w'.cell? ⟨g6, j, none⟩ = some (.slice Bj m cj)) (by kernel_rfl) (hS0) (fun hHeld => ?_)
    refine takeH (i := 0) (N := some 13) (v := ?_) (a' := ?_) rfl rfl (by kernel_rfl) (by kernel_rfl) (by kernel_rfl) (fun _ _ _ h => h) (Or.inl ⟨by rfl, ?_⟩) hHeld ?_ ?_
    rotate_left
    · intro w' hSw
      clear hSw
      go_simp
      with_reducible rfl
    rotate_left
    · simp only [Act.put, List.setIfInBounds_toArray, List.set_cons_zero, List.set_cons_succ]
      rfl
    refine takeH (i := 1) (N := some 14) (v := ?_) (a' := ?_) rfl rfl (by kernel_rfl) (by kernel_rfl) (by kernel_rfl) (fun _ _ _ h => h) (Or.inl ⟨by rfl, ?_⟩) hHeld ?_ ?_
    rotate_left
    · intro w' hSw
      clear hSw
      go_simp
      with_reducible rfl
    rotate_left
    · simp only [Act.put, List.setIfInBounds_toArray, List.set_cons_zero, List.set_cons_succ]
      rfl
    refine takeH (i := 2) (N := some 15) (v := ?_) (a' := ?_) rfl rfl (by kernel_rfl) (by kernel_rfl) (by kernel_rfl) (fun _ _ _ h => h) (Or.inl ⟨by rfl, ?_⟩) hHeld ?_ ?_
    rotate_left
    · intro w' hSw
      clear hSw
      go_simp
      with_reducible rfl
    rotate_left
    · simp only [Act.put, List.setIfInBounds_toArray, List.set_cons_zero, List.set_cons_succ]
      rfl
    refine takeH (i := 4) (N := some 17) (v := ?_) (a' := ?_) rfl rfl (by kernel_rfl) (by kernel_rfl) (by kernel_rfl) (fun _ _ _ h => h) (Or.inl ⟨by rfl, ?_⟩) hHeld ?_ ?_
    rotate_left
    · intro w' hSw
      clear hSw
      go_simp
      with_reducible rfl
    rotate_left
    · simp only [Act.put, List.setIfInBounds_toArray, List.set_cons_zero, List.set_cons_succ]
      rfl
    refine takeH (i := 5) (N := some 18) (v := ?_) (a' := ?_) rfl rfl (by kernel_rfl) (by kernel_rfl) (by kernel_rfl) (fun _ _ _ h => h) (Or.inl ⟨by rfl, ?_⟩) hHeld ?_ ?_
    rotate_left
    · intro w' hSw
      clear hSw
      go_simp
      with_reducible rfl
    rotate_left
    · simp only [Act.put, List.setIfInBounds_toArray, List.set_cons_zero, List.set_cons_succ]
      rfl
    refine takeH (i := 6) (N := some 19) (v := ?_) (a' := ?_) rfl rfl (by kernel_rfl) (by kernel_rfl) (by kernel_rfl) (fun _ _ _ h => h) (Or.inl ⟨by rfl, ?_⟩) hHeld ?_ ?_
    rotate_left
    · intro w' hSw
      clear hSw
      go_simp
      with_reducible rfl
    rotate_left
    · simp only [Act.put, List.setIfInBounds_toArray, List.set_cons_zero, List.set_cons_succ]
      rfl
    refine takeH (i := 8) (N := some 21) (v := ?_) (a' := ?_) rfl rfl (by kernel_rfl) (by kernel_rfl) (by kernel_rfl) (fun _ _ _ h => h) (Or.inl ⟨by rfl, ?_⟩) hHeld ?_ ?_
    rotate_left
    · intro w' hSw
      clear hSw
      go_simp
      with_reducible rfl
    rotate_left
    · simp only [Act.put, List.setIfInBounds_toArray, List.set_cons_zero, List.set_cons_succ]
      rfl
    refine takeH (i := 11) (N := some 24) (v := ?_) (a' := ?_) rfl rfl (by kernel_rfl) (by kernel_rfl) (by kernel_rfl) (fun _ _ _ h => h) (Or.inl ⟨by rfl, ?_⟩) hHeld ?_ ?_
    rotate_left
    · intro w' hSw
      clear hSw
      go_simp
      with_reducible rfl
    rotate_left
    · simp only [Act.put, List.setIfInBounds_toArray, List.set_cons_zero, List.set_cons_succ]
      rfl
    refine takeH (i := 12) (N := some 25) (v := ?_) (a' := ?_) rfl rfl (by kernel_rfl) (by kernel_rfl) (by kernel_rfl) (fun _ _ _ h => h) (Or.inl ⟨by rfl, ?_⟩) hHeld ?_ ?_
    rotate_left
    · intro w' hSw
      clear hSw
      go_simp
      with_reducible rfl
    rotate_left
    · simp only [Act.put, List.setIfInBounds_toArray, List.set_cons_zero, List.set_cons_succ]
      rfl
    refine takeH (i := 13) (N := some 26) (v := ?_) (a' := ?_) rfl rfl (by kernel_rfl) (by kernel_rfl) (by kernel_rfl) (fun _ _ _ h => h) (Or.inl ⟨by rfl, ?_⟩) hHeld ?_ ?_
    rotate_left
    · intro w' hSw
      clear hSw
      go_simp
      with_reducible rfl
    rotate_left
    · simp only [Act.put, List.setIfInBounds_toArray, List.set_cons_zero, List.set_cons_succ]
      rfl
    refine takeH (i := 15) (N := some 28) (v := ?_) (a' := ?_) rfl rfl (by kernel_rfl) (by kernel_rfl) (by kernel_rfl) (fun _ _ _ h => h) (Or.inl ⟨by rfl, ?_⟩) hHeld ?_ ?_
    rotate_left
    · intro w' hSw
      clear hSw
      go_simp
      with_reducible rfl
    rotate_left
    · simp only [Act.put, List.setIfInBounds_toArray, List.set_cons_zero, List.set_cons_succ]
      rfl
    refine takeH (i := 3) (N := some 16) (v := ?_) (a' := ?_) rfl rfl (by kernel_rfl) (by kernel_rfl) (by kernel_rfl) (fun _ _ _ h => h) (Or.inl ⟨by rfl, ?_⟩) hHeld ?_ ?_
    rotate_left
    · intro w' hSw
      go_split_ands
      go_simp
      with_reducible rfl
    rotate_left
    · simp only [Act.put, List.setIfInBounds_toArray, List.set_cons_zero, List.set_cons_succ]
      rfl
    refine takeH (i := 7) (N := some 20) (v := ?_) (a' := ?_) rfl rfl (by kernel_rfl) (by kernel_rfl) (by kernel_rfl) (fun _ _ _ h => h) (Or.inl ⟨by rfl, ?_⟩) hHeld ?_ ?_
    rotate_left
    · intro w' hSw
      go_split_ands
      go_simp
      with_reducible rfl
    rotate_left
    · simp only [Act.put, List.setIfInBounds_toArray, List.set_cons_zero, List.set_cons_succ]
      rfl
    refine takeH (i := 14) (N := some 27) (v := ?_) (a' := ?_) rfl rfl (by kernel_rfl) (by kernel_rfl) (by kernel_rfl) (fun _ _ _ h => h) (Or.inl ⟨by rfl, ?_⟩) hHeld ?_ ?_
    rotate_left
    · intro w' hSw
      go_split_ands
      go_simp
      with_reducible rfl
    rotate_left
    · simp only [Act.put, List.setIfInBounds_toArray, List.set_cons_zero, List.set_cons_succ]
      rfl
    refine takeH (i := 9) (N := some 22) (v := ?_) (a' := ?_) rfl rfl (by kernel_rfl) (by kernel_rfl) (by kernel_rfl) (fun _ _ _ h => h) (Or.inl ⟨by rfl, ?_⟩) hHeld ?_ ?_
    rotate_left
    · intro w' hSw
      clear hSw
      go_simp
      with_reducible rfl
    rotate_left
    · simp only [Act.put, List.setIfInBounds_toArray, List.set_cons_zero, List.set_cons_succ]
      rfl
    refine takeH (i := 16) (N := some 29) (v := ?_) (a' := ?_) rfl rfl (by kernel_rfl) (by kernel_rfl) (by kernel_rfl) (fun _ _ _ h => h) (Or.inl ⟨by rfl, ?_⟩) hHeld ?_ ?_
    rotate_left
    · intro w' hSw
      clear hSw
      go_simp
      with_reducible rfl
    rotate_left
    · simp only [Act.put, List.setIfInBounds_toArray, List.set_cons_zero, List.set_cons_succ]
      rfl
    refine takeH (i := 10) (N := some 23) (v := ?_) (a' := ?_) rfl rfl (by kernel_rfl) (by kernel_rfl) (by kernel_rfl) (fun _ _ _ h => h) (Or.inl ⟨by rfl, ?_⟩) hHeld ?_ ?_
    rotate_left
    · intro w' hSw
      go_split_ands
      go_simp
      with_reducible rfl
    rotate_left
    · simp only [Act.put, List.setIfInBounds_toArray, List.set_cons_zero, List.set_cons_succ]
      rfl
    refine takeH (i := 17) (N := some 30) (v := ?_) (a' := ?_) rfl rfl (by kernel_rfl) (by kernel_rfl) (by kernel_rfl) (fun _ _ _ h => h) (Or.inl ⟨by rfl, ?_⟩) hHeld ?_ ?_
    rotate_left
    · intro w' hSw
      go_split_ands
      go_simp
      with_reducible rfl
    rotate_left
    · simp only [Act.put, List.setIfInBounds_toArray, List.set_cons_zero, List.set_cons_succ]
      rfl
    refine wpAnyH_ready (rs := [18, 23]) (by kernel_rfl) (by simp) ?_
    refine AllReadyH.cons rfl (fun K hK => ?_) (AllReadyH.cons rfl (fun K hK => ?_) AllReadyH.nil)
    · go_simp
      with_reducible refine (hTake _ hrd0).mono ?_
      rintro _ x ⟨A', ca, v', rfl, hA', hca', ho, hx⟩
      obtain ⟨A8, n8, c8, rfl⟩ := own_form ho
      have HX := Lib.hid hA'
      clear hA'
      refine hK.out _ _ (hSk _ hx) (fun hHeld => ?_)
      clear hK K
      refine takeH (i := 19) (N := some 12) (v := ?_) (a' := ?_) rfl rfl (by kernel_rfl) (by kernel_rfl) (by kernel_rfl) (fun _ _ _ h => h) (Or.inl ⟨by rfl, ?_⟩) hHeld ?_ ?_
      rotate_left
      · intro w' hSw
        clear hSw
        go_simp
        with_reducible rfl
      rotate_left
      · simp only [Act.put, List.setIfInBounds_toArray, List.set_cons_zero, List.set_cons_succ]
        rfl
      refine takeH (i := 20) (N := some 32) (v := ?_) (a' := ?_) rfl rfl (by kernel_rfl) (by kernel_rfl) (by kernel_rfl) (fun _ _ _ h => h) (Or.inl ⟨by rfl, ?_⟩) hHeld ?_ ?_
      rotate_left
      · intro w' hSw
        clear hSw
        go_simp
        with_reducible rfl
      rotate_left
      · simp only [Act.put, List.setIfInBounds_toArray, List.set_cons_zero, List.set_cons_succ]
        rfl
      refine takeH (i := 21) (N := some 33) (v := ?_) (a' := ?_) rfl rfl (by kernel_rfl) (by kernel_rfl) (by kernel_rfl) (fun _ _ _ h => h) (Or.inl ⟨by rfl, ?_⟩) hHeld ?_ ?_
      rotate_left
      · intro w' hSw
        clear hSw
        go_simp
        with_reducible rfl
      rotate_left
      · simp only [Act.put, List.setIfInBounds_toArray, List.set_cons_zero, List.set_cons_succ]
        rfl
      refine takeH (i := 22) (N := some 34) (v := ?_) (a' := ?_) rfl rfl (by kernel_rfl) (by kernel_rfl) (by kernel_rfl) (fun _ _ _ h => h) (Or.inl ⟨by rfl, ?_⟩) hHeld ?_ ?_
      rotate_left
      · intro w' hSw
        clear hSw
        go_simp
        with_reducible rfl
      rotate_left
      · simp only [Act.put, List.setIfInBounds_toArray, List.set_cons_zero, List.set_cons_succ]
        rfl
      refine wpAnyH_ready (rs := [23]) (by kernel_rfl) (by simp) ?_
      refine AllReadyH.cons rfl (fun K hK => ?_) AllReadyH.nil
      go_simp
      refine hK.out _ _ (hSk _ (hx.alloc hx.size (.cells #[.int .i64 0, .slice none 0 0] 47))) (fun hHeld => ?_)
      clear hK K
      refine wpAnyH_ready (rs := [24]) (by kernel_rfl) (by simp) ?_
      refine AllReadyH.cons rfl (fun K hK => ?_) AllReadyH.nil
      go_simp
      have V0 := Blk.new x 47 #[.int .i64 (N' : Int), .slice A' 0 ca]
      have VB := hx.alloc hx.size (.cells #[.int .i64 (N' : Int), .slice A' 0 ca] 47)
      have VO := row_alloc ho (.cells #[.int .i64 (N' : Int), .slice A' 0 ca] 47)
      refine hK.out _ _ (hSk _ VB) (fun hHeld => ?_)
      clear hK K
      refine takeH (i := 25) (N := some 6) (v := ?_) (a' := ?_) rfl rfl (by kernel_rfl) (by kernel_rfl) (by kernel_rfl) (fun _ _ _ h => h) (Or.inl ⟨by rfl, ?_⟩) hHeld ?_ ?_
      rotate_left
      · intro w' hSw
        clear hSw
        go_simp
        with_reducible rfl
      rotate_left
      · simp only [Act.put, List.setIfInBounds_toArray, List.set_cons_zero, List.set_cons_succ]
        rfl
      refine takeH (i := 26) (N := some 7) (v := ?_) (a' := ?_) rfl rfl (by kernel_rfl) (by kernel_rfl) (by kernel_rfl) (fun _ _ _ h => h) (Or.inl ⟨by rfl, ?_⟩) hHeld ?_ ?_
      rotate_left
      · intro w' hSw
        clear hSw
        go_simp
        with_reducible rfl
      rotate_left
      · simp only [Act.put, List.setIfInBounds_toArray, List.set_cons_zero, List.set_cons_succ]
        rfl
      refine wpAnyH_done (by kernel_rfl) ?_ _
      clear hHeld
      go_wp2_with fail
      go_meet
      exact ⟨x.heap.size, A', ca, A8, n8, c8, rfl, rfl, rfl, hx.size, V0, HX.out, hca', VO, hB0.trans VB⟩
    · go_simp
      have UB := (Below.refl W.drew.heap.size W.drew).alloc (Nat.le_refl _) (.cells #[.int .i64 0, .slice none 0 0] 47)
      have UY := Blk.new W.drew 47 #[.int .i64 0, .slice none 0 0]
      refine hK.out _ _ (hSk _ UB) (fun hHeld => ?_)
      clear hK K
      refine wpAnyH_ready (rs := [18]) (by kernel_rfl) (by simp) ?_
      refine AllReadyH.cons rfl (fun K hK => ?_) AllReadyH.nil
      go_simp
      have hT2 := hTake ((World.drew W).alloc (.cells #[.int .i64 0, .slice none 0 0] 47)) (hrd0.stays UB)
      refine hT2.mono ?_
      rintro _ x ⟨A', ca, v', rfl, hA', hca', ho, hx⟩
      obtain ⟨A8, n8, c8, rfl⟩ := own_form ho
      have HX := Lib.hid hA'
      clear hA'
      have XB := UB.trans (hx.mono UB.size)
      have XY : Blk x W.heap.size 47 #[.int .i64 0, .slice none 0 0] := UY.stays hx
      refine hK.out _ _ (hSk _ XB) (fun hHeld => ?_)
      clear hK K
      refine takeH (i := 19) (N := some 12) (v := ?_) (a' := ?_) rfl rfl (by kernel_rfl) (by kernel_rfl) (by kernel_rfl) (fun _ _ _ h => h) (Or.inl ⟨by rfl, ?_⟩) hHeld ?_ ?_
      rotate_left
      · intro w' hSw
        clear hSw
        go_simp
        with_reducible rfl
      rotate_left
      · simp only [Act.put, List.setIfInBounds_toArray, List.set_cons_zero, List.set_cons_succ]
        rfl
      refine takeH (i := 20) (N := some 32) (v := ?_) (a' := ?_) rfl rfl (by kernel_rfl) (by kernel_rfl) (by kernel_rfl) (fun _ _ _ h => h) (Or.inl ⟨by rfl, ?_⟩) hHeld ?_ ?_
      rotate_left
      · intro w' hSw
        clear hSw
        go_simp
        with_reducible rfl
      rotate_left
      · simp only [Act.put, List.setIfInBounds_toArray, List.set_cons_zero, List.set_cons_succ]
        rfl
      refine takeH (i := 21) (N := some 33) (v := ?_) (a' := ?_) rfl rfl (by kernel_rfl) (by kernel_rfl) (by kernel_rfl) (fun _ _ _ h => h) (Or.inl ⟨by rfl, ?_⟩) hHeld ?_ ?_
      rotate_left
      · intro w' hSw
        clear hSw
        go_simp
        with_reducible rfl
      rotate_left
      · simp only [Act.put, List.setIfInBounds_toArray, List.set_cons_zero, List.set_cons_succ]
        rfl
      refine takeH (i := 22) (N := some 34) (v := ?_) (a' := ?_) rfl rfl (by kernel_rfl) (by kernel_rfl) (by kernel_rfl) (fun _ _ _ h => h) (Or.inl ⟨by rfl, ?_⟩) hHeld ?_ ?_
      rotate_left
      · intro w' hSw
        clear hSw
        go_simp
        with_reducible rfl
      rotate_left
      · simp only [Act.put, List.setIfInBounds_toArray, List.set_cons_zero, List.set_cons_succ]
        rfl
      refine wpAnyH_ready (rs := [24]) (by kernel_rfl) (by simp) ?_
      refine AllReadyH.cons rfl (fun K hK => ?_) AllReadyH.nil
      obtain ⟨p0, p1, q0, q1⟩ := Blk.two XY
      go_simp
      have V0 := Blk.set2 XY (.int .i64 (N' : Int)) (.slice A' 0 ca)
      have VB := below_set2 XB (Nat.le_refl _) (.int .i64 (N' : Int)) (.slice A' 0 ca)
      have VO := row_far2 (Joins.ownsRow_le ho UB.size) XY (by decide) (.int .i64 (N' : Int)) (.slice A' 0 ca)
      refine hK.out _ _ (hSk _ VB) (fun hHeld => ?_)
      clear hK K p0 p1 q0 q1
      refine takeH (i := 25) (N := some 6) (v := ?_) (a' := ?_) rfl rfl (by kernel_rfl) (by kernel_rfl) (by kernel_rfl) (fun _ _ _ h => h) (Or.inl ⟨by rfl, ?_⟩) hHeld ?_ ?_
      rotate_left
      · intro w' hSw
        clear hSw
        go_simp
        with_reducible rfl
      rotate_left
      · simp only [Act.put, List.setIfInBounds_toArray, List.set_cons_zero, List.set_cons_succ]
        rfl
      refine takeH (i := 26) (N := some 7) (v := ?_) (a' := ?_) rfl rfl (by kernel_rfl) (by kernel_rfl) (by kernel_rfl) (fun _ _ _ h => h) (Or.inl ⟨by rfl, ?_⟩) hHeld ?_ ?_
      rotate_left
      · intro w' hSw
        clear hSw
        go_simp
        with_reducible rfl
      rotate_left
      · simp only [Act.put, List.setIfInBounds_toArray, List.set_cons_zero, List.set_cons_succ]
        rfl
      refine wpAnyH_done (by kernel_rfl) ?_ _
      clear hHeld
      go_wp2_with fail
      go_meet
      exact ⟨W.heap.size, A', ca, A8, n8, c8, rfl, rfl, rfl, Nat.le_refl _, V0, HX.out, hca', VO, hB0.trans VB⟩
  case rest =>
    obtain ⟨gx, A', ca, A8, n8, c8, rfl, rfl, rfl, hgx, HX, hA', hca', HO, HB⟩ := hcut
    have hn8 : n8 = r.length := row_len HO
    subst n8
    have K1 := hK.stays HB
    have hlt1 := K1.lt
    have hltx := HX.lt
    have hgxk : gx ≠ gk := Blk.ne_ HX K1 (by decide)
    have HA' := Lib.hid hA'
    clear hA' m0 m1 m2 m3 m4 m5 m6 m7 m8 z0 z1 z2 z3 z4 z5 z6 z7 z8 hfc hdc
    obtain ⟨m0, m1, m2, m3, m4, m5, m6, m7, m8, z0, z1, z2, z3, z4, z5, z6, z7, z8⟩ := nine K1
    obtain ⟨p0, p1, q0, q1⟩ := Blk.two HX
    go_wp2_with (first | (go_at_call 60; have HOa := row_farB (row_farB HO K1 (by decide) 2 (.int .i64 (N' : Int))) (K1.set_ 2 (.int .i64 (N' : Int))) (by decide) 3 (.slice A' 0 ca); have Ka := set23 K1 (.int .i64 (N' : Int)) (.slice A' 0 ca); have Xa := (HX.far hgxk (.int .i64 (N' : Int)) (p := ⟨gk, 2, none⟩)).far hgxk (.slice A' 0 ca) (p := ⟨gk, 3, none⟩); refine (iput_c (by omega) (Own.rd HOa)).mono ?_; rintro _ w2 ⟨v9, rfl, ho9, hb9⟩; obtain ⟨A9, n9, c9, rfl⟩ := own_form ho9; have hn9 : n9 = r.length := row_len ho9; subst n9; have K2 := Ka.stays hb9; have X2 := Xa.stays hb9; have hlt2 := K2.lt; have hltx2 := X2.lt; clear m0 m1 m2 m3 m4 m5 m6 m7 m8 z0 z1 z2 z3 z4 z5 z6 z7 z8 p0 p1 q0 q1; obtain ⟨m0, m1, m2, m3, m4, m5, m6, m7, m8, z0, z1, z2, z3, z4, z5, z6, z7, z8⟩ := nine K2; obtain ⟨p0, p1, q0, q1⟩ := Blk.two X2) | (go_at_call 61; have Kb := K2.alloc (.cells #[.slice A9 r.length c9] 102); have Xb := X2.alloc (.cells #[.slice A9 r.length c9] 102); have HOb := row_alloc ho9 (.cells #[.slice A9 r.length c9] 102); refine (flush_c (by omega) (Own.rd HOb)).mono ?_; rintro _ w3 ⟨v10, rfl, ho10, hb10⟩; obtain ⟨A10, c10, rfl, -⟩ := ho10.len; have K3 := Kb.stays hb10; have X3 := Xb.stays hb10; have hlt3 := K3.lt; have hltx3 := X3.lt; clear m0 m1 m2 m3 m4 m5 m6 m7 m8 z0 z1 z2 z3 z4 z5 z6 z7 z8 p0 p1 q0 q1; obtain ⟨m0, m1, m2, m3, m4, m5, m6, m7, m8, z0, z1, z2, z3, z4, z5, z6, z7, z8⟩ := nine K3; obtain ⟨p0, p1, q0, q1⟩ := Blk.two X3))
    have Kv := K3.alloc (.cells #[.slice none 0 0] 102)
    have Xv := X3.alloc (.cells #[.slice none 0 0] 102)
    have OEv : OwnE _ _ _ _ := row_alloc ho10 (.cells #[.slice none 0 0] 102)
    have hCv : Chg W (w3.alloc (.cells #[.slice none 0 0] 102)) gk [] := ((((((Chg.of_below gk [] HB).same (Chg.of_set _ _ _ _ _)).same (Chg.of_set _ _ _ _ _)).same (Chg.of_below _ _ hb9)).same (Chg.of_below _ _ ((Below.refl _ _).alloc (Nat.le_refl _) _))).same (Chg.of_below _ _ hb10)).same (Chg.of_below _ _ ((Below.refl _ _).alloc (Nat.le_refl _) _))
    generalize w3.alloc (.cells #[.slice none 0 0] 102) = wv at Kv Xv OEv hCv ⊢
    have hKvlt := Kv.lt
    have hXvlt := Xv.lt
    clear m0 m1 m2 m3 m4 m5 m6 m7 m8 z0 z1 z2 z3 z4 z5 z6 z7 z8 p0 p1 q0 q1 hb9 hb10 ho9 ho10 K1 K2 K3 X2 X3 HX HO HB hlt1 hlt2 hlt3 hltx hltx2 hltx3
    go_cut [61] (fun s61 wx => ∃ A11 n11 c11, Blk wx gk 50 #[.int .i64 (F : Int), .slice A1 n1 c1, .int .i64 (N' : Int), .slice A' 0 ca, .slice A3 n3 c3, .slice A11 n11 c11, .slice (some ⟨g5, 0, none⟩) fs.length c5, .slice (some ⟨g6, 0, none⟩) vs.length c6, .slice A7 n7 c7] ∧ Blk wx gx 47 #[.int .i64 (N' : Int), .slice A' 0 ca] ∧ Own .u8 5 B wx (.slice A11 n11 c11) (T.take N ++ r) ∧ NewAt W (.slice A4 n4 c4) (.slice A11 n11 c11) ∧ Chg W wx gk [.slice A4 n4 c4])
    case first =>
      have hG := row_chg HI.out.gv (hCv.same (Chg.of_below _ _ (Joins.below_draws wv.heap.size wv 1))) HI.out.blk (by decide) (by simp)
      have K4 : Blk wv.drew gk 50 _ := Kv.drewN 1
      have X4 : Blk wv.drew gx 47 _ := Xv.drewN 1
      have OE4 : OwnE _ wv.drew _ _ := row_stays OEv (Joins.below_draws wv.heap.size wv 1)
      have hC4 : Chg W wv.drew gk [] := hCv.same (Chg.of_below _ _ (Joins.below_draws wv.heap.size wv 1))
      refine wp_region_held_drew (S := fun _ => True) (by kernel_rfl) trivial (fun hHeld => ?_)
      refine takeH (i := 0) (N := some 54) (v := ?_) (a' := ?_) rfl rfl (by kernel_rfl) (by kernel_rfl) (by kernel_rfl) (fun _ _ _ h => h) (Or.inl ⟨by rfl, ?_⟩) hHeld ?_ ?_
      rotate_left
      · intro w' hSw
        clear hSw
        go_simp
        with_reducible rfl
      rotate_left
      · simp only [Act.put, List.setIfInBounds_toArray, List.set_cons_zero, List.set_cons_succ]
        rfl
      refine takeH (i := 1) (N := some 55) (v := ?_) (a' := ?_) rfl rfl (by kernel_rfl) (by kernel_rfl) (by kernel_rfl) (fun _ _ _ h => h) (Or.inl ⟨by rfl, ?_⟩) hHeld ?_ ?_
      rotate_left
      · intro w' hSw
        clear hSw
        go_simp
        with_reducible rfl
      rotate_left
      · simp only [Act.put, List.setIfInBounds_toArray, List.set_cons_zero, List.set_cons_succ]
        rfl
      refine takeH (i := 2) (N := some 56) (v := ?_) (a' := ?_) rfl rfl (by kernel_rfl) (by kernel_rfl) (by kernel_rfl) (fun _ _ _ h => h) (Or.inl ⟨by rfl, ?_⟩) hHeld ?_ ?_
      rotate_left
      · intro w' hSw
        clear hSw
        go_simp
        with_reducible rfl
      rotate_left
      · simp only [Act.put, List.setIfInBounds_toArray, List.set_cons_zero, List.set_cons_succ]
        rfl
      refine takeH (i := 3) (N := some 57) (v := ?_) (a' := ?_) rfl rfl (by kernel_rfl) (by kernel_rfl) (by kernel_rfl) (fun _ _ _ h => h) (Or.inl ⟨by rfl, ?_⟩) hHeld ?_ ?_
      rotate_left
      · intro w' hSw
        clear hSw
        go_simp
        with_reducible rfl
      rotate_left
      · simp only [Act.put, List.setIfInBounds_toArray, List.set_cons_zero, List.set_cons_succ]
        rfl
      refine takeH (i := 5) (N := some 59) (v := ?_) (a' := ?_) rfl rfl (by kernel_rfl) (by kernel_rfl) (by kernel_rfl) (fun _ _ _ h => h) (Or.inl ⟨by rfl, ?_⟩) hHeld ?_ ?_
      rotate_left
      · intro w' hSw
        clear hSw
        go_simp
        with_reducible rfl
      rotate_left
      · simp only [Act.put, List.setIfInBounds_toArray, List.set_cons_zero, List.set_cons_succ]
        rfl
      refine wpAnyH_ready (rs := [4, 6]) (by kernel_rfl) (by simp) ?_
      refine AllReadyH.cons rfl (fun K hK => ?_) (AllReadyH.cons rfl (fun K hK => ?_) AllReadyH.nil)
      · obtain ⟨m0, m1, m2, m3, m4, m5, m6, m7, m8, z0, z1, z2, z3, z4, z5, z6, z7, z8⟩ := nine K4
        go_simp
        clear m0 m1 m2 m3 m4 m5 m6 m7 m8 z0 z1 z2 z3 z4 z5 z6 z7 z8
        refine hK.out _ _ trivial (fun hHeld => ?_)
        clear hK K
        refine wpAnyH_ready (rs := [6]) (by kernel_rfl) (by simp) ?_
        refine AllReadyH.cons rfl (fun K hK => ?_) AllReadyH.nil
        go_simp
        with_reducible refine (bytes_c (by omega) OE4).mono ?_
        rintro _ x ⟨v12, rfl, ho12, hb12⟩
        obtain ⟨A12, n12, c12, rfl⟩ := own_form ho12
        have K5 := K4.stays hb12
        have X5 := X4.stays hb12
        have hG5 := row_stays hG hb12
        refine hK.out _ _ trivial (fun hHeld => ?_)
        clear hK K
        refine wpAnyH_ready (rs := [7]) (by kernel_rfl) (by simp) ?_
        refine AllReadyH.cons rfl (fun K hK => ?_) AllReadyH.nil
        rw [if_pos (by rfl)]
        refine wp_app (.tmp 58) (.tmp 60) 61 32 rfl rfl Try.underlying32 info5 rfl (by decide) (by rfl) (by rfl) hG5 (Own.rd ho12).src (Nat.le_trans hWB (Nat.le_trans hC4.size hb12.size)) (by rw [List.length_take]; omega) (by decide) ?_
        intro v13 w13 ho13 hg13 hn13
        rw [List.length_take, Nat.min_eq_left hNT] at ho13
        obtain ⟨A13, c13, rfl⟩ := row_form ho13
        have K6 := Blk.grown K5 hg13 (row_neT hG5 K5 (by decide))
        have X6 := Blk.grown X5 hg13 (row_neT hG5 X5 (by decide))
        simp only [Act.put, List.setIfInBounds_toArray, List.set_cons_zero, List.set_cons_succ]
        refine hK.out _ _ trivial (fun hHeld => ?_)
        clear hK K
        refine takeH (i := 8) (N := some 62) (v := ?_) (a' := ?_) rfl rfl (by kernel_rfl) (by kernel_rfl) (by kernel_rfl) (fun _ _ _ h => h) (Or.inl ⟨by rfl, ?_⟩) hHeld ?_ ?_
        rotate_left
        · intro w' hSw
          clear hSw
          go_simp
          with_reducible rfl
        rotate_left
        · simp only [Act.put, List.setIfInBounds_toArray, List.set_cons_zero, List.set_cons_succ]
          rfl
        refine takeH (i := 9) (N := some 63) (v := ?_) (a' := ?_) rfl rfl (by kernel_rfl) (by kernel_rfl) (by kernel_rfl) (fun _ _ _ h => h) (Or.inl ⟨by rfl, ?_⟩) hHeld ?_ ?_
        rotate_left
        · intro w' hSw
          clear hSw
          go_simp
          with_reducible rfl
        rotate_left
        · simp only [Act.put, List.setIfInBounds_toArray, List.set_cons_zero, List.set_cons_succ]
          rfl
        refine wpAnyH_ready (rs := [10]) (by kernel_rfl) (by simp) ?_
        refine AllReadyH.cons rfl (fun K hK => ?_) AllReadyH.nil
        obtain ⟨m0, m1, m2, m3, m4, m5, m6, m7, m8, z0, z1, z2, z3, z4, z5, z6, z7, z8⟩ := nine K6
        have hlt6 := K6.lt
        go_simp
        clear m0 m1 m2 m3 m4 m5 m6 m7 m8 z0 z1 z2 z3 z4 z5 z6 z7 z8
        refine hK.out _ _ trivial (fun hHeld => ?_)
        refine wpAnyH_done (by kernel_rfl) ?_ _
        clear hK K hHeld
        go_wp2_with fail
        go_meet
        exact ⟨A13, _, c13, set5 K6 _, Blk.far X6 hgxk _, row_farB (Own.of ho13 (by rw [List.length_take, Nat.min_eq_left hNT])) K6 (by decide) _ _, NewAt.lower (hn13.imp id (fun e => ⟨_, e, Nat.le_refl _⟩)) (Nat.le_trans hC4.size hb12.size), (((hC4.wide (by simp)).same (Chg.of_below _ _ hb12)).same (Chg.of_grown gk hg13 (by simp))).same (Chg.of_set _ _ _ _ _)⟩
      · go_simp
        with_reducible refine (bytes_c (by omega) OE4).mono ?_
        rintro _ x ⟨v12, rfl, ho12, hb12⟩
        obtain ⟨A12, n12, c12, rfl⟩ := own_form ho12
        have K5 := K4.stays hb12
        have X5 := X4.stays hb12
        have hG5 := row_stays hG hb12
        refine hK.out _ _ trivial (fun hHeld => ?_)
        clear hK K
        refine wpAnyH_ready (rs := [4]) (by kernel_rfl) (by simp) ?_
        refine AllReadyH.cons rfl (fun K hK => ?_) AllReadyH.nil
        obtain ⟨m0, m1, m2, m3, m4, m5, m6, m7, m8, z0, z1, z2, z3, z4, z5, z6, z7, z8⟩ := nine K5
        go_simp
        clear m0 m1 m2 m3 m4 m5 m6 m7 m8 z0 z1 z2 z3 z4 z5 z6 z7 z8
        refine hK.out _ _ trivial (fun hHeld => ?_)
        clear hK K
        refine wpAnyH_ready (rs := [7]) (by kernel_rfl) (by simp) ?_
        refine AllReadyH.cons rfl (fun K hK => ?_) AllReadyH.nil
        rw [if_pos (by rfl)]
        refine wp_app (.tmp 58) (.tmp 60) 61 32 rfl rfl Try.underlying32 info5 rfl (by decide) (by rfl) (by rfl) hG5 (Own.rd ho12).src (Nat.le_trans hWB (Nat.le_trans hC4.size hb12.size)) (by rw [List.length_take]; omega) (by decide) ?_
        intro v13 w13 ho13 hg13 hn13
        rw [List.length_take, Nat.min_eq_left hNT] at ho13
        obtain ⟨A13, c13, rfl⟩ := row_form ho13
        have K6 := Blk.grown K5 hg13 (row_neT hG5 K5 (by decide))
        have X6 := Blk.grown X5 hg13 (row_neT hG5 X5 (by decide))
        simp only [Act.put, List.setIfInBounds_toArray, List.set_cons_zero, List.set_cons_succ]
        refine hK.out _ _ trivial (fun hHeld => ?_)
        clear hK K
        refine takeH (i := 8) (N := some 62) (v := ?_) (a' := ?_) rfl rfl (by kernel_rfl) (by kernel_rfl) (by kernel_rfl) (fun _ _ _ h => h) (Or.inl ⟨by rfl, ?_⟩) hHeld ?_ ?_
        rotate_left
        · intro w' hSw
          clear hSw
          go_simp
          with_reducible rfl
        rotate_left
        · simp only [Act.put, List.setIfInBounds_toArray, List.set_cons_zero, List.set_cons_succ]
          rfl
        refine takeH (i := 9) (N := some 63) (v := ?_) (a' := ?_) rfl rfl (by kernel_rfl) (by kernel_rfl) (by kernel_rfl) (fun _ _ _ h => h) (Or.inl ⟨by rfl, ?_⟩) hHeld ?_ ?_
        rotate_left
        · intro w' hSw
          clear hSw
          go_simp
          with_reducible rfl
        rotate_left
        · simp only [Act.put, List.setIfInBounds_toArray, List.set_cons_zero, List.set_cons_succ]
          rfl
        refine wpAnyH_ready (rs := [10]) (by kernel_rfl) (by simp) ?_
        refine AllReadyH.cons rfl (fun K hK => ?_) AllReadyH.nil
        obtain ⟨m0, m1, m2, m3, m4, m5, m6, m7, m8, z0, z1, z2, z3, z4, z5, z6, z7, z8⟩ := nine K6
        have hlt6 := K6.lt
        go_simp
        clear m0 m1 m2 m3 m4 m5 m6 m7 m8 z0 z1 z2 z3 z4 z5 z6 z7 z8
        refine hK.out _ _ trivial (fun hHeld => ?_)
        refine wpAnyH_done (by kernel_rfl) ?_ _
        clear hK K hHeld
        go_wp2_with fail
        go_meet
        exact ⟨A13, _, c13, set5 K6 _, Blk.far X6 hgxk _, row_farB (Own.of ho13 (by rw [List.length_take, Nat.min_eq_left hNT])) K6 (by decide) _ _, NewAt.lower (hn13.imp id (fun e => ⟨_, e, Nat.le_refl _⟩)) (Nat.le_trans hC4.size hb12.size), (((hC4.wide (by simp)).same (Chg.of_below _ _ hb12)).same (Chg.of_grown gk hg13 (by simp))).same (Chg.of_set _ _ _ _ _)⟩
    case rest =>
      obtain ⟨A11, n11, c11, Kx, Xx, hGx, hNx, hCx⟩ := hcut
      have HCA := Lib.hid hca'
      have hKxlt := Kx.lt
      have hXxlt := Xx.lt
      go_wp2_with fail
      have hB8 := Joins.below_draws wc.heap.size wc 1
      have K8 : Blk wc.drew gk 50 _ := Kx.drewN 1
      have X8 : Blk wc.drew gx 47 _ := Xx.drewN 1
      have hC8 : Chg W wc.drew gk [.slice A4 n4 c4] := hCx.same (Chg.of_below _ _ hB8)
      have hA8 := row_chg HI.out.ac hC8 HI.out.blk (by decide) (by simpa using apart_type HI.out.ac HI.out.gv (by decide))
      have hG8 : Own .u8 5 B wc.drew _ _ := row_stays hGx hB8
      have ci := X8.cell 0
      simp only [List.getElem?_toArray, List.getElem?_cons_succ, List.getElem?_cons_zero] at ci
      refine wp_region_held_drew (S := fun w' => w'.cell? ⟨gx, 0, none⟩ = some (.int .i64 (N' : Int))) (by kernel_rfl) ci (fun hHeld => ?_)
      refine takeH (i := 0) (N := some 64) (v := ?_) (a' := ?_) rfl rfl (by kernel_rfl) (by kernel_rfl) (by kernel_rfl) (fun _ _ _ h => h) (Or.inl ⟨by rfl, ?_⟩) hHeld ?_ ?_
      rotate_left
      · intro w' hSw
        clear hSw
        go_simp
        with_reducible rfl
      rotate_left
      · simp only [Act.put, List.setIfInBounds_toArray, List.set_cons_zero, List.set_cons_succ]
        rfl
      refine takeH (i := 1) (N := some 65) (v := ?_) (a' := ?_) rfl rfl (by kernel_rfl) (by kernel_rfl) (by kernel_rfl) (fun _ _ _ h => h) (Or.inl ⟨by rfl, ?_⟩) hHeld ?_ ?_
      rotate_left
      · intro w' hSw
        clear hSw
        go_simp
        with_reducible rfl
      rotate_left
      · simp only [Act.put, List.setIfInBounds_toArray, List.set_cons_zero, List.set_cons_succ]
        rfl
      refine takeH (i := 2) (N := some 66) (v := ?_) (a' := ?_) rfl rfl (by kernel_rfl) (by kernel_rfl) (by kernel_rfl) (fun _ _ _ h => h) (Or.inl ⟨by rfl, ?_⟩) hHeld ?_ ?_
      rotate_left
      · intro w' hSw
        clear hSw
        go_simp
        with_reducible rfl
      rotate_left
      · simp only [Act.put, List.setIfInBounds_toArray, List.set_cons_zero, List.set_cons_succ]
        rfl
      refine takeH (i := 3) (N := some 67) (v := ?_) (a' := ?_) rfl rfl (by kernel_rfl) (by kernel_rfl) (by kernel_rfl) (fun _ _ _ h => h) (Or.inl ⟨by rfl, ?_⟩) hHeld ?_ ?_
      rotate_left
      · intro w' hSw
        clear hSw
        go_simp
        with_reducible rfl
      rotate_left
      · simp only [Act.put, List.setIfInBounds_toArray, List.set_cons_zero, List.set_cons_succ]
        rfl
      refine takeH (i := 5) (N := some 69) (v := ?_) (a' := ?_) rfl rfl (by kernel_rfl) (by kernel_rfl) (by kernel_rfl) (fun _ _ _ h => h) (Or.inl ⟨by rfl, ?_⟩) hHeld ?_ ?_
      rotate_left
      · intro w' hSw
        clear hSw
        go_simp
        with_reducible rfl
      rotate_left
      · simp only [Act.put, List.setIfInBounds_toArray, List.set_cons_zero, List.set_cons_succ]
        rfl
      refine takeH (i := 6) (N := some 70) (v := ?_) (a' := ?_) rfl rfl (by kernel_rfl) (by kernel_rfl) (by kernel_rfl) (fun _ _ _ h => h) (Or.inl ⟨by rfl, ?_⟩) hHeld ?_ ?_
      rotate_left
      · intro w' hSw
        skip
        go_simp
        with_reducible rfl
      rotate_left
      · simp only [Act.put, List.setIfInBounds_toArray, List.set_cons_zero, List.set_cons_succ]
        rfl
      refine wpAnyH_ready (rs := [4, 7]) (by kernel_rfl) (by simp) ?_
      refine AllReadyH.cons rfl (fun K hK => ?_) (AllReadyH.cons rfl (fun K hK => ?_) AllReadyH.nil)
      · obtain ⟨m0, m1, m2, m3, m4, m5, m6, m7, m8, z0, z1, z2, z3, z4, z5, z6, z7, z8⟩ := nine K8
        go_simp
        clear m0 m1 m2 m3 m4 m5 m6 m7 m8 z0 z1 z2 z3 z4 z5 z6 z7 z8
        refine hK.out _ _ (ci) (fun hHeld => ?_)
        clear hK K
        refine wpAnyH_ready (rs := [7]) (by kernel_rfl) (by simp) ?_
        refine AllReadyH.cons rfl (fun K hK => ?_) AllReadyH.nil
        go_simp
        refine hK.out _ _ ((X8.alloc (.cells #[.int .i64 (N' : Int)] 3)).cell 0) (fun hHeld => ?_)
        clear hK K
        have K9 := K8.alloc (.cells #[.int .i64 (N' : Int)] 3)
        have X9 := X8.alloc (.cells #[.int .i64 (N' : Int)] 3)
        have hK9lt := K9.lt
        refine wpAnyH_ready (rs := [8]) (by kernel_rfl) (by simp) ?_
        refine AllReadyH.cons rfl (fun K hK => ?_) AllReadyH.nil
        rw [if_pos (by rfl)]
        have hA9 := row_alloc hA8 (.cells #[.int .i64 (N' : Int)] 3)
        have hG9 := row_alloc hG8 (.cells #[.int .i64 (N' : Int)] 3)
        refine wp_app (.tmp 68) (.tmp 71) 72 48 rfl rfl Try.underlying48 info3' rfl (by decide) (by rfl) (by rfl) hA9 (src_1' _ _ _ _ _ (by rfl) rfl) (Nat.le_trans hWB (Nat.le_trans hC8.size (by show wc.heap.size ≤ (wc.alloc _).heap.size; rw [World.size_alloc]; exact Nat.le_succ _))) (by omega) (by decide) ?_
        intro v14 w14 ho14 hg14 hn14
        obtain ⟨A14, c14, rfl⟩ := row_form ho14
        have K10 := Blk.grown K9 hg14 (row_neT hA9 K9 (by decide))
        have X10 := Blk.grown X9 hg14 (row_neT hA9 X9 (by decide))
        simp only [Act.put, List.setIfInBounds_toArray, List.set_cons_zero, List.set_cons_succ]
        refine hK.out _ _ (X10.cell 0) (fun hHeld => ?_)
        clear hK K
        refine takeH (i := 9) (N := some 73) (v := ?_) (a' := ?_) rfl rfl (by kernel_rfl) (by kernel_rfl) (by kernel_rfl) (fun _ _ _ h => h) (Or.inl ⟨by rfl, ?_⟩) hHeld ?_ ?_
        rotate_left
        · intro w' hSw
          clear hSw
          go_simp
          with_reducible rfl
        rotate_left
        · simp only [Act.put, List.setIfInBounds_toArray, List.set_cons_zero, List.set_cons_succ]
          rfl
        refine takeH (i := 10) (N := some 74) (v := ?_) (a' := ?_) rfl rfl (by kernel_rfl) (by kernel_rfl) (by kernel_rfl) (fun _ _ _ h => h) (Or.inl ⟨by rfl, ?_⟩) hHeld ?_ ?_
        rotate_left
        · intro w' hSw
          clear hSw
          go_simp
          with_reducible rfl
        rotate_left
        · simp only [Act.put, List.setIfInBounds_toArray, List.set_cons_zero, List.set_cons_succ]
          rfl
        refine wpAnyH_ready (rs := [11]) (by kernel_rfl) (by simp) ?_
        refine AllReadyH.cons rfl (fun K hK => ?_) AllReadyH.nil
        obtain ⟨m0, m1, m2, m3, m4, m5, m6, m7, m8, z0, z1, z2, z3, z4, z5, z6, z7, z8⟩ := nine K10
        have hlt10 := K10.lt
        go_simp
        clear m0 m1 m2 m3 m4 m5 m6 m7 m8 z0 z1 z2 z3 z4 z5 z6 z7 z8
        refine hK.out _ _ ((Blk.far X10 hgxk _).cell 0) (fun hHeld => ?_)
        refine wpAnyH_done (by kernel_rfl) ?_ _
        clear hK K hHeld
        go_wp2_with fail
        go_ret
        have hI := HI.out
        have hCE : Chg W (w14.setCell ⟨gk, 8, none⟩ (.slice A14 (ak.length + 1) c14)) gk [.slice A4 n4 c4, .slice A7 n7 c7] := (((hC8.wide (by simp)).same (Chg.of_below _ _ ((Below.refl _ _).alloc (Nat.le_refl _) _))).same (Chg.of_grown gk hg14 (by simp))).same (Chg.of_set _ _ _ _ _)
        have hGE := row_farB (row_chg hG9 (Chg.of_grown gk hg14 (us := [.slice A7 n7 c7]) (by simp)) K9 (by decide) (by simpa using apart_type hG9 hA9 (by decide))) K10 (by decide) 8 (.slice A14 (ak.length + 1) c14)
        refine ⟨rfl, ⟨⟨N', { bytes := .slice A1 n1 c1, held := .slice A' 0 ca, typed := .slice A3 n3 c3, given := .slice A11 n11 c11, first := .slice (some ⟨g5, 0, none⟩) fs.length c5, data := .slice (some ⟨g6, 0, none⟩) vs.length c6, acks := .slice A14 (ak.length + 1) c14 }, hNle.1, hNle.2, ⟨f, m, hf1, hf2, HD.out, hm, hfm, HN.out.symm⟩, Inv.take hI hCE (set8 K10 _) hNle.1 hNle.2 ⟨A', ca, rfl, HA'.out, HCA.out⟩ ?_ (row_farB (Own.of (k := .i64) (l := ak) (m := [(N' : Int)]) ho14 rfl) K10 (by decide) _ _) hNx (NewAt.lower (hn14.imp id (fun e => ⟨_, e, Nat.le_refl _⟩)) (Nat.le_trans hC8.size (by show wc.heap.size ≤ (wc.alloc _).heap.size; rw [World.size_alloc]; exact Nat.le_succ _)))⟩⟩, hCE.below (Below.refl _ _) hWB hBg (by simp only [List.mem_cons, List.not_mem_nil, or_false]; rintro u (rfl | rfl); exact own_new hI.gv; exact own_new hI.ac)⟩
        have e := HM.out
        rw [HR.out, HN.out] at e
        rw [← e]
        exact hGE
      · go_simp
        refine hK.out _ _ ((X8.alloc (.cells #[.int .i64 (N' : Int)] 3)).cell 0) (fun hHeld => ?_)
        clear hK K
        have K9 := K8.alloc (.cells #[.int .i64 (N' : Int)] 3)
        have X9 := X8.alloc (.cells #[.int .i64 (N' : Int)] 3)
        have hK9lt := K9.lt
        refine wpAnyH_ready (rs := [4]) (by kernel_rfl) (by simp) ?_
        refine AllReadyH.cons rfl (fun K hK => ?_) AllReadyH.nil
        obtain ⟨m0, m1, m2, m3, m4, m5, m6, m7, m8, z0, z1, z2, z3, z4, z5, z6, z7, z8⟩ := nine Kx
        go_simp
        clear m0 m1 m2 m3 m4 m5 m6 m7 m8 z0 z1 z2 z3 z4 z5 z6 z7 z8
        refine hK.out _ _ (X9.cell 0) (fun hHeld => ?_)
        clear hK K
        refine wpAnyH_ready (rs := [8]) (by kernel_rfl) (by simp) ?_
        refine AllReadyH.cons rfl (fun K hK => ?_) AllReadyH.nil
        rw [if_pos (by rfl)]
        have hA9 := row_alloc hA8 (.cells #[.int .i64 (N' : Int)] 3)
        have hG9 := row_alloc hG8 (.cells #[.int .i64 (N' : Int)] 3)
        refine wp_app (.tmp 68) (.tmp 71) 72 48 rfl rfl Try.underlying48 info3' rfl (by decide) (by rfl) (by rfl) hA9 (src_1' _ _ _ _ _ (by rfl) rfl) (Nat.le_trans hWB (Nat.le_trans hC8.size (by show wc.heap.size ≤ (wc.alloc _).heap.size; rw [World.size_alloc]; exact Nat.le_succ _))) (by omega) (by decide) ?_
        intro v14 w14 ho14 hg14 hn14
        obtain ⟨A14, c14, rfl⟩ := row_form ho14
        have K10 := Blk.grown K9 hg14 (row_neT hA9 K9 (by decide))
        have X10 := Blk.grown X9 hg14 (row_neT hA9 X9 (by decide))
        simp only [Act.put, List.setIfInBounds_toArray, List.set_cons_zero, List.set_cons_succ]
        refine hK.out _ _ (X10.cell 0) (fun hHeld => ?_)
        clear hK K
        refine takeH (i := 9) (N := some 73) (v := ?_) (a' := ?_) rfl rfl (by kernel_rfl) (by kernel_rfl) (by kernel_rfl) (fun _ _ _ h => h) (Or.inl ⟨by rfl, ?_⟩) hHeld ?_ ?_
        rotate_left
        · intro w' hSw
          clear hSw
          go_simp
          with_reducible rfl
        rotate_left
        · simp only [Act.put, List.setIfInBounds_toArray, List.set_cons_zero, List.set_cons_succ]
          rfl
        refine takeH (i := 10) (N := some 74) (v := ?_) (a' := ?_) rfl rfl (by kernel_rfl) (by kernel_rfl) (by kernel_rfl) (fun _ _ _ h => h) (Or.inl ⟨by rfl, ?_⟩) hHeld ?_ ?_
        rotate_left
        · intro w' hSw
          clear hSw
          go_simp
          with_reducible rfl
        rotate_left
        · simp only [Act.put, List.setIfInBounds_toArray, List.set_cons_zero, List.set_cons_succ]
          rfl
        refine wpAnyH_ready (rs := [11]) (by kernel_rfl) (by simp) ?_
        refine AllReadyH.cons rfl (fun K hK => ?_) AllReadyH.nil
        obtain ⟨m0, m1, m2, m3, m4, m5, m6, m7, m8, z0, z1, z2, z3, z4, z5, z6, z7, z8⟩ := nine K10
        have hlt10 := K10.lt
        go_simp
        clear m0 m1 m2 m3 m4 m5 m6 m7 m8 z0 z1 z2 z3 z4 z5 z6 z7 z8
        refine hK.out _ _ ((Blk.far X10 hgxk _).cell 0) (fun hHeld => ?_)
        refine wpAnyH_done (by kernel_rfl) ?_ _
        clear hK K hHeld
        go_wp2_with fail
        go_ret
        have hI := HI.out
        have hCE : Chg W (w14.setCell ⟨gk, 8, none⟩ (.slice A14 (ak.length + 1) c14)) gk [.slice A4 n4 c4, .slice A7 n7 c7] := (((hC8.wide (by simp)).same (Chg.of_below _ _ ((Below.refl _ _).alloc (Nat.le_refl _) _))).same (Chg.of_grown gk hg14 (by simp))).same (Chg.of_set _ _ _ _ _)
        have hGE := row_farB (row_chg hG9 (Chg.of_grown gk hg14 (us := [.slice A7 n7 c7]) (by simp)) K9 (by decide) (by simpa using apart_type hG9 hA9 (by decide))) K10 (by decide) 8 (.slice A14 (ak.length + 1) c14)
        refine ⟨rfl, ⟨⟨N', { bytes := .slice A1 n1 c1, held := .slice A' 0 ca, typed := .slice A3 n3 c3, given := .slice A11 n11 c11, first := .slice (some ⟨g5, 0, none⟩) fs.length c5, data := .slice (some ⟨g6, 0, none⟩) vs.length c6, acks := .slice A14 (ak.length + 1) c14 }, hNle.1, hNle.2, ⟨f, m, hf1, hf2, HD.out, hm, hfm, HN.out.symm⟩, Inv.take hI hCE (set8 K10 _) hNle.1 hNle.2 ⟨A', ca, rfl, HA'.out, HCA.out⟩ ?_ (row_farB (Own.of (k := .i64) (l := ak) (m := [(N' : Int)]) ho14 rfl) K10 (by decide) _ _) hNx (NewAt.lower (hn14.imp id (fun e => ⟨_, e, Nat.le_refl _⟩)) (Nat.le_trans hC8.size (by show wc.heap.size ≤ (wc.alloc _).heap.size; rw [World.size_alloc]; exact Nat.le_succ _)))⟩⟩, hCE.below (Below.refl _ _) hWB hBg (by simp only [List.mem_cons, List.not_mem_nil, or_false]; rintro u (rfl | rfl); exact own_new hI.gv; exact own_new hI.ac)⟩
        have e := HM.out
        rw [HR.out, HN.out] at e
        rw [← e]
        exact hGE
end Go.Proofs.Ytagciaanfjllnaa.Keys
