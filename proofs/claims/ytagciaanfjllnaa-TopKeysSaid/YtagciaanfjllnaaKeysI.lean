/- The law TopKeys: the contract of send. -/
import Derived.Test.YtagciaanfjllnaaKeysH
namespace Go.Proofs.Ytagciaanfjllnaa.Keys
open Go Go.RowKit Go.Proofs.Ytagciaanfjllnaa.Base Go.Proofs.Ytagciaanfjllnaa.Opens Go.Proofs.Ytagciaanfjllnaa.Reg Go.Proofs.YtagciaanfjllnaaW.PrintWords
set_option linter.unusedVariables false
set_option linter.unusedSimpArgs false
attribute [local go_sem ↓] Go.wp_at_zero Go.wp_at_succ
attribute [local go_sem high] eq32 eq45

theorem getD_old {α : Type} {l : List α} {x z : α} {j : Nat} (h : j < l.length) : (l ++ [x]).getD j z = l.getD j z := by
  rw [List.getD_eq_getElem?_getD, List.getElem?_append_left h, ← List.getD_eq_getElem?_getD]
theorem getD_new {α : Type} {l : List α} {x z : α} {j : Nat} (h : j = l.length) : (l ++ [x]).getD j z = x := by
  subst h
  rw [List.getD_eq_getElem?_getD, List.getElem?_append_right (Nat.le_refl _), Nat.sub_self]
  rfl
theorem set6 {w : World} {g : Nat} {t : TypeId} {a b c d e f h i j : Value} (hB : Blk w g t #[a, b, c, d, e, f, h, i, j]) (x : Value) : Blk (w.setCell ⟨g, 6, none⟩ x) g t #[a, b, c, d, e, f, x, i, j] := by
  simpa using hB.set_ 6 x
theorem set7 {w : World} {g : Nat} {t : TypeId} {a b c d e f h i j : Value} (hB : Blk w g t #[a, b, c, d, e, f, h, i, j]) (x : Value) : Blk (w.setCell ⟨g, 7, none⟩ x) g t #[a, b, c, d, e, f, h, x, j] := by
  simpa using hB.set_ 7 x
theorem info32 : (Try.prog.info? 32).map (fun i => (i.zero, i.size, i.bytes)) = some (some (.slice none 0 0), 1, 24) := by kernel_rfl
theorem info3' : (Try.prog.info? 3).map (fun i => (i.zero, i.size, i.bytes)) = some (some (.int .i64 0), 1, 8) := by kernel_rfl
theorem Chg.wide {w w' : World} {g : Nat} {us us' : List Value} (h : Chg w w' g us) (hs : ∀ u ∈ us, u ∈ us') : Chg w w' g us' := ⟨h.os, h.tape, h.output, h.size, fun k hk hg hne => h.block k hk hg (fun u hu => hne u (hs u hu))⟩
/-- a part is sent -/
theorem Inv.send {B gk : Nat} {T : List Int} {F N : Nat} {fs ak : List Int} {ds : List (List Int)} {vs : List Value} {k : KV} {W : World} {w' : World} {f' d' v' : Value} (h : Inv B gk W T F N fs ds ak vs k) (hc : Chg W w' gk [k.first, k.data]) (hblk : Blk w' gk 50 (kcells F N { k with first := f', data := d' }))
    (fi : Own .i64 3 B w' f' (fs ++ [(F : Int)])) (da : w'.ownsRow B 32 1 d' (vs ++ [v']).length (vs ++ [v'])) (ho : Own .u8 5 B w' v' ((T.drop F).take 16)) (hn : NewAt W k.first f') (s4 : Apart v' k.typed ∧ Apart v' k.given) :
    Inv B gk w' T F N (fs ++ [(F : Int)]) (ds ++ [(T.drop F).take 16]) ak (vs ++ [v']) { k with first := f', data := d' } :=
  have ap5 : ∀ {v : Value} {l : List Int}, Own .u8 5 B W v l → ∀ u ∈ [k.first, k.data], Apart v u := fun hv u hu => by
    simp only [List.mem_cons, List.not_mem_nil, or_false] at hu
    rcases hu with rfl | rfl
    · exact apart_type hv h.fi (by decide)
    · exact apart_type hv h.da (by decide)
  ⟨hblk, h.hB, h.hFN, h.hNT, h.hT, h.hbox, row_chg h.rb hc h.blk (by decide) (ap5 h.rb), h.held, row_chg h.ty hc h.blk (by decide) (ap5 h.ty), row_chg h.gv hc h.blk (by decide) (ap5 h.gv), fi,
    row_chg h.ac hc h.blk (by decide) (fun u hu => by
      simp only [List.mem_cons, List.not_mem_nil, or_false] at hu
      rcases hu with rfl | rfl
      · exact h.s2.symm
      · exact apart_type h.ac h.da (by decide)), da, by simp [h.vl], by simp [h.fl],
    fun j hj => by
      rw [List.length_append, List.length_singleton] at hj
      by_cases hj2 : j < ds.length
      · rw [getD_old (by rw [h.vl]; exact hj2), getD_old hj2]
        exact row_chg (h.ch j hj2) hc h.blk (by decide) (ap5 (h.ch j hj2))
      · rw [getD_new (by rw [h.vl]; omega), getD_new (by omega)]
        exact ho,
    fun j hj => by
      rw [List.length_append, List.length_singleton] at hj
      by_cases hj2 : j < ds.length
      · rw [getD_old (by rw [h.fl]; exact hj2), getD_old hj2]
        exact h.log j hj2
      · rw [getD_new (by rw [h.fl]; omega), getD_new (by omega)]
        have := h.hFN
        have := h.hNT
        refine ⟨F, min 16 (T.length - F), rfl, h.hFN, by omega, by omega, ?_⟩
        by_cases h16 : 16 ≤ T.length - F
        · rw [Nat.min_eq_left h16]
        · rw [Nat.min_eq_right (by omega), List.take_of_length_le (by rw [List.length_drop]; omega), List.take_of_length_le (by rw [List.length_drop]; omega)],
    h.acl, h.s1, (hn.apart h.ac h.s2.symm).symm, h.s3,
    fun j hj => by
      rw [List.length_append, List.length_singleton] at hj
      by_cases hj2 : j < ds.length
      · rw [getD_old (by rw [h.vl]; exact hj2)]
        exact h.s4 j hj2
      · rw [getD_new (by rw [h.vl]; omega)]
        exact s4⟩

set_option maxHeartbeats 4000000 in
set_option maxRecDepth 100000 in
theorem send_c {B gk : Nat} {T : List Int} {F N : Nat} {fs ak : List Int} {ds : List (List Int)} {vs : List Value} {k : KV} {W : World} (hI : Inv B gk W T F N fs ds ak vs k) (hcf : fs.length ≤ 1000) :
    Calls Try.prog 25 #[.pointer (some ⟨gk, 0, none⟩)] W fun e w' => e = .returned (.tuple #[]) ∧ (∃ v' k', Inv B gk w' T F N (fs ++ [(F : Int)]) (ds ++ [(T.drop F).take 16]) ak (vs ++ [v']) k') ∧ Below B W w' := by
  have hS := hI.slices
  obtain ⟨bytes, held, typed, given, first, data, acks⟩ := k
  obtain ⟨⟨A1, n1, c1, e1⟩, ⟨A2, n2, c2, e2⟩, ⟨A3, n3, c3, e3⟩, ⟨A4, n4, c4, e4⟩, ⟨A5, n5, c5, e5⟩, ⟨A6, n6, c6, e6⟩, ⟨A7, n7, c7, e7⟩⟩ := hS
  simp only at e1 e2 e3 e4 e5 e6 e7
  subst e1 e2 e3 e4 e5 e6 e7
  have hK : Blk W gk 50 #[.int .i64 (F : Int), .slice A1 n1 c1, .int .i64 (N : Int), .slice A2 n2 c2, .slice A3 n3 c3, .slice A4 n4 c4, .slice A5 n5 c5, .slice A6 n6 c6, .slice A7 n7 c7] := hI.blk
  have hl1 : n1 = (T.drop F).length := row_len hI.rb
  have hbd := hI.hbox
  have hT := hI.hT
  have hFN := hI.hFN
  have hNT := hI.hNT
  have hBg := hI.hB
  obtain ⟨m0, m1, m2, m3, m4, m5, m6, m7, m8, z0, z1, z2, z3, z4, z5, z6, z7, z8⟩ := nine hK
  have h1 := hI.rb.rd
  simp only at h1
  rw [hl1] at h1
  have HC := chunk_c (F := (F : Int)) (l := T.drop F) (by rw [List.length_drop]; omega) h1
  rw [← hl1] at HC
  have HI := Lib.hid hI
  have hWB : B ≤ W.heap.size := Nat.le_trans hBg (Nat.le_of_lt hK.lt)
  have hvl : vs.length ≤ 1000 := by rw [hI.vl, ← hI.fl]; exact hcf
  clear hI hl1 h1
  go_enter Try.func25, Try.ntmps25
  go_wp2_with (first | (go_at_call 58; refine HC.mono ?_; rintro _ w1 ⟨v', rfl, ho, hb⟩; obtain ⟨A8, n8, c8, rfl⟩ := own_form ho; have K1 := hK.stays hb; have hlt1 := K1.lt; clear m0 m1 m2 m3 m4 m5 m6 m7 m8 z0 z1 z2 z3 z4 z5 z6 z7 z8; obtain ⟨m0, m1, m2, m3, m4, m5, m6, m7, m8, z0, z1, z2, z3, z4, z5, z6, z7, z8⟩ := nine K1) | (at_builtin; have hf1 := row_alloc (HI.out.fi.stays hb) (.cells #[.int .i64 (F : Int)] 3); refine wpList_app rfl (.tmp 16) (.tmp 18) 48 rfl Try.underlying48 info3' rfl (by decide) (by rfl) (by rfl) hf1 (src_1 _ _ _ _ rfl) (by rw [World.size_alloc]; omega) (by omega) (by decide) ?_; intro v2 w2 ho2 hg2 hn2; obtain ⟨A9, c9, rfl⟩ := row_form ho2; have K2 := Blk.grown (K1.alloc _) hg2 (row_neT hf1 (K1.alloc _) (by decide)); have hlt2 := K2.lt; clear m0 m1 m2 m3 m4 m5 m6 m7 m8 z0 z1 z2 z3 z4 z5 z6 z7 z8; obtain ⟨m0, m1, m2, m3, m4, m5, m6, m7, m8, z0, z1, z2, z3, z4, z5, z6, z7, z8⟩ := nine K2) | (at_builtin; have hC2 : Chg W ((w2.setCell ⟨gk, 6, none⟩ (.slice A9 (fs.length + 1) c9)).alloc (.cells #[.slice A8 n8 c8] 32)) gk [.slice A5 n5 c5] := (((Chg.of_below gk [.slice A5 n5 c5] hb).same (Chg.of_below _ _ ((Below.refl _ _).alloc (Nat.le_refl _) (.cells #[.int .i64 (F : Int)] 3)))).same (Chg.of_grown gk hg2 (by simp))).same ((Chg.of_set _ _ _ _ _).same (Chg.of_below _ _ ((Below.refl _ _).alloc (Nat.le_refl _) _))); have hda := row_chg HI.out.da hC2 HI.out.blk (by decide) (by simpa using apart_type HI.out.da HI.out.fi (by decide)); refine wpList_app rfl (.tmp 26) (.tmp 28) 41 rfl Try.underlying41 info32 rfl (by decide) (by rfl) (by rfl) hda (src_1' _ _ _ _ _ (by simp) rfl) (Nat.le_trans hWB hC2.size) (by omega) (by decide) ?_; intro v3 w3 ho3 hg3 hn3; obtain ⟨A10, c10, rfl⟩ := row_form ho3; have K3 := Blk.grown ((set6 K2 _).alloc _) hg3 (row_neT hda ((set6 K2 _).alloc _) (by decide)); have hlt3 := K3.lt; clear m0 m1 m2 m3 m4 m5 m6 m7 m8 z0 z1 z2 z3 z4 z5 z6 z7 z8; obtain ⟨m0, m1, m2, m3, m4, m5, m6, m7, m8, z0, z1, z2, z3, z4, z5, z6, z7, z8⟩ := nine K3))
  refine bodyPost_end (results_none rfl _ _ _) rfl ?_
  have hI := HI.out
  have hC3 : Chg W (w3.setCell ⟨gk, 7, none⟩ (.slice A10 (vs.length + 1) c10)) gk [.slice A5 n5 c5, .slice A6 n6 c6] := ((hC2.wide (by simp)).same (Chg.of_grown gk hg3 (by simp))).same (Chg.of_set _ _ _ _ _)
  have q0 : Chg w1 (w3.setCell ⟨gk, 7, none⟩ (.slice A10 (vs.length + 1) c10)) gk [.slice A5 n5 c5, .slice A6 n6 c6] := (((((Chg.of_below _ _ ((Below.refl _ _).alloc (Nat.le_refl _) (.cells #[.int .i64 (F : Int)] 3))).same (Chg.of_grown gk hg2 (by simp))).same (Chg.of_set _ _ _ _ _)).same (Chg.of_below _ _ ((Below.refl _ _).alloc (Nat.le_refl _) _))).same (Chg.of_grown gk hg3 (by simp))).same (Chg.of_set _ _ _ _ _)
  have a5 : Apart (.slice A8 n8 c8) (.slice A5 n5 c5) := (apart_new hI.fi (own_new ho)).symm
  have a6 : Apart (.slice A8 n8 c8) (.slice A6 n6 c6) := (apart_new hI.da (own_new ho)).symm
  have a3 : Apart (.slice A8 n8 c8) (.slice A3 n3 c3) := (apart_new hI.ty (own_new ho)).symm
  have a4 : Apart (.slice A8 n8 c8) (.slice A4 n4 c4) := (apart_new hI.gv (own_new ho)).symm
  have hfX := row_alloc (row_farB ho2 K2 (by decide) 6 (.slice A9 (fs.length + 1) c9)) (.cells #[.slice A8 n8 c8] 32)
  have hfE := row_farB (row_chg hfX (Chg.of_grown gk hg3 (us := [.slice A6 n6 c6]) (by simp)) ((set6 K2 _).alloc _) (by decide) (by simpa using apart_type hfX hda (by decide))) K3 (by decide) 7 (.slice A10 (vs.length + 1) c10)
  have hn : NewAt (w1.alloc (.cells #[.int .i64 (F : Int)] 3)) (.slice A5 n5 c5) (.slice A9 (fs.length + 1) c9) := hn2.imp id (fun e => ⟨_, e, Nat.le_refl _⟩)
  exact ⟨rfl, ⟨.slice A8 n8 c8, { bytes := .slice A1 n1 c1, held := .slice A2 n2 c2, typed := .slice A3 n3 c3, given := .slice A4 n4 c4, first := .slice A9 (fs.length + 1) c9, data := .slice A10 (vs.length + 1) c10, acks := .slice A7 n7 c7 },
    Inv.send hI hC3 (set7 K3 _) (Own.of (k := .i64) (l := fs) (m := [(F : Int)]) hfE rfl) (by rw [List.length_append]; exact row_farB ho3 K3 (by decide) _ _) (Own.le (row_chg ho q0 K1 (by decide) (by simp only [List.mem_cons, List.not_mem_nil, or_false]; rintro u (rfl | rfl); exact a5; exact a6)) hWB) (hn.lower (by rw [World.size_alloc]; exact Nat.le_succ_of_le hb.size)) ⟨a3, a4⟩⟩,
    hC3.below (Below.refl _ _) hWB hBg (by simp only [List.mem_cons, List.not_mem_nil, or_false]; rintro u (rfl | rfl); exact own_new hI.fi; exact fun g hg => (World.ownsRow.lt hI.da g hg).1)⟩
end Go.Proofs.Ytagciaanfjllnaa.Keys
