/- The law TopKeys: contracts of the keys' own functions: put, send, take. -/
import Derived.Test.YtagciaanfjllnaaKeysG
namespace Go.Proofs.Ytagciaanfjllnaa.Keys
open Go Go.RowKit Go.Proofs.Ytagciaanfjllnaa.Base Go.Proofs.Ytagciaanfjllnaa.Opens Go.Proofs.Ytagciaanfjllnaa.Reg Go.Proofs.YtagciaanfjllnaaW.PrintWords
set_option linter.unusedVariables false
set_option linter.unusedSimpArgs false
attribute [local go_sem ↓] Go.wp_at_zero Go.wp_at_succ
attribute [local go_sem high] eq32 eq45

theorem nine {w : World} {g : Nat} {t : TypeId} {a b c d e f h i j : Value} (hB : Blk w g t #[a, b, c, d, e, f, h, i, j]) :
    w.cell? ⟨g, 0, none⟩ = some a ∧ w.cell? ⟨g, 1, none⟩ = some b ∧ w.cell? ⟨g, 2, none⟩ = some c ∧ w.cell? ⟨g, 3, none⟩ = some d ∧ w.cell? ⟨g, 4, none⟩ = some e ∧ w.cell? ⟨g, 5, none⟩ = some f ∧ w.cell? ⟨g, 6, none⟩ = some h ∧ w.cell? ⟨g, 7, none⟩ = some i ∧ w.cell? ⟨g, 8, none⟩ = some j ∧ w.frozen? ⟨g, 0, none⟩ = false ∧ w.frozen? ⟨g, 1, none⟩ = false ∧ w.frozen? ⟨g, 2, none⟩ = false ∧ w.frozen? ⟨g, 3, none⟩ = false ∧ w.frozen? ⟨g, 4, none⟩ = false ∧ w.frozen? ⟨g, 5, none⟩ = false ∧ w.frozen? ⟨g, 6, none⟩ = false ∧ w.frozen? ⟨g, 7, none⟩ = false ∧ w.frozen? ⟨g, 8, none⟩ = false :=
  ⟨hB.cell 0, hB.cell 1, hB.cell 2, hB.cell 3, hB.cell 4, hB.cell 5, hB.cell 6, hB.cell 7, hB.cell 8, hB.frozen 0, hB.frozen 1, hB.frozen 2, hB.frozen 3, hB.frozen 4, hB.frozen 5, hB.frozen 6, hB.frozen 7, hB.frozen 8⟩

theorem set01 {w : World} {g : Nat} {t : TypeId} {a b c d e f h i j : Value} (hB : Blk w g t #[a, b, c, d, e, f, h, i, j]) (x y : Value) : Blk ((w.setCell ⟨g, 0, none⟩ x).setCell ⟨g, 1, none⟩ y) g t #[x, y, c, d, e, f, h, i, j] := by
  simpa using (hB.set_ 0 x).set_ 1 y
theorem set4 {w : World} {g : Nat} {t : TypeId} {a b c d e f h i j : Value} (hB : Blk w g t #[a, b, c, d, e, f, h, i, j]) (x : Value) : Blk (w.setCell ⟨g, 4, none⟩ x) g t #[a, b, c, d, x, f, h, i, j] := by
  simpa using hB.set_ 4 x
theorem Rd.chg {w w' : World} {g : Nat} {v : Value} {l : List Int} (h : Rd w v l) (hc : Chg w w' g []) (hne : 0 < l.length → v.ownBlock ≠ some g) : Rd w' v l := by
  rcases h with h | ⟨a, c, h1, h2, h3, h4⟩
  · exact .inl h
  · refine .inr ⟨a, c, h1, h2, h3, fun hl => ?_⟩
    obtain ⟨b, off, e, hlt, hcell⟩ := h4 hl
    subst e h1
    have hb := hc.block b hlt (fun e => hne hl (by rw [← e]; rfl)) (by simp)
    exact ⟨b, off, rfl, Nat.lt_of_lt_of_le hlt hc.size, fun i hi => (World.cell?_of_block (a := ⟨b, off + i, none⟩) hb).trans (hcell i hi)⟩
theorem own_new {k : IntKind} {e B : Nat} {w : World} {v : Value} {l : List Int} (h : Own k e B w v l) : ∀ g, v.ownBlock = some g → B ≤ g := fun g hg => (World.ownsRow.lt h g hg).1
theorem below_B {B : Nat} {W w : World} (h : Below W.heap.size W w) (hB : B ≤ W.heap.size) : Below B W w := h.mono hB

set_option maxHeartbeats 4000000 in
set_option maxRecDepth 100000 in
theorem put_no {B gk : Nat} {T : List Int} {F N : Nat} {fs ak : List Int} {ds : List (List Int)} {vs : List Value} {k : KV} {W : World} {Bv : Option Addr} {d : List Int} {c' : Nat} (hI : Inv B gk W T F N fs ds ak vs k) (h2 : Rd W (.slice Bv d.length c') d) (hd : d.length ≤ 100) (hfull : 256 < (T.length - F) + d.length) :
    Calls Try.prog 24 #[.pointer (some ⟨gk, 0, none⟩), .slice Bv d.length c'] W fun e w' => e = .returned (.tuple #[]) ∧ Inv B gk w' T F N fs ds ak vs k ∧ Below B W w' := by
  have hS := hI.slices
  obtain ⟨bytes, held, typed, given, first, data, acks⟩ := k
  obtain ⟨⟨A1, n1, c1, e1⟩, ⟨A2, n2, c2, e2⟩, ⟨A3, n3, c3, e3⟩, ⟨A4, n4, c4, e4⟩, ⟨A5, n5, c5, e5⟩, ⟨A6, n6, c6, e6⟩, ⟨A7, n7, c7, e7⟩⟩ := hS
  simp only at e1 e2 e3 e4 e5 e6 e7
  subst e1 e2 e3 e4 e5 e6 e7
  have hK : Blk W gk 50 #[.int .i64 (F : Int), .slice A1 n1 c1, .int .i64 (N : Int), .slice A2 n2 c2, .slice A3 n3 c3, .slice A4 n4 c4, .slice A5 n5 c5, .slice A6 n6 c6, .slice A7 n7 c7] := hI.blk
  have hl1 : n1 = (T.drop F).length := row_len hI.rb
  have hbd := hI.hbox
  have hT := hI.hT
  have hFN := hI.hFN
  have hNT := hI.hNT
  have hBg := hI.hB
  obtain ⟨m0, m1, m2, m3, m4, m5, m6, m7, m8, z0, z1, z2, z3, z4, z5, z6, z7, z8⟩ := nine hK
  have HC := put_full (F : Int) A1 Bv (T.drop F) d c1 c' W (by rw [List.length_drop]; omega) (by rw [List.length_drop]; omega) (by omega)
  rw [← hl1] at HC
  have HI := Lib.hid hI
  have H2 := Lib.hid h2
  clear hI h2 hl1
  go_enter Try.func24, Try.ntmps24
  go_wp2_with (first | (go_at_call 57; refine HC.mono ?_; rintro _ w1 ⟨rfl, hb⟩; have K1 := hK.stays hb; have hlt1 := K1.lt; clear m0 m1 m2 m3 m4 m5 m6 m7 m8 z0 z1 z2 z3 z4 z5 z6 z7 z8; obtain ⟨m0, m1, m2, m3, m4, m5, m6, m7, m8, z0, z1, z2, z3, z4, z5, z6, z7, z8⟩ := nine K1))
  refine bodyPost_end (results_none rfl _ _ _) rfl ?_
  have hC : Chg W (((w1.setCell ⟨gk, 0, none⟩ (.int .i64 (F : Int))).setCell ⟨gk, 1, none⟩ (.slice A1 n1 c1)).alloc (.cells #[.int .i64 (F : Int), .slice A1 n1 c1] 44)) gk [] :=
    (((Chg.of_below gk [] hb).same (Chg.of_set _ _ _ _ _)).same (Chg.of_set _ _ _ _ _)).same (Chg.of_below _ _ ((Below.refl _ _).alloc (Nat.le_refl _) _))
  have hI2 := HI.out
  exact ⟨rfl, Inv.box hI2 hC ((set01 K1 _ _).alloc _) hFN hbd (row_chg hI2.rb hC hI2.blk (by decide) (by simp)) hI2.s3, hC.below (Below.refl _ _) (Nat.le_trans hBg (Nat.le_of_lt hK.lt)) hBg (by simp)⟩

set_option maxHeartbeats 4000000 in
set_option maxRecDepth 100000 in
theorem put_yes {B gk : Nat} {T : List Int} {F N : Nat} {fs ak : List Int} {ds : List (List Int)} {vs : List Value} {k : KV} {W : World} {Bv : Option Addr} {d : List Int} {c' : Nat} (hI : Inv B gk W T F N fs ds ak vs k) (h2 : Rd W (.slice Bv d.length c') d) (hd : d.length ≤ 100) (hfull : ¬ 256 < (T.length - F) + d.length) (hT5 : T.length + d.length ≤ 5000) (hne : 0 < d.length → (Value.slice Bv d.length c').ownBlock ≠ some gk) :
    Calls Try.prog 24 #[.pointer (some ⟨gk, 0, none⟩), .slice Bv d.length c'] W fun e w' => ∃ k', e = .returned (.tuple #[]) ∧ Inv B gk w' (T ++ d) F N fs ds ak vs k' ∧ Below B W w' := by
  have hS := hI.slices
  obtain ⟨bytes, held, typed, given, first, data, acks⟩ := k
  obtain ⟨⟨A1, n1, c1, e1⟩, ⟨A2, n2, c2, e2⟩, ⟨A3, n3, c3, e3⟩, ⟨A4, n4, c4, e4⟩, ⟨A5, n5, c5, e5⟩, ⟨A6, n6, c6, e6⟩, ⟨A7, n7, c7, e7⟩⟩ := hS
  simp only at e1 e2 e3 e4 e5 e6 e7
  subst e1 e2 e3 e4 e5 e6 e7
  have hK : Blk W gk 50 #[.int .i64 (F : Int), .slice A1 n1 c1, .int .i64 (N : Int), .slice A2 n2 c2, .slice A3 n3 c3, .slice A4 n4 c4, .slice A5 n5 c5, .slice A6 n6 c6, .slice A7 n7 c7] := hI.blk
  have hl1 : n1 = (T.drop F).length := row_len hI.rb
  have hbd := hI.hbox
  have hT := hI.hT
  have hFN := hI.hFN
  have hNT := hI.hNT
  have hBg := hI.hB
  obtain ⟨m0, m1, m2, m3, m4, m5, m6, m7, m8, z0, z1, z2, z3, z4, z5, z6, z7, z8⟩ := nine hK
  have h1 := hI.rb.rd
  simp only at h1
  rw [hl1] at h1
  have HC := put_ok (F := (F : Int)) (l := T.drop F) (d := d) (by rw [List.length_drop]; omega) (by rw [List.length_drop]; omega) (by omega) (by omega) (by omega) h1 h2
  rw [← hl1] at HC
  have HI := Lib.hid hI
  have H2 := Lib.hid h2
  have hWB : B ≤ W.heap.size := Nat.le_trans hBg (Nat.le_of_lt hK.lt)
  clear hI h2 hl1 h1
  go_enter Try.func24, Try.ntmps24
  go_wp2_with (first | (go_at_call 57; refine HC.mono ?_; rintro _ w1 ⟨v', rfl, ho, hb⟩; obtain ⟨A8, n8, c8, rfl⟩ := own_form ho; have K1 := hK.stays hb; have hlt1 := K1.lt; clear m0 m1 m2 m3 m4 m5 m6 m7 m8 z0 z1 z2 z3 z4 z5 z6 z7 z8; obtain ⟨m0, m1, m2, m3, m4, m5, m6, m7, m8, z0, z1, z2, z3, z4, z5, z6, z7, z8⟩ := nine K1) | (at_builtin; have hC : Chg W (((w1.setCell ⟨gk, 0, none⟩ (.int .i64 (F : Int))).setCell ⟨gk, 1, none⟩ (.slice A8 n8 c8)).alloc (.cells #[.int .i64 (F : Int), .slice A8 n8 c8] 44)) gk [] := (((Chg.of_below gk [] hb).same (Chg.of_set _ _ _ _ _)).same (Chg.of_set _ _ _ _ _)).same (Chg.of_below _ _ ((Below.refl _ _).alloc (Nat.le_refl _) _)); have hC1 : Chg w1 (((w1.setCell ⟨gk, 0, none⟩ (.int .i64 (F : Int))).setCell ⟨gk, 1, none⟩ (.slice A8 n8 c8)).alloc (.cells #[.int .i64 (F : Int), .slice A8 n8 c8] 44)) gk [] := ((Chg.of_set _ _ _ _ _).same (Chg.of_set _ _ _ _ _)).same (Chg.of_below _ _ ((Below.refl _ _).alloc (Nat.le_refl _) _)); have hX := hC1.size; have hty := row_chg HI.out.ty hC HI.out.blk (by decide) (by simp); have h3 : n3 = T.length := row_len HI.out.ty; have hoX := row_chg ho hC1 K1 (by decide) (by simp); refine wpList_app rfl (.tmp 25) (.tmp 26) 32 rfl Try.underlying32 info5 rfl (by decide) (by rfl) (by rfl) hty ((Rd.chg H2.out hC hne).src) (Nat.le_trans hWB hC.size) (by omega) (by decide) ?_; intro v2 w2 ho2 hg2 hn2; obtain ⟨A9, c9, rfl⟩ := row_form ho2; have hn2' : NewAt (((w1.setCell ⟨gk, 0, none⟩ (.int .i64 (F : Int))).setCell ⟨gk, 1, none⟩ (.slice A8 n8 c8)).alloc (.cells #[.int .i64 (F : Int), .slice A8 n8 c8] 44)) (.slice A3 n3 c3) (.slice A9 (T.length + d.length) c9) := hn2.imp id (fun e => ⟨_, e, Nat.le_refl _⟩); have K2 := Blk.grown ((set01 K1 _ _).alloc _) hg2 (row_neT hty ((set01 K1 _ _).alloc _) (by decide)); have hlt2 := K2.lt; clear m0 m1 m2 m3 m4 m5 m6 m7 m8 z0 z1 z2 z3 z4 z5 z6 z7 z8; obtain ⟨m0, m1, m2, m3, m4, m5, m6, m7, m8, z0, z1, z2, z3, z4, z5, z6, z7, z8⟩ := nine K2))
  refine bodyPost_end (results_none rfl _ _ _) rfl ?_
  have hI := HI.out
  have q0 : Chg w1 (w2.setCell ⟨gk, 4, none⟩ (.slice A9 (T.length + d.length) c9)) gk [.slice A3 n3 c3] := ((((Chg.of_set _ _ _ _ _).same (Chg.of_set _ _ _ _ _)).same (Chg.of_below _ _ ((Below.refl _ _).alloc (Nat.le_refl _) _))).same (Chg.of_grown gk hg2 (by simp))).same (Chg.of_set _ _ _ _ _)
  have q1 := (Chg.of_below gk [.slice A3 n3 c3] hb).same q0
  have a1 : Apart (.slice A8 n8 c8) (.slice A3 n3 c3) := (apart_new hI.ty (own_new ho)).symm
  have a2 : Apart (.slice A8 n8 c8) (.slice A4 n4 c4) := (apart_new hI.gv (own_new ho)).symm
  have hdrop : (T ++ d).drop F = T.drop F ++ d := List.drop_append_of_le_length (by omega)
  refine ⟨rfl, ⟨{ bytes := .slice A8 n8 c8, held := .slice A2 n2 c2, typed := .slice A9 (T.length + d.length) c9, given := .slice A4 n4 c4, first := .slice A5 n5 c5, data := .slice A6 n6 c6, acks := .slice A7 n7 c7 }, Inv.put hI q1 (set4 K2 _) (by rw [List.length_append]; omega) (by rw [List.length_append]; omega) (by rw [hdrop]; exact Own.le (row_chg ho q0 K1 (by decide) (by simpa using a1)) hWB) (row_farB (Own.of ho2 rfl) K2 (by decide) _ _) (NewAt.lower hn2' (Nat.le_trans hb.size hX)) ⟨hn2'.apart hoX a1, a2⟩⟩, q1.below (Below.refl _ _) hWB hBg (by simpa using own_new hI.ty)⟩

end Go.Proofs.Ytagciaanfjllnaa.Keys
