/- The law TopKeys: the law's own function. -/
import Derived.Test.YtagciaanfjllnaaKeysJ
import Derived.Deep.CutBlock
namespace Go.Proofs.Ytagciaanfjllnaa.Keys
open Go Go.RowKit Go.Proofs.Ytagciaanfjllnaa.Base Go.Proofs.Ytagciaanfjllnaa.Opens Go.Proofs.Ytagciaanfjllnaa.Reg Go.Proofs.YtagciaanfjllnaaW.PrintWords
set_option linter.unusedVariables false
set_option linter.unusedSimpArgs false
attribute [local go_sem ↓] Go.wp_at_zero Go.wp_at_succ
attribute [local go_sem high] eq32 eq45

/-- the parts, as they came in -/
def Parts (w : World) (A : Option Addr) (n : Nat) (pa : Nat → Option Addr) (pc : Nat → Nat) (pl : Nat → List Int) : Prop :=
  0 < n → ∃ b off, A = some ⟨b, off, none⟩ ∧ b < w.heap.size ∧ ∀ i, i < n → w.cell? ⟨b, off + i, none⟩ = some (.slice (pa i) (pl i).length (pc i)) ∧ Rd w (.slice (pa i) (pl i).length (pc i)) (pl i)
def nilK : KV := ⟨.slice none 0 0, .slice none 0 0, .slice none 0 0, .slice none 0 0, .slice none 0 0, .slice none 0 0, .slice none 0 0⟩
theorem apart_nil (u : Value) : Apart u (.slice none 0 0) := fun g _ e => by simp [Value.ownBlock] at e
theorem inv_nil (W : World) : Inv W.heap.size W.heap.size (W.alloc (.cells (kcells 0 0 nilK) 50)) [] 0 0 [] [] [] [] nilK :=
  ⟨Blk.new W 50 _, Nat.le_refl _, Nat.le_refl _, Nat.le_refl _, by simp, by simp, Own.nil _ _ _ _, ⟨none, 0, rfl, fun _ => rfl, Nat.zero_le _⟩, Own.nil _ _ _ _, Own.nil _ _ _ _, Own.nil _ _ _ _, Own.nil _ _ _ _, World.ownsRow_nil _ _ _ _, rfl, rfl, fun j hj => by simp at hj, fun j hj => by simp at hj, fun j hj => by simp at hj, apart_nil _, apart_nil _, ⟨apart_nil _, apart_nil _⟩, fun j hj => by simp at hj⟩
/-- what holds at the second loop's head -/
structure Main2 (W : World) (r : Nat) (wr : World) : Prop where
  out : ∃ (T : List Int) (F N : Nat) (fs : List Int) (ds : List (List Int)) (ak : List Int) (vs : List Value) (k : KV), Inv W.heap.size W.heap.size wr T F N fs ds ak vs k ∧ fs.length ≤ 80 + r ∧ ak.length ≤ 80 + r ∧ T.length ≤ 800 ∧ T.length - F ≤ 256 - 16 * r ∧ (1 ≤ r → F = N) ∧ Below W.heap.size W wr
/-- what holds at the loop's head -/
structure Head (W : World) (n m i nx : Nat) (v6 v7 : Value) (wr : World) : Prop where
  h6 : v6 = .int .i64 (nx : Int)
  h7 : v7 = .int .i64 (i : Int)
  hn : nx ≤ n
  hi : i ≤ m

structure Main (W : World) (n i nx : Nat) (wr : World) : Prop where
  out : ∃ (T : List Int) (F N : Nat) (fs : List Int) (ds : List (List Int)) (ak : List Int) (vs : List Value) (k : KV), Inv W.heap.size W.heap.size wr T F N fs ds ak vs k ∧ fs.length ≤ i ∧ ak.length ≤ i ∧ T.length ≤ 100 * nx ∧ Below W.heap.size W wr

theorem own_len {k : IntKind} {e B n c : Nat} {w : World} {A : Option Addr} {l : List Int} (h : Own k e B w (.slice A n c) l) : n = l.length := by
  rcases h.2 with ⟨h1, h2⟩ | ⟨g, cap, cur, h1, _⟩
  · cases h1; omega
  · cases h1; rfl
theorem acked_c {B gk : Nat} {T : List Int} {F N : Nat} {fs ak : List Int} {ds : List (List Int)} {vs : List Value} {k : KV} {W : World} {n0 : Nat} (hI : Inv B gk W T F N fs ds ak vs k) (hn : n0 ≤ N) :
    Calls Try.prog 27 #[.agg #[.int .i64 (F : Int), k.bytes], .int .i64 (n0 : Int)] W fun e w' => ∃ (F' : Nat) (A8 : Option Addr) (n8 c8 : Nat), e = .returned (.tuple #[.agg #[.int .i64 (F' : Int), .slice A8 n8 c8], .int .i64 0]) ∧ F' = max F n0 ∧ Own .u8 5 B w' (.slice A8 n8 c8) (T.drop F') ∧ (Apart (.slice A8 n8 c8) k.typed ∧ Apart (.slice A8 n8 c8) k.given) ∧ Below W.heap.size W w' := by
  obtain ⟨A1, n1, c1, e1⟩ := own_form hI.rb
  have hr := hI.rb
  have h3 := hI.s3
  rw [e1] at hr h3 ⊢
  have hl := own_len hr
  have hbd := hI.hbox
  have hT := hI.hT
  have hFN := hI.hFN
  have hNT := hI.hNT
  have hWB : B ≤ W.heap.size := Nat.le_trans hI.hB (Nat.le_of_lt (Blk.lt hI.blk))
  by_cases h : n0 ≤ F
  · have HC := ack_old (F : Int) (n0 : Int) A1 (T.drop F) c1 W (by omega) (by rw [List.length_drop]; omega) (by omega) (by omega)
    rw [← hl] at HC
    refine HC.mono ?_
    rintro e w' ⟨rfl, hb⟩
    exact ⟨F, A1, n1, c1, rfl, by omega, hr.stays hb, h3, hb⟩
  · have h1 := hr.rd
    rw [hl] at h1
    have HC := ack_new (F := (F : Int)) (k := n0 - F) (by omega) (by rw [List.length_drop]; omega) (by rw [List.length_drop]; omega) (by omega) (by omega) h1
    rw [← hl, show (F : Int) + ((n0 - F : Nat) : Int) = (n0 : Int) by omega, List.drop_drop, show F + (n0 - F) = n0 by omega] at HC
    refine HC.mono ?_
    rintro e w' ⟨v', rfl, ho, hb⟩
    obtain ⟨A8, n8, c8, rfl⟩ := own_form ho
    exact ⟨n0, A8, n8, c8, rfl, by omega, Own.le ho hWB, ⟨(apart_new hI.ty (own_new ho)).symm, (apart_new hI.gv (own_new ho)).symm⟩, hb⟩

set_option maxHeartbeats 60000000 in
set_option maxRecDepth 100000 in
theorem keys_main {A B : Option Addr} {n c m c2 : Nat} {pa : Nat → Option Addr} {pc : Nat → Nat} {pl : Nat → List Int} {z : Nat → Int} {W : World} (hn : n ≤ 8) (hm : m ≤ 80) (hp : Parts W A n pa pc pl) (hz : Nums .u8 W B m z) :
    Calls Try.prog 6 #[.slice A n c, .slice B m c2] W fun e w' => e = .returned (.bool true) ∧ Below W.heap.size W w' := by
  have a1 : ¬ (8 : Int) < (n : Int) := by omega
  have a2 : ¬ (80 : Int) < (m : Int) := by omega
  have H0 := inv_nil W
  go_enter Try.func6, Try.ntmps6
  go_wp2_with fail
  go_loopw [6, 7, 8, 9, 10] (fun v6 v7 v8 v9 v10 wr => ∃ (i nx : Nat), Head W n m i nx v6 v7 wr ∧ Main W n i nx wr) (fun _ v7 _ _ _ _ => m - (intOf v7).toNat)
  case atStart => exact ⟨0, 0, ⟨rfl, rfl, Nat.zero_le _, Nat.zero_le _⟩, ⟨[], 0, 0, [], [], [], [], nilK, H0, Nat.zero_le _, Nat.zero_le _, Nat.zero_le _, (Below.refl _ _).alloc (Nat.le_refl _) _⟩⟩
  case round =>
    clear H0
    obtain ⟨i, nx, ⟨rfl, rfl, hnx, hi⟩, hM⟩ := hrel
    have HM := Lib.hid hM
    by_cases hlt : i < m
    · have hk0 : (0 : Int) ≤ (i : Int) := Int.natCast_nonneg _
      have hk1 : (i : Int) < (m : Int) := by omega
      have hx0 : (0 : Int) ≤ (nx : Int) := Int.natCast_nonneg _
      obtain ⟨T, F, N, fs, ds, ak, vs, k, hI, hfi, hai, hTn, HB⟩ := hM
      obtain ⟨bz, oz, rfl, hbz, hcz⟩ := nums_stays hz HB (by omega)
      obtain ⟨e0, hw⟩ := hcz i hlt
      have hxb : 0 ≤ z i ∧ z i ≤ 255 := by
        unfold Lit.wf at hw
        rw [Bool.and_eq_true] at hw
        exact ⟨Int.le_trans (by decide +kernel) (of_decide_eq_true hw.1), Int.le_trans (of_decide_eq_true hw.2) (by decide +kernel)⟩
      generalize z i = x at e0 hxb
      clear hcz hw
      have hd0 : 0 ≤ x / 4 ∧ x / 4 ≤ 63 := by omega
      have hr0 : 0 ≤ x % 4 ∧ x % 4 ≤ 3 := by omega
      go_upto_block 2 with (fail)
      go_cut [6] (fun s6 wx => ∃ nx' : Nat, s6 = .int .i64 (nx' : Int) ∧ nx' ≤ n ∧ Main W n (i + 1) nx' wx)
      case first => as_aux_lemma =>
        by_cases c0 : x % 4 = 0
        · by_cases hnn : nx < n
          · have b0 : (x % 4 == 0) = true := beq_iff_eq.mpr c0
            have hnn1 : (nx : Int) < (n : Int) := by omega
            obtain ⟨bp, op, rfl, hbp, hcp⟩ := hp (by omega)
            obtain ⟨ep0, hrp⟩ := hcp nx hnn
            have ep := (HB.cell (p := ⟨bp, op + nx, none⟩) hbp).trans ep0
            have hrp1 := hrp.stays HB
            have s1 : IntKind.i64.wrap ((nx : Int) + 1) = nx + 1 := IntWalk.i64_in _ (by omega)
            have hne : 0 < (pl nx).length → (Value.slice (pa nx) (pl nx).length (pc nx)).ownBlock ≠ some W.heap.size := fun h0 e => by
              obtain ⟨b9, o9, e9, h9⟩ := hrp.some_ h0
              rw [e9] at e
              simp only [Value.ownBlock, Option.some.injEq] at e
              omega
            clear hcp ep0
            by_cases h100 : (100 : Int) < ((pl nx).length : Int)
            · go_wp2_with fail
              go_ret
              exact ⟨rfl, HB⟩
            · by_cases hfull : 256 < (T.length - F) + (pl nx).length
              · have HC := put_no hI hrp1 (by omega) hfull
                clear hI hrp1
                go_wp2_with (go_at_call 24; refine HC.mono ?_; rintro _ w1 ⟨rfl, hI1, hb⟩)
                go_meet
                exact ⟨nx + 1, by go_num, by omega, ⟨T, F, N, fs, ds, ak, vs, k, hI1, by omega, by omega, by omega, HB.trans hb⟩⟩
              · have HC := put_yes hI hrp1 (by omega) hfull (by omega) hne
                clear hI hrp1
                go_wp2_with (go_at_call 24; refine HC.mono ?_; rintro _ w1 ⟨k', rfl, hI1, hb⟩)
                go_meet
                exact ⟨nx + 1, by go_num, by omega, ⟨T ++ pl nx, F, N, fs, ds, ak, vs, k', hI1, by omega, by omega, by rw [List.length_append]; omega, HB.trans hb⟩⟩
          · have b0 : (x % 4 == 0) = true := beq_iff_eq.mpr c0
            have b1 : (x % 4 == 1) = false := beq_ff (by omega)
            have b2 : (x % 4 == 2) = false := beq_ff (by omega)
            have b3 : (x % 4 == 3) = false := beq_ff (by omega)
            have hnn1 : ¬ (nx : Int) < (n : Int) := by omega
            go_wp2_with fail
            go_meet
            exact ⟨nx, rfl, hnx, ⟨T, F, N, fs, ds, ak, vs, k, hI, by omega, by omega, hTn, HB⟩⟩
        · have b0 : (x % 4 == 0) = false := beq_ff c0
          by_cases c1 : x % 4 = 1
          · have b1 : (x % 4 == 1) = true := beq_iff_eq.mpr c1
            have HC := send_c hI (by omega)
            go_wp2_with (go_at_call 25; refine HC.mono ?_; rintro _ w1 ⟨rfl, ⟨v', k', hI1⟩, hb⟩)
            go_meet
            exact ⟨nx, rfl, hnx, ⟨T, F, N, _, _, ak, _, k', hI1, by rw [List.length_append]; simp; omega, by omega, hTn, HB.trans hb⟩⟩
          · have b1 : (x % 4 == 1) = false := beq_ff c1
            have hS := hI.slices
            obtain ⟨bytes, held, typed, given, first, data, acks⟩ := k
            obtain ⟨⟨A1, n1, c1, e1⟩, ⟨A2, n2, c2', e2⟩, ⟨A3, n3, c3, e3⟩, ⟨A4, n4, c4, e4⟩, ⟨A5, n5, c5, e5⟩, ⟨A6, n6, c6, e6⟩, ⟨A7, n7, c7, e7⟩⟩ := hS
            simp only at e1 e2 e3 e4 e5 e6 e7
            subst e1 e2 e3 e4 e5 e6 e7
            have hK : Blk wr W.heap.size 50 #[.int .i64 (F : Int), .slice A1 n1 c1, .int .i64 (N : Int), .slice A2 n2 c2', .slice A3 n3 c3, .slice A4 n4 c4, .slice A5 n5 c5, .slice A6 n6 c6, .slice A7 n7 c7] := hI.blk
            have hl5 : n5 = fs.length := own_len hI.fi
            have hl7 : n7 = ak.length := own_len hI.ac
            subst n5
            subst n7
            obtain ⟨m0, m1, m2, m3, m4, m5, m6, m7, m8, z0, z1, z2, z3, z4, z5, z6, z7, z8⟩ := nine hK
            by_cases c2x : x % 4 = 2
            · have b2 : (x % 4 == 2) = true := beq_iff_eq.mpr c2x
              by_cases hf0 : 0 < fs.length
              · have hf1 : (0 : Int) < (fs.length : Int) := by omega
                have hjlt : (x / 4).toNat % fs.length < fs.length := Nat.mod_lt _ hf0
                have ej : x / 4 % (fs.length : Int) = (((x / 4).toNat % fs.length : Nat) : Int) := by
                  rw [Int.natCast_emod, Int.toNat_of_nonneg hd0.1]
                have hf2 : (fs.length : Int) ≠ 0 := by omega
                have HC := taken_c hI hjlt (by omega) (by omega)
                generalize (x / 4).toNat % fs.length = j at ej HC
                have EJ := Lib.hid ej
                clear ej
                go_wp2_with (go_at_call 26; rw [EJ.out]; refine HC.mono ?_; rintro _ w1 ⟨rfl, ⟨N', k', hN1, hN2, -, hI1⟩, hb⟩)
                go_meet
                exact ⟨nx, rfl, hnx, ⟨T, F, N', fs, ds, _, vs, k', hI1, by omega, by rw [List.length_append]; simp; omega, hTn, HB.trans hb⟩⟩
              · have hf1 : ¬ (0 : Int) < (fs.length : Int) := by omega
                have b3 : (x % 4 == 3) = false := beq_ff (by omega)
                go_wp2_with fail
                go_meet
                exact ⟨nx, rfl, hnx, ⟨T, F, N, fs, ds, ak, vs, _, hI, by omega, by omega, hTn, HB⟩⟩
            · have b2 : (x % 4 == 2) = false := beq_ff c2x
              have b3 : (x % 4 == 3) = true := beq_iff_eq.mpr (by omega)
              by_cases ha0 : 0 < ak.length
              · have hI' := hI
                obtain ⟨g7, c7', e7⟩ := Joins.ownsRow_form hI.ac ha0
                cases e7
                have ha1 : (0 : Int) < (ak.length : Int) := by omega
                have ha2 : (ak.length : Int) ≠ 0 := by omega
                have hjlt : (x / 4).toNat % ak.length < ak.length := Nat.mod_lt _ ha0
                have ej : x / 4 % (ak.length : Int) = (((x / 4).toNat % ak.length : Nat) : Int) := by
                  rw [Int.natCast_emod, Int.toNat_of_nonneg hd0.1]
                have ejt : Int.tmod (x / 4) (ak.length : Int) = (((x / 4).toNat % ak.length : Nat) : Int) := by rw [Int.tmod_eq_emod_of_nonneg hd0.1]; exact ej
                have hak : ak ≠ [] := fun e => by rw [e] at ha0; simp at ha0
                obtain ⟨n0, hn0, hn0N⟩ := hI.acl _ hjlt
                have hcell := World.ownsRow.cells hI.ac (g := g7) rfl _ _ (encs_at hjlt)
                rw [Go.WideShapes.add_plain, Nat.zero_add, hn0] at hcell
                generalize (x / 4).toNat % ak.length = j at ej ejt hcell hjlt hn0
                have hjj0 : (0 : Int) ≤ (j : Int) := Int.natCast_nonneg _
                have hjj1 : (j : Int) < (ak.length : Int) := by omega
                have HACK : ∀ w, Below wr.drew.heap.size wr.drew w → Calls Try.prog 27 #[.agg #[.int .i64 (F : Int), .slice A1 n1 c1], .int .i64 (n0 : Int)] w fun e w' => ∃ (F' : Nat) (A8 : Option Addr) (n8 c8 : Nat), e = .returned (.tuple #[.agg #[.int .i64 (F' : Int), .slice A8 n8 c8], .int .i64 0]) ∧ F' = max F n0 ∧ Own .u8 5 W.heap.size w' (.slice A8 n8 c8) (T.drop F') ∧ (Apart (.slice A8 n8 c8) (.slice A3 n3 c3) ∧ Apart (.slice A8 n8 c8) (.slice A4 n4 c4)) ∧ Below w.heap.size w w' := fun w hw => acked_c (hI.stays ((Joins.below_draws wr.heap.size wr 1).trans hw)) hn0N
                have HI0 := Lib.hid hI
                have hg7lt : g7 < wr.drew.heap.size := cell_lt (p := ⟨g7, j, none⟩) hcell
                have hSk : ∀ w', Below wr.drew.heap.size wr.drew w' → w'.cell? ⟨W.heap.size, 0, none⟩ = some (.int .i64 (F : Int)) ∧ w'.cell? ⟨W.heap.size, 1, none⟩ = some (.slice A1 n1 c1) ∧ w'.cell? ⟨W.heap.size, 8, none⟩ = some (.slice (some ⟨g7, 0, none⟩) ak.length c7) ∧ w'.cell? ⟨g7, j, none⟩ = some (.int .i64 (n0 : Int)) := fun w' hb => ⟨(hb.cell (p := ⟨W.heap.size, 0, none⟩) hK.lt).trans m0, (hb.cell (p := ⟨W.heap.size, 1, none⟩) hK.lt).trans m1, (hb.cell (p := ⟨W.heap.size, 8, none⟩) hK.lt).trans m8, (hb.cell (p := ⟨g7, j, none⟩) hg7lt).trans hcell⟩
                clear hI hI' hn0
                go_wp2_with fail
                go_cut [9, 10] (fun sA sB wx => ∃ (gx F' : Nat) (A8 : Option Addr) (n8 c8 : Nat), sA = .pointer (some ⟨gx, 0, none⟩) ∧ sB = .int .i64 0 ∧ Blk wx gx 44 #[.int .i64 (F' : Int), .slice A8 n8 c8] ∧ F' = max F n0 ∧ Own .u8 5 W.heap.size wx (.slice A8 n8 c8) (T.drop F') ∧ (Apart (.slice A8 n8 c8) (.slice A3 n3 c3) ∧ Apart (.slice A8 n8 c8) (.slice A4 n4 c4)) ∧ Below wr.heap.size wr wx)
                case first => as_aux_lemma =>
                  clear m0 m1 m2 m3 m4 m5 m6 m7 m8 z0 z1 z2 z3 z4 z5 z6 z7 z8 hcell
                  have hgk0 : W.heap.size < wr.drew.heap.size := hK.lt
                  have hB0 : Below wr.heap.size wr wr.drew := Joins.below_draws wr.heap.size wr 1
                  refine wp_region_held_drew (S := fun w' => w'.cell? ⟨W.heap.size, 0, none⟩ = some (.int .i64 (F : Int)) ∧ w'.cell? ⟨W.heap.size, 1, none⟩ = some (.slice A1 n1 c1) ∧ w'.cell? ⟨W.heap.size, 8, none⟩ = some (.slice (some ⟨g7, 0, none⟩) ak.length c7) ∧ w'.cell? ⟨g7, j, none⟩ = some (.int .i64 (n0 : Int))) (by kernel_rfl) (hSk _ (Below.refl _ _)) (fun hHeld => ?_)
                  refine takeH (i := 0) (N := some 113) (v := ?_) (a' := ?_) rfl rfl (by kernel_rfl) (by kernel_rfl) (by kernel_rfl) (fun _ _ _ h => h) (Or.inl ⟨by rfl, ?_⟩) hHeld ?_ ?_
                  rotate_left
                  · intro w' hSw
                    clear hSw
                    go_simp
                    with_reducible rfl
                  rotate_left
                  · simp only [Act.put, List.setIfInBounds_toArray, List.set_cons_zero, List.set_cons_succ]
                    rfl
                  refine takeH (i := 1) (N := some 114) (v := ?_) (a' := ?_) rfl rfl (by kernel_rfl) (by kernel_rfl) (by kernel_rfl) (fun _ _ _ h => h) (Or.inl ⟨by rfl, ?_⟩) hHeld ?_ ?_
                  rotate_left
                  · intro w' hSw
                    clear hSw
                    go_simp
                    with_reducible rfl
                  rotate_left
                  · simp only [Act.put, List.setIfInBounds_toArray, List.set_cons_zero, List.set_cons_succ]
                    rfl
                  refine takeH (i := 2) (N := some 115) (v := ?_) (a' := ?_) rfl rfl (by kernel_rfl) (by kernel_rfl) (by kernel_rfl) (fun _ _ _ h => h) (Or.inl ⟨by rfl, ?_⟩) hHeld ?_ ?_
                  rotate_left
                  · intro w' hSw
                    clear hSw
                    go_simp
                    with_reducible rfl
                  rotate_left
                  · simp only [Act.put, List.setIfInBounds_toArray, List.set_cons_zero, List.set_cons_succ]
                    rfl
                  refine takeH (i := 4) (N := some 117) (v := ?_) (a' := ?_) rfl rfl (by kernel_rfl) (by kernel_rfl) (by kernel_rfl) (fun _ _ _ h => h) (Or.inl ⟨by rfl, ?_⟩) hHeld ?_ ?_
                  rotate_left
                  · intro w' hSw
                    clear hSw
                    go_simp
                    with_reducible rfl
                  rotate_left
                  · simp only [Act.put, List.setIfInBounds_toArray, List.set_cons_zero, List.set_cons_succ]
                    rfl
                  refine takeH (i := 5) (N := some 118) (v := ?_) (a' := ?_) rfl rfl (by kernel_rfl) (by kernel_rfl) (by kernel_rfl) (fun _ _ _ h => h) (Or.inl ⟨by rfl, ?_⟩) hHeld ?_ ?_
                  rotate_left
                  · intro w' hSw
                    clear hSw
                    go_simp
                    with_reducible rfl
                  rotate_left
                  · simp only [Act.put, List.setIfInBounds_toArray, List.set_cons_zero, List.set_cons_succ]
                    rfl
                  refine takeH (i := 6) (N := some 119) (v := ?_) (a' := ?_) rfl rfl (by kernel_rfl) (by kernel_rfl) (by kernel_rfl) (fun _ _ _ h => h) (Or.inl ⟨by rfl, ?_⟩) hHeld ?_ ?_
                  rotate_left
                  · intro w' hSw
                    clear hSw
                    go_simp
                    with_reducible rfl
                  rotate_left
                  · simp only [Act.put, List.setIfInBounds_toArray, List.set_cons_zero, List.set_cons_succ]
                    rfl
                  refine takeH (i := 8) (N := some 121) (v := ?_) (a' := ?_) rfl rfl (by kernel_rfl) (by kernel_rfl) (by kernel_rfl) (fun _ _ _ h => h) (Or.inl ⟨by rfl, ?_⟩) hHeld ?_ ?_
                  rotate_left
                  · intro w' hSw
                    clear hSw
                    go_simp
                    with_reducible rfl
                  rotate_left
                  · simp only [Act.put, List.setIfInBounds_toArray, List.set_cons_zero, List.set_cons_succ]
                    rfl
                  refine takeH (i := 9) (N := some 122) (v := ?_) (a' := ?_) rfl rfl (by kernel_rfl) (by kernel_rfl) (by kernel_rfl) (fun _ _ _ h => h) (Or.inl ⟨by rfl, ?_⟩) hHeld ?_ ?_
                  rotate_left
                  · intro w' hSw
                    clear hSw
                    go_simp
                    with_reducible rfl
                  rotate_left
                  · simp only [Act.put, List.setIfInBounds_toArray, List.set_cons_zero, List.set_cons_succ]
                    rfl
                  refine takeH (i := 10) (N := some 123) (v := ?_) (a' := ?_) rfl rfl (by kernel_rfl) (by kernel_rfl) (by kernel_rfl) (fun _ _ _ h => h) (Or.inl ⟨by rfl, ?_⟩) hHeld ?_ ?_
                  rotate_left
                  · intro w' hSw
                    clear hSw
                    go_simp
                    with_reducible rfl
                  rotate_left
                  · simp only [Act.put, List.setIfInBounds_toArray, List.set_cons_zero, List.set_cons_succ]
                    rfl
                  refine takeH (i := 11) (N := some 124) (v := ?_) (a' := ?_) rfl rfl (by kernel_rfl) (by kernel_rfl) (by kernel_rfl) (fun _ _ _ h => h) (Or.inl ⟨by rfl, ?_⟩) hHeld ?_ ?_
                  rotate_left
                  · intro w' hSw
                    clear hSw
                    go_simp
                    with_reducible rfl
                  rotate_left
                  · simp only [Act.put, List.setIfInBounds_toArray, List.set_cons_zero, List.set_cons_succ]
                    rfl
                  refine takeH (i := 3) (N := some 116) (v := ?_) (a' := ?_) rfl rfl (by kernel_rfl) (by kernel_rfl) (by kernel_rfl) (fun _ _ _ h => h) (Or.inl ⟨by rfl, ?_⟩) hHeld ?_ ?_
                  rotate_left
                  · intro w' hSw
                    go_split_ands
                    go_simp
                    with_reducible rfl
                  rotate_left
                  · simp only [Act.put, List.setIfInBounds_toArray, List.set_cons_zero, List.set_cons_succ]
                    rfl
                  refine takeH (i := 7) (N := some 120) (v := ?_) (a' := ?_) rfl rfl (by kernel_rfl) (by kernel_rfl) (by kernel_rfl) (fun _ _ _ h => h) (Or.inl ⟨by rfl, ?_⟩) hHeld ?_ ?_
                  rotate_left
                  · intro w' hSw
                    go_split_ands
                    go_simp
                    with_reducible rfl
                  rotate_left
                  · simp only [Act.put, List.setIfInBounds_toArray, List.set_cons_zero, List.set_cons_succ]
                    rfl
                  refine takeH (i := 12) (N := some 125) (v := ?_) (a' := ?_) rfl rfl (by kernel_rfl) (by kernel_rfl) (by kernel_rfl) (fun _ _ _ h => h) (Or.inl ⟨by rfl, ?_⟩) hHeld ?_ ?_
                  rotate_left
                  · intro w' hSw
                    go_split_ands
                    go_simp
                    with_reducible rfl
                  rotate_left
                  · simp only [Act.put, List.setIfInBounds_toArray, List.set_cons_zero, List.set_cons_succ]
                    rfl
                  refine takeH (i := 13) (N := some 126) (v := ?_) (a' := ?_) rfl rfl (by kernel_rfl) (by kernel_rfl) (by kernel_rfl) (fun _ _ _ h => h) (Or.inl ⟨by rfl, ?_⟩) hHeld ?_ ?_
                  rotate_left
                  · intro w' hSw
                    clear hSw
                    go_simp
                    with_reducible rfl
                  rotate_left
                  · simp only [Act.put, List.setIfInBounds_toArray, List.set_cons_zero, List.set_cons_succ]
                    rfl
                  refine takeH (i := 14) (N := some 127) (v := ?_) (a' := ?_) rfl rfl (by kernel_rfl) (by kernel_rfl) (by kernel_rfl) (fun _ _ _ h => h) (Or.inl ⟨by rfl, ?_⟩) hHeld ?_ ?_
                  rotate_left
                  · intro w' hSw
                    clear hSw
                    go_simp
                    with_reducible rfl
                  rotate_left
                  · simp only [Act.put, List.setIfInBounds_toArray, List.set_cons_zero, List.set_cons_succ]
                    rfl
                  refine takeH (i := 15) (N := some 128) (v := ?_) (a' := ?_) rfl rfl (by kernel_rfl) (by kernel_rfl) (by kernel_rfl) (fun _ _ _ h => h) (Or.inl ⟨by rfl, ?_⟩) hHeld ?_ ?_
                  rotate_left
                  · intro w' hSw
                    clear hSw
                    go_simp
                    with_reducible rfl
                  rotate_left
                  · simp only [Act.put, List.setIfInBounds_toArray, List.set_cons_zero, List.set_cons_succ]
                    rfl
                  refine takeH (i := 16) (N := some 129) (v := ?_) (a' := ?_) rfl rfl (by kernel_rfl) (by kernel_rfl) (by kernel_rfl) (fun _ _ _ h => h) (Or.inl ⟨by rfl, ?_⟩) hHeld ?_ ?_
                  rotate_left
                  · intro w' hSw
                    go_split_ands
                    go_simp
                    with_reducible rfl
                  rotate_left
                  · simp only [Act.put, List.setIfInBounds_toArray, List.set_cons_zero, List.set_cons_succ]
                    rfl
                  refine wpAnyH_ready (rs := [17, 21]) (by kernel_rfl) (by simp) ?_
                  refine AllReadyH.cons rfl (fun K hK => ?_) (AllReadyH.cons rfl (fun K hK => ?_) AllReadyH.nil)
                  · go_simp
                    with_reducible refine (HACK _ (Below.refl _ _)).mono ?_
                    rintro _ x2 ⟨F', A8, n8, c8, rfl, hF', ho, hap, hx⟩
                    have HFE := Lib.hid hF'
                    clear hF'
                    refine hK.out _ _ (hSk _ hx) (fun hHeld => ?_)
                    clear hK K
                    refine takeH (i := 18) (N := some 112) (v := ?_) (a' := ?_) rfl rfl (by kernel_rfl) (by kernel_rfl) (by kernel_rfl) (fun _ _ _ h => h) (Or.inl ⟨by rfl, ?_⟩) hHeld ?_ ?_
                    rotate_left
                    · intro w' hSw
                      clear hSw
                      go_simp
                      with_reducible rfl
                    rotate_left
                    · simp only [Act.put, List.setIfInBounds_toArray, List.set_cons_zero, List.set_cons_succ]
                      rfl
                    refine takeH (i := 19) (N := some 131) (v := ?_) (a' := ?_) rfl rfl (by kernel_rfl) (by kernel_rfl) (by kernel_rfl) (fun _ _ _ h => h) (Or.inl ⟨by rfl, ?_⟩) hHeld ?_ ?_
                    rotate_left
                    · intro w' hSw
                      clear hSw
                      go_simp
                      with_reducible rfl
                    rotate_left
                    · simp only [Act.put, List.setIfInBounds_toArray, List.set_cons_zero, List.set_cons_succ]
                      rfl
                    refine takeH (i := 20) (N := some 132) (v := ?_) (a' := ?_) rfl rfl (by kernel_rfl) (by kernel_rfl) (by kernel_rfl) (fun _ _ _ h => h) (Or.inl ⟨by rfl, ?_⟩) hHeld ?_ ?_
                    rotate_left
                    · intro w' hSw
                      clear hSw
                      go_simp
                      with_reducible rfl
                    rotate_left
                    · simp only [Act.put, List.setIfInBounds_toArray, List.set_cons_zero, List.set_cons_succ]
                      rfl
                    refine wpAnyH_ready (rs := [21]) (by kernel_rfl) (by simp) ?_
                    refine AllReadyH.cons rfl (fun K hK => ?_) AllReadyH.nil
                    go_simp
                    refine hK.out _ _ (hSk _ (hx.alloc hx.size (.cells #[.int .i64 0, .slice none 0 0] 44))) (fun hHeld => ?_)
                    clear hK K
                    refine wpAnyH_ready (rs := [22]) (by kernel_rfl) (by simp) ?_
                    refine AllReadyH.cons rfl (fun K hK => ?_) AllReadyH.nil
                    go_simp
                    have V0 := Blk.new x2 44 #[.int .i64 (F' : Int), .slice A8 n8 c8]
                    have VB := hx.alloc hx.size (.cells #[.int .i64 (F' : Int), .slice A8 n8 c8] 44)
                    have VO := row_alloc ho (.cells #[.int .i64 (F' : Int), .slice A8 n8 c8] 44)
                    refine hK.out _ _ (hSk _ VB) (fun hHeld => ?_)
                    clear hK K
                    refine takeH (i := 23) (N := some 10) (v := ?_) (a' := ?_) rfl rfl (by kernel_rfl) (by kernel_rfl) (by kernel_rfl) (fun _ _ _ h => h) (Or.inl ⟨by rfl, ?_⟩) hHeld ?_ ?_
                    rotate_left
                    · intro w' hSw
                      clear hSw
                      go_simp
                      with_reducible rfl
                    rotate_left
                    · simp only [Act.put, List.setIfInBounds_toArray, List.set_cons_zero, List.set_cons_succ]
                      rfl
                    refine wpAnyH_done (by kernel_rfl) ?_ _
                    clear hHeld
                    go_wp2_with fail
                    go_meet
                    exact ⟨x2.heap.size, F', A8, n8, c8, rfl, rfl, V0, HFE.out, VO, hap, hB0.trans VB⟩
                  · go_simp
                    have UB := (Below.refl wr.drew.heap.size wr.drew).alloc (Nat.le_refl _) (.cells #[.int .i64 0, .slice none 0 0] 44)
                    have UY := Blk.new wr.drew 44 #[.int .i64 0, .slice none 0 0]
                    refine hK.out _ _ (hSk _ UB) (fun hHeld => ?_)
                    clear hK K
                    refine wpAnyH_ready (rs := [17]) (by kernel_rfl) (by simp) ?_
                    refine AllReadyH.cons rfl (fun K hK => ?_) AllReadyH.nil
                    go_simp
                    have hT2 := HACK _ UB
                    refine hT2.mono ?_
                    rintro _ x2 ⟨F', A8, n8, c8, rfl, hF', ho, hap, hx⟩
                    have HFE := Lib.hid hF'
                    clear hF'
                    have XB := UB.trans (hx.mono UB.size)
                    have XY : Blk x2 wr.heap.size 44 #[.int .i64 0, .slice none 0 0] := UY.stays hx
                    refine hK.out _ _ (hSk _ XB) (fun hHeld => ?_)
                    clear hK K
                    refine takeH (i := 18) (N := some 112) (v := ?_) (a' := ?_) rfl rfl (by kernel_rfl) (by kernel_rfl) (by kernel_rfl) (fun _ _ _ h => h) (Or.inl ⟨by rfl, ?_⟩) hHeld ?_ ?_
                    rotate_left
                    · intro w' hSw
                      clear hSw
                      go_simp
                      with_reducible rfl
                    rotate_left
                    · simp only [Act.put, List.setIfInBounds_toArray, List.set_cons_zero, List.set_cons_succ]
                      rfl
                    refine takeH (i := 19) (N := some 131) (v := ?_) (a' := ?_) rfl rfl (by kernel_rfl) (by kernel_rfl) (by kernel_rfl) (fun _ _ _ h => h) (Or.inl ⟨by rfl, ?_⟩) hHeld ?_ ?_
                    rotate_left
                    · intro w' hSw
                      clear hSw
                      go_simp
                      with_reducible rfl
                    rotate_left
                    · simp only [Act.put, List.setIfInBounds_toArray, List.set_cons_zero, List.set_cons_succ]
                      rfl
                    refine takeH (i := 20) (N := some 132) (v := ?_) (a' := ?_) rfl rfl (by kernel_rfl) (by kernel_rfl) (by kernel_rfl) (fun _ _ _ h => h) (Or.inl ⟨by rfl, ?_⟩) hHeld ?_ ?_
                    rotate_left
                    · intro w' hSw
                      clear hSw
                      go_simp
                      with_reducible rfl
                    rotate_left
                    · simp only [Act.put, List.setIfInBounds_toArray, List.set_cons_zero, List.set_cons_succ]
                      rfl
                    refine wpAnyH_ready (rs := [22]) (by kernel_rfl) (by simp) ?_
                    refine AllReadyH.cons rfl (fun K hK => ?_) AllReadyH.nil
                    obtain ⟨p0, p1, q0, q1⟩ := Blk.two XY
                    go_simp
                    have V0 := Blk.set2 XY (.int .i64 (F' : Int)) (.slice A8 n8 c8)
                    have VB := below_set2 XB (Nat.le_refl _) (.int .i64 (F' : Int)) (.slice A8 n8 c8)
                    have VO := row_far2 ho XY (by decide) (.int .i64 (F' : Int)) (.slice A8 n8 c8)
                    refine hK.out _ _ (hSk _ VB) (fun hHeld => ?_)
                    clear hK K p0 p1 q0 q1
                    refine takeH (i := 23) (N := some 10) (v := ?_) (a' := ?_) rfl rfl (by kernel_rfl) (by kernel_rfl) (by kernel_rfl) (fun _ _ _ h => h) (Or.inl ⟨by rfl, ?_⟩) hHeld ?_ ?_
                    rotate_left
                    · intro w' hSw
                      clear hSw
                      go_simp
                      with_reducible rfl
                    rotate_left
                    · simp only [Act.put, List.setIfInBounds_toArray, List.set_cons_zero, List.set_cons_succ]
                      rfl
                    refine wpAnyH_done (by kernel_rfl) ?_ _
                    clear hHeld
                    go_wp2_with fail
                    go_meet
                    exact ⟨wr.heap.size, F', A8, n8, c8, rfl, rfl, V0, HFE.out, VO, hap, hB0.trans VB⟩
                case rest => as_aux_lemma =>
                  clear m0 m1 m2 m3 m4 m5 m6 m7 m8 z0 z1 z2 z3 z4 z5 z6 z7 z8 hcell hSk HACK
                  obtain ⟨gx, F', A8, n8, c8, rfl, rfl, hX, hFE, hO, hap, hBx⟩ := hcut
                  have hI0 := HI0.out
                  have K1 := hK.stays hBx
                  have hlt1 := K1.lt
                  obtain ⟨m0, m1, m2, m3, m4, m5, m6, m7, m8, z0, z1, z2, z3, z4, z5, z6, z7, z8⟩ := nine K1
                  obtain ⟨p0, p1, q0, q1⟩ := Blk.two hX
                  have hltx := hX.lt
                  have HFE := Lib.hid hFE
                  clear hFE
                  go_wp2_with fail
                  have hCh : Chg wr ((wc.setCell ⟨W.heap.size, 0, none⟩ (.int .i64 (F' : Int))).setCell ⟨W.heap.size, 1, none⟩ (.slice A8 n8 c8)) W.heap.size [] := ((Chg.of_below _ _ hBx).same (Chg.of_set _ _ _ _ _)).same (Chg.of_set _ _ _ _ _)
                  have hFN := hI0.hFN
                  have hNT := hI0.hNT
                  have hbd := hI0.hbox
                  have hI1 := Inv.box hI0 hCh (set01 K1 _ _) (by rw [HFE.out]; omega) (by rw [HFE.out]; omega) (row_farB (row_farB hO K1 (by decide) _ _) (K1.set_ 0 _) (by decide) _ _) hap
                  have hBe := hCh.below HB HB.size (Nat.le_refl _) (by simp)
                  go_meet
                  exact ⟨nx, rfl, hnx, ⟨T, F', N, fs, ds, ak, vs, _, hI1, by omega, by omega, hTn, hBe⟩⟩
              · have ha1 : ¬ (0 : Int) < (ak.length : Int) := by omega
                go_wp2_with fail
                go_meet
                exact ⟨nx, rfl, hnx, ⟨T, F, N, fs, ds, ak, vs, _, hI, by omega, by omega, hTn, HB⟩⟩
      case rest => as_aux_lemma =>
        clear HM hI HB
        obtain ⟨nx', rfl, hnx', ⟨T, F, N, fs, ds, ak, vs, k, hI, hfi, hai, hTn, HB⟩⟩ := hcut
        have hS := hI.slices
        obtain ⟨bytes, held, typed, given, first, data, acks⟩ := k
        obtain ⟨⟨A1, n1, c1, e1⟩, ⟨A2, n2, c2', e2⟩, ⟨A3, n3, c3, e3⟩, ⟨A4, n4, c4, e4⟩, ⟨A5, n5, c5, e5⟩, ⟨A6, n6, c6, e6⟩, ⟨A7, n7, c7, e7⟩⟩ := hS
        simp only at e1 e2 e3 e4 e5 e6 e7
        subst e1 e2 e3 e4 e5 e6 e7
        have hK1 : Blk wc W.heap.size 50 #[.int .i64 (F : Int), .slice A1 n1 c1, .int .i64 (N : Int), .slice A2 n2 c2', .slice A3 n3 c3, .slice A4 n4 c4, .slice A5 n5 c5, .slice A6 n6 c6, .slice A7 n7 c7] := hI.blk
        have hl3 : n3 = T.length := own_len hI.ty
        have hl4 : n4 = N := by have := own_len hI.gv; rw [List.length_take, Nat.min_eq_left hI.hNT] at this; exact this
        subst n3
        subst n4
        obtain ⟨m0, m1, m2, m3, m4, m5, m6, m7, m8, z0, z1, z2, z3, z4, z5, z6, z7, z8⟩ := nine hK1
        have hNT := hI.hNT
        have hTL := hI.hT
        have hNT2 : ¬ (T.length : Int) < (N : Int) := by omega
        have hgr0 : Rd wc (.slice A4 N c4) (T.take N) := hI.gv.rd
        have htr0 : Rd wc (.slice A3 T.length c3) T := hI.ty.rd
        have htl := htr0.len
        have hN3 : (N : Int) ≤ (c3 : Int) := by omega
        have hN0 : (0 : Int) ≤ (N : Int) := Int.natCast_nonneg _
        have hgr : Rd wc.drew (.slice A4 N c4) (T.take N) := hgr0.stays (Joins.below_draws _ _ 1)
        have htr : Rd wc.drew (.slice A3 N c3) (T.take N) := (htr0.take N hNT).stays (Joins.below_draws _ _ 1)
        have eMin : (if T.length < N then (T.length : Int) else (N : Int)) = N := if_neg (by omega)
        have eBne : ((N : Int) != (N : Int)) = false := bne_self_eq_false _
        have HI0 := Lib.hid hI
        have s1 : IntKind.i64.wrap ((i : Int) + 1) = i + 1 := IntWalk.i64_in _ (by omega)
        clear hI hgr0 htr0 htl
        go_wp2_with fail
        refine wp_region_held_drew (S := fun w' => w'.cell? ⟨W.heap.size, 2, none⟩ = some (.int .i64 (N : Int)) ∧ w'.cell? ⟨W.heap.size, 4, none⟩ = some (.slice A3 T.length c3) ∧ w'.cell? ⟨W.heap.size, 5, none⟩ = some (.slice A4 N c4)) (by kernel_rfl) ⟨m2, m4, m5⟩ (fun hHeld => ?_)
        refine takeH (i := 0) (N := some 139) (v := ?_) (a' := ?_) rfl rfl (by kernel_rfl) (by kernel_rfl) (by kernel_rfl) (fun _ _ _ h => h) (Or.inl ⟨by rfl, ?_⟩) hHeld ?_ ?_
        rotate_left
        · intro w' hSw
          clear hSw
          go_simp
          with_reducible rfl
        rotate_left
        · simp only [Act.put, List.setIfInBounds_toArray, List.set_cons_zero, List.set_cons_succ]
          rfl
        refine takeH (i := 1) (N := some 140) (v := ?_) (a' := ?_) rfl rfl (by kernel_rfl) (by kernel_rfl) (by kernel_rfl) (fun _ _ _ h => h) (Or.inl ⟨by rfl, ?_⟩) hHeld ?_ ?_
        rotate_left
        · intro w' hSw
          clear hSw
          go_simp
          with_reducible rfl
        rotate_left
        · simp only [Act.put, List.setIfInBounds_toArray, List.set_cons_zero, List.set_cons_succ]
          rfl
        refine takeH (i := 2) (N := some 141) (v := ?_) (a' := ?_) rfl rfl (by kernel_rfl) (by kernel_rfl) (by kernel_rfl) (fun _ _ _ h => h) (Or.inl ⟨by rfl, ?_⟩) hHeld ?_ ?_
        rotate_left
        · intro w' hSw
          clear hSw
          go_simp
          with_reducible rfl
        rotate_left
        · simp only [Act.put, List.setIfInBounds_toArray, List.set_cons_zero, List.set_cons_succ]
          rfl
        refine takeH (i := 3) (N := some 142) (v := ?_) (a' := ?_) rfl rfl (by kernel_rfl) (by kernel_rfl) (by kernel_rfl) (fun _ _ _ h => h) (Or.inl ⟨by rfl, ?_⟩) hHeld ?_ ?_
        rotate_left
        · intro w' hSw
          clear hSw
          go_simp
          with_reducible rfl
        rotate_left
        · simp only [Act.put, List.setIfInBounds_toArray, List.set_cons_zero, List.set_cons_succ]
          rfl
        refine takeH (i := 4) (N := some 143) (v := ?_) (a' := ?_) rfl rfl (by kernel_rfl) (by kernel_rfl) (by kernel_rfl) (fun _ _ _ h => h) (Or.inl ⟨by rfl, ?_⟩) hHeld ?_ ?_
        rotate_left
        · intro w' hSw
          go_split_ands
          go_simp
          with_reducible rfl
        rotate_left
        · simp only [Act.put, List.setIfInBounds_toArray, List.set_cons_zero, List.set_cons_succ]
          rfl
        refine takeH (i := 5) (N := some 144) (v := ?_) (a' := ?_) rfl rfl (by kernel_rfl) (by kernel_rfl) (by kernel_rfl) (fun _ _ _ h => h) (Or.inl ⟨by rfl, ?_⟩) hHeld ?_ ?_
        rotate_left
        · intro w' hSw
          clear hSw
          go_simp
          with_reducible rfl
        rotate_left
        · simp only [Act.put, List.setIfInBounds_toArray, List.set_cons_zero, List.set_cons_succ]
          rfl
        refine takeH (i := 6) (N := some 145) (v := ?_) (a' := ?_) rfl rfl (by kernel_rfl) (by kernel_rfl) (by kernel_rfl) (fun _ _ _ h => h) (Or.inl ⟨by rfl, ?_⟩) hHeld ?_ ?_
        rotate_left
        · intro w' hSw
          clear hSw
          go_simp
          with_reducible rfl
        rotate_left
        · simp only [Act.put, List.setIfInBounds_toArray, List.set_cons_zero, List.set_cons_succ]
          rfl
        refine takeH (i := 7) (N := some 146) (v := ?_) (a' := ?_) rfl rfl (by kernel_rfl) (by kernel_rfl) (by kernel_rfl) (fun _ _ _ h => h) (Or.inl ⟨by rfl, ?_⟩) hHeld ?_ ?_
        rotate_left
        · intro w' hSw
          clear hSw
          go_simp
          with_reducible rfl
        rotate_left
        · simp only [Act.put, List.setIfInBounds_toArray, List.set_cons_zero, List.set_cons_succ]
          rfl
        refine takeH (i := 8) (N := some 147) (v := ?_) (a' := ?_) rfl rfl (by kernel_rfl) (by kernel_rfl) (by kernel_rfl) (fun _ _ _ h => h) (Or.inl ⟨by rfl, ?_⟩) hHeld ?_ ?_
        rotate_left
        · intro w' hSw
          go_split_ands
          go_simp
          with_reducible rfl
        rotate_left
        · simp only [Act.put, List.setIfInBounds_toArray, List.set_cons_zero, List.set_cons_succ]
          rfl
        refine takeH (i := 9) (N := some 148) (v := ?_) (a' := ?_) rfl rfl (by kernel_rfl) (by kernel_rfl) (by kernel_rfl) (fun _ _ _ h => h) (Or.inl ⟨by rfl, ?_⟩) hHeld ?_ ?_
        rotate_left
        · intro w' hSw
          clear hSw
          go_simp
          with_reducible rfl
        rotate_left
        · simp only [Act.put, List.setIfInBounds_toArray, List.set_cons_zero, List.set_cons_succ]
          rfl
        refine takeH (i := 10) (N := some 149) (v := ?_) (a' := ?_) rfl rfl (by kernel_rfl) (by kernel_rfl) (by kernel_rfl) (fun _ _ _ h => h) (Or.inl ⟨by rfl, ?_⟩) hHeld ?_ ?_
        rotate_left
        · intro w' hSw
          clear hSw
          go_simp
          with_reducible rfl
        rotate_left
        · simp only [Act.put, List.setIfInBounds_toArray, List.set_cons_zero, List.set_cons_succ]
          rfl
        refine takeH (i := 11) (N := some 150) (v := ?_) (a' := ?_) rfl rfl (by kernel_rfl) (by kernel_rfl) (by kernel_rfl) (fun _ _ _ h => h) (Or.inl ⟨by rfl, ?_⟩) hHeld ?_ ?_
        rotate_left
        · intro w' hSw
          clear hSw
          go_simp
          with_reducible rfl
        rotate_left
        · simp only [Act.put, List.setIfInBounds_toArray, List.set_cons_zero, List.set_cons_succ]
          rfl
        refine takeH (i := 12) (N := some 151) (v := ?_) (a' := ?_) rfl rfl (by kernel_rfl) (by kernel_rfl) (by kernel_rfl) (fun _ _ _ h => h) (Or.inl ⟨by rfl, ?_⟩) hHeld ?_ ?_
        rotate_left
        · intro w' hSw
          clear hSw
          go_simp
          with_reducible rfl
        rotate_left
        · simp only [Act.put, List.setIfInBounds_toArray, List.set_cons_zero, List.set_cons_succ]
          rfl
        refine takeH (i := 13) (N := some 152) (v := ?_) (a' := ?_) rfl rfl (by kernel_rfl) (by kernel_rfl) (by kernel_rfl) (fun _ _ _ h => h) (Or.inl ⟨by rfl, ?_⟩) hHeld ?_ ?_
        rotate_left
        · intro w' hSw
          clear hSw
          go_simp
          with_reducible rfl
        rotate_left
        · simp only [Act.put, List.setIfInBounds_toArray, List.set_cons_zero, List.set_cons_succ]
          rfl
        refine takeH (i := 14) (N := some 153) (v := ?_) (a' := ?_) rfl rfl (by kernel_rfl) (by kernel_rfl) (by kernel_rfl) (fun _ _ _ h => h) (Or.inl ⟨by rfl, ?_⟩) hHeld ?_ ?_
        rotate_left
        · intro w' hSw
          clear hSw
          go_simp
          with_reducible rfl
        rotate_left
        · simp only [Act.put, List.setIfInBounds_toArray, List.set_cons_zero, List.set_cons_succ]
          rfl
        refine takeH (i := 15) (N := some 154) (v := ?_) (a' := ?_) rfl rfl (by kernel_rfl) (by kernel_rfl) (by kernel_rfl) (fun _ _ _ h => h) (Or.inl ⟨by rfl, ?_⟩) hHeld ?_ ?_
        rotate_left
        · intro w' hSw
          go_split_ands
          go_simp
          with_reducible rfl
        rotate_left
        · simp only [Act.put, List.setIfInBounds_toArray, List.set_cons_zero, List.set_cons_succ]
          rfl
        refine takeH (i := 16) (N := some 155) (v := ?_) (a' := ?_) rfl rfl (by kernel_rfl) (by kernel_rfl) (by kernel_rfl) (fun _ _ _ h => h) (Or.inl ⟨by rfl, ?_⟩) hHeld ?_ ?_
        rotate_left
        · intro w' hSw
          clear hSw
          go_simp
          with_reducible rfl
        rotate_left
        · simp only [Act.put, List.setIfInBounds_toArray, List.set_cons_zero, List.set_cons_succ]
          rfl
        refine takeH (i := 17) (N := some 156) (v := ?_) (a' := ?_) rfl rfl (by kernel_rfl) (by kernel_rfl) (by kernel_rfl) (fun _ _ _ h => h) (Or.inl ⟨by rfl, ?_⟩) hHeld ?_ ?_
        rotate_left
        · intro w' hSw
          clear hSw
          go_simp
          with_reducible rfl
        rotate_left
        · simp only [Act.put, List.setIfInBounds_toArray, List.set_cons_zero, List.set_cons_succ]
          rfl
        refine takeH (i := 18) (N := some 157) (v := ?_) (a' := ?_) rfl rfl (by kernel_rfl) (by kernel_rfl) (by kernel_rfl) (fun _ _ _ h => h) (Or.inl ⟨by rfl, ?_⟩) hHeld ?_ ?_
        rotate_left
        · intro w' hSw
          clear hSw
          go_simp
          with_reducible rfl
        rotate_left
        · simp only [Act.put, List.setIfInBounds_toArray, List.set_cons_zero, List.set_cons_succ]
          rfl
        refine takeH (i := 19) (N := some 158) (v := ?_) (a' := ?_) rfl rfl (by kernel_rfl) (by kernel_rfl) (by kernel_rfl) (fun _ _ _ h => h) (Or.inl ⟨by rfl, ?_⟩) hHeld ?_ ?_
        rotate_left
        · intro w' hSw
          go_split_ands
          go_simp
          with_reducible rfl
        rotate_left
        · simp only [Act.put, List.setIfInBounds_toArray, List.set_cons_zero, List.set_cons_succ]
          rfl
        refine takeH (i := 20) (N := some 159) (v := ?_) (a' := ?_) rfl rfl (by kernel_rfl) (by kernel_rfl) (by kernel_rfl) (fun _ _ _ h => h) (Or.inl ⟨by rfl, ?_⟩) hHeld ?_ ?_
        rotate_left
        · intro w' hSw
          clear hSw
          go_simp
          with_reducible rfl
        rotate_left
        · simp only [Act.put, List.setIfInBounds_toArray, List.set_cons_zero, List.set_cons_succ]
          rfl
        refine takeH (i := 21) (N := some 160) (v := ?_) (a' := ?_) rfl rfl (by kernel_rfl) (by kernel_rfl) (by kernel_rfl) (fun _ _ _ h => h) (Or.inl ⟨by rfl, ?_⟩) hHeld ?_ ?_
        rotate_left
        · intro w' hSw
          clear hSw
          go_simp
          with_reducible rfl
        rotate_left
        · simp only [Act.put, List.setIfInBounds_toArray, List.set_cons_zero, List.set_cons_succ]
          rfl
        refine takeH (i := 22) (N := some 161) (v := ?_) (a' := ?_) rfl rfl (by kernel_rfl) (by kernel_rfl) (by kernel_rfl) (fun _ _ _ h => h) (Or.inl ⟨by rfl, ?_⟩) hHeld ?_ ?_
        rotate_left
        · intro w' hSw
          clear hSw
          go_simp
          with_reducible rfl
        rotate_left
        · simp only [Act.put, List.setIfInBounds_toArray, List.set_cons_zero, List.set_cons_succ]
          rfl
        refine takeH (i := 23) (N := some 162) (v := ?_) (a' := ?_) rfl rfl (by kernel_rfl) (by kernel_rfl) (by kernel_rfl) (fun _ _ _ h => h) (Or.inl ⟨by rfl, ?_⟩) hHeld ?_ ?_
        rotate_left
        · intro w' hSw
          go_split_ands
          go_simp
          with_reducible rfl
        rotate_left
        · simp only [Act.put, List.setIfInBounds_toArray, List.set_cons_zero, List.set_cons_succ]
          rfl
        refine takeH (i := 24) (N := some 163) (v := ?_) (a' := ?_) rfl rfl (by kernel_rfl) (by kernel_rfl) (by kernel_rfl) (fun _ _ _ h => h) (Or.inl ⟨by rfl, ?_⟩) hHeld ?_ ?_
        rotate_left
        · intro w' hSw
          clear hSw
          go_simp
          with_reducible rfl
        rotate_left
        · simp only [Act.put, List.setIfInBounds_toArray, List.set_cons_zero, List.set_cons_succ]
          rfl
        refine takeH (i := 25) (N := some 164) (v := ?_) (a' := ?_) rfl rfl (by kernel_rfl) (by kernel_rfl) (by kernel_rfl) (fun _ _ _ h => h) (Or.inl ⟨by rfl, ?_⟩) hHeld ?_ ?_
        rotate_left
        · intro w' hSw
          clear hSw
          go_simp
          with_reducible rfl
        rotate_left
        · simp only [Act.put, List.setIfInBounds_toArray, List.set_cons_zero, List.set_cons_succ]
          rfl
        refine takeH (i := 26) (N := some 165) (v := ?_) (a' := ?_) rfl rfl (by kernel_rfl) (by kernel_rfl) (by kernel_rfl) (fun _ _ _ h => h) (Or.inl ⟨by rfl, ?_⟩) hHeld ?_ ?_
        rotate_left
        · intro w' hSw
          clear hSw
          go_simp
          with_reducible rfl
        rotate_left
        · simp only [Act.put, List.setIfInBounds_toArray, List.set_cons_zero, List.set_cons_succ]
          rfl
        refine takeH (i := 27) (N := some 166) (v := ?_) (a' := ?_) rfl rfl (by kernel_rfl) (by kernel_rfl) (by kernel_rfl) (fun _ _ _ h => h) (Or.inl ⟨by rfl, ?_⟩) hHeld ?_ ?_
        rotate_left
        · intro w' hSw
          clear hSw
          go_simp
          with_reducible rfl
        rotate_left
        · simp only [Act.put, List.setIfInBounds_toArray, List.set_cons_zero, List.set_cons_succ]
          rfl
        refine takeH (i := 28) (N := some 167) (v := ?_) (a' := ?_) rfl rfl (by kernel_rfl) (by kernel_rfl) (by kernel_rfl) (fun _ _ _ h => h) (Or.inl ⟨by rfl, ?_⟩) hHeld ?_ ?_
        rotate_left
        · intro w' hSw
          go_split_ands
          go_simp
          with_reducible rfl
        rotate_left
        · simp only [Act.put, List.setIfInBounds_toArray, List.set_cons_zero, List.set_cons_succ]
          rfl
        refine takeH (i := 29) (N := some 168) (v := ?_) (a' := ?_) rfl rfl (by kernel_rfl) (by kernel_rfl) (by kernel_rfl) (fun _ _ _ h => h) (Or.inl ⟨by rfl, ?_⟩) hHeld ?_ ?_
        rotate_left
        · intro w' hSw
          clear hSw
          go_simp
          with_reducible rfl
        rotate_left
        · simp only [Act.put, List.setIfInBounds_toArray, List.set_cons_zero, List.set_cons_succ]
          rfl
        refine takeH (i := 30) (N := some 169) (v := ?_) (a' := ?_) rfl rfl (by kernel_rfl) (by kernel_rfl) (by kernel_rfl) (fun _ _ _ h => h) (Or.inl ⟨by rfl, ?_⟩) hHeld ?_ ?_
        rotate_left
        · intro w' hSw
          clear hSw
          go_simp
          with_reducible rfl
        rotate_left
        · simp only [Act.put, List.setIfInBounds_toArray, List.set_cons_zero, List.set_cons_succ]
          rfl
        refine takeH (i := 31) (N := some 170) (v := ?_) (a' := ?_) rfl rfl (by kernel_rfl) (by kernel_rfl) (by kernel_rfl) (fun _ _ _ h => h) (Or.inl ⟨by rfl, ?_⟩) hHeld ?_ ?_
        rotate_left
        · intro w' hSw
          clear hSw
          go_simp
          with_reducible rfl
        rotate_left
        · simp only [Act.put, List.setIfInBounds_toArray, List.set_cons_zero, List.set_cons_succ]
          rfl
        refine wpAnyH_ready (rs := [32]) (by kernel_rfl) (by simp) ?_
        refine AllReadyH.cons rfl (fun K hK => ?_) AllReadyH.nil
        go_simp
        refine (same_c (l := T.take N) (by rw [List.length_take]; omega) hgr htr).mono ?_
        rintro _ x2 ⟨rfl, hx⟩
        refine hK.out _ _ ⟨(hx.cell (p := ⟨W.heap.size, 2, none⟩) hK1.lt).trans m2, (hx.cell (p := ⟨W.heap.size, 4, none⟩) hK1.lt).trans m4, (hx.cell (p := ⟨W.heap.size, 5, none⟩) hK1.lt).trans m5⟩ (fun hHeld => ?_)
        clear hK K
        refine takeH (i := 33) (N := some 172) (v := ?_) (a' := ?_) rfl rfl (by kernel_rfl) (by kernel_rfl) (by kernel_rfl) (fun _ _ _ h => h) (Or.inl ⟨by rfl, ?_⟩) hHeld ?_ ?_
        rotate_left
        · intro w' hSw
          clear hSw
          go_simp
          with_reducible rfl
        rotate_left
        · simp only [Act.put, List.setIfInBounds_toArray, List.set_cons_zero, List.set_cons_succ]
          rfl
        refine takeH (i := 34) (N := some 173) (v := ?_) (a' := ?_) rfl rfl (by kernel_rfl) (by kernel_rfl) (by kernel_rfl) (fun _ _ _ h => h) (Or.inl ⟨by rfl, ?_⟩) hHeld ?_ ?_
        rotate_left
        · intro w' hSw
          clear hSw
          go_simp
          with_reducible rfl
        rotate_left
        · simp only [Act.put, List.setIfInBounds_toArray, List.set_cons_zero, List.set_cons_succ]
          rfl
        refine wpAnyH_done (by kernel_rfl) ?_ _
        clear hHeld
        clear m0 m1 m2 m3 m4 m5 m6 m7 m8 z0 z1 z2 z3 z4 z5 z6 z7 z8
        go_wp2_with fail
        go_roundw
        case rel => exact ⟨i + 1, nx', ⟨rfl, by go_num, hnx', by omega⟩, ⟨T, F, N, fs, ds, ak, vs, _, HI0.out.stays ((Joins.below_draws wc.heap.size wc 1).trans hx), hfi, hai, hTn, HB.trans (((Joins.below_draws wc.heap.size wc 1).trans hx).mono HB.size)⟩⟩
        case measure => simp [intOf]; omega
    · have him : i = m := by omega
      obtain ⟨T, F, N, fs, ds, ak, vs, k, hI, hfi, hai, hTn, HB⟩ := HM.out
      have hTL := hI.hT
      have hk1 : ¬ (i : Int) < (m : Int) := by omega
      have hM2 : Main2 W 0 wr := ⟨T, F, N, fs, ds, ak, vs, k, hI, by omega, by omega, by omega, by have := hI.hbox; omega, fun h => absurd h (by omega), HB⟩
      clear hI HM hM HB hz hp hTn hfi hai
      go_wp2_with fail
      go_loopw [11, 12, 13] (fun v11 v12 v13 wr => ∃ r : Nat, v11 = .int .i64 (r : Int) ∧ r ≤ 20 ∧ Main2 W r wr) (fun v11 _ _ _ => 20 - (intOf v11).toNat)
      case atStart => exact ⟨0, rfl, Nat.zero_le _, hM2⟩
      case round =>
        clear hM2
        obtain ⟨r, rfl, hr, ⟨T, F, N, fs, ds, ak, vs, k, hI, hfi, hai, hTn, hFr, hFN1, HB⟩⟩ := hrel
        by_cases hlt : r < 20
        · as_aux_lemma =>
          have hk0 : (0 : Int) ≤ (r : Int) := Int.natCast_nonneg _
          have hk2 : (r : Int) < 20 := by omega
          have HC := send_c hI (by omega)
          have HFN1 := Lib.hid hFN1
          have hFN := hI.hFN
          have hNT := hI.hNT
          have HFL := Lib.hid hI.fl
          clear hI hFN1
          go_upto_region 30 with (go_at_call 25; refine HC.mono ?_; rintro _ w1 ⟨rfl, ⟨v', k', hI1⟩, hb⟩)
          have HB1 := HB.trans hb
          have hS := hI1.slices
          obtain ⟨bytes, held, typed, given, first, data, acks⟩ := k'
          obtain ⟨⟨A1, n1, c1, e1⟩, ⟨A2, n2, c2', e2⟩, ⟨A3, n3, c3, e3⟩, ⟨A4, n4, c4, e4⟩, ⟨A5, n5, c5, e5⟩, ⟨A6, n6, c6, e6⟩, ⟨A7, n7, c7, e7⟩⟩ := hS
          simp only at e1 e2 e3 e4 e5 e6 e7
          subst e1 e2 e3 e4 e5 e6 e7
          have hK : Blk w1 W.heap.size 50 #[.int .i64 (F : Int), .slice A1 n1 c1, .int .i64 (N : Int), .slice A2 n2 c2', .slice A3 n3 c3, .slice A4 n4 c4, .slice A5 n5 c5, .slice A6 n6 c6, .slice A7 n7 c7] := hI1.blk
          have hgkl := hK.lt
          have hl5 : n5 = fs.length + 1 := by have := own_len hI1.fi; rw [List.length_append, List.length_singleton] at this; exact this
          subst n5
          have HT := taken_c (j := fs.length) hI1 (by rw [List.length_append]; simp) (by rw [List.length_append]; simp; omega) (by omega)
          obtain ⟨m0, m1, m2, m3, m4, m5, m6, m7, m8, z0, z1, z2, z3, z4, z5, z6, z7, z8⟩ := nine hK
          have s1 : IntKind.i64.wrap (((fs.length + 1 : Nat) : Int) - 1) = fs.length := by rw [show (((fs.length + 1 : Nat) : Int) - 1) = fs.length by omega]; exact IntWalk.i64_in _ (by omega)
          clear hI1
          go_upto_region 32 with (go_at_call 26; with_reducible refine HT.mono ?_; rintro _ w2 ⟨rfl, ⟨n0, k2, hN1, hN2, ⟨f, mm, hf1, hf2, hd, hmm, hfm, hNN⟩, hI2⟩, hb2⟩)
          have HB2 := HB1.trans hb2
          rw [getD_new rfl] at hf1
          rw [getD_new HFL.out] at hd
          have hlen := congrArg List.length hd
          rw [List.length_take, List.length_take, List.length_drop, List.length_drop] at hlen
          have hgoal : T.length - n0 ≤ 256 - 16 * (r + 1) := by omega
          have hgoal2 : F ≤ n0 := by omega
          clear m0 m1 m2 m3 m4 m5 m6 m7 m8 z0 z1 z2 z3 z4 z5 z6 z7 z8 hd hlen hNN hf1 hK HT hgkl
          have hS := hI2.slices
          obtain ⟨bytes, held, typed, given, first, data, acks⟩ := k2
          obtain ⟨⟨A1, n1, c1, e1⟩, ⟨A2, n2, c2', e2⟩, ⟨A3, n3, c3, e3⟩, ⟨A4, n4, c4, e4⟩, ⟨A5, n5, c5, e5⟩, ⟨A6, n6, c6, e6⟩, ⟨A7, n7, c7, e7⟩⟩ := hS
          simp only at e1 e2 e3 e4 e5 e6 e7
          subst e1 e2 e3 e4 e5 e6 e7
          have hK : Blk w2 W.heap.size 50 #[.int .i64 (F : Int), .slice A1 n1 c1, .int .i64 (n0 : Int), .slice A2 n2 c2', .slice A3 n3 c3, .slice A4 n4 c4, .slice A5 n5 c5, .slice A6 n6 c6, .slice A7 n7 c7] := hI2.blk
          have hgkl := hK.lt
          obtain ⟨m0, m1, m2, m3, m4, m5, m6, m7, m8, z0, z1, z2, z3, z4, z5, z6, z7, z8⟩ := nine hK
          have HACK : ∀ w, Below w2.drew.heap.size w2.drew w → Calls Try.prog 27 #[.agg #[.int .i64 (F : Int), .slice A1 n1 c1], .int .i64 (n0 : Int)] w fun e w' => ∃ (F' : Nat) (A8 : Option Addr) (n8 c8 : Nat), e = .returned (.tuple #[.agg #[.int .i64 (F' : Int), .slice A8 n8 c8], .int .i64 0]) ∧ F' = max F n0 ∧ Own .u8 5 W.heap.size w' (.slice A8 n8 c8) (T.drop F') ∧ (Apart (.slice A8 n8 c8) (.slice A3 n3 c3) ∧ Apart (.slice A8 n8 c8) (.slice A4 n4 c4)) ∧ Below w.heap.size w w' := fun w hw => acked_c (hI2.stays ((Joins.below_draws w2.heap.size w2 1).trans hw)) (Nat.le_refl n0)
          have HI0 := Lib.hid hI2
          have hSk : ∀ w', Below w2.drew.heap.size w2.drew w' → w'.cell? ⟨W.heap.size, 0, none⟩ = some (.int .i64 (F : Int)) ∧ w'.cell? ⟨W.heap.size, 1, none⟩ = some (.slice A1 n1 c1) ∧ w'.cell? ⟨W.heap.size, 2, none⟩ = some (.int .i64 (n0 : Int)) := fun w' hb => ⟨(hb.cell (p := ⟨W.heap.size, 0, none⟩) hK.lt).trans m0, (hb.cell (p := ⟨W.heap.size, 1, none⟩) hK.lt).trans m1, (hb.cell (p := ⟨W.heap.size, 2, none⟩) hK.lt).trans m2⟩
          clear hI2
          have s2 : IntKind.i64.wrap ((r : Int) + 1) = r + 1 := IntWalk.i64_in _ (by omega)
          go_cut [12, 13] (fun sA sB wx => ∃ (gx F' : Nat) (A8 : Option Addr) (n8 c8 : Nat), sA = .pointer (some ⟨gx, 0, none⟩) ∧ sB = .int .i64 0 ∧ Blk wx gx 44 #[.int .i64 (F' : Int), .slice A8 n8 c8] ∧ F' = max F n0 ∧ Own .u8 5 W.heap.size wx (.slice A8 n8 c8) (T.drop F') ∧ (Apart (.slice A8 n8 c8) (.slice A3 n3 c3) ∧ Apart (.slice A8 n8 c8) (.slice A4 n4 c4)) ∧ Below w2.heap.size w2 wx)
          case first => as_aux_lemma =>
            clear m0 m1 m2 m3 m4 m5 m6 m7 m8 z0 z1 z2 z3 z4 z5 z6 z7 z8
            have hgk0 : W.heap.size < w2.drew.heap.size := hK.lt
            have hB0 : Below w2.heap.size w2 w2.drew := Joins.below_draws w2.heap.size w2 1
            refine wp_region_held_drew (S := fun w' => w'.cell? ⟨W.heap.size, 0, none⟩ = some (.int .i64 (F : Int)) ∧ w'.cell? ⟨W.heap.size, 1, none⟩ = some (.slice A1 n1 c1) ∧ w'.cell? ⟨W.heap.size, 2, none⟩ = some (.int .i64 (n0 : Int))) (by kernel_rfl) (hSk _ (Below.refl _ _)) (fun hHeld => ?_)
            refine takeH (i := 0) (N := some 190) (v := ?_) (a' := ?_) rfl rfl (by kernel_rfl) (by kernel_rfl) (by kernel_rfl) (fun _ _ _ h => h) (Or.inl ⟨by rfl, ?_⟩) hHeld ?_ ?_
            rotate_left
            · intro w' hSw
              clear hSw
              go_simp
              with_reducible rfl
            rotate_left
            · simp only [Act.put, List.setIfInBounds_toArray, List.set_cons_zero, List.set_cons_succ]
              rfl
            refine takeH (i := 1) (N := some 191) (v := ?_) (a' := ?_) rfl rfl (by kernel_rfl) (by kernel_rfl) (by kernel_rfl) (fun _ _ _ h => h) (Or.inl ⟨by rfl, ?_⟩) hHeld ?_ ?_
            rotate_left
            · intro w' hSw
              clear hSw
              go_simp
              with_reducible rfl
            rotate_left
            · simp only [Act.put, List.setIfInBounds_toArray, List.set_cons_zero, List.set_cons_succ]
              rfl
            refine takeH (i := 2) (N := some 192) (v := ?_) (a' := ?_) rfl rfl (by kernel_rfl) (by kernel_rfl) (by kernel_rfl) (fun _ _ _ h => h) (Or.inl ⟨by rfl, ?_⟩) hHeld ?_ ?_
            rotate_left
            · intro w' hSw
              clear hSw
              go_simp
              with_reducible rfl
            rotate_left
            · simp only [Act.put, List.setIfInBounds_toArray, List.set_cons_zero, List.set_cons_succ]
              rfl
            refine takeH (i := 4) (N := some 194) (v := ?_) (a' := ?_) rfl rfl (by kernel_rfl) (by kernel_rfl) (by kernel_rfl) (fun _ _ _ h => h) (Or.inl ⟨by rfl, ?_⟩) hHeld ?_ ?_
            rotate_left
            · intro w' hSw
              clear hSw
              go_simp
              with_reducible rfl
            rotate_left
            · simp only [Act.put, List.setIfInBounds_toArray, List.set_cons_zero, List.set_cons_succ]
              rfl
            refine takeH (i := 5) (N := some 195) (v := ?_) (a' := ?_) rfl rfl (by kernel_rfl) (by kernel_rfl) (by kernel_rfl) (fun _ _ _ h => h) (Or.inl ⟨by rfl, ?_⟩) hHeld ?_ ?_
            rotate_left
            · intro w' hSw
              clear hSw
              go_simp
              with_reducible rfl
            rotate_left
            · simp only [Act.put, List.setIfInBounds_toArray, List.set_cons_zero, List.set_cons_succ]
              rfl
            refine takeH (i := 6) (N := some 196) (v := ?_) (a' := ?_) rfl rfl (by kernel_rfl) (by kernel_rfl) (by kernel_rfl) (fun _ _ _ h => h) (Or.inl ⟨by rfl, ?_⟩) hHeld ?_ ?_
            rotate_left
            · intro w' hSw
              clear hSw
              go_simp
              with_reducible rfl
            rotate_left
            · simp only [Act.put, List.setIfInBounds_toArray, List.set_cons_zero, List.set_cons_succ]
              rfl
            refine takeH (i := 7) (N := some 197) (v := ?_) (a' := ?_) rfl rfl (by kernel_rfl) (by kernel_rfl) (by kernel_rfl) (fun _ _ _ h => h) (Or.inl ⟨by rfl, ?_⟩) hHeld ?_ ?_
            rotate_left
            · intro w' hSw
              clear hSw
              go_simp
              with_reducible rfl
            rotate_left
            · simp only [Act.put, List.setIfInBounds_toArray, List.set_cons_zero, List.set_cons_succ]
              rfl
            refine takeH (i := 3) (N := some 193) (v := ?_) (a' := ?_) rfl rfl (by kernel_rfl) (by kernel_rfl) (by kernel_rfl) (fun _ _ _ h => h) (Or.inl ⟨by rfl, ?_⟩) hHeld ?_ ?_
            rotate_left
            · intro w' hSw
              go_split_ands
              go_simp
              with_reducible rfl
            rotate_left
            · simp only [Act.put, List.setIfInBounds_toArray, List.set_cons_zero, List.set_cons_succ]
              rfl
            refine takeH (i := 8) (N := some 198) (v := ?_) (a' := ?_) rfl rfl (by kernel_rfl) (by kernel_rfl) (by kernel_rfl) (fun _ _ _ h => h) (Or.inl ⟨by rfl, ?_⟩) hHeld ?_ ?_
            rotate_left
            · intro w' hSw
              go_split_ands
              go_simp
              with_reducible rfl
            rotate_left
            · simp only [Act.put, List.setIfInBounds_toArray, List.set_cons_zero, List.set_cons_succ]
              rfl
            refine wpAnyH_ready (rs := [9, 13]) (by kernel_rfl) (by simp) ?_
            refine AllReadyH.cons rfl (fun K hK => ?_) (AllReadyH.cons rfl (fun K hK => ?_) AllReadyH.nil)
            · go_simp
              with_reducible refine (HACK _ (Below.refl _ _)).mono ?_
              rintro _ x2 ⟨F', A8, n8, c8, rfl, hF', ho, hap, hx⟩
              have HFE := Lib.hid hF'
              clear hF'
              refine hK.out _ _ (hSk _ hx) (fun hHeld => ?_)
              clear hK K
              refine takeH (i := 10) (N := some 189) (v := ?_) (a' := ?_) rfl rfl (by kernel_rfl) (by kernel_rfl) (by kernel_rfl) (fun _ _ _ h => h) (Or.inl ⟨by rfl, ?_⟩) hHeld ?_ ?_
              rotate_left
              · intro w' hSw
                clear hSw
                go_simp
                with_reducible rfl
              rotate_left
              · simp only [Act.put, List.setIfInBounds_toArray, List.set_cons_zero, List.set_cons_succ]
                rfl
              refine takeH (i := 11) (N := some 200) (v := ?_) (a' := ?_) rfl rfl (by kernel_rfl) (by kernel_rfl) (by kernel_rfl) (fun _ _ _ h => h) (Or.inl ⟨by rfl, ?_⟩) hHeld ?_ ?_
              rotate_left
              · intro w' hSw
                clear hSw
                go_simp
                with_reducible rfl
              rotate_left
              · simp only [Act.put, List.setIfInBounds_toArray, List.set_cons_zero, List.set_cons_succ]
                rfl
              refine takeH (i := 12) (N := some 201) (v := ?_) (a' := ?_) rfl rfl (by kernel_rfl) (by kernel_rfl) (by kernel_rfl) (fun _ _ _ h => h) (Or.inl ⟨by rfl, ?_⟩) hHeld ?_ ?_
              rotate_left
              · intro w' hSw
                clear hSw
                go_simp
                with_reducible rfl
              rotate_left
              · simp only [Act.put, List.setIfInBounds_toArray, List.set_cons_zero, List.set_cons_succ]
                rfl
              refine wpAnyH_ready (rs := [13]) (by kernel_rfl) (by simp) ?_
              refine AllReadyH.cons rfl (fun K hK => ?_) AllReadyH.nil
              go_simp
              refine hK.out _ _ (hSk _ (hx.alloc hx.size (.cells #[.int .i64 0, .slice none 0 0] 44))) (fun hHeld => ?_)
              clear hK K
              refine wpAnyH_ready (rs := [14]) (by kernel_rfl) (by simp) ?_
              refine AllReadyH.cons rfl (fun K hK => ?_) AllReadyH.nil
              go_simp
              have V0 := Blk.new x2 44 #[.int .i64 (F' : Int), .slice A8 n8 c8]
              have VB := hx.alloc hx.size (.cells #[.int .i64 (F' : Int), .slice A8 n8 c8] 44)
              have VO := row_alloc ho (.cells #[.int .i64 (F' : Int), .slice A8 n8 c8] 44)
              refine hK.out _ _ (hSk _ VB) (fun hHeld => ?_)
              clear hK K
              refine takeH (i := 15) (N := some 13) (v := ?_) (a' := ?_) rfl rfl (by kernel_rfl) (by kernel_rfl) (by kernel_rfl) (fun _ _ _ h => h) (Or.inl ⟨by rfl, ?_⟩) hHeld ?_ ?_
              rotate_left
              · intro w' hSw
                clear hSw
                go_simp
                with_reducible rfl
              rotate_left
              · simp only [Act.put, List.setIfInBounds_toArray, List.set_cons_zero, List.set_cons_succ]
                rfl
              refine wpAnyH_done (by kernel_rfl) ?_ _
              clear hHeld
              go_wp2_with fail
              go_meet
              exact ⟨x2.heap.size, F', A8, n8, c8, rfl, rfl, V0, HFE.out, VO, hap, hB0.trans VB⟩
            · go_simp
              have UB := (Below.refl w2.drew.heap.size w2.drew).alloc (Nat.le_refl _) (.cells #[.int .i64 0, .slice none 0 0] 44)
              have UY := Blk.new w2.drew 44 #[.int .i64 0, .slice none 0 0]
              refine hK.out _ _ (hSk _ UB) (fun hHeld => ?_)
              clear hK K
              refine wpAnyH_ready (rs := [9]) (by kernel_rfl) (by simp) ?_
              refine AllReadyH.cons rfl (fun K hK => ?_) AllReadyH.nil
              go_simp
              have hT2 := HACK _ UB
              refine hT2.mono ?_
              rintro _ x2 ⟨F', A8, n8, c8, rfl, hF', ho, hap, hx⟩
              have HFE := Lib.hid hF'
              clear hF'
              have XB := UB.trans (hx.mono UB.size)
              have XY : Blk x2 w2.heap.size 44 #[.int .i64 0, .slice none 0 0] := UY.stays hx
              refine hK.out _ _ (hSk _ XB) (fun hHeld => ?_)
              clear hK K
              refine takeH (i := 10) (N := some 189) (v := ?_) (a' := ?_) rfl rfl (by kernel_rfl) (by kernel_rfl) (by kernel_rfl) (fun _ _ _ h => h) (Or.inl ⟨by rfl, ?_⟩) hHeld ?_ ?_
              rotate_left
              · intro w' hSw
                clear hSw
                go_simp
                with_reducible rfl
              rotate_left
              · simp only [Act.put, List.setIfInBounds_toArray, List.set_cons_zero, List.set_cons_succ]
                rfl
              refine takeH (i := 11) (N := some 200) (v := ?_) (a' := ?_) rfl rfl (by kernel_rfl) (by kernel_rfl) (by kernel_rfl) (fun _ _ _ h => h) (Or.inl ⟨by rfl, ?_⟩) hHeld ?_ ?_
              rotate_left
              · intro w' hSw
                clear hSw
                go_simp
                with_reducible rfl
              rotate_left
              · simp only [Act.put, List.setIfInBounds_toArray, List.set_cons_zero, List.set_cons_succ]
                rfl
              refine takeH (i := 12) (N := some 201) (v := ?_) (a' := ?_) rfl rfl (by kernel_rfl) (by kernel_rfl) (by kernel_rfl) (fun _ _ _ h => h) (Or.inl ⟨by rfl, ?_⟩) hHeld ?_ ?_
              rotate_left
              · intro w' hSw
                clear hSw
                go_simp
                with_reducible rfl
              rotate_left
              · simp only [Act.put, List.setIfInBounds_toArray, List.set_cons_zero, List.set_cons_succ]
                rfl
              refine wpAnyH_ready (rs := [14]) (by kernel_rfl) (by simp) ?_
              refine AllReadyH.cons rfl (fun K hK => ?_) AllReadyH.nil
              obtain ⟨p0, p1, q0, q1⟩ := Blk.two XY
              go_simp
              have V0 := Blk.set2 XY (.int .i64 (F' : Int)) (.slice A8 n8 c8)
              have VB := below_set2 XB (Nat.le_refl _) (.int .i64 (F' : Int)) (.slice A8 n8 c8)
              have VO := row_far2 ho XY (by decide) (.int .i64 (F' : Int)) (.slice A8 n8 c8)
              refine hK.out _ _ (hSk _ VB) (fun hHeld => ?_)
              clear hK K p0 p1 q0 q1
              refine takeH (i := 15) (N := some 13) (v := ?_) (a' := ?_) rfl rfl (by kernel_rfl) (by kernel_rfl) (by kernel_rfl) (fun _ _ _ h => h) (Or.inl ⟨by rfl, ?_⟩) hHeld ?_ ?_
              rotate_left
              · intro w' hSw
                clear hSw
                go_simp
                with_reducible rfl
              rotate_left
              · simp only [Act.put, List.setIfInBounds_toArray, List.set_cons_zero, List.set_cons_succ]
                rfl
              refine wpAnyH_done (by kernel_rfl) ?_ _
              clear hHeld
              go_wp2_with fail
              go_meet
              exact ⟨w2.heap.size, F', A8, n8, c8, rfl, rfl, V0, HFE.out, VO, hap, hB0.trans VB⟩
          case rest => as_aux_lemma =>
            clear m0 m1 m2 m3 m4 m5 m6 m7 m8 z0 z1 z2 z3 z4 z5 z6 z7 z8 hSk HACK
            obtain ⟨gx, F', A8, n8, c8, rfl, rfl, hX, hFE, hO, hap, hBx⟩ := hcut
            have hI0 := HI0.out
            have K1 := hK.stays hBx
            have hlt1 := K1.lt
            obtain ⟨m0, m1, m2, m3, m4, m5, m6, m7, m8, z0, z1, z2, z3, z4, z5, z6, z7, z8⟩ := nine K1
            obtain ⟨p0, p1, q0, q1⟩ := Blk.two hX
            have hltx := hX.lt
            have HFE := Lib.hid hFE
            clear hFE
            go_wp2_with fail
            have hCh : Chg w2 ((wc.setCell ⟨W.heap.size, 0, none⟩ (.int .i64 (F' : Int))).setCell ⟨W.heap.size, 1, none⟩ (.slice A8 n8 c8)) W.heap.size [] := ((Chg.of_below _ _ hBx).same (Chg.of_set _ _ _ _ _)).same (Chg.of_set _ _ _ _ _)
            have hFN := hI0.hFN
            have hNT := hI0.hNT
            have hbd := hI0.hbox
            have hI1 := Inv.box hI0 hCh (set01 K1 _ _) (by rw [HFE.out]; omega) (by rw [HFE.out]; omega) (row_farB (row_farB hO K1 (by decide) _ _) (K1.set_ 0 _) (by decide) _ _) hap
            have hBe := hCh.below HB2 HB2.size (Nat.le_refl _) (by simp)
            go_roundw
            case rel => exact ⟨r + 1, by go_num, by omega, ⟨T, F', n0, _, _, _, _, _, hI1, by rw [List.length_append]; simp; omega, by rw [List.length_append]; simp; omega, by omega, by rw [HFE.out]; omega, fun _ => by rw [HFE.out]; omega, hBe⟩⟩
            case measure => simp [intOf]; omega
        · as_aux_lemma =>
          have hr20 : r = 20 := by omega
          subst hr20
          have hFN := hI.hFN
          have hNT := hI.hNT
          have hFN2 := hFN1 (by omega)
          have hFT : F = T.length := by omega
          have HFL := Lib.hid hI.fl
          have hlt0 : W.heap.size < wr.heap.size := Blk.lt hI.blk
          have hIa := hI.stays ((Below.refl wr.heap.size wr).alloc (Nat.le_refl _) (.cells #[.int .u8 7] 5))
          have hrd7 : Rd (wr.alloc (.cells #[.int .u8 7] 5)) (.slice (some ⟨wr.heap.size, 0, none⟩) ([7] : List Int).length 1) [7] := (Own.lit (k := .u8) (e := 5) (B := wr.heap.size) wr [7] (Nat.le_refl _) (by decide)).rd
          have HP := put_yes hIa hrd7 (by decide) (by simp; omega) (by simp; omega) (fun _ e => by simp only [Value.ownBlock, Option.some.injEq] at e; omega)
          have HBa := HB.alloc HB.size (.cells #[.int .u8 7] 5)
          clear hI hIa hrd7 hFN1
          go_upto_region 38 with (first | (go_at_call 24; refine HP.mono ?_; rintro _ w1 ⟨k1, rfl, hI1, hb1⟩) | (go_at_call 25; have HS := send_c hI1 (by omega); refine HS.mono ?_; rintro _ w2 ⟨rfl, ⟨v', k', hI2⟩, hb2⟩))
          have HB2 := (HBa.trans hb1).trans hb2
          have HBd : Below W.heap.size W w2.drew := HB2.trans (Joins.below_draws W.heap.size w2 1)
          have hI2d := hI2.stays (Joins.below_draws w2.heap.size w2 1)
          clear hI2 hI1
          have hS := hI2d.slices
          obtain ⟨bytes, held, typed, given, first, data, acks⟩ := k'
          obtain ⟨⟨A1, n1, c1, e1⟩, ⟨A2, n2, c2', e2⟩, ⟨A3, n3, c3, e3⟩, ⟨A4, n4, c4, e4⟩, ⟨A5, n5, c5, e5⟩, ⟨A6, n6, c6, e6⟩, ⟨A7, n7, c7, e7⟩⟩ := hS
          simp only at e1 e2 e3 e4 e5 e6 e7
          subst e1 e2 e3 e4 e5 e6 e7
          have hK : Blk w2.drew W.heap.size 50 #[.int .i64 (F : Int), .slice A1 n1 c1, .int .i64 (N : Int), .slice A2 n2 c2', .slice A3 n3 c3, .slice A4 n4 c4, .slice A5 n5 c5, .slice A6 n6 c6, .slice A7 n7 c7] := hI2d.blk
          have hgkl := hK.lt
          have hl5 : n5 = fs.length + 1 := by have := own_len hI2d.fi; rw [List.length_append, List.length_singleton] at this; exact this
          subst n5
          have HT : Calls Try.prog 26 #[.pointer (some ⟨W.heap.size, 0, none⟩), .int .i64 (fs.length : Int)] w2.drew _ := taken_c (j := fs.length) hI2d (by rw [List.length_append]; simp) (by rw [List.length_append]; simp; omega) (by omega)
          have s1 : IntKind.i64.wrap (((fs.length + 1 : Nat) : Int) - 1) = fs.length := by rw [show (((fs.length + 1 : Nat) : Int) - 1) = fs.length by omega]; exact IntWalk.i64_in _ (by omega)
          have s3 : IntKind.i64.wrap (fs.length : Int) = fs.length := IntWalk.i64_in _ (by omega)
          clear hI2d
          refine wp_region_held_drew (S := fun _ => True) (by kernel_rfl) trivial (fun hHeld => ?_)
          refine takeH (i := 0) (N := some 213) (v := ?_) (a' := ?_) rfl rfl (by kernel_rfl) (by kernel_rfl) (by kernel_rfl) (fun _ _ _ h => h) (Or.inl ⟨by rfl, ?_⟩) hHeld ?_ ?_
          rotate_left
          · intro w' hSw
            clear hSw
            go_simp
            with_reducible rfl
          rotate_left
          · simp only [Act.put, List.setIfInBounds_toArray, List.set_cons_zero, List.set_cons_succ]
            rfl
          refine takeH (i := 1) (N := some 214) (v := ?_) (a' := ?_) rfl rfl (by kernel_rfl) (by kernel_rfl) (by kernel_rfl) (fun _ _ _ h => h) (Or.inl ⟨by rfl, ?_⟩) hHeld ?_ ?_
          rotate_left
          · intro w' hSw
            clear hSw
            go_simp
            with_reducible rfl
          rotate_left
          · simp only [Act.put, List.setIfInBounds_toArray, List.set_cons_zero, List.set_cons_succ]
            rfl
          refine takeH (i := 2) (N := some 215) (v := ?_) (a' := ?_) rfl rfl (by kernel_rfl) (by kernel_rfl) (by kernel_rfl) (fun _ _ _ h => h) (Or.inl ⟨by rfl, ?_⟩) hHeld ?_ ?_
          rotate_left
          · intro w' hSw
            clear hSw
            go_simp
            with_reducible rfl
          rotate_left
          · simp only [Act.put, List.setIfInBounds_toArray, List.set_cons_zero, List.set_cons_succ]
            rfl
          refine takeH (i := 3) (N := some 216) (v := ?_) (a' := ?_) rfl rfl (by kernel_rfl) (by kernel_rfl) (by kernel_rfl) (fun _ _ _ h => h) (Or.inl ⟨by rfl, ?_⟩) hHeld ?_ ?_
          rotate_left
          · intro w' hSw
            clear hSw
            go_simp
            with_reducible rfl
          rotate_left
          · simp only [Act.put, List.setIfInBounds_toArray, List.set_cons_zero, List.set_cons_succ]
            rfl
          refine wpAnyH_ready (rs := [4]) (by kernel_rfl) (by simp) ?_
          refine AllReadyH.cons rfl (fun K hK2 => ?_) AllReadyH.nil
          obtain ⟨m0, m1, m2, m3, m4, m5, m6, m7, m8, z0, z1, z2, z3, z4, z5, z6, z7, z8⟩ := nine hK
          go_simp
          clear m0 m1 m2 m3 m4 m5 m6 m7 m8 z0 z1 z2 z3 z4 z5 z6 z7 z8
          refine hK2.out _ _ trivial (fun hHeld => ?_)
          clear hK2 K
          refine takeH (i := 5) (N := some 218) (v := ?_) (a' := ?_) rfl rfl (by kernel_rfl) (by kernel_rfl) (by kernel_rfl) (fun _ _ _ h => h) (Or.inl ⟨by rfl, ?_⟩) hHeld ?_ ?_
          rotate_left
          · intro w' hSw
            clear hSw
            go_simp
            with_reducible rfl
          rotate_left
          · simp only [Act.put, List.setIfInBounds_toArray, List.set_cons_zero, List.set_cons_succ]
            rfl
          refine takeH (i := 6) (N := some 219) (v := ?_) (a' := ?_) rfl rfl (by kernel_rfl) (by kernel_rfl) (by kernel_rfl) (fun _ _ _ h => h) (Or.inl ⟨by rfl, ?_⟩) hHeld ?_ ?_
          rotate_left
          · intro w' hSw
            clear hSw
            go_simp
            with_reducible rfl
          rotate_left
          · simp only [Act.put, List.setIfInBounds_toArray, List.set_cons_zero, List.set_cons_succ]
            rfl
          refine wpAnyH_ready (rs := [7]) (by kernel_rfl) (by simp) ?_
          refine AllReadyH.cons rfl (fun K hK2 => ?_) AllReadyH.nil
          go_simp
          with_reducible refine HT.mono ?_
          rintro _ x3 ⟨rfl, ⟨N', k3, hN1, hN2, ⟨f, mm, hf1, hf2, hd, hmm, hfm, hNN⟩, hI3⟩, hb3⟩
          have HB3 := HBd.trans hb3
          rw [getD_new rfl] at hf1
          rw [getD_new HFL.out] at hd
          have hlen := congrArg List.length hd
          rw [List.length_take, List.length_take, List.length_drop, List.length_drop, List.length_append, List.length_singleton] at hlen
          rw [List.length_append, List.length_singleton] at hfm hN2
          have hNe : N' = T.length + 1 := by omega
          clear hK hd hlen hNN hf1 hf2 hfm hN1 hN2
          have hS := hI3.slices
          obtain ⟨bytes, held, typed, given, first, data, acks⟩ := k3
          obtain ⟨⟨A1, n1, c1, e1⟩, ⟨A2, n2, c2', e2⟩, ⟨A3, n3, c3, e3⟩, ⟨A4, n4, c4, e4⟩, ⟨A5, n5, c5, e5⟩, ⟨A6, n6, c6, e6⟩, ⟨A7, n7, c7, e7⟩⟩ := hS
          simp only at e1 e2 e3 e4 e5 e6 e7
          subst e1 e2 e3 e4 e5 e6 e7
          have hK : Blk x3 W.heap.size 50 #[.int .i64 (F : Int), .slice A1 n1 c1, .int .i64 (N' : Int), .slice A2 n2 c2', .slice A3 n3 c3, .slice A4 n4 c4, .slice A5 n5 c5, .slice A6 n6 c6, .slice A7 n7 c7] := hI3.blk
          have hgkl := hK.lt
          have hl1 : n1 = 1 := by have := own_len hI3.rb; rw [List.length_drop, List.length_append, List.length_singleton] at this; omega
          subst hl1
          have hgv : Rd x3 (.slice A4 n4 c4) (T ++ [7]) := by have := hI3.gv.rd; rw [List.take_of_length_le (by rw [List.length_append, List.length_singleton]; omega)] at this; exact this
          have hty : Rd x3 (.slice A3 n3 c3) (T ++ [7]) := hI3.ty.rd
          have hTl : (T ++ [7]).length ≤ 100000 := by rw [List.length_append, List.length_singleton]; omega
          clear hI3
          refine hK2.out _ _ trivial (fun hHeld => ?_)
          clear hK2 K
          refine takeH (i := 8) (N := some 221) (v := ?_) (a' := ?_) rfl rfl (by kernel_rfl) (by kernel_rfl) (by kernel_rfl) (fun _ _ _ h => h) (Or.inl ⟨by rfl, ?_⟩) hHeld ?_ ?_
          rotate_left
          · intro w' hSw
            clear hSw
            go_simp
            with_reducible rfl
          rotate_left
          · simp only [Act.put, List.setIfInBounds_toArray, List.set_cons_zero, List.set_cons_succ]
            rfl
          refine takeH (i := 9) (N := some 222) (v := ?_) (a' := ?_) rfl rfl (by kernel_rfl) (by kernel_rfl) (by kernel_rfl) (fun _ _ _ h => h) (Or.inl ⟨by rfl, ?_⟩) hHeld ?_ ?_
          rotate_left
          · intro w' hSw
            clear hSw
            go_simp
            with_reducible rfl
          rotate_left
          · simp only [Act.put, List.setIfInBounds_toArray, List.set_cons_zero, List.set_cons_succ]
            rfl
          refine takeH (i := 10) (N := some 223) (v := ?_) (a' := ?_) rfl rfl (by kernel_rfl) (by kernel_rfl) (by kernel_rfl) (fun _ _ _ h => h) (Or.inl ⟨by rfl, ?_⟩) hHeld ?_ ?_
          rotate_left
          · intro w' hSw
            clear hSw
            go_simp
            with_reducible rfl
          rotate_left
          · simp only [Act.put, List.setIfInBounds_toArray, List.set_cons_zero, List.set_cons_succ]
            rfl
          refine takeH (i := 11) (N := some 224) (v := ?_) (a' := ?_) rfl rfl (by kernel_rfl) (by kernel_rfl) (by kernel_rfl) (fun _ _ _ h => h) (Or.inl ⟨by rfl, ?_⟩) hHeld ?_ ?_
          rotate_left
          · intro w' hSw
            clear hSw
            go_simp
            with_reducible rfl
          rotate_left
          · simp only [Act.put, List.setIfInBounds_toArray, List.set_cons_zero, List.set_cons_succ]
            rfl
          refine takeH (i := 12) (N := some 225) (v := ?_) (a' := ?_) rfl rfl (by kernel_rfl) (by kernel_rfl) (by kernel_rfl) (fun _ _ _ h => h) (Or.inl ⟨by rfl, ?_⟩) hHeld ?_ ?_
          rotate_left
          · intro w' hSw
            clear hSw
            go_simp
            with_reducible rfl
          rotate_left
          · simp only [Act.put, List.setIfInBounds_toArray, List.set_cons_zero, List.set_cons_succ]
            rfl
          refine wpAnyH_ready (rs := [13]) (by kernel_rfl) (by simp) ?_
          refine AllReadyH.cons rfl (fun K hK2 => ?_) AllReadyH.nil
          obtain ⟨m0, m1, m2, m3, m4, m5, m6, m7, m8, z0, z1, z2, z3, z4, z5, z6, z7, z8⟩ := nine hK
          go_simp
          clear m0 m1 m2 m3 m4 m5 m6 m7 m8 z0 z1 z2 z3 z4 z5 z6 z7 z8
          refine hK2.out _ _ trivial (fun hHeld => ?_)
          clear hK2 K
          refine takeH (i := 14) (N := some 227) (v := ?_) (a' := ?_) rfl rfl (by kernel_rfl) (by kernel_rfl) (by kernel_rfl) (fun _ _ _ h => h) (Or.inl ⟨by rfl, ?_⟩) hHeld ?_ ?_
          rotate_left
          · intro w' hSw
            clear hSw
            go_simp
            with_reducible rfl
          rotate_left
          · simp only [Act.put, List.setIfInBounds_toArray, List.set_cons_zero, List.set_cons_succ]
            rfl
          refine takeH (i := 15) (N := some 228) (v := ?_) (a' := ?_) rfl rfl (by kernel_rfl) (by kernel_rfl) (by kernel_rfl) (fun _ _ _ h => h) (Or.inl ⟨by rfl, ?_⟩) hHeld ?_ ?_
          rotate_left
          · intro w' hSw
            clear hSw
            go_simp
            with_reducible rfl
          rotate_left
          · simp only [Act.put, List.setIfInBounds_toArray, List.set_cons_zero, List.set_cons_succ]
            rfl
          refine takeH (i := 16) (N := some 229) (v := ?_) (a' := ?_) rfl rfl (by kernel_rfl) (by kernel_rfl) (by kernel_rfl) (fun _ _ _ h => h) (Or.inl ⟨by rfl, ?_⟩) hHeld ?_ ?_
          rotate_left
          · intro w' hSw
            clear hSw
            go_simp
            with_reducible rfl
          rotate_left
          · simp only [Act.put, List.setIfInBounds_toArray, List.set_cons_zero, List.set_cons_succ]
            rfl
          refine takeH (i := 17) (N := some 230) (v := ?_) (a' := ?_) rfl rfl (by kernel_rfl) (by kernel_rfl) (by kernel_rfl) (fun _ _ _ h => h) (Or.inl ⟨by rfl, ?_⟩) hHeld ?_ ?_
          rotate_left
          · intro w' hSw
            clear hSw
            go_simp
            with_reducible rfl
          rotate_left
          · simp only [Act.put, List.setIfInBounds_toArray, List.set_cons_zero, List.set_cons_succ]
            rfl
          refine takeH (i := 18) (N := some 231) (v := ?_) (a' := ?_) rfl rfl (by kernel_rfl) (by kernel_rfl) (by kernel_rfl) (fun _ _ _ h => h) (Or.inl ⟨by rfl, ?_⟩) hHeld ?_ ?_
          rotate_left
          · intro w' hSw
            clear hSw
            go_simp
            with_reducible rfl
          rotate_left
          · simp only [Act.put, List.setIfInBounds_toArray, List.set_cons_zero, List.set_cons_succ]
            rfl
          refine takeH (i := 19) (N := some 232) (v := ?_) (a' := ?_) rfl rfl (by kernel_rfl) (by kernel_rfl) (by kernel_rfl) (fun _ _ _ h => h) (Or.inl ⟨by rfl, ?_⟩) hHeld ?_ ?_
          rotate_left
          · intro w' hSw
            clear hSw
            go_simp
            with_reducible rfl
          rotate_left
          · simp only [Act.put, List.setIfInBounds_toArray, List.set_cons_zero, List.set_cons_succ]
            rfl
          refine takeH (i := 20) (N := some 233) (v := ?_) (a' := ?_) rfl rfl (by kernel_rfl) (by kernel_rfl) (by kernel_rfl) (fun _ _ _ h => h) (Or.inl ⟨by rfl, ?_⟩) hHeld ?_ ?_
          rotate_left
          · intro w' hSw
            clear hSw
            go_simp
            with_reducible rfl
          rotate_left
          · simp only [Act.put, List.setIfInBounds_toArray, List.set_cons_zero, List.set_cons_succ]
            rfl
          refine takeH (i := 22) (N := some 235) (v := ?_) (a' := ?_) rfl rfl (by kernel_rfl) (by kernel_rfl) (by kernel_rfl) (fun _ _ _ h => h) (Or.inl ⟨by rfl, ?_⟩) hHeld ?_ ?_
          rotate_left
          · intro w' hSw
            clear hSw
            go_simp
            with_reducible rfl
          rotate_left
          · simp only [Act.put, List.setIfInBounds_toArray, List.set_cons_zero, List.set_cons_succ]
            rfl
          refine takeH (i := 23) (N := some 236) (v := ?_) (a' := ?_) rfl rfl (by kernel_rfl) (by kernel_rfl) (by kernel_rfl) (fun _ _ _ h => h) (Or.inl ⟨by rfl, ?_⟩) hHeld ?_ ?_
          rotate_left
          · intro w' hSw
            clear hSw
            go_simp
            with_reducible rfl
          rotate_left
          · simp only [Act.put, List.setIfInBounds_toArray, List.set_cons_zero, List.set_cons_succ]
            rfl
          refine takeH (i := 24) (N := some 237) (v := ?_) (a' := ?_) rfl rfl (by kernel_rfl) (by kernel_rfl) (by kernel_rfl) (fun _ _ _ h => h) (Or.inl ⟨by rfl, ?_⟩) hHeld ?_ ?_
          rotate_left
          · intro w' hSw
            clear hSw
            go_simp
            with_reducible rfl
          rotate_left
          · simp only [Act.put, List.setIfInBounds_toArray, List.set_cons_zero, List.set_cons_succ]
            rfl
          refine wpAnyH_ready (rs := [21, 25]) (by kernel_rfl) (by simp) ?_
          refine AllReadyH.cons rfl (fun K hK2 => ?_) (AllReadyH.cons rfl (fun K hK2 => ?_) AllReadyH.nil)
          · obtain ⟨m0, m1, m2, m3, m4, m5, m6, m7, m8, z0, z1, z2, z3, z4, z5, z6, z7, z8⟩ := nine hK
            go_simp
            clear m0 m1 m2 m3 m4 m5 m6 m7 m8 z0 z1 z2 z3 z4 z5 z6 z7 z8
            refine hK2.out _ _ trivial (fun hHeld => ?_)
            clear hK2 K
            refine wpAnyH_ready (rs := [25]) (by kernel_rfl) (by simp) ?_
            refine AllReadyH.cons rfl (fun K hK2 => ?_) AllReadyH.nil
            obtain ⟨m0, m1, m2, m3, m4, m5, m6, m7, m8, z0, z1, z2, z3, z4, z5, z6, z7, z8⟩ := nine hK
            go_simp
            clear m0 m1 m2 m3 m4 m5 m6 m7 m8 z0 z1 z2 z3 z4 z5 z6 z7 z8
            refine hK2.out _ _ trivial (fun hHeld => ?_)
            clear hK2 K
            refine wpAnyH_ready (rs := [26]) (by kernel_rfl) (by simp) ?_
            refine AllReadyH.cons rfl (fun K hK2 => ?_) AllReadyH.nil
            go_simp
            refine (same_c hTl hgv hty).mono ?_
            rintro _ x4 ⟨rfl, hx4⟩
            refine hK2.out _ _ trivial (fun hHeld => ?_)
            clear hK2 K
            refine takeH (i := 27) (N := some 240) (v := ?_) (a' := ?_) rfl rfl (by kernel_rfl) (by kernel_rfl) (by kernel_rfl) (fun _ _ _ h => h) (Or.inl ⟨by rfl, ?_⟩) hHeld ?_ ?_
            rotate_left
            · intro w' hSw
              clear hSw
              go_simp
              with_reducible rfl
            rotate_left
            · simp only [Act.put, List.setIfInBounds_toArray, List.set_cons_zero, List.set_cons_succ]
              rfl
            refine takeH (i := 28) (N := some 4) (v := ?_) (a' := ?_) rfl rfl (by kernel_rfl) (by kernel_rfl) (by kernel_rfl) (fun _ _ _ h => h) (Or.inl ⟨by rfl, ?_⟩) hHeld ?_ ?_
            rotate_left
            · intro w' hSw
              clear hSw
              go_simp
              with_reducible rfl
            rotate_left
            · simp only [Act.put, List.setIfInBounds_toArray, List.set_cons_zero, List.set_cons_succ]
              rfl
            refine wpAnyH_done (by kernel_rfl) ?_ _
            clear hHeld
            go_wp2_with fail
            go_ret
            exact ⟨rfl, HB3.trans (hx4.mono HB3.size)⟩
          · obtain ⟨m0, m1, m2, m3, m4, m5, m6, m7, m8, z0, z1, z2, z3, z4, z5, z6, z7, z8⟩ := nine hK
            go_simp
            clear m0 m1 m2 m3 m4 m5 m6 m7 m8 z0 z1 z2 z3 z4 z5 z6 z7 z8
            refine hK2.out _ _ trivial (fun hHeld => ?_)
            clear hK2 K
            refine wpAnyH_ready (rs := [21]) (by kernel_rfl) (by simp) ?_
            refine AllReadyH.cons rfl (fun K hK2 => ?_) AllReadyH.nil
            obtain ⟨m0, m1, m2, m3, m4, m5, m6, m7, m8, z0, z1, z2, z3, z4, z5, z6, z7, z8⟩ := nine hK
            go_simp
            clear m0 m1 m2 m3 m4 m5 m6 m7 m8 z0 z1 z2 z3 z4 z5 z6 z7 z8
            refine hK2.out _ _ trivial (fun hHeld => ?_)
            clear hK2 K
            refine wpAnyH_ready (rs := [26]) (by kernel_rfl) (by simp) ?_
            refine AllReadyH.cons rfl (fun K hK2 => ?_) AllReadyH.nil
            go_simp
            refine (same_c hTl hgv hty).mono ?_
            rintro _ x4 ⟨rfl, hx4⟩
            refine hK2.out _ _ trivial (fun hHeld => ?_)
            clear hK2 K
            refine takeH (i := 27) (N := some 240) (v := ?_) (a' := ?_) rfl rfl (by kernel_rfl) (by kernel_rfl) (by kernel_rfl) (fun _ _ _ h => h) (Or.inl ⟨by rfl, ?_⟩) hHeld ?_ ?_
            rotate_left
            · intro w' hSw
              clear hSw
              go_simp
              with_reducible rfl
            rotate_left
            · simp only [Act.put, List.setIfInBounds_toArray, List.set_cons_zero, List.set_cons_succ]
              rfl
            refine takeH (i := 28) (N := some 4) (v := ?_) (a' := ?_) rfl rfl (by kernel_rfl) (by kernel_rfl) (by kernel_rfl) (fun _ _ _ h => h) (Or.inl ⟨by rfl, ?_⟩) hHeld ?_ ?_
            rotate_left
            · intro w' hSw
              clear hSw
              go_simp
              with_reducible rfl
            rotate_left
            · simp only [Act.put, List.setIfInBounds_toArray, List.set_cons_zero, List.set_cons_succ]
              rfl
            refine wpAnyH_done (by kernel_rfl) ?_ _
            clear hHeld
            go_wp2_with fail
            go_ret
            exact ⟨rfl, HB3.trans (hx4.mono HB3.size)⟩
end Go.Proofs.Ytagciaanfjllnaa.Keys
