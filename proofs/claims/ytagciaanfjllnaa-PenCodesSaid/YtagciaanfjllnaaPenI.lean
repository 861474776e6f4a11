/- The pen's contracts: rows of numbers that a call owns; the numbers of a pen. -/
import Derived.Test.YtagciaanfjllnaaPurePenCodes
import Derived.OwnWalk
import Derived.Laws.OwnMore
import Derived.Laws.AppendOwnNone
namespace Go.Proofs.Ytagciaanfjllnaa.PenC
open Go Go.RowKit Go.Proofs.Ytagciaanfjllnaa.Base Go.Proofs.Ytagciaanfjllnaa.Opens Go.Proofs.Ytagciaanfjllnaa.Reg Go.Proofs.Ytagciaanfjllnaa.PPenCodes Go.Proofs.YtagciaanfjllnaaW.PrintWords Go.Proofs.YtagciaanfjllnaaW.PrintMore
set_option linter.unusedVariables false
set_option linter.unusedSimpArgs false
attribute [local go_sem ↓] Go.wp_at_zero Go.wp_at_succ

def encI (l : List Int) : List Value := l.map (Value.int .i64)
theorem enc_app (l m : List Int) : encI (l ++ m) = encI l ++ encI m := List.map_append
theorem enc_len (l : List Int) : (encI l).length = l.length := List.length_map _
theorem enc_one (l : List Int) : ∀ u ∈ encI l, u.oneCell' = true := by
  intro u hu
  unfold encI at hu
  rw [List.mem_map] at hu
  obtain ⟨x, _, rfl⟩ := hu
  rfl
/-- a row of whole numbers that the call owns (its blocks are B or newer) -/
def Row (B : Nat) (w : World) (v : Value) (l : List Int) : Prop := w.ownsRow B 3 1 v l.length (encI l)
theorem row_stays {B : Nat} {w w' : World} {v : Value} {l : List Int} (h : Row B w v l) (hb : Below w.heap.size w w') : Row B w' v l := by
  unfold Row World.ownsRow at h ⊢
  obtain ⟨h1, h2⟩ := h
  refine ⟨h1, ?_⟩
  rcases h2 with h2 | ⟨g, cap, cur, e, hB, hg, hr⟩
  · exact .inl h2
  · refine .inr ⟨g, cap, cur, e, hB, ?_, hr⟩
    have hlt : g < w.heap.size := by
      rcases Nat.lt_or_ge g w.heap.size with h | h
      · exact h
      · rw [Array.getElem?_eq_none h] at hg; cases hg
    rw [hb.block g hlt]
    exact hg
theorem row_le {B B' : Nat} {w : World} {v : Value} {l : List Int} (h : Row B w v l) (hb : B' ≤ B) : Row B' w v l := Joins.ownsRow_le h hb
theorem row_of {B : Nat} {w : World} {v : Value} {l m : List Int} {n : Nat} (h : w.ownsRow B 3 1 v n (encI l ++ encI m)) (hn : n = l.length + m.length) : Row B w v (l ++ m) := by
  unfold Row
  rw [enc_app, List.length_append, ← hn]
  exact h
theorem row_lit {B : Nat} (w : World) (l : List Int) (hB : B ≤ w.heap.size) (hl : l.length ≤ maxLen) : Row B (w.alloc (.cells (encI l).toArray 3)) (.slice (some ⟨w.heap.size, 0, none⟩) l.length l.length) l := by
  have h := World.ownsRow_lit (base := B) (e := 3) (size := 1) w (encI l).toArray l.length hB hl (by simp [enc_len])
  simpa [Row, enc_len] using h
theorem row_slice {B : Nat} {w : World} {v : Value} {l : List Int} (h : Row B w v l) : ∃ A c, v = .slice A l.length c := by
  rcases Joins.ownsRow_forms h with ⟨h1, h2⟩ | ⟨g, cap, h1⟩
  · exact ⟨none, 0, by rw [h1, h2]⟩
  · exact ⟨_, cap, h1⟩
/-- append, whatever the row that is added -/
theorem row_app {B B2 : Nat} {w : World} {v x : Value} {l m : List Int} (ty : TypeId) (h : Row B w v l) (hx : Row B2 w x m) (hB : B ≤ w.heap.size) (hl : l.length + m.length ≤ 1000) :
    ∃ v' w', (Builtin.append_ #[48, 48] ty #[v, x]).run Try.prog w = .ok v' w' ∧ Row B w' v' (l ++ m) ∧ w.grownBy w' v.ownBlock := by
  obtain ⟨ti, ti0, ti1, ti2, ti3⟩ := info_parts info3
  rcases Joins.ownsRow_forms hx with ⟨h1, h2⟩ | ⟨g, cap, h1⟩
  · have hm : m = [] := List.eq_nil_of_length_eq_zero h2
    subst hm h1
    refine ⟨v, w, run_append_owned_none (P := Try.prog) w B 48 ty 3 ti 1 Try.underlying48 ti0 v l.length (encI l) h, ?_, World.grownBy.refl _ _⟩
    rw [List.append_nil]
    exact h
  · subst h1
    obtain ⟨v', w', h3, h4, h5, _⟩ := run_append_own (P := Try.prog) (w := w) B 48 ty 3 ti (.int .i64 0) 1 8 Try.underlying48 ti0 ti1 ti2 ti3 rfl (by decide) v l.length (encI l) h ⟨g, 0, none⟩ m.length cap (encI m) (by rw [enc_len, Nat.mul_one]) (World.ownsRow.cells hx rfl) (enc_one m) (by unfold maxLen; omega) (by omega) hB
    exact ⟨v', w', h3, row_of h4 rfl, h5⟩
theorem wp_row_app {o : Oper} {a : Act} {K : Act → World → Prop} {Q : Exit → Act → World → Prop} (s x : Operand) (N : Tmp) (hd : o.dst = some N) (ho : o.op = .call { callee := .builtin .append, args := #[s, x], argTypes := #[48, 48] })
    {B B2 : Nat} {w : World} {v xv : Value} {l m : List Int} (hs : a.eval s = v) (hxv : a.eval x = xv) (h : Row B w v l) (hx : Row B2 w xv m) (hB : B ≤ w.heap.size) (hl : l.length + m.length ≤ 1000)
    (hk : ∀ v' w', Row B w' v' (l ++ m) → w.grownBy w' v.ownBlock → K (a.put (some N) v') w') : o.wp Try.prog a w K Q := by
  obtain ⟨v', w', hr, h2, h3⟩ := row_app o.type h hx hB hl
  unfold Oper.wp execOp
  simp only [ho, resolve, invoke, builtin, Sem.run_bind, Sem.run_pure, Result.andThen_ok, List.map_toArray, List.map_cons, List.map_nil, hs, hxv, hr]
  show K (a.put o.dst v') w'
  rw [hd]
  exact hk v' w' h2 h3
theorem below_app' {G B : Nat} {W w w' : World} {v : Value} {l : List Int} (hB : Below G W w) (hg : w.grownBy w' v.ownBlock) (hown : Row B w v l) (hG : G ≤ w.heap.size) (hGB : G ≤ B) : Below G W w' :=
  hB.grown hg hG (fun k hk => Nat.le_trans hGB (World.ownsRow.lt hown k hk).1)
theorem blk_app' {B g : Nat} {t : TypeId} {cs : Array Value} {w w' : World} {v : Value} {l : List Int} (hD : Blk w g t cs) (hg : w.grownBy w' v.ownBlock) (hown : Row B w v l) (hgB : g < B) : Blk w' g t cs :=
  Blk.grown hD hg (fun e => by have := (World.ownsRow.lt hown g e.symm).1; omega)
theorem cells_1 (w : World) (x : Int) : ∀ j s, (encI [x])[j]? = some s → (w.alloc (.cells #[.int .i64 x] 3)).cell? ((⟨w.heap.size, 0, none⟩ : Addr).add j) = some s := by
  intro j s hj
  have hB := Blk.new w 3 #[.int .i64 x]
  match j, hj with
  | 0, hj => simp [encI] at hj; subst hj; exact hB.cell 0
theorem below_app {G B : Nat} {W w w' : World} {v : Value} {l : List Int} {o : Obj} (hB : Below G W w) (hg : (w.alloc o).grownBy w' v.ownBlock) (hown : Row B w v l) (hG : G ≤ w.heap.size) (hGB : G ≤ B) : Below G W w' :=
  (hB.alloc hG o).grown hg (by simp; omega) (fun k hk => Nat.le_trans hGB (World.ownsRow.lt hown k hk).1)
theorem blk_app {B g : Nat} {t : TypeId} {cs : Array Value} {w w' : World} {v : Value} {l : List Int} {o : Obj} (hD : Blk w g t cs) (hg : (w.alloc o).grownBy w' v.ownBlock) (hown : Row B w v l) (hgB : g < B) : Blk w' g t cs :=
  Blk.grown (hD.alloc o) hg (fun e => by have := (World.ownsRow.lt hown g e.symm).1; omega)
theorem marks_zero (m : Int) : marksL m 0 = [] := rfl
theorem marks_yes {m : Int} {i : Nat} (h1 : (markF i != 0) = true) (h2 : (bits .and .i64 m (markF i) != 0) = true) : 0 :: marksL m (i + 1) = (0 :: marksL m i) ++ [(i : Int)] := by
  have : inMark m i = true := by unfold inMark; rw [h1, h2]; rfl
  simp [marksL, List.range_succ, List.filter_append, this]
theorem marks_no {m : Int} {i : Nat} (h : inMark m i = false) : 0 :: marksL m (i + 1) = 0 :: marksL m i := by
  simp [marksL, List.range_succ, List.filter_append, h]
theorem marks_len (m : Int) (i : Nat) : (0 :: marksL m i).length ≤ i + 1 := by
  rw [List.length_cons]
  unfold marksL
  rw [List.length_map]
  have := List.length_filter_le (inMark m) (List.range i)
  rw [List.length_range] at this
  omega
theorem col_len (c a : Int) : (colL c a).length ≤ 3 := by
  unfold colL
  by_cases c0 : c = 0
  · rw [if_pos c0]; simp
  rw [if_neg c0]
  by_cases c1 : c ≤ 8
  · rw [if_pos c1]; simp
  rw [if_neg c1]
  by_cases c2 : c ≤ 16
  · rw [if_pos c2]; simp
  rw [if_neg c2]; simp
theorem codes_c (c a : Int) (h0 : 0 ≤ c) (h1 : c ≤ 256) (ha : 0 ≤ a) (hb : a ≤ 100) (w : World) : Calls Try.prog 68 #[.int .i64 c, .int .i64 a] w fun e w' => ∃ v, e = .returned v ∧ Row w.heap.size w' v (colL c a) ∧ Below w.heap.size w w' := by
  have hf : pen_codes.f c a = some (colL c a) := by
    unfold pen_codes.f colL
    rw [w64 (x := a + c) (by omega) (by omega), w64 (x := a + c - 1) (by omega) (by omega), w64 (x := a + 60) (by omega) (by omega), w64 (x := a + 60 + c) (by omega) (by omega), w64 (x := a + 60 + c - 9) (by omega) (by omega), w64 (x := a + 8) (by omega) (by omega), w64 (x := c - 1) (by omega) (by omega)]
    by_cases c0 : c = 0
    · rw [if_pos c0, if_pos c0]
    rw [if_neg c0, if_neg c0]
    by_cases c1 : c ≤ 8
    · rw [if_pos c1, if_pos c1]
    rw [if_neg c1, if_neg c1]
    by_cases c2 : c ≤ 16
    · rw [if_pos c2, if_pos c2]
    rw [if_neg c2, if_neg c2]
  refine (pen_codes.calls c a _ w hf).mono ?_
  rintro e w' ⟨v, rfl, hR, hb⟩
  exact ⟨v, rfl, Kd.own_of_R hR, hb⟩

set_option maxHeartbeats 4000000 in
set_option maxRecDepth 100000 in
theorem codes55 (p : Int × Int × Int) (hp : RightP p) (W : World) : Calls Try.prog 55 #[.agg #[.int .i64 p.1, .int .i64 p.2.1, .int .i64 p.2.2]] W fun e w' => ∃ v, e = .returned v ∧ Row W.heap.size w' v (codesL p) ∧ Below W.heap.size W w' := by
  obtain ⟨ti, ti0, ti1, ti2, ti3⟩ := info_parts info3
  go_enter Try.func55, Try.ntmps55
  have B0 := Blk.new W 90 #[.int .i64 p.1, .int .i64 p.2.1, .int .i64 p.2.2]
  have R0 := row_lit (B := W.heap.size + 1) (W.alloc (.cells #[.int .i64 p.1, .int .i64 p.2.1, .int .i64 p.2.2] 90)) [0] (by simp only [World.size_alloc]; exact Nat.le_refl _) (by decide)
  rw [World.size_alloc] at R0
  go_wp2_with fail
  go_loopw [3, 4, 5, 7] (fun v3 v4 v5 v7 wr => ∃ i : Nat, i ≤ 10 ∧ v7 = .int .i64 i ∧ Row (W.heap.size + 1) wr v3 (0 :: marksL p.2.2 i) ∧ Below W.heap.size W wr ∧ Blk wr W.heap.size 90 #[.int .i64 p.1, .int .i64 p.2.1, .int .i64 p.2.2]) (fun _ _ _ v7 _ => 10 - (intOf v7).toNat)
  case atStart => exact ⟨0, by omega, rfl, R0, Joins.below_alloc2 W _ _, B0.alloc _⟩
  case round =>
    obtain ⟨i, hi, rfl, hown, HB, HD⟩ := hrel
    by_cases hlt : i < 10
    · have hk1 : (i : Int) < 10 := by omega
      have hk0 : (0 : Int) ≤ (i : Int) := Int.natCast_nonneg _
      by_cases hm : (markF i != 0) = true
      · by_cases ha : (bits .and .i64 p.2.2 (markF i) != 0) = true
        · have g3 : (0 :: marksL p.2.2 i).length + 1 ≤ maxLen := by have := marks_len p.2.2 i; unfold maxLen; omega
          have g4 : ((0 :: marksL p.2.2 i).length + 1) * 8 ≤ 140737488355328 := by have := marks_len p.2.2 i; omega
          have HL := Lib.hid (marks_yes hm ha)
          go_wp2_with (first | (go_at_call 67; refine (mark_c _ _).mono ?_; rintro _ x ⟨rfl, hx⟩; have HO2 := row_stays hown hx; have HD2 := HD.stays hx; have HB2 := HB.trans (hx.mono HB.size); obtain ⟨c0, c1, c2, y0, y1, y2⟩ := Blk.three HD2; have g5 : ∀ o, W.heap.size + 1 ≤ (x.alloc o).heap.size := fun o => by (have := HD2.lt; simp; omega)) | (at_builtin; (refine wpList_append_own _ rfl (.tmp 21) (.tmp 23) 48 rfl (W.heap.size + 1) 3 ti (.int .i64 0) 1 8 Try.underlying48 ti0 ti1 ti2 ti3 rfl (by decide) _ (0 :: marksL p.2.2 i).length (encI (0 :: marksL p.2.2 i)) (by rfl) (HO2.alloc _) ⟨x.heap.size, 0, none⟩ 1 1 (encI [(i : Int)]) (by rfl) rfl (cells_1 _ _) (enc_one _) g3 g4 (g5 _) ?_); intro v' w' hown' hgrow _))
          go_roundw
          case rel => exact ⟨i + 1, by omega, by go_num, by rw [HL.out]; exact row_of hown' rfl, below_app HB2 hgrow HO2 HB2.size (by omega), blk_app HD2 hgrow HO2 (by omega)⟩
          case measure => simp [intOf]; omega
        · have ha' : (bits .and .i64 p.2.2 (markF i) != 0) = false := by simpa using ha
          have HL := Lib.hid (marks_no (m := p.2.2) (i := i) (by unfold inMark; rw [ha', Bool.and_false]))
          clear ha
          go_wp2_with (first | (go_at_call 67; refine (mark_c _ _).mono ?_; rintro _ x ⟨rfl, hx⟩; have HO2 := row_stays hown hx; have HD2 := HD.stays hx; have HB2 := HB.trans (hx.mono HB.size); obtain ⟨c0, c1, c2, y0, y1, y2⟩ := Blk.three HD2))
          go_roundw
          case rel => exact ⟨i + 1, by omega, by go_num, by rw [HL.out]; exact HO2, HB2, HD2⟩
          case measure => simp [intOf]; omega
      · have hm' : (markF i != 0) = false := by simpa using hm
        have HL := Lib.hid (marks_no (m := p.2.2) (i := i) (by unfold inMark; rw [hm', Bool.false_and]))
        clear hm
        go_wp2_with (first | (go_at_call 67; refine (mark_c _ _).mono ?_; rintro _ x ⟨rfl, hx⟩; have HO2 := row_stays hown hx; have HD2 := HD.stays hx; have HB2 := HB.trans (hx.mono HB.size); obtain ⟨c0, c1, c2, y0, y1, y2⟩ := Blk.three HD2))
        go_roundw
        case rel => exact ⟨i + 1, by omega, by go_num, by rw [HL.out]; exact HO2, HB2, HD2⟩
        case measure => simp [intOf]; omega
    · have hi10 : i = 10 := by omega
      subst hi10
      obtain ⟨h1, h2, h3, h4, h5, h6⟩ := hp
      go_wp2_with fail
      have EO := row_stays hown (Joins.below_draws wr.heap.size wr 1)
      have ED := Blk.drew HD
      have EB := Below.trans HB (Joins.below_draws W.heap.size wr 1)
      refine wp_region_held_drew (S := fun w' => w'.cell? ⟨W.heap.size, 0, none⟩ = some (.int .i64 p.1) ∧ w'.cell? ⟨W.heap.size, 1, none⟩ = some (.int .i64 p.2.1)) (by kernel_rfl) (⟨ED.cell 0, ED.cell 1⟩) (fun hHeld => ?_)
      refine takeH (i := 0) (N := some 26) (v := ?_) (a' := ?_) rfl rfl (by kernel_rfl) (by kernel_rfl) (by kernel_rfl) (fun _ _ _ h => h) (Or.inl ⟨by rfl, ?_⟩) hHeld ?_ ?_
      rotate_left
      · intro w' hSw
        clear hSw
        go_simp
        with_reducible rfl
      rotate_left
      · simp only [Act.put, List.setIfInBounds_toArray, List.set_cons_zero, List.set_cons_succ]
        rfl
      refine takeH (i := 1) (N := some 27) (v := ?_) (a' := ?_) rfl rfl (by kernel_rfl) (by kernel_rfl) (by kernel_rfl) (fun _ _ _ h => h) (Or.inl ⟨by rfl, ?_⟩) hHeld ?_ ?_
      rotate_left
      · intro w' hSw
        clear hSw
        go_simp
        with_reducible rfl
      rotate_left
      · simp only [Act.put, List.setIfInBounds_toArray, List.set_cons_zero, List.set_cons_succ]
        rfl
      refine takeH (i := 5) (N := some 31) (v := ?_) (a' := ?_) rfl rfl (by kernel_rfl) (by kernel_rfl) (by kernel_rfl) (fun _ _ _ h => h) (Or.inl ⟨by rfl, ?_⟩) hHeld ?_ ?_
      rotate_left
      · intro w' hSw
        clear hSw
        go_simp
        with_reducible rfl
      rotate_left
      · simp only [Act.put, List.setIfInBounds_toArray, List.set_cons_zero, List.set_cons_succ]
        rfl
      refine takeH (i := 2) (N := some 28) (v := ?_) (a' := ?_) rfl rfl (by kernel_rfl) (by kernel_rfl) (by kernel_rfl) (fun _ _ _ h => h) (Or.inl ⟨by rfl, ?_⟩) hHeld ?_ ?_
      rotate_left
      · intro w' hSw
        go_split_ands
        go_simp
        with_reducible rfl
      rotate_left
      · simp only [Act.put, List.setIfInBounds_toArray, List.set_cons_zero, List.set_cons_succ]
        rfl
      refine takeH (i := 6) (N := some 32) (v := ?_) (a' := ?_) rfl rfl (by kernel_rfl) (by kernel_rfl) (by kernel_rfl) (fun _ _ _ h => h) (Or.inl ⟨by rfl, ?_⟩) hHeld ?_ ?_
      rotate_left
      · intro w' hSw
        go_split_ands
        go_simp
        with_reducible rfl
      rotate_left
      · simp only [Act.put, List.setIfInBounds_toArray, List.set_cons_zero, List.set_cons_succ]
        rfl
      refine wpAnyH_ready (rs := [3]) (by kernel_rfl) (by simp) ?_
      refine AllReadyH.cons rfl (fun K hK => ?_) AllReadyH.nil
      go_simp
      refine (codes_c p.1 30 h1 h2 (by omega) (by omega) _).mono ?_
      rintro _ x ⟨v, rfl, hv, hx⟩
      have XO := row_stays EO hx
      have XD := ED.stays hx
      have XB := EB.trans (hx.mono EB.size)
      have XS : W.heap.size + 1 ≤ x.heap.size := XD.lt
      refine hK.out _ _ (⟨XD.cell 0, XD.cell 1⟩) (fun hHeld => ?_)
      clear hK K
      refine wpAnyH_ready (rs := [4]) (by kernel_rfl) (by simp) ?_
      refine AllReadyH.cons rfl (fun K hK => ?_) AllReadyH.nil
      rw [if_pos (by rfl)]
      refine wp_row_app (.tmp 26) (.tmp 29) 30 rfl rfl (by rfl) (by rfl) XO hv XS (by have := marks_len p.2.2 10; have := col_len p.1 30; omega) ?_
      intro v' w' YO hg
      have YD := blk_app' XD hg XO (by omega)
      have YB := below_app' XB hg XO XB.size (by omega)
      simp only [Act.put, List.setIfInBounds_toArray, List.set_cons_zero, List.set_cons_succ]
      refine hK.out _ _ (⟨YD.cell 0, YD.cell 1⟩) (fun hHeld => ?_)
      clear hK K
      refine wpAnyH_ready (rs := [7]) (by kernel_rfl) (by simp) ?_
      refine AllReadyH.cons rfl (fun K hK => ?_) AllReadyH.nil
      go_simp
      refine (codes_c p.2.1 40 h3 h4 (by omega) (by omega) _).mono ?_
      rintro _ y ⟨v2, rfl, hv2, hy⟩
      have ZO := row_stays YO hy
      have ZD := YD.stays hy
      have ZB := YB.trans (hy.mono YB.size)
      have ZS : W.heap.size + 1 ≤ y.heap.size := ZD.lt
      refine hK.out _ _ (⟨ZD.cell 0, ZD.cell 1⟩) (fun hHeld => ?_)
      clear hK K
      refine wpAnyH_ready (rs := [8]) (by kernel_rfl) (by simp) ?_
      refine AllReadyH.cons rfl (fun K hK => ?_) AllReadyH.nil
      rw [if_pos (by rfl)]
      refine wp_row_app (.tmp 30) (.tmp 33) 34 rfl rfl (by rfl) (by rfl) ZO hv2 ZS (by rw [List.length_append]; have := marks_len p.2.2 10; have := col_len p.1 30; have := col_len p.2.1 40; omega) ?_
      intro v3 w3 UO hg3
      have UD := blk_app' ZD hg3 ZO (by omega)
      have UB := below_app' ZB hg3 ZO ZB.size (by omega)
      simp only [Act.put, List.setIfInBounds_toArray, List.set_cons_zero, List.set_cons_succ]
      refine hK.out _ _ (⟨UD.cell 0, UD.cell 1⟩) (fun hHeld => ?_)
      clear hK K
      refine takeH (i := 9) (N := some 2) (v := ?_) (a' := ?_) rfl rfl (by kernel_rfl) (by kernel_rfl) (by kernel_rfl) (fun _ _ _ h => h) (Or.inl ⟨by rfl, ?_⟩) hHeld ?_ ?_
      rotate_left
      · intro w' hSw
        clear hSw
        go_simp
        with_reducible rfl
      rotate_left
      · simp only [Act.put, List.setIfInBounds_toArray, List.set_cons_zero, List.set_cons_succ]
        rfl
      refine wpAnyH_done (by kernel_rfl) ?_ _
      go_wp2_with fail
      go_ret
      exact ⟨v3, rfl, by unfold codesL; rw [List.nil_append, ← List.append_assoc]; exact row_le UO (by omega), UB⟩
end Go.Proofs.Ytagciaanfjllnaa.PenC
