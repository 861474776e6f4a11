/- The law TopKeys: contracts of the outbox. -/
import Derived.Test.YtagciaanfjllnaaKeysB
namespace Go.Proofs.Ytagciaanfjllnaa.Keys
open Go Go.RowKit Go.Proofs.Ytagciaanfjllnaa.Base Go.Proofs.Ytagciaanfjllnaa.Opens Go.Proofs.Ytagciaanfjllnaa.Reg Go.Proofs.YtagciaanfjllnaaW.PrintWords
set_option linter.unusedVariables false
set_option linter.unusedSimpArgs false
attribute [local go_sem ↓] Go.wp_at_zero Go.wp_at_succ
attribute [local go_sem high] eq32 eq45

theorem own_form {k : IntKind} {e B : Nat} {w : World} {v : Value} {l : List Int} (h : Own k e B w v l) : ∃ A n c, v = .slice A n c := by
  rcases Joins.ownsRow_forms h with ⟨h1, h2⟩ | ⟨g, cap, h1⟩
  · exact ⟨none, 0, 0, h1⟩
  · exact ⟨_, _, cap, h1⟩
theorem Blk.two {w : World} {g : Nat} {t : TypeId} {a b : Value} (h : Blk w g t #[a, b]) :
    w.cell? ⟨g, 0, none⟩ = some a ∧ w.cell? ⟨g, 1, none⟩ = some b ∧ w.frozen? ⟨g, 0, none⟩ = false ∧ w.frozen? ⟨g, 1, none⟩ = false :=
  ⟨h.cell 0, h.cell 1, h.frozen 0, h.frozen 1⟩
theorem Blk.set2 {w : World} {g : Nat} {t : TypeId} {x y : Value} (h : Blk w g t #[x, y]) (a b : Value) :
    Blk ((w.setCell ⟨g, 0, none⟩ a).setCell ⟨g, 1, none⟩ b) g t #[a, b] := by
  have := (h.set_ 0 a).set_ 1 b
  simpa using this
theorem Blk.far2 {w : World} {g g' : Nat} {t : TypeId} {cs : Array Value} (h : Blk w g t cs) (hne : g ≠ g') (a b : Value) :
    Blk ((w.setCell ⟨g', 0, none⟩ a).setCell ⟨g', 1, none⟩ b) g t cs := (h.far hne a).far hne b
theorem below_set2 {B : Nat} {w w' : World} {g : Nat} (h : Below B w w') (hg : B ≤ g) (a b : Value) :
    Below B w ((w'.setCell ⟨g, 0, none⟩ a).setCell ⟨g, 1, none⟩ b) := (h.setCell hg a).setCell hg b
theorem new2 (W : World) (a b : Array Value) (t u : TypeId) : Blk ((W.alloc (.cells a t)).alloc (.cells b u)) (W.heap.size + 1) u b := by
  have h := Blk.new (W.alloc (.cells a t)) u b
  rw [World.size_alloc] at h
  exact h
theorem row_far {B e size n : Nat} {w : World} {v : Value} {xs : List Value} {g : Nat} {t : TypeId} {cs : Array Value} (h : w.ownsRow B e size v n xs) (hD : Blk w g t cs) (ht : t ≠ e) (i : Nat) (u : Value) : (w.setCell ⟨g, i, none⟩ u).ownsRow B e size v n xs := by
  unfold World.ownsRow at h ⊢
  obtain ⟨h1, h2⟩ := h
  refine ⟨h1, ?_⟩
  rcases h2 with h2 | ⟨g', cap, cur, e', hB, hg, hr⟩
  · exact .inl h2
  · refine .inr ⟨g', cap, cur, e', hB, ?_, hr⟩
    have hne : g' ≠ g := fun e => by subst e; exact Blk.ne_ hD hg ht rfl
    exact (Below.heap_setCell w ⟨g, i, none⟩ u g' hne).trans hg
theorem row_far2 {B e size n : Nat} {w : World} {v : Value} {xs : List Value} {g : Nat} {t : TypeId} {a b : Value} (h : w.ownsRow B e size v n xs) (hD : Blk w g t #[a, b]) (ht : t ≠ e) (x y : Value) : ((w.setCell ⟨g, 0, none⟩ x).setCell ⟨g, 1, none⟩ y).ownsRow B e size v n xs :=
  row_far (row_far h hD ht 0 x) (hD.set_ 0 x) ht 1 y

set_option maxHeartbeats 4000000 in
set_option maxRecDepth 100000 in
theorem put_full (F : Int) (A B : Option Addr) (l d : List Int) (c c' : Nat) (W : World) (h : (256 : Int) - l.length < d.length) (hl : l.length ≤ 256) (hd : d.length ≤ 1000) :
    Calls Try.prog 57 #[.agg #[.int .i64 F, .slice A l.length c], .slice B d.length c'] W fun e w' => e = .returned (.tuple #[.agg #[.int .i64 F, .slice A l.length c], .int .i64 2]) ∧ Below W.heap.size W w' := by
  have s1 : IntKind.i64.wrap ((256 : Int) - l.length) = 256 - l.length := IntWalk.i64_in _ (by omega)
  go_enter Try.func57, Try.ntmps57
  have N0 : Blk ((W.alloc (.cells #[.int .i64 F, .slice A l.length c] 44)).alloc (.cells #[.int .i64 0, .slice none 0 0] 44)) W.heap.size 44 #[.int .i64 F, .slice A l.length c] := (Blk.new W 44 _).alloc _
  have N1 := new2 W #[.int .i64 F, .slice A l.length c] #[.int .i64 0, .slice none 0 0] 44 44
  have NB := Joins.below_alloc2 W (.cells #[.int .i64 F, .slice A l.length c] 44) (.cells #[.int .i64 0, .slice none 0 0] 44)
  go_wp2_with fail
  refine bodyPost_ret (results_ct rfl _ _ (W.heap.size + 1) 44 _ (0, 0) _ rfl (by first | exact N1.set2 _ _ | exact new2 W _ _ 44 44) Try.underlying44 rfl (by kernel_rfl)) rfl ?_
  exact ⟨rfl, by first | exact below_set2 NB (by omega) _ _ | exact Joins.below_alloc2 W _ _⟩

set_option maxHeartbeats 4000000 in
set_option maxRecDepth 100000 in
theorem put_ok {F : Int} {A B : Option Addr} {l d : List Int} {c c' : Nat} {W : World} (h : ¬ (256 : Int) - l.length < d.length) (hl : l.length ≤ 256) (hd : d.length ≤ 1000) (hF0 : 0 ≤ F) (hF : F ≤ 100000) (h1 : Rd W (.slice A l.length c) l) (h2 : Rd W (.slice B d.length c') d) :
    Calls Try.prog 57 #[.agg #[.int .i64 F, .slice A l.length c], .slice B d.length c'] W fun e w' => ∃ v', e = .returned (.tuple #[.agg #[.int .i64 F, v'], .int .i64 0]) ∧ Own .u8 5 W.heap.size w' v' (l ++ d) ∧ Below W.heap.size W w' := by
  have s1 : IntKind.i64.wrap ((256 : Int) - l.length) = 256 - l.length := IntWalk.i64_in _ (by omega)
  have s2 : IntKind.i64.wrap ((281474976710656 : Int) - (F + l.length)) = 281474976710656 - (F + l.length) := IntWalk.i64_in _ (by omega)
  have n1 : ¬ (281474976710656 : Int) - (F + l.length) < d.length := by omega
  go_enter Try.func57, Try.ntmps57
  have N0 : Blk ((W.alloc (.cells #[.int .i64 F, .slice A l.length c] 44)).alloc (.cells #[.int .i64 0, .slice none 0 0] 44)) W.heap.size 44 #[.int .i64 F, .slice A l.length c] := (Blk.new W 44 _).alloc _
  have N1 := new2 W #[.int .i64 F, .slice A l.length c] #[.int .i64 0, .slice none 0 0] 44 44
  have NB := Joins.below_alloc2 W (.cells #[.int .i64 F, .slice A l.length c] 44) (.cells #[.int .i64 0, .slice none 0 0] 44)
  go_wp2_with (go_at_call 63; refine (next_c F A l.length c _ hF0 (by omega) (by omega)).mono ?_; rintro _ w1 ⟨rfl, hb⟩; have K0 := N0.stays hb; have K1 := N1.stays hb; have KB := NB.trans (hb.mono (by simp; omega)))
  have M0 := Blk.drew K0
  have M1 := Blk.drew K1
  have MB : Below W.heap.size W w1.drew := Below.trans KB (Joins.below_draws W.heap.size w1 1)
  refine wp_region_held_drew (S := fun w' => w'.cell? ⟨W.heap.size, 0, none⟩ = some (.int .i64 F) ∧ w'.cell? ⟨W.heap.size, 1, none⟩ = some (.slice A l.length c)) (by kernel_rfl) (⟨M0.cell 0, M0.cell 1⟩) (fun hHeld => ?_)
  refine takeH (i := 0) (N := some 23) (v := ?_) (a' := ?_) rfl rfl (by kernel_rfl) (by kernel_rfl) (by kernel_rfl) (fun _ _ _ h => h) (Or.inl ⟨by rfl, ?_⟩) hHeld ?_ ?_
  rotate_left
  · intro w' hSw
    clear hSw
    go_simp
    with_reducible rfl
  rotate_left
  · simp only [Act.put, List.setIfInBounds_toArray, List.set_cons_zero, List.set_cons_succ]
    rfl
  refine takeH (i := 2) (N := some 25) (v := ?_) (a' := ?_) rfl rfl (by kernel_rfl) (by kernel_rfl) (by kernel_rfl) (fun _ _ _ h => h) (Or.inl ⟨by rfl, ?_⟩) hHeld ?_ ?_
  rotate_left
  · intro w' hSw
    clear hSw
    go_simp
    with_reducible rfl
  rotate_left
  · simp only [Act.put, List.setIfInBounds_toArray, List.set_cons_zero, List.set_cons_succ]
    rfl
  refine takeH (i := 4) (N := some 27) (v := ?_) (a' := ?_) rfl rfl (by kernel_rfl) (by kernel_rfl) (by kernel_rfl) (fun _ _ _ h => h) (Or.inl ⟨by rfl, ?_⟩) hHeld ?_ ?_
  rotate_left
  · intro w' hSw
    clear hSw
    go_simp
    with_reducible rfl
  rotate_left
  · simp only [Act.put, List.setIfInBounds_toArray, List.set_cons_zero, List.set_cons_succ]
    rfl
  refine takeH (i := 1) (N := some 24) (v := ?_) (a' := ?_) rfl rfl (by kernel_rfl) (by kernel_rfl) (by kernel_rfl) (fun _ _ _ h => h) (Or.inl ⟨by rfl, ?_⟩) hHeld ?_ ?_
  rotate_left
  · intro w' hSw
    go_split_ands
    go_simp
    with_reducible rfl
  rotate_left
  · simp only [Act.put, List.setIfInBounds_toArray, List.set_cons_zero, List.set_cons_succ]
    rfl
  refine takeH (i := 3) (N := some 26) (v := ?_) (a' := ?_) rfl rfl (by kernel_rfl) (by kernel_rfl) (by kernel_rfl) (fun _ _ _ h => h) (Or.inl ⟨by rfl, ?_⟩) hHeld ?_ ?_
  rotate_left
  · intro w' hSw
    go_split_ands
    go_simp
    with_reducible rfl
  rotate_left
  · simp only [Act.put, List.setIfInBounds_toArray, List.set_cons_zero, List.set_cons_succ]
    rfl
  refine wpAnyH_ready (rs := [5]) (by kernel_rfl) (by simp) ?_
  refine AllReadyH.cons rfl (fun K hK => ?_) AllReadyH.nil
  go_simp
  have Y0 := M0.alloc (.cells #[.slice A l.length c, .slice B d.length c'] 32)
  have Y1 := M1.alloc (.cells #[.slice A l.length c, .slice B d.length c'] 32)
  have YB := MB.alloc MB.size (.cells #[.slice A l.length c, .slice B d.length c'] 32)
  have Y2 := Blk.new (World.drew w1) 32 #[.slice A l.length c, .slice B d.length c']
  refine hK.out _ _ (⟨Y0.cell 0, Y0.cell 1⟩) (fun hHeld => ?_)
  clear hK K
  refine wpAnyH_ready (rs := [6]) (by kernel_rfl) (by simp) ?_
  refine AllReadyH.cons rfl (fun K hK => ?_) AllReadyH.nil
  go_simp
  refine (concat_c Y2 (h1.stays YB) (h2.stays YB) (by omega) (by omega)).mono ?_
  rintro _ x ⟨v', rfl, ho, hx⟩
  obtain ⟨A', n', c2, rfl⟩ := own_form ho
  have Z0 := Y0.stays hx
  have Z1 := Y1.stays hx
  have ZB := YB.trans (hx.mono YB.size)
  refine hK.out _ _ (⟨Z0.cell 0, Z0.cell 1⟩) (fun hHeld => ?_)
  clear hK K
  refine takeH (i := 7) (N := some 30) (v := ?_) (a' := ?_) rfl rfl (by kernel_rfl) (by kernel_rfl) (by kernel_rfl) (fun _ _ _ h => h) (Or.inl ⟨by rfl, ?_⟩) hHeld ?_ ?_
  rotate_left
  · intro w' hSw
    clear hSw
    go_simp
    with_reducible rfl
  rotate_left
  · simp only [Act.put, List.setIfInBounds_toArray, List.set_cons_zero, List.set_cons_succ]
    rfl
  refine wpAnyH_ready (rs := [8]) (by kernel_rfl) (by simp) ?_
  refine AllReadyH.cons rfl (fun K hK => ?_) AllReadyH.nil
  go_simp
  obtain ⟨c0, c1, y0, y1⟩ := Blk.two Z1
  go_simp
  have U0 := Blk.far2 Z0 (by omega : W.heap.size ≠ W.heap.size + 1) (.int .i64 F) (.slice A' n' c2)
  have U1 := Blk.set2 Z1 (.int .i64 F) (.slice A' n' c2)
  refine hK.out _ _ (⟨U0.cell 0, U0.cell 1⟩) (fun hHeld => ?_)
  clear hK K
  refine takeH (i := 9) (N := some 5) (v := ?_) (a' := ?_) rfl rfl (by kernel_rfl) (by kernel_rfl) (by kernel_rfl) (fun _ _ _ h => h) (Or.inl ⟨by rfl, ?_⟩) hHeld ?_ ?_
  rotate_left
  · intro w' hSw
    clear hSw
    go_simp
    with_reducible rfl
  rotate_left
  · simp only [Act.put, List.setIfInBounds_toArray, List.set_cons_zero, List.set_cons_succ]
    rfl
  refine wpAnyH_done (by kernel_rfl) ?_ _
  clear hHeld
  go_wp2_with fail
  refine bodyPost_ret (results_ct rfl _ _ (W.heap.size + 1) 44 _ (0, 0) _ rfl (U1) Try.underlying44 rfl (by kernel_rfl)) rfl ?_
  exact ⟨_, rfl, row_far2 (Own.le ho YB.size) Z1 (by decide) _ _, below_set2 ZB (by omega) _ _⟩

theorem Rd.take {w : World} {A : Option Addr} {n c : Nat} {l : List Int} (h : Rd w (.slice A n c) l) (j : Nat) (hj : j ≤ l.length) : Rd w (.slice A j c) (l.take j) := by
  have hlen : (l.take j).length = j := by rw [List.length_take]; omega
  rcases h with ⟨h1, h2⟩ | ⟨a, cc, h1, h2, h3, h4⟩
  · subst h2
    simp only [List.length_nil, Nat.le_zero] at hj
    subst hj
    cases h1
    exact .inl ⟨rfl, rfl⟩
  · cases h1
    refine .inr ⟨a, c, by rw [hlen], by omega, h3, fun hl => ?_⟩
    rw [hlen] at hl ⊢
    obtain ⟨b, off, e, hlt, hc⟩ := h4 (by omega)
    refine ⟨b, off, e, hlt, fun i hi => ?_⟩
    have := hc i (by omega)
    rw [List.getD_eq_getElem?_getD, List.getElem?_take, if_pos hi, ← List.getD_eq_getElem?_getD]
    exact this
theorem Rd.drop {w : World} {b off n c : Nat} {l : List Int} (h : Rd w (.slice (some ⟨b, off, none⟩) n c) l) (k : Nat) (hk : k ≤ l.length) : Rd w (.slice (some ⟨b, off + k, none⟩) (l.length - k) (c - k)) (l.drop k) := by
  have hlen : (l.drop k).length = l.length - k := List.length_drop
  rcases h with ⟨h1, h2⟩ | ⟨a, cc, h1, h2, h3, h4⟩
  · cases h1
  · cases h1
    refine .inr ⟨_, c - k, by rw [hlen], by omega, by omega, fun hl => ?_⟩
    rw [hlen] at hl ⊢
    obtain ⟨b', off', e, hlt, hc⟩ := h4 (by omega)
    cases e
    refine ⟨b, off + k, rfl, hlt, fun i hi => ?_⟩
    have := hc (k + i) (by omega)
    rw [List.getD_eq_getElem?_getD, List.getElem?_drop, ← List.getD_eq_getElem?_getD, Nat.add_assoc]
    exact this
theorem Rd.len {w : World} {A : Option Addr} {n c : Nat} {l : List Int} (h : Rd w (.slice A n c) l) : n = l.length ∧ n ≤ c ∧ c ≤ maxLen := by
  rcases h with ⟨h1, h2⟩ | ⟨a, cc, h1, h2, h3, _⟩
  · subst h2; cases h1; exact ⟨rfl, Nat.le_refl _, Nat.zero_le _⟩
  · cases h1; exact ⟨rfl, h2, h3⟩
theorem Rd.some_ {w : World} {A : Option Addr} {n c : Nat} {l : List Int} (h : Rd w (.slice A n c) l) (hp : 0 < l.length) : ∃ b off, A = some ⟨b, off, none⟩ ∧ b < w.heap.size := by
  rcases h with ⟨h1, h2⟩ | ⟨a, cc, h1, h2, h3, h4⟩
  · subst h2; simp at hp
  · cases h1
    obtain ⟨b, off, e, hlt, _⟩ := h4 hp
    exact ⟨b, off, by rw [e], hlt⟩
theorem rd_empty (w : World) (a : Addr) (c : Nat) (hc : c ≤ maxLen) : Rd w (.slice (some a) 0 c) [] := .inr ⟨a, c, rfl, Nat.zero_le _, hc, fun h => absurd h (by simp)⟩

set_option maxHeartbeats 4000000 in
set_option maxRecDepth 100000 in
theorem ack_old (F n : Int) (A : Option Addr) (l : List Int) (c : Nat) (W : World) (h : n ≤ F) (hl : l.length ≤ 256) (hF0 : 0 ≤ F) (hF : F ≤ 100000) :
    Calls Try.prog 27 #[.agg #[.int .i64 F, .slice A l.length c], .int .i64 n] W fun e w' => e = .returned (.tuple #[.agg #[.int .i64 F, .slice A l.length c], .int .i64 0]) ∧ Below W.heap.size W w' := by
  have n1 : ¬ F + (l.length : Int) < n := by omega
  go_enter Try.func27, Try.ntmps27
  have N0 : Blk ((W.alloc (.cells #[.int .i64 F, .slice A l.length c] 44)).alloc (.cells #[.int .i64 0, .slice none 0 0] 44)) W.heap.size 44 #[.int .i64 F, .slice A l.length c] := (Blk.new W 44 _).alloc _
  have N1 := new2 W #[.int .i64 F, .slice A l.length c] #[.int .i64 0, .slice none 0 0] 44 44
  have NB := Joins.below_alloc2 W (.cells #[.int .i64 F, .slice A l.length c] 44) (.cells #[.int .i64 0, .slice none 0 0] 44)
  go_wp2_with (go_at_call 63; refine (next_c F A l.length c _ hF0 (by omega) (by omega)).mono ?_; rintro _ w1 ⟨rfl, hb⟩; have K0 := N0.stays hb; have K1 := N1.stays hb; have KB := NB.trans (hb.mono (by simp; omega)); obtain ⟨c0, c1, y0, y1⟩ := Blk.two K0; obtain ⟨d0, d1, x0, x1⟩ := Blk.two K1)
  refine bodyPost_ret (results_ct rfl _ _ (W.heap.size + 1) 44 _ (0, 0) _ rfl (Blk.set2 K1 _ _) Try.underlying44 rfl (by kernel_rfl)) rfl ?_
  exact ⟨rfl, below_set2 KB (by omega) _ _⟩

set_option maxHeartbeats 4000000 in
set_option maxRecDepth 100000 in
theorem ack_new {F : Int} {k : Nat} {A : Option Addr} {l : List Int} {c : Nat} {W : World} (hk0 : 0 < k) (hk : k ≤ l.length) (hl : l.length ≤ 256) (hF0 : 0 ≤ F) (hF : F ≤ 100000) (h1 : Rd W (.slice A l.length c) l) :
    Calls Try.prog 27 #[.agg #[.int .i64 F, .slice A l.length c], .int .i64 (F + k)] W fun e w' => ∃ v', e = .returned (.tuple #[.agg #[.int .i64 (F + k), v'], .int .i64 0]) ∧ Own .u8 5 W.heap.size w' v' (l.drop k) ∧ Below W.heap.size W w' := by
  obtain ⟨b, off, rfl, hbz⟩ := h1.some_ (by omega)
  obtain ⟨-, hlc, hcm⟩ := h1.len
  have hM := Lib.hid hcm
  clear hcm
  have n1 : ¬ F + (l.length : Int) < F + (k : Int) := by omega
  have n2 : ¬ F + (k : Int) ≤ F := by omega
  have e1 : F + (k : Int) - F = (k : Int) := by omega
  have s1 : IntKind.i64.wrap ((k : Int)) = k := IntWalk.i64_in _ (by omega)
  by_cases hck : c = k
  · subst hck
    have hz : l.length - c = 0 := by omega
    have HC : ∀ (w : World) (a : Addr), Calls Try.prog 64 #[.slice (some a) 0 0] w fun e w' => ∃ v', e = .returned v' ∧ Own .u8 5 w.heap.size w' v' (l.drop c) ∧ Below w.heap.size w w' := fun w a => by
      rw [List.drop_eq_nil_of_le (by omega)]
      exact clone_c (rd_empty w a 0 (Nat.zero_le _)) (by simp)
    have HZ := Lib.hid hz
    clear hz
    go_enter Try.func27, Try.ntmps27
    have N0 : Blk ((W.alloc (.cells #[.int .i64 F, .slice (some ⟨b, off, none⟩) l.length c] 44)).alloc (.cells #[.int .i64 0, .slice none 0 0] 44)) W.heap.size 44 #[.int .i64 F, .slice (some ⟨b, off, none⟩) l.length c] := (Blk.new W 44 _).alloc _
    have N1 := new2 W #[.int .i64 F, .slice (some ⟨b, off, none⟩) l.length c] #[.int .i64 0, .slice none 0 0] 44 44
    have NB := Joins.below_alloc2 W (.cells #[.int .i64 F, .slice (some ⟨b, off, none⟩) l.length c] 44) (.cells #[.int .i64 0, .slice none 0 0] 44)
    go_wp2_with (first | (go_at_call 63; refine (next_c F _ l.length c _ hF0 (by omega) (by omega)).mono ?_; rintro _ w1 ⟨rfl, hb⟩; have K0 := N0.stays hb; have K1 := N1.stays hb; have KB := NB.trans (hb.mono (by simp; omega)); obtain ⟨c0, c1, y0, y1⟩ := Blk.two K0; obtain ⟨d0, d1, x0, x1⟩ := Blk.two K1) | (go_at_call 64; (try rw [HZ.out]); (try rw [Nat.sub_self]); with_reducible refine (HC _ _).mono ?_; rintro _ x ⟨v', rfl, ho, hx⟩; obtain ⟨A', n', c2, rfl⟩ := own_form ho; have Z1 := K1.stays hx; have ZB := KB.trans (hx.mono KB.size); clear c0 c1 y0 y1 d0 d1 x0 x1; obtain ⟨d0, d1, x0, x1⟩ := Blk.two Z1))
    refine bodyPost_ret (results_ct rfl _ _ (W.heap.size + 1) 44 _ (0, 0) _ rfl (Blk.set2 Z1 _ _) Try.underlying44 rfl (by kernel_rfl)) rfl ?_
    exact ⟨_, rfl, row_far2 (Own.le ho KB.size) Z1 (by decide) _ _, below_set2 ZB (by omega) _ _⟩
  · have HC : ∀ w, Rd w (.slice (some ⟨b, off, none⟩) l.length c) l → Calls Try.prog 64 #[.slice (some ⟨b, off + k, none⟩) (l.length - k) (c - k)] w fun e w' => ∃ v', e = .returned v' ∧ Own .u8 5 w.heap.size w' v' (l.drop k) ∧ Below w.heap.size w w' := fun w hw =>
      clone_c (hw.drop k hk) (by rw [List.length_drop]; omega)
    go_enter Try.func27, Try.ntmps27
    have N0 : Blk ((W.alloc (.cells #[.int .i64 F, .slice (some ⟨b, off, none⟩) l.length c] 44)).alloc (.cells #[.int .i64 0, .slice none 0 0] 44)) W.heap.size 44 #[.int .i64 F, .slice (some ⟨b, off, none⟩) l.length c] := (Blk.new W 44 _).alloc _
    have N1 := new2 W #[.int .i64 F, .slice (some ⟨b, off, none⟩) l.length c] #[.int .i64 0, .slice none 0 0] 44 44
    have NB := Joins.below_alloc2 W (.cells #[.int .i64 F, .slice (some ⟨b, off, none⟩) l.length c] 44) (.cells #[.int .i64 0, .slice none 0 0] 44)
    go_wp2_with (first | (go_at_call 63; refine (next_c F _ l.length c _ hF0 (by omega) (by omega)).mono ?_; rintro _ w1 ⟨rfl, hb⟩; have K0 := N0.stays hb; have K1 := N1.stays hb; have KB := NB.trans (hb.mono (by simp; omega)); obtain ⟨c0, c1, y0, y1⟩ := Blk.two K0; obtain ⟨d0, d1, x0, x1⟩ := Blk.two K1) | (go_at_call 64; with_reducible refine (HC _ (h1.stays KB)).mono ?_; rintro _ x ⟨v', rfl, ho, hx⟩; obtain ⟨A', n', c2, rfl⟩ := own_form ho; have Z1 := K1.stays hx; have ZB := KB.trans (hx.mono KB.size); clear c0 c1 y0 y1 d0 d1 x0 x1; obtain ⟨d0, d1, x0, x1⟩ := Blk.two Z1))
    refine bodyPost_ret (results_ct rfl _ _ (W.heap.size + 1) 44 _ (0, 0) _ rfl (Blk.set2 Z1 _ _) Try.underlying44 rfl (by kernel_rfl)) rfl ?_
    exact ⟨_, rfl, row_far2 (Own.le ho KB.size) Z1 (by decide) _ _, below_set2 ZB (by omega) _ _⟩

set_option maxHeartbeats 4000000 in
set_option maxRecDepth 100000 in
theorem chunk_c {F : Int} {A : Option Addr} {l : List Int} {c : Nat} {W : World} (hl : l.length ≤ 256) (h1 : Rd W (.slice A l.length c) l) :
    Calls Try.prog 58 #[.agg #[.int .i64 F, .slice A l.length c]] W fun e w' => ∃ v', e = .returned (.tuple #[.int .i64 F, v']) ∧ Own .u8 5 W.heap.size w' v' (l.take 16) ∧ Below W.heap.size W w' := by
  obtain ⟨-, hlc, hcm⟩ := h1.len
  by_cases h16 : (16 : Int) < l.length
  · have g16 : (16 : Int) ≤ c := by omega
    have e16 : (if (16 : Int) < l.length then (16 : Int) else l.length) = 16 := if_pos h16
    have hJ := h1.take 16 (by omega)
    go_enter Try.func58, Try.ntmps58
    have N0 := Blk.new W 44 #[.int .i64 F, .slice A l.length c]
    have NB := (Below.refl W.heap.size W).alloc (Nat.le_refl _) (.cells #[.int .i64 F, .slice A l.length c] 44)
    go_wp2_with fail
    have M0 := Blk.drew N0
    have MB : Below W.heap.size W (World.drew (W.alloc (.cells #[.int .i64 F, .slice A l.length c] 44))) := Below.trans NB (Joins.below_draws W.heap.size _ 1)
    refine wp_region_held_drew (S := fun w' => w'.cell? ⟨W.heap.size, 0, none⟩ = some (.int .i64 F) ∧ w'.cell? ⟨W.heap.size, 1, none⟩ = some (.slice A l.length c)) (by kernel_rfl) (⟨M0.cell 0, M0.cell 1⟩) (fun hHeld => ?_)
    refine takeH (i := 0) (N := some 4) (v := ?_) (a' := ?_) rfl rfl (by kernel_rfl) (by kernel_rfl) (by kernel_rfl) (fun _ _ _ h => h) (Or.inl ⟨by rfl, ?_⟩) hHeld ?_ ?_
    rotate_left
    · intro w' hSw
      clear hSw
      go_simp
      with_reducible rfl
    rotate_left
    · simp only [Act.put, List.setIfInBounds_toArray, List.set_cons_zero, List.set_cons_succ]
      rfl
    refine takeH (i := 2) (N := some 6) (v := ?_) (a' := ?_) rfl rfl (by kernel_rfl) (by kernel_rfl) (by kernel_rfl) (fun _ _ _ h => h) (Or.inl ⟨by rfl, ?_⟩) hHeld ?_ ?_
    rotate_left
    · intro w' hSw
      clear hSw
      go_simp
      with_reducible rfl
    rotate_left
    · simp only [Act.put, List.setIfInBounds_toArray, List.set_cons_zero, List.set_cons_succ]
      rfl
    refine takeH (i := 4) (N := some 8) (v := ?_) (a' := ?_) rfl rfl (by kernel_rfl) (by kernel_rfl) (by kernel_rfl) (fun _ _ _ h => h) (Or.inl ⟨by rfl, ?_⟩) hHeld ?_ ?_
    rotate_left
    · intro w' hSw
      clear hSw
      go_simp
      with_reducible rfl
    rotate_left
    · simp only [Act.put, List.setIfInBounds_toArray, List.set_cons_zero, List.set_cons_succ]
      rfl
    refine takeH (i := 1) (N := some 5) (v := ?_) (a' := ?_) rfl rfl (by kernel_rfl) (by kernel_rfl) (by kernel_rfl) (fun _ _ _ h => h) (Or.inl ⟨by rfl, ?_⟩) hHeld ?_ ?_
    rotate_left
    · intro w' hSw
      go_split_ands
      go_simp
      with_reducible rfl
    rotate_left
    · simp only [Act.put, List.setIfInBounds_toArray, List.set_cons_zero, List.set_cons_succ]
      rfl
    refine takeH (i := 3) (N := some 7) (v := ?_) (a' := ?_) rfl rfl (by kernel_rfl) (by kernel_rfl) (by kernel_rfl) (fun _ _ _ h => h) (Or.inl ⟨by rfl, ?_⟩) hHeld ?_ ?_
    rotate_left
    · intro w' hSw
      go_split_ands
      go_simp
      with_reducible rfl
    rotate_left
    · simp only [Act.put, List.setIfInBounds_toArray, List.set_cons_zero, List.set_cons_succ]
      rfl
    refine takeH (i := 5) (N := some 9) (v := ?_) (a' := ?_) rfl rfl (by kernel_rfl) (by kernel_rfl) (by kernel_rfl) (fun _ _ _ h => h) (Or.inl ⟨by rfl, ?_⟩) hHeld ?_ ?_
    rotate_left
    · intro w' hSw
      go_split_ands
      go_simp
      with_reducible rfl
    rotate_left
    · simp only [Act.put, List.setIfInBounds_toArray, List.set_cons_zero, List.set_cons_succ]
      rfl
    refine takeH (i := 6) (N := some 10) (v := ?_) (a' := ?_) rfl rfl (by kernel_rfl) (by kernel_rfl) (by kernel_rfl) (fun _ _ _ h => h) (Or.inl ⟨by rfl, ?_⟩) hHeld ?_ ?_
    rotate_left
    · intro w' hSw
      clear hSw
      go_simp
      with_reducible rfl
    rotate_left
    · simp only [Act.put, List.setIfInBounds_toArray, List.set_cons_zero, List.set_cons_succ]
      rfl
    refine takeH (i := 7) (N := some 11) (v := ?_) (a' := ?_) rfl rfl (by kernel_rfl) (by kernel_rfl) (by kernel_rfl) (fun _ _ _ h => h) (Or.inl ⟨by rfl, ?_⟩) hHeld ?_ ?_
    rotate_left
    · intro w' hSw
      clear hSw
      go_simp
      with_reducible rfl
    rotate_left
    · simp only [Act.put, List.setIfInBounds_toArray, List.set_cons_zero, List.set_cons_succ]
      rfl
    refine takeH (i := 8) (N := some 12) (v := ?_) (a' := ?_) rfl rfl (by kernel_rfl) (by kernel_rfl) (by kernel_rfl) (fun _ _ _ h => h) (Or.inl ⟨by rfl, ?_⟩) hHeld ?_ ?_
    rotate_left
    · intro w' hSw
      clear hSw
      go_simp
      with_reducible rfl
    rotate_left
    · simp only [Act.put, List.setIfInBounds_toArray, List.set_cons_zero, List.set_cons_succ]
      rfl
    refine wpAnyH_ready (rs := [9]) (by kernel_rfl) (by simp) ?_
    refine AllReadyH.cons rfl (fun K hK => ?_) AllReadyH.nil
    go_simp
    with_reducible refine (clone_c (hJ.stays MB) (by rw [List.length_take]; omega)).mono ?_
    rintro _ x ⟨v', rfl, ho, hx⟩
    have Z0 := M0.stays hx
    have ZB := MB.trans (hx.mono MB.size)
    refine hK.out _ _ (⟨Z0.cell 0, Z0.cell 1⟩) (fun hHeld => ?_)
    clear hK K
    refine takeH (i := 10) (N := some 2) (v := ?_) (a' := ?_) rfl rfl (by kernel_rfl) (by kernel_rfl) (by kernel_rfl) (fun _ _ _ h => h) (Or.inl ⟨by rfl, ?_⟩) hHeld ?_ ?_
    rotate_left
    · intro w' hSw
      clear hSw
      go_simp
      with_reducible rfl
    rotate_left
    · simp only [Act.put, List.setIfInBounds_toArray, List.set_cons_zero, List.set_cons_succ]
      rfl
    refine takeH (i := 11) (N := some 3) (v := ?_) (a' := ?_) rfl rfl (by kernel_rfl) (by kernel_rfl) (by kernel_rfl) (fun _ _ _ h => h) (Or.inl ⟨by rfl, ?_⟩) hHeld ?_ ?_
    rotate_left
    · intro w' hSw
      clear hSw
      go_simp
      with_reducible rfl
    rotate_left
    · simp only [Act.put, List.setIfInBounds_toArray, List.set_cons_zero, List.set_cons_succ]
      rfl
    refine wpAnyH_done (by kernel_rfl) ?_ _
    clear hHeld
    go_wp2_with fail
    go_ret2
    exact ⟨_, rfl, by first | exact Own.le ho MB.size | (rw [← HL.out]; exact Own.le ho MB.size), ZB⟩
  · have HL := Lib.hid (show l.take l.length = l.take 16 by rw [List.take_of_length_le (Nat.le_refl _), List.take_of_length_le (by omega)])
    have g16 : (l.length : Int) ≤ c := by omega
    have e16 : (if (16 : Int) < l.length then (16 : Int) else l.length) = l.length := if_neg h16
    have hJ := h1.take l.length (by omega)
    go_enter Try.func58, Try.ntmps58
    have N0 := Blk.new W 44 #[.int .i64 F, .slice A l.length c]
    have NB := (Below.refl W.heap.size W).alloc (Nat.le_refl _) (.cells #[.int .i64 F, .slice A l.length c] 44)
    go_wp2_with fail
    have M0 := Blk.drew N0
    have MB : Below W.heap.size W (World.drew (W.alloc (.cells #[.int .i64 F, .slice A l.length c] 44))) := Below.trans NB (Joins.below_draws W.heap.size _ 1)
    refine wp_region_held_drew (S := fun w' => w'.cell? ⟨W.heap.size, 0, none⟩ = some (.int .i64 F) ∧ w'.cell? ⟨W.heap.size, 1, none⟩ = some (.slice A l.length c)) (by kernel_rfl) (⟨M0.cell 0, M0.cell 1⟩) (fun hHeld => ?_)
    refine takeH (i := 0) (N := some 4) (v := ?_) (a' := ?_) rfl rfl (by kernel_rfl) (by kernel_rfl) (by kernel_rfl) (fun _ _ _ h => h) (Or.inl ⟨by rfl, ?_⟩) hHeld ?_ ?_
    rotate_left
    · intro w' hSw
      clear hSw
      go_simp
      with_reducible rfl
    rotate_left
    · simp only [Act.put, List.setIfInBounds_toArray, List.set_cons_zero, List.set_cons_succ]
      rfl
    refine takeH (i := 2) (N := some 6) (v := ?_) (a' := ?_) rfl rfl (by kernel_rfl) (by kernel_rfl) (by kernel_rfl) (fun _ _ _ h => h) (Or.inl ⟨by rfl, ?_⟩) hHeld ?_ ?_
    rotate_left
    · intro w' hSw
      clear hSw
      go_simp
      with_reducible rfl
    rotate_left
    · simp only [Act.put, List.setIfInBounds_toArray, List.set_cons_zero, List.set_cons_succ]
      rfl
    refine takeH (i := 4) (N := some 8) (v := ?_) (a' := ?_) rfl rfl (by kernel_rfl) (by kernel_rfl) (by kernel_rfl) (fun _ _ _ h => h) (Or.inl ⟨by rfl, ?_⟩) hHeld ?_ ?_
    rotate_left
    · intro w' hSw
      clear hSw
      go_simp
      with_reducible rfl
    rotate_left
    · simp only [Act.put, List.setIfInBounds_toArray, List.set_cons_zero, List.set_cons_succ]
      rfl
    refine takeH (i := 1) (N := some 5) (v := ?_) (a' := ?_) rfl rfl (by kernel_rfl) (by kernel_rfl) (by kernel_rfl) (fun _ _ _ h => h) (Or.inl ⟨by rfl, ?_⟩) hHeld ?_ ?_
    rotate_left
    · intro w' hSw
      go_split_ands
      go_simp
      with_reducible rfl
    rotate_left
    · simp only [Act.put, List.setIfInBounds_toArray, List.set_cons_zero, List.set_cons_succ]
      rfl
    refine takeH (i := 3) (N := some 7) (v := ?_) (a' := ?_) rfl rfl (by kernel_rfl) (by kernel_rfl) (by kernel_rfl) (fun _ _ _ h => h) (Or.inl ⟨by rfl, ?_⟩) hHeld ?_ ?_
    rotate_left
    · intro w' hSw
      go_split_ands
      go_simp
      with_reducible rfl
    rotate_left
    · simp only [Act.put, List.setIfInBounds_toArray, List.set_cons_zero, List.set_cons_succ]
      rfl
    refine takeH (i := 5) (N := some 9) (v := ?_) (a' := ?_) rfl rfl (by kernel_rfl) (by kernel_rfl) (by kernel_rfl) (fun _ _ _ h => h) (Or.inl ⟨by rfl, ?_⟩) hHeld ?_ ?_
    rotate_left
    · intro w' hSw
      go_split_ands
      go_simp
      with_reducible rfl
    rotate_left
    · simp only [Act.put, List.setIfInBounds_toArray, List.set_cons_zero, List.set_cons_succ]
      rfl
    refine takeH (i := 6) (N := some 10) (v := ?_) (a' := ?_) rfl rfl (by kernel_rfl) (by kernel_rfl) (by kernel_rfl) (fun _ _ _ h => h) (Or.inl ⟨by rfl, ?_⟩) hHeld ?_ ?_
    rotate_left
    · intro w' hSw
      clear hSw
      go_simp
      with_reducible rfl
    rotate_left
    · simp only [Act.put, List.setIfInBounds_toArray, List.set_cons_zero, List.set_cons_succ]
      rfl
    refine takeH (i := 7) (N := some 11) (v := ?_) (a' := ?_) rfl rfl (by kernel_rfl) (by kernel_rfl) (by kernel_rfl) (fun _ _ _ h => h) (Or.inl ⟨by rfl, ?_⟩) hHeld ?_ ?_
    rotate_left
    · intro w' hSw
      clear hSw
      go_simp
      with_reducible rfl
    rotate_left
    · simp only [Act.put, List.setIfInBounds_toArray, List.set_cons_zero, List.set_cons_succ]
      rfl
    refine takeH (i := 8) (N := some 12) (v := ?_) (a' := ?_) rfl rfl (by kernel_rfl) (by kernel_rfl) (by kernel_rfl) (fun _ _ _ h => h) (Or.inl ⟨by rfl, ?_⟩) hHeld ?_ ?_
    rotate_left
    · intro w' hSw
      clear hSw
      go_simp
      with_reducible rfl
    rotate_left
    · simp only [Act.put, List.setIfInBounds_toArray, List.set_cons_zero, List.set_cons_succ]
      rfl
    refine wpAnyH_ready (rs := [9]) (by kernel_rfl) (by simp) ?_
    refine AllReadyH.cons rfl (fun K hK => ?_) AllReadyH.nil
    go_simp
    with_reducible refine (clone_c (hJ.stays MB) (by rw [List.length_take]; omega)).mono ?_
    rintro _ x ⟨v', rfl, ho, hx⟩
    have Z0 := M0.stays hx
    have ZB := MB.trans (hx.mono MB.size)
    refine hK.out _ _ (⟨Z0.cell 0, Z0.cell 1⟩) (fun hHeld => ?_)
    clear hK K
    refine takeH (i := 10) (N := some 2) (v := ?_) (a' := ?_) rfl rfl (by kernel_rfl) (by kernel_rfl) (by kernel_rfl) (fun _ _ _ h => h) (Or.inl ⟨by rfl, ?_⟩) hHeld ?_ ?_
    rotate_left
    · intro w' hSw
      clear hSw
      go_simp
      with_reducible rfl
    rotate_left
    · simp only [Act.put, List.setIfInBounds_toArray, List.set_cons_zero, List.set_cons_succ]
      rfl
    refine takeH (i := 11) (N := some 3) (v := ?_) (a' := ?_) rfl rfl (by kernel_rfl) (by kernel_rfl) (by kernel_rfl) (fun _ _ _ h => h) (Or.inl ⟨by rfl, ?_⟩) hHeld ?_ ?_
    rotate_left
    · intro w' hSw
      clear hSw
      go_simp
      with_reducible rfl
    rotate_left
    · simp only [Act.put, List.setIfInBounds_toArray, List.set_cons_zero, List.set_cons_succ]
      rfl
    refine wpAnyH_done (by kernel_rfl) ?_ _
    clear hHeld
    go_wp2_with fail
    go_ret2
    exact ⟨_, rfl, by first | exact Own.le ho MB.size | (rw [← HL.out]; exact Own.le ho MB.size), ZB⟩

end Go.Proofs.Ytagciaanfjllnaa.Keys
