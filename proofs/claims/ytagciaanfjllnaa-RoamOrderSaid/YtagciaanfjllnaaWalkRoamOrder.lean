/- RoamOrder, the walk: whatever the pairs and the order, the call returns true and changes no old memory. -/
import Derived.Test.YtagciaanfjllnaaPureRoam
import Derived.Test.YtagciaanfjllnaaOpensNums
import Derived.Deep.QuietTactic
import Derived.BigQuiet
import Derived.Laws.OwnMore
import Derived.OpenShut
namespace Go.Proofs.Ytagciaanfjllnaa.Walk
open Go.RowKit Go.Proofs.Ytagciaanfjllnaa.Base Go.Proofs.Ytagciaanfjllnaa.Opens Go.Proofs.Ytagciaanfjllnaa.Roam
set_option linter.unusedVariables false
attribute [local go_sem high] eqA25

def picks (x y : Nat → Int) (p : List Nat) : List Value := p.flatMap fun i => [.int .i64 (x i), .int .i64 (y i)]
theorem picks_len (x y : Nat → Int) (p : List Nat) : (picks x y p).length = p.length * 2 := by
  induction p with
  | nil => rfl
  | cons i p ih => simp only [picks, List.flatMap_cons, List.length_append, List.length_cons, List.length_nil] at *; omega
theorem picks_snoc (x y : Nat → Int) (p : List Nat) (i : Nat) : picks x y (p ++ [i]) = picks x y p ++ [.int .i64 (x i), .int .i64 (y i)] := by
  simp [picks]
theorem picks_at (x y : Nat → Int) : ∀ (p : List Nat) (j : Nat), j < p.length → (picks x y p)[j * 2]? = some (.int .i64 (x (p.getD j 0))) ∧ (picks x y p)[j * 2 + 1]? = some (.int .i64 (y (p.getD j 0)))
  | [], j, h => by simp at h
  | i :: p, 0, h => by simp [picks]
  | i :: p, j + 1, h => by
    have := picks_at x y p j (by simpa using h)
    have e : picks x y (i :: p) = [.int .i64 (x i), .int .i64 (y i)] ++ picks x y p := by simp [picks]
    rw [e, show (j + 1) * 2 = j * 2 + 2 by omega, show j * 2 + 2 + 1 = (j * 2 + 1) + 2 by omega]
    simpa using this

theorem pairs_of_own {w : World} {base cap g : Nat} {x y : Nat → Int} {p : List Nat} (h : w.ownsRow base 28 2 (.slice (some ⟨g, 0, none⟩) p.length cap) p.length (picks x y p)) :
    Pairs w (some ⟨g, 0, none⟩) p.length (fun j => x (p.getD j 0)) (fun j => y (p.getD j 0)) := by
  intro hn
  have hlt := (h.lt g rfl).2
  refine ⟨g, 0, rfl, hlt, fun i hi => ?_⟩
  obtain ⟨h1, h2⟩ := picks_at x y p i hi
  have c1 := h.cellAt (i * 2) (by omega)
  have c2 := h.cellAt (i * 2 + 1) (by omega)
  rw [h1] at c1
  rw [h2] at c2
  exact ⟨by simpa using c1, by simpa [Nat.add_assoc] using c2⟩

set_option maxHeartbeats 1000000 in
set_option maxRecDepth 100000 in
theorem order_out (A : Option Addr) (n c : Nat) (B : Option Addr) (m d : Nat) (W : World) (hn : n ≤ maxLen) (hm : m ≤ maxLen) (h : 30 < n ∨ (n ≤ 30 ∧ 60 < m) ∨ n = 0) :
    Calls Try.prog 4 #[.slice A n c, .slice B m d] W fun e w' => e = .returned (.bool true) ∧ Below W.heap.size W w' := by
  unfold maxLen at hn hm
  rcases h with h | ⟨h, h2⟩ | h
  · go_enter Try.func4, Try.ntmps4
    go_wp2_with (go_at_call 16; refine (awake_c _).mono ?_; rintro _ w1 ⟨rfl, hb⟩)
    go_ret
    exact ⟨rfl, hb⟩
  · go_enter Try.func4, Try.ntmps4
    go_wp2_with (go_at_call 16; refine (awake_c _).mono ?_; rintro _ w1 ⟨rfl, hb⟩)
    go_ret
    exact ⟨rfl, hb⟩
  · subst h
    go_enter Try.func4, Try.ntmps4
    go_wp2_with (go_at_call 16; refine (awake_c _).mono ?_; rintro _ w1 ⟨rfl, hb⟩)
    all_goals go_ret
    all_goals exact ⟨rfl, hb⟩

def Unlike (x : Nat → Int) (n : Nat) : Prop := ∀ i, i < n → ∀ j, j < i → x i ≠ x j
def Fresh (x : Nat → Int) (k j : Nat) : Prop := ∀ i, i < j → x k ≠ x i
theorem unlike_zero (x : Nat → Int) : Unlike x 0 := fun i h => absurd h (by omega)
theorem fresh_zero (x : Nat → Int) (k : Nat) : Fresh x k 0 := fun i h => absurd h (by omega)
theorem fresh_succ {x : Nat → Int} {k j : Nat} (h : Fresh x k j) (he : x k ≠ x j) : Fresh x k (j + 1) := fun i hi => by
  by_cases e : i = j
  · subst e; exact he
  · exact h i (by omega)
theorem unlike_succ {x : Nat → Int} {k : Nat} (h : Unlike x k) (hf : Fresh x k k) : Unlike x (k + 1) := fun i hi j hj => by
  by_cases e : i = k
  · subst e; exact hf j hj
  · exact h i (by omega) j hj
theorem unlike_inj {x : Nat → Int} {n : Nat} (h : Unlike x n) : ∀ i j, i < n → j < n → x i = x j → i = j := fun i j hi hj he => by
  rcases Nat.lt_trichotomy i j with h1 | h1 | h1
  · exact absurd he.symm (h j hj i h1)
  · exact h1
  · exact absurd he (h i hi j h1)
theorem below_draw {B : Nat} {w w' : World} (h : Below B w w') (q : Nat) : Below B w (w'.drewN q) := ⟨h.os, h.tape, h.output, h.size, h.block⟩

theorem info28 : (Try.prog.info? 28).map (fun i => (i.zero, i.size, i.bytes)) = some (some (.agg #[.int .i64 0, .int .i64 0]), 2, 16) := by kernel_rfl
theorem cells_two (w : World) (u v : Value) (t : TypeId) : ∀ j s, [u, v][j]? = some s → (w.alloc (.cells #[u, v] t)).cell? ((⟨w.heap.size, 0, none⟩ : Addr).add j) = some s := by
  intro j s hj
  have hB := Blk.new w t #[u, v]
  match j, hj with
  | 0, hj => simp at hj; subst hj; exact hB.cell 0
  | 1, hj => simp at hj; subst hj; exact hB.cell 1
theorem two_one (j k : IntKind) (a b : Int) : ∀ u ∈ [Value.int j a, Value.int k b], u.oneCell' = true := by
  intro u hu
  simp at hu
  rcases hu with rfl | rfl <;> rfl
theorem snoc_lt {p : List Nat} {n r : Nat} (h : ∀ e ∈ p, e < n) (hr : r < n) : ∀ e ∈ p ++ [r], e < n := by
  intro e he
  rcases List.mem_append.1 he with h1 | h1
  · exact h e h1
  · simp at h1; omega
theorem all_snoc {p : List Nat} {s k : Nat} (h : ∀ e, s + 1 ≤ e → e < k → e ∈ p) : ∀ e, s ≤ e → e < k → e ∈ p ++ [s] := by
  intro e h1 h2
  by_cases he : e = s
  · subst he; simp
  · exact List.mem_append_left _ (h e (by omega) h2)
theorem own_snoc {w : World} {base : Nat} {v : Value} {x y : Nat → Int} {p : List Nat} {r : Nat} (h : w.ownsRow base 28 2 v (p.length + 1) (picks x y p ++ [.int .i64 (x r), .int .i64 (y r)])) : w.ownsRow base 28 2 v (p ++ [r]).length (picks x y (p ++ [r])) := by
  rw [picks_snoc, List.length_append]
  exact h
theorem below_app {W w w' : World} {v : Value} {n : Nat} {xs : List Value} {o : Obj} (hB : Below W.heap.size W w) (hg : (w.alloc o).grownBy w' v.ownBlock) (hown : w.ownsRow W.heap.size 28 2 v n xs) : Below W.heap.size W w' :=
  (hB.alloc hB.size o).grown hg (by have := hB.size; simp; omega) (fun k hk => (hown.lt k hk).1)

set_option maxHeartbeats 4000000 in
set_option maxRecDepth 100000 in
theorem order_in (A : Option Addr) (n c : Nat) (B : Option Addr) (m d : Nat) (x y z : Nat → Int) (W : World) (hn : n ≤ 30) (hm : m ≤ 60) (hn0 : 0 < n) (hp : Pairs W A n x y) (hq : Nums .u8 W B m z) :
    Calls Try.prog 4 #[.slice A n c, .slice B m d] W fun e w' => e = .returned (.bool true) ∧ Below W.heap.size W w' := by
  have hn0' : ((n : Int) == 0) = false := by simp; omega
  obtain ⟨ti, ti0, ti1, ti2, ti3⟩ := info_parts info28
  go_enter Try.func4, Try.ntmps4
  go_wp2_with (go_at_call 16; refine (awake_c _).mono ?_; rintro _ w1 ⟨rfl, hb⟩)
  have hp1 := pairs_stays hp hb
  have hq1 := nums_stays hq hb
  have hB1 := hb
  clear hb
  obtain ⟨b, off, rfl, hbz, hcell⟩ := hp1 hn0
  go_loopw [5, 6] (fun v5 v6 wr => ∃ k : Nat, k ≤ n ∧ v5 = .int .i64 k ∧ Unlike x k ∧ ∃ q, wr = w1.drewN q) (fun v5 _ _ => n - (intOf v5).toNat)
  case atStart => exact ⟨0, Nat.zero_le _, rfl, unlike_zero x, 0, rfl⟩
  case round =>
    obtain ⟨k, hk, rfl, hU, q, rfl⟩ := hrel
    have HU := Lib.hid hU
    clear hU
    by_cases hlt : k < n
    · have hk0 : (0 : Int) ≤ (k : Int) := Int.natCast_nonneg _
      have hk1 : (k : Int) < (n : Int) := by omega
      have hck := (hcell k hlt).1
      go_wp2_with fail
      go_loopw [6] (fun v6 wr => ∃ j : Nat, j ≤ k ∧ v6 = .int .i64 j ∧ Fresh x k j ∧ ∃ q, wr = w1.drewN q) (fun v6 _ => k - (intOf v6).toNat)
      case atStart => exact ⟨0, Nat.zero_le _, rfl, fresh_zero x k, _, rfl⟩
      case round =>
        obtain ⟨j, hj, rfl, hF, q2, rfl⟩ := hrel
        have HF := Lib.hid hF
        clear hF
        by_cases hjk : j < k
        · have hj0 : (0 : Int) ≤ (j : Int) := Int.natCast_nonneg _
          have hj1 : (j : Int) < (n : Int) := by omega
          have hcj := (hcell j (by omega)).1
          by_cases he : x k = x j
          · have he1 : (x k == x j) = true := by simp [he]
            clear he
            go_wp2_with fail
            go_quiet (fail)
            go_wp2_with fail
            go_ret
            exact ⟨rfl, below_draw (below_draw hB1 _) _⟩
          · have he1 : (x k == x j) = false := by simp [he]
            go_wp2_with fail
            go_quiet (fail)
            go_wp2_with fail
            go_roundw
            case rel => exact ⟨j + 1, by omega, by go_num, fresh_succ HF.out he, _, rfl⟩
            case measure => simp [intOf]; omega
        · have hjk' : j = k := by omega
          subst hjk'
          go_wp2_with fail
          go_roundw
          case rel => exact ⟨j + 1, by omega, by go_num, unlike_succ HU.out HF.out, _, rfl⟩
          case measure => simp [intOf]; omega
    · have hkn : k = n := by omega
      subst hkn
      clear hcell hp1 hq1 hbz
      have HB := below_draw hB1 q
      go_wp2_with fail
      generalize w1.drewN q = w2 at HB ⊢
      clear hB1
      go_loopw [7, 8] (fun v7 v8 wr => ∃ (i : Nat) (p : List Nat), i ≤ m ∧ v8 = .int .i64 i ∧ p.length = i ∧ (∀ e ∈ p, e < k) ∧ wr.ownsRow W.heap.size 28 2 v7 p.length (picks x y p) ∧ Below W.heap.size W wr) (fun _ v8 _ => m - (intOf v8).toNat)
      case atStart => exact ⟨0, [], Nat.zero_le _, rfl, rfl, by simp, World.ownsRow_nil _ _ _ _, HB⟩
      case round =>
        clear HB
        obtain ⟨i, p, hi, rfl, hpl, hpk, hown, HB⟩ := hrel
        have HPK := Lib.hid hpk
        have HPL := Lib.hid hpl
        clear hpk
        by_cases hlt2 : i < m
        · obtain ⟨b2, off2, rfl, hb2, hc2⟩ := nums_stays hq HB (by omega)
          obtain ⟨hz, hzw⟩ := hc2 i hlt2
          obtain ⟨hz0, hz1⟩ := bounds_u8 hzw
          obtain ⟨b', off', e, hbz, hcell⟩ := pairs_stays hp HB hn0
          injection e with e
          injection e with e1 e2 e3
          subst e1 e2
          clear e3 hc2 hzw
          have hr0 : 0 ≤ z i % (k : Int) := Int.emod_nonneg _ (by omega)
          have hr1 : z i % (k : Int) < (k : Int) := Int.emod_lt_of_pos _ (by omega)
          have hk1 : (1 : Int) ≤ (k : Int) := by omega
          have hi0 : (0 : Int) ≤ (i : Int) := Int.natCast_nonneg _
          have hi1 : (i : Int) < (m : Int) := by omega
          obtain ⟨q0, q1⟩ := hcell (z i % (k : Int)).toNat (by omega)
          clear hcell hpl
          have g3 : p.length + 1 ≤ maxLen := by have := HPL.out; unfold maxLen; omega
          have g4 : (p.length + 1) * 16 ≤ 140737488355328 := by have := HPL.out; omega
          have g5 : ∀ o, W.heap.size ≤ (wr.alloc o).heap.size := fun o => by have := HB.size; simp; omega
          go_wp2_with (at_builtin; (refine wpList_append_own _ rfl (.tmp 53) (.tmp 65) 22 rfl W.heap.size 28 ti (.agg #[.int .i64 0, .int .i64 0]) 2 16 Try.underlying22 ti0 ti1 ti2 ti3 rfl (by decide) _ p.length (picks x y p) (by rfl) (hown.alloc _) ⟨wr.heap.size, 0, none⟩ 1 1 [.int .i64 (x (z i % (k : Int)).toNat), .int .i64 (y (z i % (k : Int)).toNat)] (by rfl) rfl (cells_two _ _ _ _) (two_one _ _ _ _) g3 g4 (g5 _) ?_); intro v' w' hown' hgrow _)
          go_roundw
          case rel => exact ⟨i + 1, p ++ [(z i % (k : Int)).toNat], by omega, by go_num, by simp [HPL.out], snoc_lt HPK.out (by omega), own_snoc hown', below_app HB hgrow hown⟩
          case measure => simp [intOf]; omega
        · have him : i = m := by omega
          subst him
          clear hpl
          go_wp2_with fail
          go_loopw [7, 9] (fun v7 v9 wr => ∃ (r : Nat) (p : List Nat), r ≤ k ∧ v9 = .int .i64 ((r : Int) - 1) ∧ p.length = i + (k - r) ∧ (∀ e ∈ p, e < k) ∧ (∀ e, r ≤ e → e < k → e ∈ p) ∧ wr.ownsRow W.heap.size 28 2 v7 p.length (picks x y p) ∧ Below W.heap.size W wr) (fun _ v9 _ => (intOf v9 + 1).toNat)
          case atStart => exact ⟨k, p, Nat.le_refl _, rfl, by rw [HPL.out]; omega, HPK.out, fun e h1 h2 => absurd h1 (by omega), hown, HB⟩
          case round =>
            clear HB HPK HPL hown hq
            obtain ⟨r, p, hr, rfl, hpl, hpk, hpr, hown, HB⟩ := hrel
            have HPK := Lib.hid hpk
            have HPL := Lib.hid hpl
            have HPR := Lib.hid hpr
            clear hpk hpl hpr
            by_cases hr1 : 0 < r
            · obtain ⟨b', off', e, hbz, hcell⟩ := pairs_stays hp HB hn0
              injection e with e
              injection e with e1 e2 e3
              subst e1 e2
              clear e3
              obtain ⟨s, rfl⟩ : ∃ s, r = s + 1 := ⟨r - 1, by omega⟩
              obtain ⟨q0, q1⟩ := hcell s (by omega)
              have hs0 : (0 : Int) ≤ (s : Int) := Int.natCast_nonneg _
              have hs1 : (s : Int) < (k : Int) := by omega
              have es : (((s + 1 : Nat) : Int) - 1) = (s : Int) := by omega
              rw [es]
              clear hcell es
              have g3 : p.length + 1 ≤ maxLen := by have := HPL.out; unfold maxLen; omega
              have g4 : (p.length + 1) * 16 ≤ 140737488355328 := by have := HPL.out; omega
              have g5 : ∀ o, W.heap.size ≤ (wr.alloc o).heap.size := fun o => by have := HB.size; simp; omega
              go_wp2_with (at_builtin; (refine wpList_append_own _ rfl (.tmp 74) (.tmp 79) 22 rfl W.heap.size 28 ti (.agg #[.int .i64 0, .int .i64 0]) 2 16 Try.underlying22 ti0 ti1 ti2 ti3 rfl (by decide) _ p.length (picks x y p) (by rfl) (hown.alloc _) ⟨wr.heap.size, 0, none⟩ 1 1 [.int .i64 (x s), .int .i64 (y s)] (by rfl) rfl (cells_two _ _ _ _) (two_one _ _ _ _) g3 g4 (g5 _) ?_); intro v' w' hown' hgrow _)
              go_roundw
              case rel => exact ⟨s, p ++ [s], by omega, rfl, by rw [List.length_append, HPL.out]; simp; omega, snoc_lt HPK.out (by omega), all_snoc HPR.out, own_snoc hown', below_app HB hgrow hown⟩
              case measure => simp [intOf]
            · have hr0 : r = 0 := by omega
              subst hr0
              have hpl1 : 0 < p.length := by have := HPL.out; omega
              obtain ⟨g, cap, hv, _, _⟩ := hown.form hpl1
              have hown2 := hown
              rw [hv] at hown2
              have hpr2 := pairs_of_own hown2
              obtain ⟨e1, e2, e3⟩ := same_best (x := x) (y := y) (x' := fun j => x (p.getD j 0)) (y' := fun j => y (p.getD j 0)) hn0 (fun j _ => ⟨rfl, rfl⟩) HPK.out (fun e he => HPR.out e (Nat.zero_le _) he) (unlike_inj HU.out)
              have hall1 := fun cc => all_c (some ⟨g, 0, none⟩) p.length cc _ _ wr (by have := HPL.out; omega) hpr2
              rw [e1, e2, e3] at hall1
              have hall2 := fun w => all_c (some ⟨b, off, none⟩) k c x y w (by omega)
              rw [hv]
              clear hown hown2 hv e1 e2 e3 hpr2
              go_wp2_with fail
              refine (hall1 _).mono ?_
              rintro _ w3 ⟨rfl, hb3⟩
              go_wp2_with fail
              refine (hall2 _ (pairs_stays hp (HB.trans (hb3.mono HB.size)))).mono ?_
              rintro _ w4 ⟨rfl, hb4⟩
              go_wp2_with fail
              go_ret
              exact ⟨rfl, (HB.trans (hb3.mono HB.size)).trans (hb4.mono (Nat.le_trans HB.size hb3.size))⟩

theorem RoamOrder (A : Option Addr) (n c : Nat) (x y : Nat → Int) (B : Option Addr) (m d : Nat) (z : Nat → Int) (W : World) (f : n ≤ c ∧ c ≤ maxLen ∧ Pairs W A n x y) (g : m ≤ d ∧ d ≤ maxLen ∧ Nums .u8 W B m z) :
    Calls Try.prog 4 #[.slice A n c, .slice B m d] W fun e w' => e = .returned (.bool true) ∧ Below W.heap.size W w' := by
  obtain ⟨hc, hm, hp⟩ := f
  obtain ⟨hc2, hm2, hq⟩ := g
  by_cases h : n ≤ 30 ∧ m ≤ 60 ∧ 0 < n
  · exact order_in A n c B m d x y z W h.1 h.2.1 h.2.2 hp hq
  · exact order_out A n c B m d W (by omega) (by omega) (by omega)
end Go.Proofs.Ytagciaanfjllnaa.Walk
