/- The law TopKeys: contracts of the inbox: what comes too early is held in its order. -/
import Derived.Test.YtagciaanfjllnaaKeysD
namespace Go.Proofs.Ytagciaanfjllnaa.Keys
open Go Go.RowKit Go.Proofs.Ytagciaanfjllnaa.Base Go.Proofs.Ytagciaanfjllnaa.Opens Go.Proofs.Ytagciaanfjllnaa.Reg Go.Proofs.YtagciaanfjllnaaW.PrintWords
set_option linter.unusedVariables false
set_option linter.unusedSimpArgs false
attribute [local go_sem ↓] Go.wp_at_zero Go.wp_at_succ
attribute [local go_sem high] eq32 eq45

set_option maxHeartbeats 4000000 in
set_option maxRecDepth 100000 in
theorem isnan_c (x : Int) (W : World) : Calls Try.prog 83 #[.int .i64 x] W fun e w' => e = .returned (.bool false) ∧ w' = W := by
  have g1 : (x != x) = false := bne_self_eq_false x
  go_enter Try.func83, Try.ntmps83
  go_wp2_with fail
  go_ret
  exact ⟨rfl, rfl⟩

set_option maxHeartbeats 4000000 in
set_option maxRecDepth 100000 in
theorem compare_c (x y : Int) (W : World) (h : x < y) : Calls Try.prog 81 #[.int .i64 x, .int .i64 y] W fun e w' => e = .returned (.int .i64 (-1)) ∧ w' = W := by
  go_enter Try.func81, Try.ntmps81
  go_wp2_with (first | (go_at_call 83; refine (isnan_c _ _).mono ?_; rintro _ w1 ⟨rfl, rfl⟩))
  go_ret
  exact ⟨rfl, rfl⟩

set_option maxHeartbeats 4000000 in
set_option maxRecDepth 100000 in
theorem closure_c (n b x : Int) (W : World) (h : n < x) : Calls Try.prog 80 #[.agg #[.int .i64 n, .int .u8 b], .int .i64 x] W fun e w' => e = .returned (.int .i64 (-1)) ∧ Below W.heap.size W w' := by
  go_enter Try.func80, Try.ntmps80
  go_wp2_with (first | (go_at_call 81; refine (compare_c _ _ _ h).mono ?_; rintro _ w1 ⟨rfl, rfl⟩))
  go_ret
  exact ⟨rfl, (Below.refl _ _).alloc (Nat.le_refl _) _⟩

def encH (l : List (Int × Int)) : List Value := l.flatMap (fun e => [.int .i64 e.1, .int .u8 e.2])
theorem encH_snoc (l : List (Int × Int)) (e : Int × Int) : encH (l ++ [e]) = encH l ++ [.int .i64 e.1, .int .u8 e.2] := by simp [encH]
theorem encH_at : ∀ (l : List (Int × Int)) (i : Nat), i < l.length → (encH l)[i * 2]? = some (.int .i64 (l.getD i (0, 0)).1) ∧ (encH l)[i * 2 + 1]? = some (.int .u8 (l.getD i (0, 0)).2) := by
  intro l
  induction l with
  | nil => intro i hi; simp at hi
  | cons b d ih =>
    intro i hi
    have e : encH (b :: d) = .int .i64 b.1 :: .int .u8 b.2 :: encH d := by simp [encH]
    rw [e]
    cases i with
    | zero => exact ⟨rfl, rfl⟩
    | succ i =>
      have := ih i (by simpa using hi)
      rw [show (i + 1) * 2 = i * 2 + 2 by omega]
      simpa using this
/-- what is held, in a row that the call owns -/
def OwnH (B : Nat) (w : World) (v : Value) (l : List (Int × Int)) : Prop := w.ownsRow B 122 2 v l.length (encH l)
theorem OwnH.stays {B : Nat} {w w' : World} {v : Value} {l : List (Int × Int)} (h : OwnH B w v l) (hb : Below w.heap.size w w') : OwnH B w' v l := row_stays h hb
theorem OwnH.form {B : Nat} {w : World} {v : Value} {l : List (Int × Int)} (h : OwnH B w v l) : ∃ A c, v = .slice A l.length c ∧ l.length ≤ c ∧ (0 < l.length → ∃ g, A = some ⟨g, 0, none⟩ ∧ B ≤ g ∧ g < w.heap.size ∧ ∀ i, i < l.length → w.cell? ⟨g, i * 2, none⟩ = some (.int .i64 (l.getD i (0, 0)).1) ∧ w.cell? ⟨g, i * 2 + 1, none⟩ = some (.int .u8 (l.getD i (0, 0)).2)) := by
  rcases h.2 with ⟨h1, h2⟩ | ⟨g, cap, cur, h1, h2, h3, h4, h5, h6, h7⟩
  · exact ⟨none, 0, by rw [h1, h2], by omega, fun h0 => by omega⟩
  · refine ⟨_, cap, h1, h4, fun _ => ⟨g, rfl, h2, Blk.lt h3, fun i hi => ?_⟩⟩
    have hr : w.ownsRow B 122 2 (.slice (some ⟨g, 0, none⟩) l.length cap) l.length (encH l) := by rw [← h1]; exact h
    obtain ⟨k0, k1⟩ := encH_at l i hi
    have c0 := World.ownsRow.cells hr (g := g) rfl _ _ k0
    have c1 := World.ownsRow.cells hr (g := g) rfl _ _ k1
    rw [Go.WideShapes.add_plain, Nat.zero_add] at c0 c1
    exact ⟨c0, c1⟩

set_option maxHeartbeats 4000000 in
set_option maxRecDepth 100000 in
theorem search_c {B : Nat} {v : Value} {l : List (Int × Int)} {x : Int} {W : World} (h : OwnH B W v l) (hl : l.length ≤ 1000) (hx : ∀ i, i < l.length → (l.getD i (0, 0)).1 < x) :
    Calls Try.prog 79 #[v, .int .i64 x, .func (.func 80) #[] #[]] W fun e w' => e = .returned (.tuple #[.int .i64 l.length, .bool false]) ∧ Below W.heap.size W w' := by
  obtain ⟨A, c, rfl, hlc, hcells⟩ := h.form
  go_enter Try.func79, Try.ntmps79
  go_wp2_with fail
  go_loopw [9, 10, 11] (fun v9 v10 v11 wr => ∃ i : Nat, i ≤ l.length ∧ v9 = .int .i64 i ∧ v10 = .int .i64 l.length ∧ Below W.heap.size W wr) (fun v9 _ _ _ => l.length - (intOf v9).toNat)
  case atStart => exact ⟨0, Nat.zero_le _, rfl, rfl, Below.refl _ _⟩
  case round =>
    obtain ⟨i, hi, rfl, rfl, HB⟩ := hrel
    by_cases hlt : i < l.length
    · have hk0 : (0 : Int) ≤ (i : Int) := Int.natCast_nonneg _
      have hk1 : (i : Int) < (l.length : Int) := by omega
      obtain ⟨g, rfl, -, hg, hc⟩ := hcells (by omega)
      obtain ⟨m, hm⟩ : ∃ m : Nat, m = (i + l.length) / 2 := ⟨_, rfl⟩
      have hm1 : i ≤ m := by omega
      have hm2 : m < l.length := by omega
      obtain ⟨c0, c1⟩ := hc m hm2
      have hlt2 := hx m hm2
      have e0 := (HB.cell (p := ⟨g, m * 2, none⟩) hg).trans c0
      have e1 := (HB.cell (p := ⟨g, m * 2 + 1, none⟩) hg).trans c1
      generalize (l.getD m (0, 0)).1 = a at e0 hlt2
      generalize (l.getD m (0, 0)).2 = b at e1
      clear hc c0 c1 hcells hx
      go_upto_region 5 with (fail)
      have em : ((i : Int) + (l.length : Int)) / 2 = (m : Int) := by omega
      have hm0 : (0 : Int) ≤ (m : Int) := Int.natCast_nonneg _
      have hm3 : (m : Int) < (l.length : Int) := by omega
      rw [em]
      clear em
      have HM := Lib.hid (show i < m + 1 by omega)
      clear hm hm1 hm2
      go_wp2_with (first | (go_at_call 80; refine (closure_c a b x _ hlt2).mono ?_; rintro _ w1 ⟨rfl, hb⟩; have HB2 := HB.trans (hb.mono HB.size)))
      go_roundw
      case rel => exact ⟨m + 1, by omega, by go_num, rfl, HB2⟩
      case measure => have := HM.out; simp [intOf]; omega
    · have hin : i = l.length := by omega
      subst hin
      go_wp2_with fail
      go_ret2
      exact ⟨rfl, HB⟩

theorem info122 : (Try.prog.info? 122).map (fun i => (i.zero, i.size, i.bytes)) = some (some (.agg #[.int .i64 0, .int .u8 0]), 2, 16) := by kernel_rfl
theorem src_b2 {w : World} {g : Nat} {t : TypeId} {a b : Value} (h : Blk w g t #[a, b]) (k : Nat) (ha : a.oneCell' = true) (hb : b.oneCell' = true) : Src w (.slice (some ⟨g, 0, none⟩) 1 k) 1 2 [a, b] := by
  refine .inr ⟨_, k, rfl, fun j s hj => ?_, rfl, fun x hx => ?_⟩
  · match j, hj with
    | 0, hj => simp at hj; subst hj; exact h.cell 0
    | 1, hj => simp at hj; subst hj; exact h.cell 1
  · simp at hx
    rcases hx with rfl | rfl <;> assumption
theorem OwnH.of {B n : Nat} {w : World} {v : Value} {l : List (Int × Int)} {e : Int × Int} (h : w.ownsRow B 122 2 v n (encH l ++ [.int .i64 e.1, .int .u8 e.2])) (hn : n = l.length + 1) : OwnH B w v (l ++ [e]) := by
  unfold OwnH
  rw [encH_snoc, List.length_append, List.length_singleton, ← hn]
  exact h

set_option maxHeartbeats 4000000 in
set_option maxRecDepth 100000 in
theorem insert_c {B : Nat} {v : Value} {l : List (Int × Int)} {n b : Int} {g : Nat} {W : World} (h : OwnH B W v l) (hl : l.length ≤ 1000) (hB : B ≤ W.heap.size) (hg : Blk W g 122 #[.int .i64 n, .int .u8 b]) :
    Calls Try.prog 82 #[v, .int .i64 l.length, .slice (some ⟨g, 0, none⟩) 1 1] W fun e w' => ∃ v', e = .returned v' ∧ OwnH B w' v' (l ++ [(n, b)]) ∧ W.grownBy w' v.ownBlock := by
  obtain ⟨A, c, rfl, hlc, hcells⟩ := h.form
  have hlc' : (l.length : Int) ≤ (c : Int) := by omega
  have hl0 : (0 : Int) ≤ (l.length : Int) := Int.natCast_nonneg _
  clear hcells
  by_cases hcl : c = l.length
  · subst hcl
    go_enter Try.func82, Try.ntmps82
    go_wp2_with (at_builtin; (refine wpList_app rfl (.tmp 23) (.tmp 24) 45 rfl Try.underlying45 info122 rfl (by decide) (by rfl) (by rfl) h (src_b2 hg 1 rfl rfl) hB (by omega) (by decide) ?_); intro v' w' ho' hgr _)
    go_ret
    exact ⟨_, rfl, OwnH.of ho' rfl, hgr⟩
  · have hcl2 := fun e => hcl (e : l.length = c).symm
    go_enter Try.func82, Try.ntmps82
    go_wp2_with (at_builtin; (refine wpList_app rfl (.tmp 23) (.tmp 24) 45 rfl Try.underlying45 info122 rfl (by decide) (by rfl) (by rfl) h (src_b2 hg 1 rfl rfl) hB (by omega) (by decide) ?_); intro v' w' ho' hgr _)
    go_ret
    exact ⟨_, rfl, OwnH.of ho' rfl, hgr⟩

set_option maxHeartbeats 4000000 in
set_option maxRecDepth 100000 in
theorem hold_old {B : Nat} {v : Value} {l : List (Int × Int)} {n b x : Int} {W : World} (h : OwnH B W v l) (hl : l.length ≤ 1000) (hlt : ∀ i, i < l.length → (l.getD i (0, 0)).1 < n) (hn : n < x) :
    Calls Try.prog 73 #[v, .int .i64 x, .agg #[.int .i64 n, .int .u8 b]] W fun e w' => e = .returned v ∧ Below W.heap.size W w' := by
  have N0 := Blk.new W 122 #[.int .i64 n, .int .u8 b]
  have NB := (Below.refl W.heap.size W).alloc (Nat.le_refl _) (.cells #[.int .i64 n, .int .u8 b] 122)
  go_enter Try.func73, Try.ntmps73
  go_wp2_with (first | (go_at_call 79; refine (search_c (h.stays NB) hl hlt).mono ?_; rintro _ w1 ⟨rfl, hb⟩; have K0 := N0.stays hb; have KB := NB.trans (hb.mono (by simp)); obtain ⟨c0, c1, y0, y1⟩ := Blk.two K0))
  go_ret
  exact ⟨rfl, KB⟩

set_option maxHeartbeats 4000000 in
set_option maxRecDepth 100000 in
theorem hold_new {B : Nat} {v : Value} {l : List (Int × Int)} {n b x : Int} {W : World} (h : OwnH B W v l) (hl : l.length ≤ 1000) (hB : B ≤ W.heap.size) (hlt : ∀ i, i < l.length → (l.getD i (0, 0)).1 < n) (hn : ¬ n < x) :
    Calls Try.prog 73 #[v, .int .i64 x, .agg #[.int .i64 n, .int .u8 b]] W fun e w' => ∃ v', e = .returned v' ∧ OwnH B w' v' (l ++ [(n, b)]) ∧ W.grownBy w' v.ownBlock := by
  have N0 := Blk.new W 122 #[.int .i64 n, .int .u8 b]
  have NB := (Below.refl W.heap.size W).alloc (Nat.le_refl _) (.cells #[.int .i64 n, .int .u8 b] 122)
  go_enter Try.func73, Try.ntmps73
  go_wp2_with (first | (go_at_call 79; refine (search_c (h.stays NB) hl hlt).mono ?_; rintro _ w1 ⟨rfl, hb⟩; have K0 := N0.stays hb; have KB := NB.trans (hb.mono (by simp)); obtain ⟨c0, c1, y0, y1⟩ := Blk.two K0) | (go_at_call 82; have Y2 := Blk.new w1 122 #[.int .i64 n, .int .u8 b]; have YB := KB.alloc KB.size (.cells #[.int .i64 n, .int .u8 b] 122); refine (insert_c (h.stays YB) hl (Nat.le_trans hB YB.size) Y2).mono ?_; rintro _ x2 ⟨v', rfl, ho, hgr⟩))
  go_ret
  exact ⟨_, rfl, ho, grown_trans (grown_of_below v.ownBlock YB) hgr (fun k hk hne => hne)⟩

set_option maxHeartbeats 4000000 in
set_option maxRecDepth 100000 in
theorem cloneH_c (A : Option Addr) (c : Nat) (W : World) (hA : A = none → c = 0) (hc : c ≤ maxLen) : Calls Try.prog 72 #[.slice A 0 c] W fun e w' => ∃ v', e = .returned v' ∧ OwnH W.heap.size w' v' [] ∧ Below W.heap.size W w' := by
  cases A with
  | none =>
    obtain rfl := hA rfl
    go_enter Try.func72, Try.ntmps72
    go_wp2_with fail
    go_ret
    exact ⟨_, rfl, World.ownsRow_nil _ _ _ _, Below.refl _ _⟩
  | some a =>
    clear hA
    have h0 : (W.alloc (.cells #[] 122)).ownsRow W.heap.size 122 2 (.slice (some ⟨W.heap.size, 0, none⟩) 0 0) 0 [] := World.ownsRow_lit (base := W.heap.size) (e := 122) (size := 2) W #[] 0 (Nat.le_refl _) (Nat.zero_le _) rfl
    have hs2 : Src (W.alloc (.cells #[] 122)) (.slice (some a) 0 c) 0 2 [] := .inr ⟨a, c, rfl, fun j u hu => by simp at hu, rfl, fun u hu => by simp at hu⟩
    go_enter Try.func72, Try.ntmps72
    go_wp2_with (at_builtin; (refine wpList_app rfl (.tmp 5) (.tmp 6) 45 rfl Try.underlying45 info122 rfl (by decide) (by rfl) (by rfl) h0 hs2 (by simp) (by omega) (by decide) ?_); intro v' w' ho hg _)
    go_ret
    exact ⟨v', rfl, ho, below_app hg h0⟩

end Go.Proofs.Ytagciaanfjllnaa.Keys
