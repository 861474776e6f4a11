/- roam, by contracts: Hear, All and Best, over a slice of pairs that is known by two functions (first and second of each pair): All answers the first of the greatest numbers and its address, Best its place. -/
import Derived.Test.YtagciaanfjllnaaPRoamHearsx1
import Derived.Test.YtagciaanfjllnaaBase
import Derived.Test.YtagciaanfjllnaaOpensPairs
import Derived.Laws.ResultCell
import Derived.Deep.QuietTactic
import Derived.BigQuiet
import Derived.Lib.SmallJoins
namespace Go.Proofs.Ytagciaanfjllnaa.Roam
open Go.RowKit Go.Proofs.Ytagciaanfjllnaa.PRoamHears Go.Proofs.Ytagciaanfjllnaa.Base Go.Proofs.Ytagciaanfjllnaa.Opens
set_option linter.unusedVariables false

def bi (x : Nat → Int) : Nat → Nat
  | 0 => 0
  | k + 1 => if k = 0 then 0 else if x (bi x k) < x k then k else bi x k
def kb (k : Nat) : Bool := decide (0 < k)
def N (x : Nat → Int) (k : Nat) : Int := if k = 0 then 0 else x (bi x k)
def D (x y : Nat → Int) (k : Nat) : Int := if k = 0 then 0 else y (bi x k)
def mv (x y : Nat → Int) (k : Nat) : Bool := !kb k || !(D x y (k + 1) == D x y k)

theorem bi_lt {x : Nat → Int} {k : Nat} (h : 0 < k) : bi x k < k := by
  induction k with
  | zero => omega
  | succ k ih =>
    unfold bi
    split
    · omega
    · split
      · omega
      · have := ih (by omega); omega

theorem hear_c (x y : Nat → Int) (k : Nat) (w : World) :
    Calls Try.prog 17 #[.agg #[.bool (kb k), .int .i64 (N x k), .int .i64 (D x y k)], .int .i64 (x k), .int .i64 (y k)] w fun e w' =>
      e = .returned (.tuple #[.agg #[.bool (kb (k + 1)), .int .i64 (N x (k + 1)), .int .i64 (D x y (k + 1))], .bool (mv x y k)]) ∧ Below w.heap.size w w' := by
  refine roam_Hear.calls _ _ _ _ _ _ _ _ _ w ?_
  unfold roam_Hear.f mv
  by_cases h : k = 0
  · subst h; simp [kb, N, D, bi]
  · have h1 : kb k = true := by unfold kb; simp; omega
    have h2 : kb (k + 1) = true := by unfold kb; simp
    rw [h1, h2]
    have e3 : N x k = x (bi x k) := by simp [N, h]
    by_cases hx : x (bi x k) < x k
    · have e1 : N x (k + 1) = x k := by simp [N, bi, h, hx]
      have e2 : D x y (k + 1) = y k := by simp [D, bi, h, hx]
      rw [e1, e2, if_pos rfl, if_neg (by rw [e3]; omega)]
      rfl
    · have e1 : N x (k + 1) = N x k := by simp [N, bi, h, hx]
      have e2 : D x y (k + 1) = D x y k := by simp [D, bi, h, hx]
      rw [e1, e2, if_pos rfl, if_pos (by rw [e3]; omega)]
      simp

/-! a slice of pairs: what is kept of it -/
theorem pairs_stays {w w' : World} {A : Option Addr} {n : Nat} {x y : Nat → Int} (h : Pairs w A n x y) (hb : Below w.heap.size w w') : Pairs w' A n x y := by
  intro hn
  obtain ⟨b, off, e, hlt, hc⟩ := h hn
  refine ⟨b, off, e, Nat.lt_of_lt_of_le hlt hb.size, fun i hi => ?_⟩
  obtain ⟨h1, h2⟩ := hc i hi
  exact ⟨(hb.cell (p := ⟨b, _, none⟩) hlt).trans h1, (hb.cell (p := ⟨b, _, none⟩) hlt).trans h2⟩
theorem pairs_alloc {w : World} {A : Option Addr} {n : Nat} {x y : Nat → Int} (h : Pairs w A n x y) (o : Obj) : Pairs (w.alloc o) A n x y :=
  pairs_stays h ((Below.refl _ _).alloc (Nat.le_refl _) o)
theorem pairs_cut {w : World} {A : Option Addr} {n m : Nat} {x y : Nat → Int} (h : Pairs w A n x y) (hm : m ≤ n) : Pairs w A m x y := by
  intro hn
  obtain ⟨b, off, e, hlt, hc⟩ := h (by omega)
  exact ⟨b, off, e, hlt, fun i hi => hc i (by omega)⟩

set_option maxHeartbeats 1000000 in
set_option maxRecDepth 100000 in
theorem all_c (A : Option Addr) (n c : Nat) (x y : Nat → Int) (w : World) (hn : n ≤ 1000) (hp : Pairs w A n x y) :
    Calls Try.prog 19 #[.slice A n c] w fun e w' => e = .returned (.agg #[.bool (kb n), .int .i64 (N x n), .int .i64 (D x y n)]) ∧ Below w.heap.size w w' := by
  go_enter Try.func19, Try.ntmps19
  go_wp2_with fail
  have B2 := (Blk.new w 25 #[.bool false, .int .i64 0, .int .i64 0]).alloc (.cells #[.bool false, .int .i64 0, .int .i64 0] 25)
  have B3 := Blk.new (w.alloc (.cells #[.bool false, .int .i64 0, .int .i64 0] 25)) 25 #[.bool false, .int .i64 0, .int .i64 0]
  rw [World.size_alloc] at B3
  have HB := Joins.below_alloc2 w (.cells #[.bool false, .int .i64 0, .int .i64 0] 25) (.cells #[.bool false, .int .i64 0, .int .i64 0] 25)
  go_loopw [5, 8] (fun v5 v8 wr => ∃ k : Nat, k ≤ n ∧ v8 = .int .i64 k ∧ Blk wr w.heap.size 25 #[.bool false, .int .i64 0, .int .i64 0] ∧ Blk wr (w.heap.size + 1) 25 #[.bool (kb k), .int .i64 (N x k), .int .i64 (D x y k)] ∧ Below w.heap.size w wr)
    (fun _ v8 _ => n - (intOf v8).toNat)
  case atStart => exact ⟨0, Nat.zero_le _, rfl, B2, B3, HB⟩
  case round =>
    clear B2 B3 HB
    obtain ⟨k, hk, rfl, B2, B3, HB⟩ := hrel
    obtain ⟨d0, d1, d2, e0, e1, e2⟩ := B2.three
    obtain ⟨c0, c1, c2, f0, f1, f2⟩ := B3.three
    have hz := B3.lt
    have hp' := pairs_stays hp HB
    by_cases hlt : k < n
    · obtain ⟨b, off, rfl, hb, hcell⟩ := hp' (by omega)
      obtain ⟨p0, p1⟩ := hcell k hlt
      clear hcell hp' hp
      go_wp2_with (go_at_call 17; refine (hear_c x y k _).mono ?_; rintro _ w2 ⟨rfl, hb2⟩; have G2 := (B2.alloc (.cells #[.int .i64 (x k), .int .i64 (y k)] 28)).stays hb2; have G3 := (B3.alloc (.cells #[.int .i64 (x k), .int .i64 (y k)] 28)).stays hb2; have GB := (HB.alloc HB.size (.cells #[.int .i64 (x k), .int .i64 (y k)] 28)).trans (hb2.mono (by have := HB.size; simp; omega)); clear d0 d1 d2 e0 e1 e2 c0 c1 c2 f0 f1 f2; obtain ⟨c0, c1, c2, f0, f1, f2⟩ := G3.three)
      go_roundw
      case rel => exact ⟨k + 1, by omega, by go_num, G2.far3 (by omega) _ _ _, G3.set3 _ _ _, below_set3 GB (by omega) _ _ _⟩
      case measure => simp [intOf]; omega
    · have hkn : k = n := by omega
      subst hkn
      clear hp hp'
      go_wp2
      refine bodyPost_ret (results_cell_row rfl _ _ w.heap.size 25 #[.bool (kb k), .int .i64 (N x k), .int .i64 (D x y k)] (0, 0) _ rfl (B2.set3 _ _ _) Try.underlying25 rfl (by kernel_rfl)) rfl ?_
      exact ⟨rfl, below_set3 HB (by omega) _ _ _⟩

/-! ### Best -/
def bslot (x : Nat → Int) (k : Nat) : Int := if k = 0 then -1 else (bi x k : Int)
def gt (x : Nat → Int) (k : Nat) : Bool := decide (x (bi x k) < x k)
set_option maxHeartbeats 1000000 in
set_option maxRecDepth 100000 in
theorem best_c (A : Option Addr) (n c : Nat) (x y : Nat → Int) (w : World) (hn : n ≤ 1000) (hp : Pairs w A n x y) :
    Calls Try.prog 18 #[.slice A n c] w fun e w' => e = .returned (.int .i64 (bslot x n)) ∧ ∃ m, w' = w.drewN m := by
  go_enter Try.func18, Try.ntmps18
  go_wp2_with fail
  go_loopw [3, 4] (fun v3 v4 wr => ∃ k : Nat, k ≤ n ∧ v4 = .int .i64 k ∧ v3 = .int .i64 (bslot x k) ∧ ∃ m, wr = w.drewN m)
    (fun _ v4 _ => n - (intOf v4).toNat)
  case atStart => exact ⟨0, Nat.zero_le _, rfl, rfl, 0, rfl⟩
  case round =>
    obtain ⟨k, hk, rfl, rfl, m, rfl⟩ := hrel
    by_cases hlt : k < n
    · obtain ⟨b, off, rfl, hb, hcell⟩ := hp (by omega)
      obtain ⟨p0, p1⟩ := hcell k hlt
      by_cases h0 : k = 0
      · subst h0
        have hbs : bslot x 0 = -1 := rfl
        clear hcell hp
        rw [hbs]
        go_wp2_with fail
        go_quiet (fail)
        go_wp2
        go_roundw
        case rel => exact ⟨1, by omega, rfl, rfl, _, rfl⟩
        case measure => simp [intOf]; omega
      · have hbs : bslot x k = (bi x k : Int) := if_neg h0
        have hbl := bi_lt (x := x) (k := k) (by omega)
        obtain ⟨q0, q1⟩ := hcell (bi x k) (by omega)
        rw [hbs]
        have h1 : bslot x (k + 1) = if x (bi x k) < x k then (k : Int) else (bi x k : Int) := by
          unfold bslot
          rw [if_neg (by omega)]
          simp only [bi]
          rw [if_neg h0]
          split <;> rfl
        clear hcell hp hbs
        have H1 := Lib.hid h1
        have HB := Lib.hid hbl
        have hd : decide (((bi x k : Nat) : Int) < 0) = false := by simp
        have hb0 : (0 : Int) ≤ ((bi x k : Nat) : Int) := Int.natCast_nonneg _
        have hb1 : ((bi x k : Nat) : Int) < (n : Int) := by omega
        have hk0 : (0 : Int) ≤ (k : Int) := Int.natCast_nonneg _
        have hk1 : (k : Int) < (n : Int) := by omega
        clear h1 hbl
        by_cases hx : x (bi x k) < x k
        · go_wp2_with fail
          go_quiet (fail)
          go_wp2
          go_roundw
          case rel => exact ⟨k + 1, by omega, by go_num, by rw [H1.out, if_pos hx], _, rfl⟩
          case measure => simp [intOf]; omega
        · go_wp2_with fail
          go_quiet (fail)
          go_wp2
          go_roundw
          case rel => exact ⟨k + 1, by omega, by go_num, by rw [H1.out, if_neg (by omega)], _, rfl⟩
          case measure => simp [intOf]; omega
    · have hkn : k = n := by omega
      subst hkn
      go_wp2
      go_ret
      exact ⟨rfl, m, rfl⟩

/-! ### places compared; the page's example -/
theorem eqA25 (d : Nat) (w : World) (x0 y0 : Bool) (x1 y1 : Int) (x2 y2 : Int) :
    (Op.equalIn (d + 2) 25 (.agg #[.bool x0, .int .i64 x1, .int .i64 x2]) (.agg #[.bool y0, .int .i64 y1, .int .i64 y2])).run Try.prog w = .ok (x0 == y0 && (x1 == y1 && (x2 == y2))) w := by
  refine Go.Proofs.YtagciaanfjllnaaW.PrintWords.eqA_of Try.underlying25 (by kernel_rfl) ?_
  refine Go.Proofs.YtagciaanfjllnaaW.PrintWords.eqf_cons (by rfl) (by go_simp; rfl) (by go_simp; rfl) (by go_simp) ?_
  refine Go.Proofs.YtagciaanfjllnaaW.PrintWords.eqf_cons (by rfl) (by go_simp; rfl) (by go_simp; rfl) (by go_simp) ?_
  exact Go.Proofs.YtagciaanfjllnaaW.PrintWords.eqf_last (by rfl) (by go_simp; rfl) (by go_simp; rfl) (by go_simp)

def ex1 (i : Nat) : Int := [1, 3, 2].getD i 0
def ex2 (i : Nat) : Int := [10, 30, 20].getD i 0
theorem pairs_ex (w : World) (t : TypeId) : Pairs (w.alloc (.cells #[.int .i64 1, .int .i64 10, .int .i64 3, .int .i64 30, .int .i64 2, .int .i64 20] t)) (some ⟨w.heap.size, 0, none⟩) 3 ex1 ex2 := by
  intro _
  have hB := Blk.new w t #[.int .i64 1, .int .i64 10, .int .i64 3, .int .i64 30, .int .i64 2, .int .i64 20]
  refine ⟨w.heap.size, 0, rfl, by simp, fun i hi => ?_⟩
  match i, hi with
  | 0, _ => exact ⟨hB.cell 0, hB.cell 1⟩
  | 1, _ => exact ⟨hB.cell 2, hB.cell 3⟩
  | 2, _ => exact ⟨hB.cell 4, hB.cell 5⟩

attribute [local go_sem high] eqA25
set_option maxHeartbeats 1000000 in
set_option maxRecDepth 100000 in
theorem awake_c (w : World) : Calls Try.prog 16 #[] w fun e w' => e = .returned (.bool true) ∧ Below w.heap.size w w' := by
  have e0 : kb 3 = true := rfl
  have e1 : N ex1 3 = 3 := by decide
  have e2 : D ex1 ex2 3 = 30 := by decide
  have hall := fun w A hp => all_c A 3 3 ex1 ex2 w (by omega) hp
  rw [e0, e1, e2] at hall
  go_enter Try.func16, Try.ntmps16
  go_wp2_with fail
  refine (hall _ _ (pairs_ex w 28)).mono ?_
  rintro _ w' ⟨rfl, hb⟩
  go_wp2
  go_ret
  exact ⟨rfl, ((Below.refl _ _).alloc (Nat.le_refl _) _).trans (hb.mono (by simp))⟩
end Go.Proofs.Ytagciaanfjllnaa.Roam
