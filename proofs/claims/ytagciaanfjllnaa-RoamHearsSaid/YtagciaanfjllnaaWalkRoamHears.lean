/- RoamHears, the walk: whatever the slice of pairs, the call returns true and changes no old memory. -/
import Derived.Test.YtagciaanfjllnaaRoamParts
import Derived.Deep.RegionHeld3
import Derived.Deep.DrawnRows
import Derived.Deep.DeepCutAuto
import Derived.Test.YtagciaanfjllnaaRegion
import Derived.IntWalk
namespace Go.Proofs.Ytagciaanfjllnaa.Walk
open Go.RowKit Go.Proofs.Ytagciaanfjllnaa.Base Go.Proofs.Ytagciaanfjllnaa.Opens Go.Proofs.Ytagciaanfjllnaa.Roam Go.Proofs.Ytagciaanfjllnaa.Reg
set_option linter.unusedVariables false
attribute [local go_sem high] eqA25
attribute [local go_sem ↓] Go.wp_at_zero Go.wp_at_succ

set_option maxHeartbeats 1000000 in
set_option maxRecDepth 100000 in
theorem hears_long (A : Option Addr) (n c : Nat) (W : World) (hm : n ≤ maxLen) (h : 60 < n) :
    Calls Try.prog 3 #[.slice A n c] W fun e w' => e = .returned (.bool true) ∧ Below W.heap.size W w' := by
  unfold maxLen at hm
  go_enter Try.func3, Try.ntmps3
  go_wp2_with (go_at_call 16; refine (awake_c _).mono ?_; rintro _ w1 ⟨rfl, hb⟩)
  go_ret
  exact ⟨rfl, hb⟩

theorem best_b (A : Option Addr) (n c : Nat) (x y : Nat → Int) (w : World) (hn : n ≤ 1000) (hp : Pairs w A n x y) :
    Calls Try.prog 18 #[.slice A n c] w fun e w' => e = .returned (.int .i64 (bslot x n)) ∧ Below w.heap.size w w' := by
  refine (best_c A n c x y w hn hp).mono ?_
  rintro e w' ⟨rfl, m, rfl⟩
  exact ⟨rfl, Joins.below_draws _ _ _⟩
theorem pair_at {w : World} {b off n i : Nat} {x y : Nat → Int} (h : Pairs w (some ⟨b, off, none⟩) n x y) (hi : i < n) :
    b < w.heap.size ∧ w.cell? ⟨b, off + i * 2, none⟩ = some (.int .i64 (x i)) ∧ w.cell? ⟨b, off + i * 2 + 1, none⟩ = some (.int .i64 (y i)) := by
  obtain ⟨b', off', e, hh, hcc⟩ := h (by omega)
  injection e with e
  injection e with e1 e2 e3
  subst e1 e2
  exact ⟨hh, hcc i hi⟩
theorem T_of {W w : World} {g3 g5 g7 n : Nat} {A : Option Addr} {x y : Nat → Int} {a b c a' b' c' u v : Value} (hB : Below W.heap.size W w) (h3 : Blk w g3 25 #[a, b, c]) (h5 : Blk w g5 25 #[a', b', c']) (h7 : Blk w g7 28 #[u, v]) (hp : Pairs w A n x y) :
    Below W.heap.size W (w) ∧ Blk (w) g3 25 #[a, b, c] ∧ Blk (w) g5 25 #[a', b', c'] ∧ Blk (w) g7 28 #[u, v] ∧ Pairs (w) A n x y ∧
      ((w).cell? ⟨g3, 0, none⟩ = some a ∧ (w).cell? ⟨g3, 1, none⟩ = some b ∧ (w).cell? ⟨g3, 2, none⟩ = some c) ∧
      ((w).cell? ⟨g5, 0, none⟩ = some a' ∧ (w).cell? ⟨g5, 1, none⟩ = some b' ∧ (w).cell? ⟨g5, 2, none⟩ = some c') ∧
      (w).cell? ⟨g7, 0, none⟩ = some u ∧ (w).cell? ⟨g7, 1, none⟩ = some v :=
  ⟨hB, h3, h5, h7, hp, ⟨h3.cell 0, h3.cell 1, h3.cell 2⟩, ⟨h5.cell 0, h5.cell 1, h5.cell 2⟩, h7.cell 0, h7.cell 1⟩
theorem T_drew {W w : World} {g3 g5 g7 n : Nat} {A : Option Addr} {x y : Nat → Int} {a b c a' b' c' u v : Value} (h : Below W.heap.size W (w) ∧ Blk (w) g3 25 #[a, b, c] ∧ Blk (w) g5 25 #[a', b', c'] ∧ Blk (w) g7 28 #[u, v] ∧ Pairs (w) A n x y ∧
      ((w).cell? ⟨g3, 0, none⟩ = some a ∧ (w).cell? ⟨g3, 1, none⟩ = some b ∧ (w).cell? ⟨g3, 2, none⟩ = some c) ∧
      ((w).cell? ⟨g5, 0, none⟩ = some a' ∧ (w).cell? ⟨g5, 1, none⟩ = some b' ∧ (w).cell? ⟨g5, 2, none⟩ = some c') ∧
      (w).cell? ⟨g7, 0, none⟩ = some u ∧ (w).cell? ⟨g7, 1, none⟩ = some v) :
    Below W.heap.size W (w.drew) ∧ Blk (w.drew) g3 25 #[a, b, c] ∧ Blk (w.drew) g5 25 #[a', b', c'] ∧ Blk (w.drew) g7 28 #[u, v] ∧ Pairs (w.drew) A n x y ∧
      ((w.drew).cell? ⟨g3, 0, none⟩ = some a ∧ (w.drew).cell? ⟨g3, 1, none⟩ = some b ∧ (w.drew).cell? ⟨g3, 2, none⟩ = some c) ∧
      ((w.drew).cell? ⟨g5, 0, none⟩ = some a' ∧ (w.drew).cell? ⟨g5, 1, none⟩ = some b' ∧ (w.drew).cell? ⟨g5, 2, none⟩ = some c') ∧
      (w.drew).cell? ⟨g7, 0, none⟩ = some u ∧ (w.drew).cell? ⟨g7, 1, none⟩ = some v :=
  T_of h.1.drew h.2.1.drew h.2.2.1.drew h.2.2.2.1.drew h.2.2.2.2.1
theorem T_stays {W w w' : World} {g3 g5 g7 n : Nat} {A : Option Addr} {x y : Nat → Int} {a b c a' b' c' u v : Value} (h : Below w.heap.size w w') (hB : Below W.heap.size W w) (h3 : Blk w g3 25 #[a, b, c]) (h5 : Blk w g5 25 #[a', b', c']) (h7 : Blk w g7 28 #[u, v]) (hp : Pairs w A n x y) :
    Below W.heap.size W (w') ∧ Blk (w') g3 25 #[a, b, c] ∧ Blk (w') g5 25 #[a', b', c'] ∧ Blk (w') g7 28 #[u, v] ∧ Pairs (w') A n x y ∧
      ((w').cell? ⟨g3, 0, none⟩ = some a ∧ (w').cell? ⟨g3, 1, none⟩ = some b ∧ (w').cell? ⟨g3, 2, none⟩ = some c) ∧
      ((w').cell? ⟨g5, 0, none⟩ = some a' ∧ (w').cell? ⟨g5, 1, none⟩ = some b' ∧ (w').cell? ⟨g5, 2, none⟩ = some c') ∧
      (w').cell? ⟨g7, 0, none⟩ = some u ∧ (w').cell? ⟨g7, 1, none⟩ = some v :=
  T_of (hB.trans (h.mono hB.size)) (h3.stays h) (h5.stays h) (h7.stays h) (pairs_stays hp h)

theorem SR_of {W w : World} {g3 bb o1 o2 : Nat} {a b c u v : Value} (hB : Below W.heap.size W w) (h3 : Blk w g3 25 #[a, b, c]) (hu : w.cell? ⟨bb, o1, none⟩ = some u) (hv : w.cell? ⟨bb, o2, none⟩ = some v) (hb : bb < w.heap.size) (hg : g3 < w.heap.size) :
    Below W.heap.size W (w) ∧ Blk (w) g3 25 #[a, b, c] ∧ (bb < (w).heap.size ∧ g3 < (w).heap.size) ∧
      ((w).cell? ⟨g3, 0, none⟩ = some a ∧ (w).cell? ⟨g3, 1, none⟩ = some b ∧ (w).cell? ⟨g3, 2, none⟩ = some c) ∧
      (w).cell? ⟨bb, o1, none⟩ = some u ∧ (w).cell? ⟨bb, o2, none⟩ = some v :=
  ⟨hB, h3, ⟨hb, hg⟩, ⟨h3.cell 0, h3.cell 1, h3.cell 2⟩, hu, hv⟩
theorem SR_drew {W w : World} {g3 bb o1 o2 : Nat} {a b c u v : Value} (h : Below W.heap.size W (w) ∧ Blk (w) g3 25 #[a, b, c] ∧ (bb < (w).heap.size ∧ g3 < (w).heap.size) ∧
      ((w).cell? ⟨g3, 0, none⟩ = some a ∧ (w).cell? ⟨g3, 1, none⟩ = some b ∧ (w).cell? ⟨g3, 2, none⟩ = some c) ∧
      (w).cell? ⟨bb, o1, none⟩ = some u ∧ (w).cell? ⟨bb, o2, none⟩ = some v) :
    Below W.heap.size W (w.drew) ∧ Blk (w.drew) g3 25 #[a, b, c] ∧ (bb < (w.drew).heap.size ∧ g3 < (w.drew).heap.size) ∧
      ((w.drew).cell? ⟨g3, 0, none⟩ = some a ∧ (w.drew).cell? ⟨g3, 1, none⟩ = some b ∧ (w.drew).cell? ⟨g3, 2, none⟩ = some c) ∧
      (w.drew).cell? ⟨bb, o1, none⟩ = some u ∧ (w.drew).cell? ⟨bb, o2, none⟩ = some v :=
  SR_of h.1.drew h.2.1.drew h.2.2.2.2.1 h.2.2.2.2.2 h.2.2.1.1 h.2.2.1.2
theorem SR_stays {W w w' : World} {g3 bb o1 o2 : Nat} {a b c u v : Value} (h : Below w.heap.size w w') (hB : Below W.heap.size W w) (h3 : Blk w g3 25 #[a, b, c]) (hb : bb < w.heap.size) (hg : g3 < w.heap.size) (hu : w.cell? ⟨bb, o1, none⟩ = some u) (hv : w.cell? ⟨bb, o2, none⟩ = some v) :
    Below W.heap.size W (w') ∧ Blk (w') g3 25 #[a, b, c] ∧ (bb < (w').heap.size ∧ g3 < (w').heap.size) ∧
      ((w').cell? ⟨g3, 0, none⟩ = some a ∧ (w').cell? ⟨g3, 1, none⟩ = some b ∧ (w').cell? ⟨g3, 2, none⟩ = some c) ∧
      (w').cell? ⟨bb, o1, none⟩ = some u ∧ (w').cell? ⟨bb, o2, none⟩ = some v :=
  SR_of (hB.trans (h.mono hB.size)) (h3.stays h) ((h.cell (p := ⟨bb, _, none⟩) hb).trans hu) ((h.cell (p := ⟨bb, _, none⟩) hb).trans hv) (Nat.lt_of_lt_of_le hb h.size) (Nat.lt_of_lt_of_le hg h.size)
theorem SR_alloc {W w : World} {g3 bb o1 o2 : Nat} {a b c u v : Value} {o : Obj} (hB : Below W.heap.size W w) (h3 : Blk w g3 25 #[a, b, c]) (hb : bb < w.heap.size) (hg : g3 < w.heap.size) (hu : w.cell? ⟨bb, o1, none⟩ = some u) (hv : w.cell? ⟨bb, o2, none⟩ = some v) :
    Below W.heap.size W (w.alloc o) ∧ Blk (w.alloc o) g3 25 #[a, b, c] ∧ (bb < (w.alloc o).heap.size ∧ g3 < (w.alloc o).heap.size) ∧
      ((w.alloc o).cell? ⟨g3, 0, none⟩ = some a ∧ (w.alloc o).cell? ⟨g3, 1, none⟩ = some b ∧ (w.alloc o).cell? ⟨g3, 2, none⟩ = some c) ∧
      (w.alloc o).cell? ⟨bb, o1, none⟩ = some u ∧ (w.alloc o).cell? ⟨bb, o2, none⟩ = some v :=
  SR_stays ((Below.refl _ _).alloc (Nat.le_refl _) o) hB h3 hb hg hu hv

theorem SR_re {W wr w' : World} {g3 bb o1 o2 : Nat} {a b c u v : Value} {o : Obj} (h : Below wr.drew.heap.size wr.drew w') (hB : Below W.heap.size W wr) (h3 : Blk wr g3 25 #[a, b, c]) (hb : bb < wr.heap.size) (hg : g3 < wr.heap.size) (hu : wr.cell? ⟨bb, o1, none⟩ = some u) (hv : wr.cell? ⟨bb, o2, none⟩ = some v) :
    Below W.heap.size W (w'.alloc o) ∧ Blk (w'.alloc o) g3 25 #[a, b, c] ∧ (bb < (w'.alloc o).heap.size ∧ g3 < (w'.alloc o).heap.size) ∧
      ((w'.alloc o).cell? ⟨g3, 0, none⟩ = some a ∧ (w'.alloc o).cell? ⟨g3, 1, none⟩ = some b ∧ (w'.alloc o).cell? ⟨g3, 2, none⟩ = some c) ∧
      (w'.alloc o).cell? ⟨bb, o1, none⟩ = some u ∧ (w'.alloc o).cell? ⟨bb, o2, none⟩ = some v := by
  have h' : Below wr.heap.size wr w' := ⟨h.os, h.tape, h.output, h.size, h.block⟩
  exact SR_stays (h'.alloc h'.size o) hB h3 hb hg hu hv
theorem SR_set3 {W wr w : World} {g3 g5 bb o1 o2 : Nat} {a b c u v z0 z1 z2 : Value} (hB : Below W.heap.size W w) (h3 : Blk w g3 25 #[a, b, c]) (hb : bb < w.heap.size) (hg : g3 < w.heap.size) (hu : w.cell? ⟨bb, o1, none⟩ = some u) (hv : w.cell? ⟨bb, o2, none⟩ = some v)
    (he : g5 = wr.heap.size) (hW : Below W.heap.size W wr) (hbr : bb < wr.heap.size) (hgr : g3 < wr.heap.size) :
    Below W.heap.size W ((((w.setCell ⟨g5, 0, none⟩ z0).setCell ⟨g5, 1, none⟩ z1).setCell ⟨g5, 2, none⟩ z2)) ∧ Blk ((((w.setCell ⟨g5, 0, none⟩ z0).setCell ⟨g5, 1, none⟩ z1).setCell ⟨g5, 2, none⟩ z2)) g3 25 #[a, b, c] ∧ (bb < ((((w.setCell ⟨g5, 0, none⟩ z0).setCell ⟨g5, 1, none⟩ z1).setCell ⟨g5, 2, none⟩ z2)).heap.size ∧ g3 < ((((w.setCell ⟨g5, 0, none⟩ z0).setCell ⟨g5, 1, none⟩ z1).setCell ⟨g5, 2, none⟩ z2)).heap.size) ∧
      (((((w.setCell ⟨g5, 0, none⟩ z0).setCell ⟨g5, 1, none⟩ z1).setCell ⟨g5, 2, none⟩ z2)).cell? ⟨g3, 0, none⟩ = some a ∧ ((((w.setCell ⟨g5, 0, none⟩ z0).setCell ⟨g5, 1, none⟩ z1).setCell ⟨g5, 2, none⟩ z2)).cell? ⟨g3, 1, none⟩ = some b ∧ ((((w.setCell ⟨g5, 0, none⟩ z0).setCell ⟨g5, 1, none⟩ z1).setCell ⟨g5, 2, none⟩ z2)).cell? ⟨g3, 2, none⟩ = some c) ∧
      ((((w.setCell ⟨g5, 0, none⟩ z0).setCell ⟨g5, 1, none⟩ z1).setCell ⟨g5, 2, none⟩ z2)).cell? ⟨bb, o1, none⟩ = some u ∧ ((((w.setCell ⟨g5, 0, none⟩ z0).setCell ⟨g5, 1, none⟩ z1).setCell ⟨g5, 2, none⟩ z2)).cell? ⟨bb, o2, none⟩ = some v := by
  subst he
  have hne : bb ≠ wr.heap.size := by omega
  refine SR_of (below_set3 hB hW.size _ _ _) (h3.far3 (by omega) _ _ _) ?_ ?_ (by simpa using hb) (by simpa using hg)
  · rw [World.cell?_setCell_other _ _ _ _ (fun e => by injection e with e1; exact hne e1.symm), World.cell?_setCell_other _ _ _ _ (fun e => by injection e with e1; exact hne e1.symm), World.cell?_setCell_other _ _ _ _ (fun e => by injection e with e1; exact hne e1.symm)]; exact hu
  · rw [World.cell?_setCell_other _ _ _ _ (fun e => by injection e with e1; exact hne e1.symm), World.cell?_setCell_other _ _ _ _ (fun e => by injection e with e1; exact hne e1.symm), World.cell?_setCell_other _ _ _ _ (fun e => by injection e with e1; exact hne e1.symm)]; exact hv
theorem blk_of_alloc {w w' : World} {t : TypeId} {cs : Array Value} (hb : Below (w.alloc (.cells cs t)).heap.size (w.alloc (.cells cs t)) w') : Blk w' w.heap.size t cs := (Blk.new w t cs).stays hb

theorem blk_of_alloc' {w w' : World} {t : TypeId} {cs : Array Value} (hb : Below (w.alloc (.cells cs t)).drew.heap.size (w.alloc (.cells cs t)).drew w') : Blk w' w.heap.size t cs := ((Blk.new w t cs).drew).stays hb

theorem ends_a {W wr w' : World} {g3 : Nat} {cs ds : Array Value} {b : Bool} (hb : Below wr.drew.heap.size wr.drew w') (hB : Below W.heap.size W wr) (h3 : Blk wr g3 25 cs) (hlt : g3 < wr.heap.size) :
    ∃ g : Nat, Value.pointer (some ⟨w'.heap.size, 0, none⟩) = .pointer (some ⟨g, 0, none⟩) ∧ Value.bool b = .bool b ∧ g ≠ g3 ∧ Blk (w'.alloc (.cells ds 25)) g 25 ds ∧ Blk (w'.alloc (.cells ds 25)) g3 25 cs ∧ Below W.heap.size W (w'.alloc (.cells ds 25)) := by
  have h' : Below wr.heap.size wr w' := ⟨hb.os, hb.tape, hb.output, hb.size, hb.block⟩
  have := h'.size
  exact ⟨_, rfl, rfl, by omega, Blk.new _ _ _, (h3.stays h').alloc _, (hB.trans (h'.mono hB.size)).alloc (by have := hB.size; omega) _⟩
theorem ends_b {W wr w' : World} {g3 : Nat} {cs : Array Value} {a0 b0 c0 a b c : Value} {q : Bool} (hb : Below (wr.alloc (.cells #[a0, b0, c0] 25)).drew.heap.size (wr.alloc (.cells #[a0, b0, c0] 25)).drew w') (hB : Below W.heap.size W wr) (h3 : Blk wr g3 25 cs) (hlt : g3 < wr.heap.size) :
    ∃ g : Nat, Value.pointer (some ⟨wr.heap.size, 0, none⟩) = .pointer (some ⟨g, 0, none⟩) ∧ Value.bool q = .bool q ∧ g ≠ g3 ∧ Blk (((w'.setCell ⟨wr.heap.size, 0, none⟩ a).setCell ⟨wr.heap.size, 1, none⟩ b).setCell ⟨wr.heap.size, 2, none⟩ c) g 25 #[a, b, c] ∧
      Blk (((w'.setCell ⟨wr.heap.size, 0, none⟩ a).setCell ⟨wr.heap.size, 1, none⟩ b).setCell ⟨wr.heap.size, 2, none⟩ c) g3 25 cs ∧ Below W.heap.size W (((w'.setCell ⟨wr.heap.size, 0, none⟩ a).setCell ⟨wr.heap.size, 1, none⟩ b).setCell ⟨wr.heap.size, 2, none⟩ c) := by
  have h' : Below (wr.alloc (.cells #[a0, b0, c0] 25)).heap.size (wr.alloc (.cells #[a0, b0, c0] 25)) w' := ⟨hb.os, hb.tape, hb.output, hb.size, hb.block⟩
  have hB' := hB.alloc hB.size (.cells #[a0, b0, c0] 25)
  exact ⟨_, rfl, rfl, by omega, (blk_of_alloc h').set3 _ _ _, ((h3.alloc _).stays h').far3 (by omega) _ _ _, below_set3 (hB'.trans (h'.mono hB'.size)) hB.size _ _ _⟩

set_option maxHeartbeats 20000000 in
set_option maxRecDepth 100000 in
theorem hears (A : Option Addr) (n c : Nat) (x y : Nat → Int) (W : World) (hc : n ≤ c) (hm : c ≤ maxLen) (h : n ≤ 60) (hp : Pairs W A n x y) :
    Calls Try.prog 3 #[.slice A n c] W fun e w' => e = .returned (.bool true) ∧ Below W.heap.size W w' := by
  unfold maxLen at hm
  go_enter Try.func3, Try.ntmps3
  go_wp2_with (go_at_call 16; refine (awake_c _).mono ?_; rintro _ w1 ⟨rfl, hb⟩)
  have hw1 := hb.size
  have B3 := Blk.new w1 25 #[.bool false, .int .i64 0, .int .i64 0]
  have HB := hb.alloc hb.size (.cells #[.bool false, .int .i64 0, .int .i64 0] 25)
  clear hb
  go_loopw [4, 5, 6, 7] (fun v4 v5 v6 v7 wr => ∃ k : Nat, k ≤ n ∧ v4 = .int .i64 k ∧ Blk wr w1.heap.size 25 #[.bool (kb k), .int .i64 (N x k), .int .i64 (D x y k)] ∧ Below W.heap.size W wr)
    (fun v4 _ _ _ _ => n - (intOf v4).toNat)
  case atStart => exact ⟨0, Nat.zero_le _, rfl, B3, HB⟩
  case round =>
    clear B3 HB
    obtain ⟨k, hk, rfl, B3, HB⟩ := hrel
    obtain ⟨c0, c1, c2, f0, f1, f2⟩ := B3.three
    have hp' := pairs_stays hp HB
    have hlt3 := B3.lt
    by_cases hlt : k < n
    · obtain ⟨b, off, rfl, hb, hcell⟩ := hp' (by omega)
      have hk0 : (0 : Int) ≤ (k : Int) := Int.natCast_nonneg _
      have hk1 : (k : Int) < (n : Int) := by omega
      obtain ⟨p0, p1⟩ := hcell k hlt
      have S0 := SR_of HB B3 p0 p1 hb hlt3
      have hbz := hb
      have hu0 := p0
      have hv0 := p1
      clear hcell p0 p1 c0 c1 c2 f0 f1 f2
      go_upto_region 9 with (fail)
      go_cut [5, 6] (fun s5 s6 wx => ∃ g : Nat, s5 = .pointer (some ⟨g, 0, none⟩) ∧ s6 = .bool (mv x y k) ∧ g ≠ w1.heap.size ∧ Blk wx g 25 #[.bool (kb (k + 1)), .int .i64 (N x (k + 1)), .int .i64 (D x y (k + 1))] ∧ Blk wx w1.heap.size 25 #[.bool (kb k), .int .i64 (N x k), .int .i64 (D x y k)] ∧ Below W.heap.size W wx)
      case first =>
        go_region_held3 (fun w' => Below W.heap.size W w' ∧ Blk w' w1.heap.size 25 #[.bool (kb k), .int .i64 (N x k), .int .i64 (D x y k)] ∧ (b < w'.heap.size ∧ w1.heap.size < w'.heap.size) ∧
            (w'.cell? ⟨w1.heap.size, 0, none⟩ = some (.bool (kb k)) ∧ w'.cell? ⟨w1.heap.size, 1, none⟩ = some (.int .i64 (N x k)) ∧ w'.cell? ⟨w1.heap.size, 2, none⟩ = some (.int .i64 (D x y k))) ∧
            w'.cell? ⟨b, off + k * 2, none⟩ = some (.int .i64 (x k)) ∧ w'.cell? ⟨b, off + k * 2 + 1, none⟩ = some (.int .i64 (y k)))
          (first | exact S0 | exact SR_drew S0 | (go_split_ands; apply SR_alloc; all_goals assumption) | (go_split_ands; apply SR_stays; all_goals assumption) | exact SR_drew (SR_alloc HB B3 hbz hlt3 hu0 hv0) | (apply SR_re hb HB B3 hbz hlt3 hu0 hv0) | (go_split_ands; apply SR_set3 (wr := wr); all_goals first | assumption | rfl))
          (first | (go_at_call 17; refine (hear_c x y k _).mono ?_; rintro _ w' ⟨rfl, hb⟩; (first | (have G5 : Blk w' wr.heap.size 25 #[.bool false, .int .i64 0, .int .i64 0] := (by first | exact blk_of_alloc hb | exact blk_of_alloc' hb); obtain ⟨q0, q1, q2, r0, r1, r2⟩ := G5.three) | skip)))
        all_goals (go_wp2_with fail; go_meet; (first | exact ends_a hb HB B3 hlt3 | exact ends_b hb HB B3 hlt3))
      case rest =>
        clear S0 HB B3 hlt3 hp' hu0 hv0
        obtain ⟨g5, rfl, rfl, hg, B5, B3, HB⟩ := hcut
        have hp2 := pairs_stays hp HB
        have hbest := fun (w : World) (hq : Pairs w (some ⟨b, off, none⟩) n x y) => best_b (some ⟨b, off, none⟩) (k + 1) c x y w (by omega) (pairs_cut (m := k + 1) hq (by omega))
        have hall := fun (w : World) (hq : Pairs w (some ⟨b, off, none⟩) n x y) => all_c (some ⟨b, off, none⟩) (k + 1) c x y w (by omega) (pairs_cut (m := k + 1) hq (by omega))
        have hbs : bslot x (k + 1) = ((bi x (k + 1) : Nat) : Int) := if_neg (by omega)
        have hkb1 : kb (k + 1) = true := by unfold kb; simp
        have hN : N x (k + 1) = x (bi x (k + 1)) := if_neg (by omega)
        have hD : D x y (k + 1) = y (bi x (k + 1)) := if_neg (by omega)
        have HK := Lib.hid hkb1
        have HN := Lib.hid hN
        have HD := Lib.hid hD
        rw [hbs] at hbest
        rw [hkb1, hN, hD] at hall B5
        have hbi : bi x (k + 1) < k + 1 := bi_lt (by omega)
        have hbi0 : (0 : Int) ≤ ((bi x (k + 1) : Nat) : Int) := Int.natCast_nonneg _
        have hbi1 : ((bi x (k + 1) : Nat) : Int) < (n : Int) := by omega
        have hcut : (k : Int) + 1 ≤ (c : Int) := by omega
        clear hbs hkb1 hN
        by_cases h0 : k = 0
        · have hkb : kb k = false := by unfold kb; simp; omega
          have hmv : mv x y k = true := by unfold mv; rw [hkb]; rfl
          clear hD
          rw [hkb] at B3
          clear hkb h0
          go_wp2_with (go_at_call 18; refine (hbest _ hp2).mono ?_; rintro _ w2 ⟨rfl, hb2⟩; have G3 := B3.stays hb2; have G5 := B5.stays hb2; have GB := HB.trans (hb2.mono HB.size); obtain ⟨hz, q0, q1⟩ := pair_at (pairs_stays hp2 hb2) (show bi x (k + 1) < n by omega); have hz3 := G3.lt; have hz5 := G5.lt)
          have B7 := Blk.new w2 28 #[.int .i64 (x (bi x (k + 1))), .int .i64 (y (bi x (k + 1)))]
          have S1 := T_of (GB.alloc (by have := GB.size; omega) (.cells #[.int .i64 (x (bi x (k + 1))), .int .i64 (y (bi x (k + 1)))] 28)) (G3.alloc _) (G5.alloc _) B7 (pairs_alloc (pairs_stays hp2 hb2) _)
          clear hb2 G3 G5 GB q0 q1 B7 B3 B5 HB hp2
          have s1 : IntKind.i64.wrap ((k : Int) + 1) = (k : Int) + 1 := IntWalk.i64_in _ (by omega)
          have s2 : (0 : Int) ≤ (k : Int) + 1 := by omega
          have s3 : ((k : Int) + 1).toNat = k + 1 := by omega
          refine wp_region_held_drew (S := (fun w' => Below W.heap.size W w' ∧ Blk w' w1.heap.size 25 #[.bool false, .int .i64 (N x k), .int .i64 (D x y k)] ∧ Blk w' g5 25 #[.bool true, .int .i64 (x (bi x (k + 1))), .int .i64 (y (bi x (k + 1)))] ∧ Blk w' w2.heap.size 28 #[.int .i64 (x (bi x (k + 1))), .int .i64 (y (bi x (k + 1)))] ∧ Pairs w' (some ⟨b, off, none⟩) n x y ∧
              (w'.cell? ⟨w1.heap.size, 0, none⟩ = some (.bool false) ∧ w'.cell? ⟨w1.heap.size, 1, none⟩ = some (.int .i64 (N x k)) ∧ w'.cell? ⟨w1.heap.size, 2, none⟩ = some (.int .i64 (D x y k))) ∧
              (w'.cell? ⟨g5, 0, none⟩ = some (.bool true) ∧ w'.cell? ⟨g5, 1, none⟩ = some (.int .i64 (x (bi x (k + 1)))) ∧ w'.cell? ⟨g5, 2, none⟩ = some (.int .i64 (y (bi x (k + 1))))) ∧
              w'.cell? ⟨w2.heap.size, 0, none⟩ = some (.int .i64 (x (bi x (k + 1)))) ∧ w'.cell? ⟨w2.heap.size, 1, none⟩ = some (.int .i64 (y (bi x (k + 1)))))) (by kernel_rfl) (T_drew S1) (fun hHeld => ?_)
          refine takeH (i := 0) (N := some 42) (v := ?_) (a' := ?_) rfl rfl (by kernel_rfl) (by kernel_rfl) (by kernel_rfl) (fun _ _ _ h => h) (Or.inl ⟨by rfl, ?_⟩) hHeld ?_ ?_
          rotate_left
          · intro w' hSw
            go_split_ands
            go_simp
            with_reducible rfl
          rotate_left
          · simp only [Act.put, List.setIfInBounds_toArray, List.set_cons_zero, List.set_cons_succ]
            rfl
          refine takeH (i := 1) (N := some 43) (v := ?_) (a' := ?_) rfl rfl (by kernel_rfl) (by kernel_rfl) (by kernel_rfl) (fun _ _ _ h => h) (Or.inl ⟨by rfl, ?_⟩) hHeld ?_ ?_
          rotate_left
          · intro w' hSw
            clear hSw
            go_simp
            with_reducible rfl
          rotate_left
          · simp only [Act.put, List.setIfInBounds_toArray, List.set_cons_zero, List.set_cons_succ]
            rfl
          refine takeH (i := 2) (N := some 44) (v := ?_) (a' := ?_) rfl rfl (by kernel_rfl) (by kernel_rfl) (by kernel_rfl) (fun _ _ _ h => h) (Or.inl ⟨by rfl, ?_⟩) hHeld ?_ ?_
          rotate_left
          · intro w' hSw
            go_split_ands
            go_simp
            with_reducible rfl
          rotate_left
          · simp only [Act.put, List.setIfInBounds_toArray, List.set_cons_zero, List.set_cons_succ]
            rfl
          refine takeH (i := 3) (N := some 45) (v := ?_) (a' := ?_) rfl rfl (by kernel_rfl) (by kernel_rfl) (by kernel_rfl) (fun _ _ _ h => h) (Or.inl ⟨by rfl, ?_⟩) hHeld ?_ ?_
          rotate_left
          · intro w' hSw
            clear hSw
            go_simp
            with_reducible rfl
          rotate_left
          · simp only [Act.put, List.setIfInBounds_toArray, List.set_cons_zero, List.set_cons_succ]
            rfl
          refine takeH (i := 4) (N := some 46) (v := ?_) (a' := ?_) rfl rfl (by kernel_rfl) (by kernel_rfl) (by kernel_rfl) (fun _ _ _ h => h) (Or.inl ⟨by rfl, ?_⟩) hHeld ?_ ?_
          rotate_left
          · intro w' hSw
            go_split_ands
            go_simp
            with_reducible rfl
          rotate_left
          · simp only [Act.put, List.setIfInBounds_toArray, List.set_cons_zero, List.set_cons_succ]
            rfl
          refine takeH (i := 5) (N := some 47) (v := ?_) (a' := ?_) rfl rfl (by kernel_rfl) (by kernel_rfl) (by kernel_rfl) (fun _ _ _ h => h) (Or.inl ⟨by rfl, ?_⟩) hHeld ?_ ?_
          rotate_left
          · intro w' hSw
            clear hSw
            go_simp
            with_reducible rfl
          rotate_left
          · simp only [Act.put, List.setIfInBounds_toArray, List.set_cons_zero, List.set_cons_succ]
            rfl
          refine takeH (i := 6) (N := some 48) (v := ?_) (a' := ?_) rfl rfl (by kernel_rfl) (by kernel_rfl) (by kernel_rfl) (fun _ _ _ h => h) (Or.inl ⟨by rfl, ?_⟩) hHeld ?_ ?_
          rotate_left
          · intro w' hSw
            clear hSw
            go_simp
            with_reducible rfl
          rotate_left
          · simp only [Act.put, List.setIfInBounds_toArray, List.set_cons_zero, List.set_cons_succ]
            rfl
          refine takeH (i := 7) (N := some 49) (v := ?_) (a' := ?_) rfl rfl (by kernel_rfl) (by kernel_rfl) (by kernel_rfl) (fun _ _ _ h => h) (Or.inl ⟨by rfl, ?_⟩) hHeld ?_ ?_
          rotate_left
          · intro w' hSw
            clear hSw
            go_simp
            with_reducible rfl
          rotate_left
          · simp only [Act.put, List.setIfInBounds_toArray, List.set_cons_zero, List.set_cons_succ]
            rfl
          refine takeH (i := 8) (N := some 50) (v := ?_) (a' := ?_) rfl rfl (by kernel_rfl) (by kernel_rfl) (by kernel_rfl) (fun _ _ _ h => h) (Or.inl ⟨by rfl, ?_⟩) hHeld ?_ ?_
          rotate_left
          · intro w' hSw
            clear hSw
            go_simp
            with_reducible rfl
          rotate_left
          · simp only [Act.put, List.setIfInBounds_toArray, List.set_cons_zero, List.set_cons_succ]
            rfl
          refine takeH (i := 9) (N := some 51) (v := ?_) (a' := ?_) rfl rfl (by kernel_rfl) (by kernel_rfl) (by kernel_rfl) (fun _ _ _ h => h) (Or.inl ⟨by rfl, ?_⟩) hHeld ?_ ?_
          rotate_left
          · intro w' hSw
            clear hSw
            go_simp
            with_reducible rfl
          rotate_left
          · simp only [Act.put, List.setIfInBounds_toArray, List.set_cons_zero, List.set_cons_succ]
            rfl
          refine takeH (i := 10) (N := some 52) (v := ?_) (a' := ?_) rfl rfl (by kernel_rfl) (by kernel_rfl) (by kernel_rfl) (fun _ _ _ h => h) (Or.inl ⟨by rfl, ?_⟩) hHeld ?_ ?_
          rotate_left
          · intro w' hSw
            go_split_ands
            go_simp
            with_reducible rfl
          rotate_left
          · simp only [Act.put, List.setIfInBounds_toArray, List.set_cons_zero, List.set_cons_succ]
            rfl
          refine takeH (i := 11) (N := some 53) (v := ?_) (a' := ?_) rfl rfl (by kernel_rfl) (by kernel_rfl) (by kernel_rfl) (fun _ _ _ h => h) (Or.inl ⟨by rfl, ?_⟩) hHeld ?_ ?_
          rotate_left
          · intro w' hSw
            clear hSw
            go_simp
            with_reducible rfl
          rotate_left
          · simp only [Act.put, List.setIfInBounds_toArray, List.set_cons_zero, List.set_cons_succ]
            rfl
          refine takeH (i := 12) (N := some 54) (v := ?_) (a' := ?_) rfl rfl (by kernel_rfl) (by kernel_rfl) (by kernel_rfl) (fun _ _ _ h => h) (Or.inl ⟨by rfl, ?_⟩) hHeld ?_ ?_
          rotate_left
          · intro w' hSw
            clear hSw
            go_simp
            with_reducible rfl
          rotate_left
          · simp only [Act.put, List.setIfInBounds_toArray, List.set_cons_zero, List.set_cons_succ]
            rfl
          refine takeH (i := 13) (N := some 55) (v := undef) (a' := ?_) rfl rfl (by kernel_rfl) (by kernel_rfl) (by kernel_rfl) (fun _ _ _ h => h) (Or.inr ⟨by rfl, rfl⟩) hHeld ?_ ?_
          rotate_left
          · simp only [Act.put, List.setIfInBounds_toArray, List.set_cons_zero, List.set_cons_succ]
            rfl
          refine takeH (i := 14) (N := some 56) (v := undef) (a' := ?_) rfl rfl (by kernel_rfl) (by kernel_rfl) (by kernel_rfl) (fun _ _ _ h => h) (Or.inr ⟨by rfl, rfl⟩) hHeld ?_ ?_
          rotate_left
          · simp only [Act.put, List.setIfInBounds_toArray, List.set_cons_zero, List.set_cons_succ]
            rfl
          refine takeH (i := 15) (N := some 57) (v := undef) (a' := ?_) rfl rfl (by kernel_rfl) (by kernel_rfl) (by kernel_rfl) (fun _ _ _ h => h) (Or.inr ⟨by rfl, rfl⟩) hHeld ?_ ?_
          rotate_left
          · simp only [Act.put, List.setIfInBounds_toArray, List.set_cons_zero, List.set_cons_succ]
            rfl
          refine takeH (i := 16) (N := some 58) (v := undef) (a' := ?_) rfl rfl (by kernel_rfl) (by kernel_rfl) (by kernel_rfl) (fun _ _ _ h => h) (Or.inr ⟨by rfl, rfl⟩) hHeld ?_ ?_
          rotate_left
          · simp only [Act.put, List.setIfInBounds_toArray, List.set_cons_zero, List.set_cons_succ]
            rfl
          refine takeH (i := 17) (N := some 59) (v := undef) (a' := ?_) rfl rfl (by kernel_rfl) (by kernel_rfl) (by kernel_rfl) (fun _ _ _ h => h) (Or.inr ⟨by rfl, rfl⟩) hHeld ?_ ?_
          rotate_left
          · simp only [Act.put, List.setIfInBounds_toArray, List.set_cons_zero, List.set_cons_succ]
            rfl
          refine takeH (i := 18) (N := some 60) (v := ?_) (a' := ?_) rfl rfl (by kernel_rfl) (by kernel_rfl) (by kernel_rfl) (fun _ _ _ h => h) (Or.inl ⟨by rfl, ?_⟩) hHeld ?_ ?_
          rotate_left
          · intro w' hSw
            clear hSw
            go_simp
            with_reducible rfl
          rotate_left
          · simp only [Act.put, List.setIfInBounds_toArray, List.set_cons_zero, List.set_cons_succ]
            rfl
          refine takeH (i := 19) (N := some 61) (v := ?_) (a' := ?_) rfl rfl (by kernel_rfl) (by kernel_rfl) (by kernel_rfl) (fun _ _ _ h => h) (Or.inl ⟨by rfl, ?_⟩) hHeld ?_ ?_
          rotate_left
          · intro w' hSw
            clear hSw
            go_simp
            with_reducible rfl
          rotate_left
          · simp only [Act.put, List.setIfInBounds_toArray, List.set_cons_zero, List.set_cons_succ]
            rfl
          refine takeH (i := 20) (N := some 62) (v := ?_) (a' := ?_) rfl rfl (by kernel_rfl) (by kernel_rfl) (by kernel_rfl) (fun _ _ _ h => h) (Or.inl ⟨by rfl, ?_⟩) hHeld ?_ ?_
          rotate_left
          · intro w' hSw
            clear hSw
            go_simp
            with_reducible rfl
          rotate_left
          · simp only [Act.put, List.setIfInBounds_toArray, List.set_cons_zero, List.set_cons_succ]
            rfl
          refine takeH (i := 21) (N := some 63) (v := ?_) (a' := ?_) rfl rfl (by kernel_rfl) (by kernel_rfl) (by kernel_rfl) (fun _ _ _ h => h) (Or.inl ⟨by rfl, ?_⟩) hHeld ?_ ?_
          rotate_left
          · intro w' hSw
            clear hSw
            go_simp
            with_reducible rfl
          rotate_left
          · simp only [Act.put, List.setIfInBounds_toArray, List.set_cons_zero, List.set_cons_succ]
            rfl
          refine takeH (i := 22) (N := some 64) (v := ?_) (a' := ?_) rfl rfl (by kernel_rfl) (by kernel_rfl) (by kernel_rfl) (fun _ _ _ h => h) (Or.inl ⟨by rfl, ?_⟩) hHeld ?_ ?_
          rotate_left
          · intro w' hSw
            clear hSw
            go_simp
            with_reducible rfl
          rotate_left
          · simp only [Act.put, List.setIfInBounds_toArray, List.set_cons_zero, List.set_cons_succ]
            rfl
          refine takeH (i := 23) (N := some 65) (v := ?_) (a' := ?_) rfl rfl (by kernel_rfl) (by kernel_rfl) (by kernel_rfl) (fun _ _ _ h => h) (Or.inl ⟨by rfl, ?_⟩) hHeld ?_ ?_
          rotate_left
          · intro w' hSw
            clear hSw
            go_simp
            with_reducible rfl
          rotate_left
          · simp only [Act.put, List.setIfInBounds_toArray, List.set_cons_zero, List.set_cons_succ]
            rfl
          refine takeH (i := 24) (N := some 66) (v := ?_) (a' := ?_) rfl rfl (by kernel_rfl) (by kernel_rfl) (by kernel_rfl) (fun _ _ _ h => h) (Or.inl ⟨by rfl, ?_⟩) hHeld ?_ ?_
          rotate_left
          · intro w' hSw
            clear hSw
            go_simp
            with_reducible rfl
          rotate_left
          · simp only [Act.put, List.setIfInBounds_toArray, List.set_cons_zero, List.set_cons_succ]
            rfl
          refine takeH (i := 25) (N := some 67) (v := ?_) (a' := ?_) rfl rfl (by kernel_rfl) (by kernel_rfl) (by kernel_rfl) (fun _ _ _ h => h) (Or.inl ⟨by rfl, ?_⟩) hHeld ?_ ?_
          rotate_left
          · intro w' hSw
            clear hSw
            go_simp
            with_reducible rfl
          rotate_left
          · simp only [Act.put, List.setIfInBounds_toArray, List.set_cons_zero, List.set_cons_succ]
            rfl
          refine takeH (i := 27) (N := some 69) (v := ?_) (a' := ?_) rfl rfl (by kernel_rfl) (by kernel_rfl) (by kernel_rfl) (fun _ _ _ h => h) (Or.inl ⟨by rfl, ?_⟩) hHeld ?_ ?_
          rotate_left
          · intro w' hSw
            go_split_ands
            go_simp
            with_reducible rfl
          rotate_left
          · simp only [Act.put, List.setIfInBounds_toArray, List.set_cons_zero, List.set_cons_succ]
            rfl
          refine wpAnyH_ready (rs := [26]) (by kernel_rfl) (by simp) ?_
          refine AllReadyH.cons rfl (fun K hK => ?_) AllReadyH.nil
          go_simp
          refine (hall _ hHeld.2.2.2.2.1).mono ?_
          rintro _ w' ⟨rfl, hb⟩
          go_simp
          refine hK.out _ _ (T_stays hb hHeld.1 hHeld.2.1 hHeld.2.2.1 hHeld.2.2.2.1 hHeld.2.2.2.2.1) (fun hHeld => ?_)
          clear hK K
          refine takeH (i := 28) (N := some 70) (v := ?_) (a' := ?_) rfl rfl (by kernel_rfl) (by kernel_rfl) (by kernel_rfl) (fun _ _ _ h => h) (Or.inl ⟨by rfl, ?_⟩) hHeld ?_ ?_
          rotate_left
          · intro w' hSw
            clear hSw
            go_simp
            with_reducible rfl
          rotate_left
          · simp only [Act.put, List.setIfInBounds_toArray, List.set_cons_zero, List.set_cons_succ]
            rfl
          refine takeH (i := 29) (N := some 71) (v := ?_) (a' := ?_) rfl rfl (by kernel_rfl) (by kernel_rfl) (by kernel_rfl) (fun _ _ _ h => h) (Or.inl ⟨by rfl, ?_⟩) hHeld ?_ ?_
          rotate_left
          · intro w' hSw
            clear hSw
            go_simp
            with_reducible rfl
          rotate_left
          · simp only [Act.put, List.setIfInBounds_toArray, List.set_cons_zero, List.set_cons_succ]
            rfl
          refine wpAnyH_done (by kernel_rfl) ?_ _
          clear S1
          obtain ⟨KB, K3, K5, -⟩ := hHeld
          obtain ⟨c0, c1, c2, f0, f1, f2⟩ := K3.three
          obtain ⟨q0, q1, q2, -, -, -⟩ := K5.three
          go_wp2_with fail
          go_roundw
          case rel => exact ⟨k + 1, by omega, by go_num, by rw [HK.out, HN.out, HD.out]; exact K3.set3 _ _ _, below_set3 KB hw1 _ _ _⟩
          case measure => simp [intOf]; omega
        · have hkb : kb k = true := by unfold kb; simp; omega
          have hmv0 : mv x y k = !(y (bi x (k + 1)) == D x y k) := by unfold mv; rw [hkb, hD]; rfl
          clear hD
          rw [hkb] at B3
          clear hkb h0
          by_cases hq : y (bi x (k + 1)) = D x y k
          · have hmv : mv x y k = false := by rw [hmv0]; simp [hq]
            have hq1 : (y (bi x (k + 1)) == D x y k) = true := by simp [hq]
            have hq2 : (y (bi x (k + 1)) != D x y k) = false := by simp [hq]
            clear hmv0 hq
            go_wp2_with (go_at_call 18; refine (hbest _ hp2).mono ?_; rintro _ w2 ⟨rfl, hb2⟩; have G3 := B3.stays hb2; have G5 := B5.stays hb2; have GB := HB.trans (hb2.mono HB.size); obtain ⟨hz, q0, q1⟩ := pair_at (pairs_stays hp2 hb2) (show bi x (k + 1) < n by omega); have hz3 := G3.lt; have hz5 := G5.lt)
            have B7 := Blk.new w2 28 #[.int .i64 (x (bi x (k + 1))), .int .i64 (y (bi x (k + 1)))]
            have S1 := T_of (GB.alloc (by have := GB.size; omega) (.cells #[.int .i64 (x (bi x (k + 1))), .int .i64 (y (bi x (k + 1)))] 28)) (G3.alloc _) (G5.alloc _) B7 (pairs_alloc (pairs_stays hp2 hb2) _)
            clear hb2 G3 G5 GB q0 q1 B7 B3 B5 HB hp2
            have s1 : IntKind.i64.wrap ((k : Int) + 1) = (k : Int) + 1 := IntWalk.i64_in _ (by omega)
            have s2 : (0 : Int) ≤ (k : Int) + 1 := by omega
            have s3 : ((k : Int) + 1).toNat = k + 1 := by omega
            go_region_held3 (fun w' => Below W.heap.size W w' ∧ Blk w' w1.heap.size 25 #[.bool true, .int .i64 (N x k), .int .i64 (D x y k)] ∧ Blk w' g5 25 #[.bool true, .int .i64 (x (bi x (k + 1))), .int .i64 (y (bi x (k + 1)))] ∧ Blk w' w2.heap.size 28 #[.int .i64 (x (bi x (k + 1))), .int .i64 (y (bi x (k + 1)))] ∧ Pairs w' (some ⟨b, off, none⟩) n x y ∧
                (w'.cell? ⟨w1.heap.size, 0, none⟩ = some (.bool true) ∧ w'.cell? ⟨w1.heap.size, 1, none⟩ = some (.int .i64 (N x k)) ∧ w'.cell? ⟨w1.heap.size, 2, none⟩ = some (.int .i64 (D x y k))) ∧
                (w'.cell? ⟨g5, 0, none⟩ = some (.bool true) ∧ w'.cell? ⟨g5, 1, none⟩ = some (.int .i64 (x (bi x (k + 1)))) ∧ w'.cell? ⟨g5, 2, none⟩ = some (.int .i64 (y (bi x (k + 1))))) ∧
                w'.cell? ⟨w2.heap.size, 0, none⟩ = some (.int .i64 (x (bi x (k + 1)))) ∧ w'.cell? ⟨w2.heap.size, 1, none⟩ = some (.int .i64 (y (bi x (k + 1)))))
              (first | exact S1 | exact T_drew S1 | (go_split_ands; apply T_stays; all_goals assumption))
              (first | (go_at_call 19; refine (hall _ (by go_split_ands; assumption)).mono ?_; rintro _ w' ⟨rfl, hb⟩))
            clear S1
            go_split_ands
            have K3 := ‹Blk _ w1.heap.size 25 _›
            have K5 := ‹Blk _ g5 25 _›
            have KB := ‹Below W.heap.size W _›
            obtain ⟨-, -, -, f0, f1, f2⟩ := K3.three
            go_wp2_with fail
            go_roundw
            case rel => exact ⟨k + 1, by omega, by go_num, by rw [HK.out, HN.out, HD.out]; exact K3.set3 _ _ _, below_set3 KB hw1 _ _ _⟩
            case measure => simp [intOf]; omega
          · have hmv : mv x y k = true := by rw [hmv0]; simp [hq]
            have hq1 : (y (bi x (k + 1)) == D x y k) = false := by simp [hq]
            have hq2 : (y (bi x (k + 1)) != D x y k) = true := by simp [hq]
            clear hmv0 hq
            go_wp2_with (go_at_call 18; refine (hbest _ hp2).mono ?_; rintro _ w2 ⟨rfl, hb2⟩; have G3 := B3.stays hb2; have G5 := B5.stays hb2; have GB := HB.trans (hb2.mono HB.size); obtain ⟨hz, q0, q1⟩ := pair_at (pairs_stays hp2 hb2) (show bi x (k + 1) < n by omega); have hz3 := G3.lt; have hz5 := G5.lt)
            have B7 := Blk.new w2 28 #[.int .i64 (x (bi x (k + 1))), .int .i64 (y (bi x (k + 1)))]
            have S1 := T_of (GB.alloc (by have := GB.size; omega) (.cells #[.int .i64 (x (bi x (k + 1))), .int .i64 (y (bi x (k + 1)))] 28)) (G3.alloc _) (G5.alloc _) B7 (pairs_alloc (pairs_stays hp2 hb2) _)
            clear hb2 G3 G5 GB q0 q1 B7 B3 B5 HB hp2
            have s1 : IntKind.i64.wrap ((k : Int) + 1) = (k : Int) + 1 := IntWalk.i64_in _ (by omega)
            have s2 : (0 : Int) ≤ (k : Int) + 1 := by omega
            have s3 : ((k : Int) + 1).toNat = k + 1 := by omega
            go_region_held3 (fun w' => Below W.heap.size W w' ∧ Blk w' w1.heap.size 25 #[.bool true, .int .i64 (N x k), .int .i64 (D x y k)] ∧ Blk w' g5 25 #[.bool true, .int .i64 (x (bi x (k + 1))), .int .i64 (y (bi x (k + 1)))] ∧ Blk w' w2.heap.size 28 #[.int .i64 (x (bi x (k + 1))), .int .i64 (y (bi x (k + 1)))] ∧ Pairs w' (some ⟨b, off, none⟩) n x y ∧
                (w'.cell? ⟨w1.heap.size, 0, none⟩ = some (.bool true) ∧ w'.cell? ⟨w1.heap.size, 1, none⟩ = some (.int .i64 (N x k)) ∧ w'.cell? ⟨w1.heap.size, 2, none⟩ = some (.int .i64 (D x y k))) ∧
                (w'.cell? ⟨g5, 0, none⟩ = some (.bool true) ∧ w'.cell? ⟨g5, 1, none⟩ = some (.int .i64 (x (bi x (k + 1)))) ∧ w'.cell? ⟨g5, 2, none⟩ = some (.int .i64 (y (bi x (k + 1))))) ∧
                w'.cell? ⟨w2.heap.size, 0, none⟩ = some (.int .i64 (x (bi x (k + 1)))) ∧ w'.cell? ⟨w2.heap.size, 1, none⟩ = some (.int .i64 (y (bi x (k + 1)))))
              (first | exact S1 | exact T_drew S1 | (go_split_ands; apply T_stays; all_goals assumption))
              (first | (go_at_call 19; refine (hall _ (by go_split_ands; assumption)).mono ?_; rintro _ w' ⟨rfl, hb⟩))
            clear S1
            go_split_ands
            have K3 := ‹Blk _ w1.heap.size 25 _›
            have K5 := ‹Blk _ g5 25 _›
            have KB := ‹Below W.heap.size W _›
            obtain ⟨-, -, -, f0, f1, f2⟩ := K3.three
            go_wp2_with fail
            go_roundw
            case rel => exact ⟨k + 1, by omega, by go_num, by rw [HK.out, HN.out, HD.out]; exact K3.set3 _ _ _, below_set3 KB hw1 _ _ _⟩
            case measure => simp [intOf]; omega
    · clear hp' c0 c1 c2 f0 f1 f2 B3
      have hnil := fun w => all_c none 0 0 x y w (by omega) (fun h0 => absurd h0 (by omega))
      have e0 : kb 0 = false := rfl
      have e1 : N x 0 = 0 := rfl
      have e2 : D x y 0 = 0 := rfl
      rw [e0, e1, e2] at hnil
      clear e0 e1 e2
      go_wp2_with (go_at_call 19; refine (hnil _).mono ?_; rintro _ w' ⟨rfl, hb⟩)
      go_ret
      exact ⟨rfl, HB.trans (hb.mono HB.size)⟩

theorem RoamHears (A : Option Addr) (n c : Nat) (x y : Nat → Int) (W : World) (f : n ≤ c ∧ c ≤ maxLen ∧ Pairs W A n x y) :
    Calls Try.prog 3 #[.slice A n c] W fun e w' => e = .returned (.bool true) ∧ Below W.heap.size W w' := by
  obtain ⟨hc, hm, hp⟩ := f
  by_cases h : n ≤ 60
  · exact hears A n c x y W hc hm h hp
  · exact hears_long A n c W (by omega) (by omega)
end Go.Proofs.Ytagciaanfjllnaa.Walk
