/- The law TopKeys: contracts of Go's library: slices.Clone, Grow, Concat over bytes. -/
import Derived.Test.YtagciaanfjllnaaKeysA
import Derived.WalkSpells
import Derived.Lib.LazyBuf
import Derived.Test.YtagciaanfjllnaaWZeros
namespace Go.Proofs.Ytagciaanfjllnaa.Keys
open Go Go.RowKit Go.Proofs.Ytagciaanfjllnaa.Base Go.Proofs.Ytagciaanfjllnaa.Opens Go.Proofs.Ytagciaanfjllnaa.Reg
set_option linter.unusedVariables false
set_option linter.unusedSimpArgs false
attribute [local go_sem ↓] Go.wp_at_zero Go.wp_at_succ

theorem eq32 (w : World) (a : Option Addr) (l c : Nat) : (binOp .eql 32 (.slice a l c) (.slice none 0 0)).run Try.prog w = .ok (.bool a.isNone) w := Lib.run_eql_slice_nil w 32 5 a l c 0 0 Try.underlying32
theorem eq45 (w : World) (a : Option Addr) (l c : Nat) : (binOp .eql 45 (.slice a l c) (.slice none 0 0)).run Try.prog w = .ok (.bool a.isNone) w := Lib.run_eql_slice_nil w 45 122 a l c 0 0 Try.underlying45
attribute [local go_sem high] eq32 eq45
theorem info5 : (Try.prog.info? 5).map (fun i => (i.zero, i.size, i.bytes)) = some (some (.int .u8 0), 1, 1) := by kernel_rfl
theorem below_app {W w' : World} {o : Obj} {v : Value} {e size n : Nat} {xs : List Value} (hg : (W.alloc o).grownBy w' v.ownBlock) (hown : (W.alloc o).ownsRow W.heap.size e size v n xs) : Below W.heap.size W w' :=
  below_grown ((Below.refl _ _).alloc (Nat.le_refl _) _) hg hown (by simp) (Nat.le_refl _)
theorem own_fresh {k : IntKind} {e B : Nat} {w w' : World} {v : Value} {l : List Int} (h : Own k e B w v l) (h2 : l ≠ []) : ∃ g c, v = .slice (some ⟨g, 0, none⟩) l.length c ∧ B ≤ g := by
  rcases h.2 with ⟨h1, h3⟩ | ⟨g, cap, cur, h1, h3, _⟩
  · exact absurd (List.eq_nil_of_length_eq_zero h3) h2
  · exact ⟨g, cap, h1, h3⟩

set_option maxHeartbeats 4000000 in
set_option maxRecDepth 100000 in
theorem next_c (f : Int) (A : Option Addr) (n c : Nat) (W : World) (h0 : 0 ≤ f) (h1 : f ≤ 1000000) (hn : n ≤ 1000000) : Calls Try.prog 63 #[.agg #[.int .i64 f, .slice A n c]] W fun e w' => e = .returned (.int .i64 (f + n)) ∧ Below W.heap.size W w' := by
  have s1 : IntKind.i64.wrap (f + (n : Int)) = f + n := IntWalk.i64_in _ (by omega)
  go_enter Try.func63, Try.ntmps63
  go_wp2_with fail
  go_ret
  exact ⟨rfl, (Below.refl _ _).alloc (Nat.le_refl _) _⟩

set_option maxHeartbeats 4000000 in
set_option maxRecDepth 100000 in
theorem clone_c {W : World} {v : Value} {l : List Int} (h : Rd W v l) (hl : l.length ≤ 10000) : Calls Try.prog 64 #[v] W fun e w' => ∃ v', e = .returned v' ∧ Own .u8 5 W.heap.size w' v' l ∧ Below W.heap.size W w' := by
  have hs := h.src
  rcases h with ⟨rfl, rfl⟩ | ⟨a, c, rfl, -, -, -⟩
  · go_enter Try.func64, Try.ntmps64
    go_wp2_with fail
    go_ret
    exact ⟨_, rfl, Own.nil _ _ _ _, Below.refl _ _⟩
  · go_enter Try.func64, Try.ntmps64
    have h0 := Own.lit (k := .u8) (e := 5) (B := W.heap.size) W [] (Nat.le_refl _) (by decide)
    have hs2 : Src (W.alloc (.cells #[] 5)) (.slice (some a) l.length c) l.length 1 (encs .u8 l) := hs.stays ((Below.refl _ _).alloc (Nat.le_refl _) _)
    go_wp2_with (at_builtin; (refine wpList_app rfl (.tmp 5) (.tmp 6) 32 rfl Try.underlying32 info5 rfl (by decide) (by rfl) (by rfl) h0 hs2 (by simp) (by simp; omega) (by decide) ?_); intro v' w' ho hg _)
    go_ret
    exact ⟨v', rfl, Own.of ho rfl, below_app hg h0⟩
theorem own_zero {k : IntKind} {e B n cap : Nat} {w : World} {g : Nat} {xs : List Value} (h : w.ownsRow B e 1 (.slice (some ⟨g, 0, none⟩) n cap) n xs) : Own k e B w (.slice (some ⟨g, 0, none⟩) 0 cap) [] := by
  rcases h.2 with ⟨h1, _⟩ | ⟨g', cap', cur, h1, h2, h3, h4, h5, h6, h7⟩
  · cases h1
  · cases h1
    exact ⟨rfl, .inr ⟨g, cap, cur, rfl, h2, h3, Nat.zero_le _, h5, h6, by simp [encs]⟩⟩
theorem row_cap {B e size n cap : Nat} {w : World} {g : Nat} {xs : List Value} (h : w.ownsRow B e size (.slice (some ⟨g, 0, none⟩) n cap) n xs) : n ≤ cap ∧ cap ≤ maxLen ∧ B ≤ g := by
  rcases h.2 with ⟨h1, _⟩ | ⟨g', cap', cur, h1, h2, h3, h4, h5, h6, h7⟩
  · cases h1
  · cases h1
    exact ⟨h4, h5, h2⟩
theorem zeros_one (m : Nat) : ∀ u ∈ (Builtin.zeroCells (Value.int .u8 0).cells m).toList, u.oneCell' = true := by
  intro u hu
  have e : (Value.int .u8 0).cells = #[.int .u8 0] := rfl
  rw [e] at hu
  unfold Builtin.zeroCells at hu
  simp only [Array.toList_map, List.mem_map] at hu
  obtain ⟨i, _, rfl⟩ := hu
  have : i % (#[Value.int .u8 0] : Array Value).size = 0 := Nat.mod_one i
  rw [this]
  rfl
theorem wpList_zeros {ops : Array Oper} {rest : List Oper} {o : Oper} {a : Act} {Q : Exit → Act → World → Prop} (hgd : o.guard = none) (s x : Operand) (ho : o.op = .call { callee := .builtin .append, args := #[s, x], argTypes := #[32, 3] })
    {B : Nat} {w : World} {v : Value} {xs : List Value} {n m : Nat} (hs : a.eval s = v) (hxv : a.eval x = .int .i64 m) (h : w.ownsRow B 5 1 v n xs) (hB : B ≤ w.heap.size) (hl : n + m ≤ 100000)
    (hk : ∀ v' w' ys, w'.ownsRow B 5 1 v' (n + m) ys → w.grownBy w' v.ownBlock → wpList Try.prog ops Q rest (a.put o.dst v') w') : wpList Try.prog ops Q (o :: rest) a w :=
  wpList_plain hgd fun _ hK => by
    obtain ⟨ti, ti0, ti1, ti2, ti3⟩ := info_parts info5
    obtain ⟨v', w', hr, h2, h3, _⟩ := Go.Proofs.YtagciaanfjllnaaW.PrintWords.run_append_zeros (P := Try.prog) w B 32 3 o.type 5 ti (.int .u8 0) 1 1 Try.underlying32 Try.underlying3 ti0 ti1 ti2 ti3 rfl (by decide) (by decide) v n xs h .i64 m (zeros_one m) (by omega) hB
    unfold Oper.wp execOp
    simp only [ho, resolve, invoke, builtin, Sem.run_bind, Sem.run_pure, Result.andThen_ok, List.map_toArray, List.map_cons, List.map_nil, hs, hxv, hr]
    exact hK _ _ (hk v' w' _ h2 h3)

set_option maxHeartbeats 4000000 in
set_option maxRecDepth 100000 in
theorem grow_c (m : Nat) (W : World) (hm : m ≤ 10000) : Calls Try.prog 78 #[.slice none 0 0, .int .i64 m] W fun e w' => ∃ v', e = .returned v' ∧ Own .u8 5 W.heap.size w' v' [] ∧ Below W.heap.size W w' := by
  by_cases h0 : m = 0
  · subst h0
    go_enter Try.func78, Try.ntmps78
    go_wp2_with fail
    go_ret
    exact ⟨_, rfl, Own.nil _ _ _ _, Below.refl _ _⟩
  · have g1 : (0 : Int) < (m : Int) := by omega
    have g2 : ¬ (m : Int) < 0 := by omega
    have s1 : IntKind.i64.wrap ((m : Int)) = m := IntWalk.i64_in _ (by omega)
    go_enter Try.func78, Try.ntmps78
    go_wp2_with (at_builtin; (refine wpList_zeros rfl (.tmp 20) (.tmp 21) rfl (by rfl) (by rfl) (World.ownsRow_nil W W.heap.size 5 1) (Nat.le_refl _) (by omega) ?_); intro v' w' ys ho hg; rw [Nat.zero_add] at ho; obtain ⟨g, cap, rfl⟩ := Joins.ownsRow_form ho (by omega); have hle := row_cap ho)
    go_ret
    exact ⟨_, rfl, own_zero ho, (Below.refl _ _).grown hg (Nat.le_refl _) (fun k hk => by cases hk)⟩

theorem Rd.form {w : World} {v : Value} {l : List Int} (h : Rd w v l) : ∃ A c, v = .slice A l.length c := by
  rcases h with ⟨h1, h2⟩ | ⟨a, c, h1, _⟩
  · subst h2; exact ⟨none, 0, h1⟩
  · exact ⟨_, c, h1⟩
structure Two (v i : Value) (a b c : Value) : Prop where
  out : i = .int .i64 0 ∧ v = a ∨ i = .int .i64 1 ∧ v = b ∨ i = .int .i64 2 ∧ v = c
structure TwoL (w : World) (B : Nat) (v i : Value) (l1 l2 : List Int) : Prop where
  out : i = .int .i64 0 ∧ Own .u8 5 B w v [] ∨ i = .int .i64 1 ∧ Own .u8 5 B w v l1 ∨ i = .int .i64 2 ∧ Own .u8 5 B w v (l1 ++ l2)

set_option maxHeartbeats 4000000 in
set_option maxRecDepth 100000 in
theorem concat_c {W : World} {v1 v2 : Value} {l1 l2 : List Int} {g : Nat} (hB : Blk W g 32 #[v1, v2]) (h1 : Rd W v1 l1) (h2 : Rd W v2 l2) (hl1 : l1.length ≤ 4000) (hl2 : l2.length ≤ 4000) :
    Calls Try.prog 71 #[.slice (some ⟨g, 0, none⟩) 2 2] W fun e w' => ∃ v', e = .returned v' ∧ Own .u8 5 W.heap.size w' v' (l1 ++ l2) ∧ Below W.heap.size W w' := by
  obtain ⟨A1, c1, rfl⟩ := h1.form
  obtain ⟨A2, c2, rfl⟩ := h2.form
  have s1 : IntKind.i64.wrap ((l1.length : Int)) = l1.length := IntWalk.i64_in _ (by omega)
  have s2 : IntKind.i64.wrap ((l1.length : Int) + (l2.length : Int)) = l1.length + l2.length := IntWalk.i64_in _ (by omega)
  have n1 : ¬ (l1.length : Int) < 0 := by omega
  have n2 : ¬ (l1.length : Int) + (l2.length : Int) < 0 := by omega
  have k0 := hB.cell 0
  have k1 := hB.cell 1
  simp only [List.getElem?_toArray, List.getElem?_cons_succ, List.getElem?_cons_zero] at k0 k1
  go_enter Try.func71, Try.ntmps71
  go_wp2_with fail
  go_loopw [3, 5, 11] (fun v3 v5 v11 wr => Two v3 v11 (.int .i64 0) (.int .i64 l1.length) (.int .i64 (l1.length + l2.length)) ∧ wr = W) (fun _ _ v11 _ => 2 - (intOf v11).toNat)
  case atStart => exact ⟨⟨Or.inl ⟨rfl, rfl⟩⟩, rfl⟩
  case round =>
    obtain ⟨⟨hc⟩, rfl⟩ := hrel
    rcases hc with ⟨rfl, rfl⟩ | ⟨rfl, rfl⟩ | ⟨rfl, rfl⟩
    · go_wp2_with fail
      go_roundw
      case rel => exact ⟨⟨Or.inr (Or.inl ⟨by go_num, rfl⟩)⟩, trivial⟩
      case measure => simp [intOf]
    · go_wp2_with fail
      go_roundw
      case rel => exact ⟨⟨Or.inr (Or.inr ⟨by go_num, rfl⟩)⟩, trivial⟩
      case measure => simp [intOf]
    · have HG : ∀ w, Calls Try.prog 78 #[.slice none 0 0, .int .i64 ((l1.length : Int) + (l2.length : Int))] w fun e w' => ∃ v', e = .returned v' ∧ Own .u8 5 w.heap.size w' v' [] ∧ Below w.heap.size w w' := fun w => by
        have h := grow_c (l1.length + l2.length) w (by omega)
        rw [Int.natCast_add] at h
        exact h
      go_wp2_with (go_at_call 78; refine (HG _).mono ?_; rintro _ w1 ⟨v6, rfl, ho, hb⟩)
      clear k0 k1
      go_loopw [6, 8, 27] (fun v6 v8 v27 wq => TwoL wq wr.heap.size v6 v27 l1 l2 ∧ Below wr.heap.size wr wq) (fun _ _ v27 _ => 2 - (intOf v27).toNat)
      case atStart => exact ⟨⟨Or.inl ⟨rfl, ho⟩⟩, hb⟩
      case round =>
        clear ho hb
        obtain ⟨⟨hc⟩, HB2⟩ := hrel
        have hB2 := hB.stays HB2
        have k0 := hB2.cell 0
        have k1 := hB2.cell 1
        simp only [List.getElem?_toArray, List.getElem?_cons_succ, List.getElem?_cons_zero] at k0 k1
        have h1' := h1.stays HB2
        have h2' := h2.stays HB2
        rcases hc with ⟨rfl, ho⟩ | ⟨rfl, ho⟩ | ⟨rfl, ho⟩
        · go_wp2_with (at_builtin; (refine wpList_app rfl (.tmp 31) (.tmp 32) 32 rfl Try.underlying32 info5 rfl (by decide) (by rfl) (by rfl) ho (h1'.src) HB2.size (by first | omega | (simp; omega)) (by decide) ?_); intro v' w' ho' hg _)
          go_roundw
          case rel => exact ⟨⟨Or.inr (Or.inl ⟨by go_num, Own.of (l := []) ho' rfl⟩)⟩, below_grown HB2 hg ho HB2.size (Nat.le_refl _)⟩
          case measure => simp [intOf]
        · go_wp2_with (at_builtin; (refine wpList_app rfl (.tmp 31) (.tmp 32) 32 rfl Try.underlying32 info5 rfl (by decide) (by rfl) (by rfl) ho (h2'.src) HB2.size (by first | omega | (simp; omega)) (by decide) ?_); intro v' w' ho' hg _)
          go_roundw
          case rel => exact ⟨⟨Or.inr (Or.inr ⟨by go_num, Own.of (l := l1) ho' rfl⟩)⟩, below_grown HB2 hg ho HB2.size (Nat.le_refl _)⟩
          case measure => simp [intOf]
        · go_wp2_with fail
          go_ret
          exact ⟨_, rfl, ho, HB2⟩
end Go.Proofs.Ytagciaanfjllnaa.Keys
