/- The law TopKeys: what holds of the keys between the calls. -/
import Derived.Test.YtagciaanfjllnaaKeysF
namespace Go.Proofs.Ytagciaanfjllnaa.Keys
open Go Go.RowKit Go.Proofs.Ytagciaanfjllnaa.Base Go.Proofs.Ytagciaanfjllnaa.Opens Go.Proofs.Ytagciaanfjllnaa.Reg Go.Proofs.YtagciaanfjllnaaW.PrintWords
set_option linter.unusedVariables false
set_option linter.unusedSimpArgs false

/-- what turned: block g, and the blocks of some rows; all else stands -/
structure Chg (w w' : World) (g : Nat) (us : List Value) : Prop where
  os : w'.os = w.os
  tape : w'.tape = w.tape
  output : w'.output = w.output
  size : w.heap.size ≤ w'.heap.size
  block : ∀ k, k < w.heap.size → k ≠ g → (∀ u ∈ us, u.ownBlock ≠ some k) → w'.heap[k]? = w.heap[k]?
theorem Chg.of_below {w w' : World} (g : Nat) (us : List Value) (h : Below w.heap.size w w') : Chg w w' g us := ⟨h.os, h.tape, h.output, h.size, fun k hk _ _ => h.block k hk⟩
theorem Chg.of_grown {w w' : World} (g : Nat) {u : Value} {us : List Value} (h : w.grownBy w' u.ownBlock) (hu : u ∈ us) : Chg w w' g us := ⟨h.os, h.tape, h.output, h.size, fun k hk _ hne => h.block k hk (fun e => hne u hu e.symm)⟩
theorem Chg.of_set (w : World) (g i : Nat) (u : Value) (us : List Value) : Chg w (w.setCell ⟨g, i, none⟩ u) g us :=
  ⟨rfl, rfl, rfl, by simp, fun k _ hk _ => Below.heap_setCell w ⟨g, i, none⟩ u k hk⟩
theorem Chg.trans {w x y : World} {g : Nat} {us us' : List Value} (h : Chg w x g us) (h' : Chg x y g us') (hr : ∀ u' ∈ us', ∀ k, u'.ownBlock = some k → k < w.heap.size → ∃ u ∈ us, u.ownBlock = some k) : Chg w y g us :=
  ⟨h'.os.trans h.os, h'.tape.trans h.tape, h'.output.trans h.output, Nat.le_trans h.size h'.size, fun k hk hg hne => (h'.block k (Nat.lt_of_lt_of_le hk h.size) hg (fun u' hu' e => by
    obtain ⟨u, hu, e2⟩ := hr u' hu' k e hk
    exact hne u hu e2)).trans (h.block k hk hg hne)⟩
theorem Chg.same {w x y : World} {g : Nat} {us : List Value} (h : Chg w x g us) (h' : Chg x y g us) : Chg w y g us := h.trans h' (fun u hu k e _ => ⟨u, hu, e⟩)
theorem Chg.below {w w' : World} {g B : Nat} {us : List Value} {W : World} (h : Chg w w' g us) (hW : Below B W w) (hBw : B ≤ w.heap.size) (hg : B ≤ g) (hr : ∀ u ∈ us, ∀ k, u.ownBlock = some k → B ≤ k) : Below B W w' := by
  refine ⟨h.os.trans hW.os, h.tape.trans hW.tape, h.output.trans hW.output, Nat.le_trans hW.size h.size, fun k hk => ?_⟩
  exact (h.block k (by omega) (by omega) (fun u hu e => by have := hr u hu k e; omega)).trans (hW.block k hk)
def Apart (u v : Value) : Prop := ∀ g, u.ownBlock = some g → v.ownBlock ≠ some g
theorem Apart.symm {u v : Value} (h : Apart u v) : Apart v u := fun g hg e => h g e hg
theorem apart_type {B B' e e' size size' n n' : Nat} {w : World} {u v : Value} {xs ys : List Value} (h : w.ownsRow B e size u n xs) (h' : w.ownsRow B' e' size' v n' ys) (ht : e ≠ e') : Apart u v := by
  intro g hu hv
  rcases h.2 with ⟨h1, _⟩ | ⟨g1, _, c1, h1, _, b1, _⟩
  · rw [h1] at hu; simp [Value.ownBlock] at hu
  rcases h'.2 with ⟨h2, _⟩ | ⟨g2, _, c2, h2, _, b2, _⟩
  · rw [h2] at hv; simp [Value.ownBlock] at hv
  rw [h1] at hu
  rw [h2] at hv
  simp only [Value.ownBlock, Option.some.injEq] at hu hv
  subst hu
  subst hv
  exact Blk.ne_ (w := w) b1 b2 ht rfl
theorem apart_new {B e size n : Nat} {w : World} {u v : Value} {xs : List Value} (h : w.ownsRow B e size u n xs) (hv : ∀ g, v.ownBlock = some g → w.heap.size ≤ g) : Apart u v := fun g hu e => by
  have h1 := (World.ownsRow.lt h g hu).2
  have h2 := hv g e
  omega
theorem row_chg {B e size n : Nat} {w w' : World} {g : Nat} {us : List Value} {v : Value} {xs : List Value} {t : TypeId} {cs : Array Value} (h : w.ownsRow B e size v n xs) (hc : Chg w w' g us) (hD : Blk w g t cs) (ht : t ≠ e) (hne : ∀ u ∈ us, Apart v u) : w'.ownsRow B e size v n xs := by
  unfold World.ownsRow at h ⊢
  obtain ⟨h1, h2⟩ := h
  refine ⟨h1, ?_⟩
  rcases h2 with h2 | ⟨g', cap, cur, e', hB, hg, hr⟩
  · exact .inl h2
  · refine .inr ⟨g', cap, cur, e', hB, ?_, hr⟩
    rw [hc.block g' (Blk.lt hg) (fun e0 => by subst e0; exact Blk.ne_ hD hg ht rfl) (fun u hu => hne u hu g' (by rw [e']; rfl))]
    exact hg
/-- where the new row lies -/
def NewAt (w : World) (v v' : Value) : Prop := v'.ownBlock = v.ownBlock ∨ ∃ b, v'.ownBlock = some b ∧ w.heap.size ≤ b
theorem NewAt.apart {B e size n : Nat} {w : World} {u v v' : Value} {xs : List Value} (hn : NewAt w v v') (h : w.ownsRow B e size u n xs) (ha : Apart u v) : Apart u v' := fun g hu e => by
  rcases hn with h1 | ⟨b, h1, h2⟩
  · rw [h1] at e; exact ha g hu e
  · rw [h1] at e
    injection e with e
    have := (World.ownsRow.lt h g hu).2
    omega
theorem NewAt.lower {w x : World} {v v' : Value} (hn : NewAt x v v') (h : w.heap.size ≤ x.heap.size) : NewAt w v v' := by
  rcases hn with h1 | ⟨b, h1, h2⟩
  · exact .inl h1
  · exact .inr ⟨b, h1, Nat.le_trans h h2⟩

structure KV where
  bytes : Value
  held : Value
  typed : Value
  given : Value
  first : Value
  data : Value
  acks : Value
/-- the nine cells of the keys -/
def kcells (F N : Nat) (k : KV) : Array Value := #[.int .i64 (F : Int), k.bytes, .int .i64 (N : Int), k.held, k.typed, k.given, k.first, k.data, k.acks]
structure Slices (k : KV) : Prop where
  bytes : ∃ A n c, k.bytes = .slice A n c
  held : ∃ A n c, k.held = .slice A n c
  typed : ∃ A n c, k.typed = .slice A n c
  given : ∃ A n c, k.given = .slice A n c
  first : ∃ A n c, k.first = .slice A n c
  data : ∃ A n c, k.data = .slice A n c
  acks : ∃ A n c, k.acks = .slice A n c
structure Inv (B gk : Nat) (w : World) (T : List Int) (F N : Nat) (fs : List Int) (ds : List (List Int)) (ak : List Int) (vs : List Value) (k : KV) : Prop where
  blk : Blk w gk 50 (kcells F N k)
  hB : B ≤ gk
  hFN : F ≤ N
  hNT : N ≤ T.length
  hT : T.length ≤ 5000
  hbox : T.length - F ≤ 256
  rb : Own .u8 5 B w k.bytes (T.drop F)
  held : ∃ A c, k.held = .slice A 0 c ∧ (A = none → c = 0) ∧ c ≤ maxLen
  ty : Own .u8 5 B w k.typed T
  gv : Own .u8 5 B w k.given (T.take N)
  fi : Own .i64 3 B w k.first fs
  ac : Own .i64 3 B w k.acks ak
  da : w.ownsRow B 32 1 k.data vs.length vs
  vl : vs.length = ds.length
  fl : fs.length = ds.length
  ch : ∀ j, j < ds.length → Own .u8 5 B w (vs.getD j undef) (ds.getD j [])
  log : ∀ j, j < ds.length → ∃ f m : Nat, fs.getD j 0 = (f : Int) ∧ f ≤ N ∧ m ≤ 16 ∧ f + m ≤ T.length ∧ ds.getD j [] = (T.drop f).take m
  acl : ∀ j, j < ak.length → ∃ n : Nat, ak.getD j 0 = (n : Int) ∧ n ≤ N
  s1 : Apart k.typed k.given
  s2 : Apart k.first k.acks
  s3 : Apart k.bytes k.typed ∧ Apart k.bytes k.given
  s4 : ∀ j, j < ds.length → Apart (vs.getD j undef) k.typed ∧ Apart (vs.getD j undef) k.given
theorem Inv.slices {B gk : Nat} {w : World} {T : List Int} {F N : Nat} {fs : List Int} {ds : List (List Int)} {ak : List Int} {vs : List Value} {k : KV} (h : Inv B gk w T F N fs ds ak vs k) : Slices k := by
  obtain ⟨Ah, ch, eh, _⟩ := h.held
  exact ⟨own_form h.rb, ⟨_, _, _, eh⟩, own_form h.ty, own_form h.gv, own_form h.fi, (by obtain ⟨A, c, e⟩ := row_form h.da; exact ⟨_, _, _, e⟩), own_form h.ac⟩
theorem Inv.stays {B gk : Nat} {w w' : World} {T : List Int} {F N : Nat} {fs : List Int} {ds : List (List Int)} {ak : List Int} {vs : List Value} {k : KV} (h : Inv B gk w T F N fs ds ak vs k) (hb : Below w.heap.size w w') : Inv B gk w' T F N fs ds ak vs k :=
  ⟨Blk.stays h.blk hb, h.hB, h.hFN, h.hNT, h.hT, h.hbox, h.rb.stays hb, h.held, h.ty.stays hb, h.gv.stays hb, h.fi.stays hb, h.ac.stays hb, row_stays h.da hb, h.vl, h.fl, fun j hj => (h.ch j hj).stays hb, h.log, h.acl, h.s1, h.s2, h.s3, h.s4⟩
/-- the box turned -/
theorem Inv.box {B gk : Nat} {w w' : World} {T : List Int} {F F' N : Nat} {fs : List Int} {ds : List (List Int)} {ak : List Int} {vs : List Value} {k : KV} {b' : Value} (h : Inv B gk w T F N fs ds ak vs k) (hc : Chg w w' gk []) (hblk : Blk w' gk 50 (kcells F' N { k with bytes := b' }))
    (hF : F' ≤ N) (hbox : T.length - F' ≤ 256) (rb : Own .u8 5 B w' b' (T.drop F')) (s3 : Apart b' k.typed ∧ Apart b' k.given) : Inv B gk w' T F' N fs ds ak vs { k with bytes := b' } :=
  ⟨hblk, h.hB, hF, h.hNT, h.hT, hbox, rb, h.held, row_chg h.ty hc h.blk (by decide) (by simp), row_chg h.gv hc h.blk (by decide) (by simp), row_chg h.fi hc h.blk (by decide) (by simp), row_chg h.ac hc h.blk (by decide) (by simp), row_chg h.da hc h.blk (by decide) (by simp),
    h.vl, h.fl, fun j hj => row_chg (h.ch j hj) hc h.blk (by decide) (by simp), h.log, h.acl, h.s1, h.s2, s3, h.s4⟩
/-- more is typed -/
theorem Inv.put {B gk : Nat} {w w' : World} {T d : List Int} {F N : Nat} {fs : List Int} {ds : List (List Int)} {ak : List Int} {vs : List Value} {k : KV} {b' t' : Value} (h : Inv B gk w T F N fs ds ak vs k) (hc : Chg w w' gk [k.typed]) (hblk : Blk w' gk 50 (kcells F N { k with bytes := b', typed := t' }))
    (hT : (T ++ d).length ≤ 5000) (hbox : (T ++ d).length - F ≤ 256) (rb : Own .u8 5 B w' b' ((T ++ d).drop F)) (ty : Own .u8 5 B w' t' (T ++ d)) (hn : NewAt w k.typed t') (s3 : Apart b' t' ∧ Apart b' k.given) : Inv B gk w' (T ++ d) F N fs ds ak vs { k with bytes := b', typed := t' } :=
  ⟨hblk, h.hB, h.hFN, by rw [List.length_append]; have := h.hNT; omega, hT, hbox, rb, h.held, ty,
    by rw [List.take_append_of_le_length h.hNT]; exact row_chg h.gv hc h.blk (by decide) (by simpa using h.s1.symm),
    row_chg h.fi hc h.blk (by decide) (by simpa using apart_type h.fi h.ty (by decide)), row_chg h.ac hc h.blk (by decide) (by simpa using apart_type h.ac h.ty (by decide)), row_chg h.da hc h.blk (by decide) (by simpa using apart_type h.da h.ty (by decide)),
    h.vl, h.fl, fun j hj => row_chg (h.ch j hj) hc h.blk (by decide) (by simpa using (h.s4 j hj).1),
    fun j hj => by
      obtain ⟨f, m, h1, h2, h3, h4, h5⟩ := h.log j hj
      refine ⟨f, m, h1, h2, h3, by rw [List.length_append]; omega, ?_⟩
      rw [h5, List.drop_append_of_le_length (by omega), List.take_append_of_le_length (by rw [List.length_drop]; omega)],
    h.acl, (hn.apart h.gv h.s1.symm).symm, h.s2, s3, fun j hj => ⟨hn.apart (h.ch j hj) (h.s4 j hj).1, (h.s4 j hj).2⟩⟩
end Go.Proofs.Ytagciaanfjllnaa.Keys
