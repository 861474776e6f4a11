/-
  No cell of these rows narrows 'for every input' (looked for: loops, veiled, ifaces, maps, wideKeys, modest, calm, conditions, laid).
  DERIVED. THE GIVEN ROWS OF THIS SEAT. 13 by the template 'for every input the law returns true; each argument reads behind the call as it read before'; 0 by the template 'total and deterministic' (their statements: YtagciaanfjllnaaTotals.lean).
  GIVEN WITH THE SEED: the statements are not yours to turn. If you find one false, say at which input.
  Laid BY PROGRAM, IN A SANDBOX (cutbox-rows.mjs): the forced cells as the released guide's own fill.sh prints them over the translation cc20e21f579fe9ce… (all of the seat's roots in one cut). By AI agents, Wed Nov 11 2026. No macro, syntax, notation, axiom, sorry.
-/
import Derived.Test.YtagciaanfjllnaaChecked
import GoSem.Claim
import GoSem.ClaimJoined
import GoSem.ClaimMapViews
import Derived.JoinedTies
import Derived.KernelRfl
namespace Go.Proofs.Ytagciaanfjllnaa
/- THE CELL 'sum', in the pinned program and in every row, IS THE sha256 OF THE DUMP (.gsa) THAT YtagciaanfjllnaaProg.lean LOADS. Nothing in Lean hashes anything: it is a label: what it is worth is what the hold of that sum in a sandbox is worth. -/
noncomputable def Try.pinned : Pinned := { name := "ytagciaanfjllnaa", sum := "cc20e21f579fe9ce1871c28d5e0a57ee9f869bf22c0e7d713c75a95eff88064f", checked := Try.checked }
namespace Rows
def none {H : Type} : Left H := { results := [], args := [] }

/-- 'batonlaw36.RoamHears': WHATEVER THE INPUT: true; the input reads as it did. -/
def roamHearsSpec : ChangeSpec := { name := "roamHears", fn := fun _ => fun
  | [d] => { results := [.lit (.bool true)], args := [d] }
  | _ => none }
def roamHearsRow : OpenClaim := { program := "ytagciaanfjllnaa", sum := "cc20e21f579fe9ce1871c28d5e0a57ee9f869bf22c0e7d713c75a95eff88064f", func := "baton/batonlaw36.RoamHears", spec := "roamHears", apart := false }
def RoamHearsSaid : Prop := roamHearsRow.holds Try.pinned (OpenSpec.ofChange roamHearsSpec)

/-- ITS FALSE NEIGHBOUR: 'it returns false'. Refute it at one input. -/
def roamHearsWrong : ChangeSpec := { name := "roamHears", fn := fun _ => fun
  | [d] => { results := [.lit (.bool false)], args := [d] }
  | _ => none }
def RoamHearsWrongFalsely : Prop := roamHearsRow.holds Try.pinned (OpenSpec.ofChange roamHearsWrong)

/-- 'batonlaw36.RoamOrder': WHATEVER THE INPUT: true; the input reads as it did. -/
def roamOrderSpec : ChangeSpec := { name := "roamOrder", fn := fun _ => fun
  | [d1, d2] => { results := [.lit (.bool true)], args := [d1, d2] }
  | _ => none }
def roamOrderRow : OpenClaim := { program := "ytagciaanfjllnaa", sum := "cc20e21f579fe9ce1871c28d5e0a57ee9f869bf22c0e7d713c75a95eff88064f", func := "baton/batonlaw36.RoamOrder", spec := "roamOrder", apart := false }
def RoamOrderSaid : Prop := roamOrderRow.holds Try.pinned (OpenSpec.ofChange roamOrderSpec)

/-- ITS FALSE NEIGHBOUR: 'it returns false'. Refute it at one input. -/
def roamOrderWrong : ChangeSpec := { name := "roamOrder", fn := fun _ => fun
  | [d1, d2] => { results := [.lit (.bool false)], args := [d1, d2] }
  | _ => none }
def RoamOrderWrongFalsely : Prop := roamOrderRow.holds Try.pinned (OpenSpec.ofChange roamOrderWrong)

/-- 'batonlaw30.TimerTicks': WHATEVER THE INPUT: true; the input reads as it did. -/
def timerTicksSpec : ChangeSpec := { name := "timerTicks", fn := fun _ => fun
  | [d1, d2] => { results := [.lit (.bool true)], args := [d1, d2] }
  | _ => none }
def timerTicksRow : OpenClaim := { program := "ytagciaanfjllnaa", sum := "cc20e21f579fe9ce1871c28d5e0a57ee9f869bf22c0e7d713c75a95eff88064f", func := "baton/batonlaw30.TimerTicks", spec := "timerTicks", apart := false }
def TimerTicksSaid : Prop := timerTicksRow.holds Try.pinned (OpenSpec.ofChange timerTicksSpec)

/-- ITS FALSE NEIGHBOUR: 'it returns false'. Refute it at one input. -/
def timerTicksWrong : ChangeSpec := { name := "timerTicks", fn := fun _ => fun
  | [d1, d2] => { results := [.lit (.bool false)], args := [d1, d2] }
  | _ => none }
def TimerTicksWrongFalsely : Prop := timerTicksRow.holds Try.pinned (OpenSpec.ofChange timerTicksWrong)

/-- 'batontop.TopKeys': WHATEVER THE INPUT: true; the input reads as it did. -/
def topKeysSpec : ChangeSpec := { name := "topKeys", fn := fun _ => fun
  | [d1, d2] => { results := [.lit (.bool true)], args := [d1, d2] }
  | _ => none }
def topKeysRow : OpenClaim := { program := "ytagciaanfjllnaa", sum := "cc20e21f579fe9ce1871c28d5e0a57ee9f869bf22c0e7d713c75a95eff88064f", func := "baton/batontop.TopKeys", spec := "topKeys", inPlace := ["slices.overlaps[baton/inbox.Held]"], unfollowed := true, recurses := true, apart := false }
def TopKeysSaid : Prop := topKeysRow.holds Try.pinned (OpenSpec.ofChange topKeysSpec)

/-- ITS FALSE NEIGHBOUR: 'it returns false'. Refute it at one input. -/
def topKeysWrong : ChangeSpec := { name := "topKeys", fn := fun _ => fun
  | [d1, d2] => { results := [.lit (.bool false)], args := [d1, d2] }
  | _ => none }
def TopKeysWrongFalsely : Prop := topKeysRow.holds Try.pinned (OpenSpec.ofChange topKeysWrong)

/-- 'batonlaw30.TimerOnce': WHATEVER THE INPUT: true; the input reads as it did. -/
def timerOnceSpec : ChangeSpec := { name := "timerOnce", fn := fun _ => fun
  | [d1, d2] => { results := [.lit (.bool true)], args := [d1, d2] }
  | _ => none }
def timerOnceRow : OpenClaim := { program := "ytagciaanfjllnaa", sum := "cc20e21f579fe9ce1871c28d5e0a57ee9f869bf22c0e7d713c75a95eff88064f", func := "baton/batonlaw30.TimerOnce", spec := "timerOnce", apart := false }
def TimerOnceSaid : Prop := timerOnceRow.holds Try.pinned (OpenSpec.ofChange timerOnceSpec)

/-- ITS FALSE NEIGHBOUR: 'it returns false'. Refute it at one input. -/
def timerOnceWrong : ChangeSpec := { name := "timerOnce", fn := fun _ => fun
  | [d1, d2] => { results := [.lit (.bool false)], args := [d1, d2] }
  | _ => none }
def TimerOnceWrongFalsely : Prop := timerOnceRow.holds Try.pinned (OpenSpec.ofChange timerOnceWrong)

/-- 'batonlaw30.TimerMakes': WHATEVER THE INPUT: true; the input reads as it did. -/
def timerMakesSpec : ChangeSpec := { name := "timerMakes", fn := fun _ => fun
  | [d1, d2] => { results := [.lit (.bool true)], args := [d1, d2] }
  | _ => none }
def timerMakesRow : OpenClaim := { program := "ytagciaanfjllnaa", sum := "cc20e21f579fe9ce1871c28d5e0a57ee9f869bf22c0e7d713c75a95eff88064f", func := "baton/batonlaw30.TimerMakes", spec := "timerMakes", apart := false }
def TimerMakesSaid : Prop := timerMakesRow.holds Try.pinned (OpenSpec.ofChange timerMakesSpec)

/-- ITS FALSE NEIGHBOUR: 'it returns false'. Refute it at one input. -/
def timerMakesWrong : ChangeSpec := { name := "timerMakes", fn := fun _ => fun
  | [d1, d2] => { results := [.lit (.bool false)], args := [d1, d2] }
  | _ => none }
def TimerMakesWrongFalsely : Prop := timerMakesRow.holds Try.pinned (OpenSpec.ofChange timerMakesWrong)

/-- 'batonlaw14.CaretAreas': WHATEVER THE INPUT: true; the input reads as it did. -/
def caretAreasSpec : ChangeSpec := { name := "caretAreas", fn := fun _ => fun
  | [d1, d2, d3] => { results := [.lit (.bool true)], args := [d1, d2, d3] }
  | _ => none }
def caretAreasRow : OpenClaim := { program := "ytagciaanfjllnaa", sum := "cc20e21f579fe9ce1871c28d5e0a57ee9f869bf22c0e7d713c75a95eff88064f", func := "baton/batonlaw14.CaretAreas", spec := "caretAreas", apart := false }
def CaretAreasSaid : Prop := caretAreasRow.holds Try.pinned (OpenSpec.ofChange caretAreasSpec)

/-- ITS FALSE NEIGHBOUR: 'it returns false'. Refute it at one input. -/
def caretAreasWrong : ChangeSpec := { name := "caretAreas", fn := fun _ => fun
  | [d1, d2, d3] => { results := [.lit (.bool false)], args := [d1, d2, d3] }
  | _ => none }
def CaretAreasWrongFalsely : Prop := caretAreasRow.holds Try.pinned (OpenSpec.ofChange caretAreasWrong)

/-- 'batonlaw14.CaretGoes': WHATEVER THE INPUT: true; the input reads as it did. -/
def caretGoesSpec : ChangeSpec := { name := "caretGoes", fn := fun _ => fun
  | [d1, d2, d3] => { results := [.lit (.bool true)], args := [d1, d2, d3] }
  | _ => none }
def caretGoesRow : OpenClaim := { program := "ytagciaanfjllnaa", sum := "cc20e21f579fe9ce1871c28d5e0a57ee9f869bf22c0e7d713c75a95eff88064f", func := "baton/batonlaw14.CaretGoes", spec := "caretGoes", apart := false }
def CaretGoesSaid : Prop := caretGoesRow.holds Try.pinned (OpenSpec.ofChange caretGoesSpec)

/-- ITS FALSE NEIGHBOUR: 'it returns false'. Refute it at one input. -/
def caretGoesWrong : ChangeSpec := { name := "caretGoes", fn := fun _ => fun
  | [d1, d2, d3] => { results := [.lit (.bool false)], args := [d1, d2, d3] }
  | _ => none }
def CaretGoesWrongFalsely : Prop := caretGoesRow.holds Try.pinned (OpenSpec.ofChange caretGoesWrong)

/-- 'batonlaw14.CaretFeeds': WHATEVER THE INPUT: true; the input reads as it did. -/
def caretFeedsSpec : ChangeSpec := { name := "caretFeeds", fn := fun _ => fun
  | [d1, d2, d3] => { results := [.lit (.bool true)], args := [d1, d2, d3] }
  | _ => none }
def caretFeedsRow : OpenClaim := { program := "ytagciaanfjllnaa", sum := "cc20e21f579fe9ce1871c28d5e0a57ee9f869bf22c0e7d713c75a95eff88064f", func := "baton/batonlaw14.CaretFeeds", spec := "caretFeeds", apart := false }
def CaretFeedsSaid : Prop := caretFeedsRow.holds Try.pinned (OpenSpec.ofChange caretFeedsSpec)

/-- ITS FALSE NEIGHBOUR: 'it returns false'. Refute it at one input. -/
def caretFeedsWrong : ChangeSpec := { name := "caretFeeds", fn := fun _ => fun
  | [d1, d2, d3] => { results := [.lit (.bool false)], args := [d1, d2, d3] }
  | _ => none }
def CaretFeedsWrongFalsely : Prop := caretFeedsRow.holds Try.pinned (OpenSpec.ofChange caretFeedsWrong)

/-- 'batonlaw14.CaretMoves': WHATEVER THE INPUT: true; the input reads as it did. -/
def caretMovesSpec : ChangeSpec := { name := "caretMoves", fn := fun _ => fun
  | [d1, d2, d3] => { results := [.lit (.bool true)], args := [d1, d2, d3] }
  | _ => none }
def caretMovesRow : OpenClaim := { program := "ytagciaanfjllnaa", sum := "cc20e21f579fe9ce1871c28d5e0a57ee9f869bf22c0e7d713c75a95eff88064f", func := "baton/batonlaw14.CaretMoves", spec := "caretMoves", apart := false }
def CaretMovesSaid : Prop := caretMovesRow.holds Try.pinned (OpenSpec.ofChange caretMovesSpec)

/-- ITS FALSE NEIGHBOUR: 'it returns false'. Refute it at one input. -/
def caretMovesWrong : ChangeSpec := { name := "caretMoves", fn := fun _ => fun
  | [d1, d2, d3] => { results := [.lit (.bool false)], args := [d1, d2, d3] }
  | _ => none }
def CaretMovesWrongFalsely : Prop := caretMovesRow.holds Try.pinned (OpenSpec.ofChange caretMovesWrong)

/-- 'batonlaw12.PenColours': WHATEVER THE INPUT: true; the input reads as it did. -/
def penColoursSpec : ChangeSpec := { name := "penColours", fn := fun _ => fun
  | [d] => { results := [.lit (.bool true)], args := [d] }
  | _ => none }
def penColoursRow : OpenClaim := { program := "ytagciaanfjllnaa", sum := "cc20e21f579fe9ce1871c28d5e0a57ee9f869bf22c0e7d713c75a95eff88064f", func := "baton/batonlaw12.PenColours", spec := "penColours", apart := false }
def PenColoursSaid : Prop := penColoursRow.holds Try.pinned (OpenSpec.ofChange penColoursSpec)

/-- ITS FALSE NEIGHBOUR: 'it returns false'. Refute it at one input. -/
def penColoursWrong : ChangeSpec := { name := "penColours", fn := fun _ => fun
  | [d] => { results := [.lit (.bool false)], args := [d] }
  | _ => none }
def PenColoursWrongFalsely : Prop := penColoursRow.holds Try.pinned (OpenSpec.ofChange penColoursWrong)

/-- 'batonlaw12.PenSteps': WHATEVER THE INPUT: true; the input reads as it did. -/
def penStepsSpec : ChangeSpec := { name := "penSteps", fn := fun _ => fun
  | [d1, d2] => { results := [.lit (.bool true)], args := [d1, d2] }
  | _ => none }
def penStepsRow : OpenClaim := { program := "ytagciaanfjllnaa", sum := "cc20e21f579fe9ce1871c28d5e0a57ee9f869bf22c0e7d713c75a95eff88064f", func := "baton/batonlaw12.PenSteps", spec := "penSteps", apart := false }
def PenStepsSaid : Prop := penStepsRow.holds Try.pinned (OpenSpec.ofChange penStepsSpec)

/-- ITS FALSE NEIGHBOUR: 'it returns false'. Refute it at one input. -/
def penStepsWrong : ChangeSpec := { name := "penSteps", fn := fun _ => fun
  | [d1, d2] => { results := [.lit (.bool false)], args := [d1, d2] }
  | _ => none }
def PenStepsWrongFalsely : Prop := penStepsRow.holds Try.pinned (OpenSpec.ofChange penStepsWrong)

/-- 'batonlaw12.PenCodes': WHATEVER THE INPUT: true; the input reads as it did. -/
def penCodesSpec : ChangeSpec := { name := "penCodes", fn := fun _ => fun
  | [d1, d2, d3] => { results := [.lit (.bool true)], args := [d1, d2, d3] }
  | _ => none }
def penCodesRow : OpenClaim := { program := "ytagciaanfjllnaa", sum := "cc20e21f579fe9ce1871c28d5e0a57ee9f869bf22c0e7d713c75a95eff88064f", func := "baton/batonlaw12.PenCodes", spec := "penCodes", apart := false }
def PenCodesSaid : Prop := penCodesRow.holds Try.pinned (OpenSpec.ofChange penCodesSpec)

/-- ITS FALSE NEIGHBOUR: 'it returns false'. Refute it at one input. -/
def penCodesWrong : ChangeSpec := { name := "penCodes", fn := fun _ => fun
  | [d1, d2, d3] => { results := [.lit (.bool false)], args := [d1, d2, d3] }
  | _ => none }
def PenCodesWrongFalsely : Prop := penCodesRow.holds Try.pinned (OpenSpec.ofChange penCodesWrong)

/- THE SECOND FORM. 'bulk': how many values and letters a reading holds, each counted each time it is reached (what is shared counts as often as it is met; a slice's spare places count too). A statement '..UptoSaid' is the law's where the arguments, and the package variables that the reading takes, are together of bulk at most 1048576: NARROWER than '..Said'. Prove '..Said' where nothing that the law and all that it calls make is longer than what came in: it says more and counts as full. Else prove '..UptoSaid'. A law counts once. -/
mutual
def uptoBulk {H : Type} : DataW H → Nat
  | .lit (.string bytes) => bytes.length + 1
  | .lit _ => 1
  | .nil => 1
  | .ptr d => uptoBulk d + 1
  | .slice elems spare => uptoBulkAll elems + uptoBulkAll spare + 1
  | .agg parts => uptoBulkAll parts + 1
  | .iface _ d => uptoBulk d + 1
  | .map entries => uptoBulkEntries entries + 1
  | .held _ => 1
def uptoBulkAll {H : Type} : List (DataW H) → Nat
  | [] => 0
  | d :: r => uptoBulk d + uptoBulkAll r
def uptoBulkEntries {H : Type} : List (Lit × DataW H) → Nat
  | [] => 0
  | x :: r => uptoBulkEntry x + uptoBulkEntries r
def uptoBulkEntry {H : Type} : Lit × DataW H → Nat
  | (.string bytes, d) => bytes.length + uptoBulk d + 1
  | (_, d) => uptoBulk d + 1
 end
def uptoSmall : (H : Type) → List (DataW H) → Bool := fun _ ds => decide (uptoBulkAll ds ≤ 1048576)
def OpenSpec.upto (s : _root_.Go.ChangeSpec) : _root_.Go.OpenSpec := { _root_.Go.OpenSpec.ofChange s with cond := some uptoSmall }

/-- 'batonlaw36.RoamHears', WHERE WHAT IT READS IS OF BULK AT MOST 1048576: true; the input reads as it did. -/
def roamHearsUptoRow : OpenClaim := { program := "ytagciaanfjllnaa", sum := "cc20e21f579fe9ce1871c28d5e0a57ee9f869bf22c0e7d713c75a95eff88064f", func := "baton/batonlaw36.RoamHears", spec := "roamHears", apart := false, narrowed := true }
def RoamHearsUptoSaid : Prop := roamHearsUptoRow.holds Try.pinned (OpenSpec.upto roamHearsSpec)

/-- 'batonlaw36.RoamOrder', WHERE WHAT IT READS IS OF BULK AT MOST 1048576: true; the input reads as it did. -/
def roamOrderUptoRow : OpenClaim := { program := "ytagciaanfjllnaa", sum := "cc20e21f579fe9ce1871c28d5e0a57ee9f869bf22c0e7d713c75a95eff88064f", func := "baton/batonlaw36.RoamOrder", spec := "roamOrder", apart := false, narrowed := true }
def RoamOrderUptoSaid : Prop := roamOrderUptoRow.holds Try.pinned (OpenSpec.upto roamOrderSpec)

/-- 'batonlaw30.TimerTicks', WHERE WHAT IT READS IS OF BULK AT MOST 1048576: true; the input reads as it did. -/
def timerTicksUptoRow : OpenClaim := { program := "ytagciaanfjllnaa", sum := "cc20e21f579fe9ce1871c28d5e0a57ee9f869bf22c0e7d713c75a95eff88064f", func := "baton/batonlaw30.TimerTicks", spec := "timerTicks", apart := false, narrowed := true }
def TimerTicksUptoSaid : Prop := timerTicksUptoRow.holds Try.pinned (OpenSpec.upto timerTicksSpec)

/-- 'batontop.TopKeys', WHERE WHAT IT READS IS OF BULK AT MOST 1048576: true; the input reads as it did. -/
def topKeysUptoRow : OpenClaim := { program := "ytagciaanfjllnaa", sum := "cc20e21f579fe9ce1871c28d5e0a57ee9f869bf22c0e7d713c75a95eff88064f", func := "baton/batontop.TopKeys", spec := "topKeys", inPlace := ["slices.overlaps[baton/inbox.Held]"], unfollowed := true, recurses := true, apart := false, narrowed := true }
def TopKeysUptoSaid : Prop := topKeysUptoRow.holds Try.pinned (OpenSpec.upto topKeysSpec)

/-- 'batonlaw30.TimerOnce', WHERE WHAT IT READS IS OF BULK AT MOST 1048576: true; the input reads as it did. -/
def timerOnceUptoRow : OpenClaim := { program := "ytagciaanfjllnaa", sum := "cc20e21f579fe9ce1871c28d5e0a57ee9f869bf22c0e7d713c75a95eff88064f", func := "baton/batonlaw30.TimerOnce", spec := "timerOnce", apart := false, narrowed := true }
def TimerOnceUptoSaid : Prop := timerOnceUptoRow.holds Try.pinned (OpenSpec.upto timerOnceSpec)

/-- 'batonlaw30.TimerMakes', WHERE WHAT IT READS IS OF BULK AT MOST 1048576: true; the input reads as it did. -/
def timerMakesUptoRow : OpenClaim := { program := "ytagciaanfjllnaa", sum := "cc20e21f579fe9ce1871c28d5e0a57ee9f869bf22c0e7d713c75a95eff88064f", func := "baton/batonlaw30.TimerMakes", spec := "timerMakes", apart := false, narrowed := true }
def TimerMakesUptoSaid : Prop := timerMakesUptoRow.holds Try.pinned (OpenSpec.upto timerMakesSpec)

/-- 'batonlaw14.CaretAreas', WHERE WHAT IT READS IS OF BULK AT MOST 1048576: true; the input reads as it did. -/
def caretAreasUptoRow : OpenClaim := { program := "ytagciaanfjllnaa", sum := "cc20e21f579fe9ce1871c28d5e0a57ee9f869bf22c0e7d713c75a95eff88064f", func := "baton/batonlaw14.CaretAreas", spec := "caretAreas", apart := false, narrowed := true }
def CaretAreasUptoSaid : Prop := caretAreasUptoRow.holds Try.pinned (OpenSpec.upto caretAreasSpec)

/-- 'batonlaw14.CaretGoes', WHERE WHAT IT READS IS OF BULK AT MOST 1048576: true; the input reads as it did. -/
def caretGoesUptoRow : OpenClaim := { program := "ytagciaanfjllnaa", sum := "cc20e21f579fe9ce1871c28d5e0a57ee9f869bf22c0e7d713c75a95eff88064f", func := "baton/batonlaw14.CaretGoes", spec := "caretGoes", apart := false, narrowed := true }
def CaretGoesUptoSaid : Prop := caretGoesUptoRow.holds Try.pinned (OpenSpec.upto caretGoesSpec)

/-- 'batonlaw14.CaretFeeds', WHERE WHAT IT READS IS OF BULK AT MOST 1048576: true; the input reads as it did. -/
def caretFeedsUptoRow : OpenClaim := { program := "ytagciaanfjllnaa", sum := "cc20e21f579fe9ce1871c28d5e0a57ee9f869bf22c0e7d713c75a95eff88064f", func := "baton/batonlaw14.CaretFeeds", spec := "caretFeeds", apart := false, narrowed := true }
def CaretFeedsUptoSaid : Prop := caretFeedsUptoRow.holds Try.pinned (OpenSpec.upto caretFeedsSpec)

/-- 'batonlaw14.CaretMoves', WHERE WHAT IT READS IS OF BULK AT MOST 1048576: true; the input reads as it did. -/
def caretMovesUptoRow : OpenClaim := { program := "ytagciaanfjllnaa", sum := "cc20e21f579fe9ce1871c28d5e0a57ee9f869bf22c0e7d713c75a95eff88064f", func := "baton/batonlaw14.CaretMoves", spec := "caretMoves", apart := false, narrowed := true }
def CaretMovesUptoSaid : Prop := caretMovesUptoRow.holds Try.pinned (OpenSpec.upto caretMovesSpec)

/-- 'batonlaw12.PenColours', WHERE WHAT IT READS IS OF BULK AT MOST 1048576: true; the input reads as it did. -/
def penColoursUptoRow : OpenClaim := { program := "ytagciaanfjllnaa", sum := "cc20e21f579fe9ce1871c28d5e0a57ee9f869bf22c0e7d713c75a95eff88064f", func := "baton/batonlaw12.PenColours", spec := "penColours", apart := false, narrowed := true }
def PenColoursUptoSaid : Prop := penColoursUptoRow.holds Try.pinned (OpenSpec.upto penColoursSpec)

/-- 'batonlaw12.PenSteps', WHERE WHAT IT READS IS OF BULK AT MOST 1048576: true; the input reads as it did. -/
def penStepsUptoRow : OpenClaim := { program := "ytagciaanfjllnaa", sum := "cc20e21f579fe9ce1871c28d5e0a57ee9f869bf22c0e7d713c75a95eff88064f", func := "baton/batonlaw12.PenSteps", spec := "penSteps", apart := false, narrowed := true }
def PenStepsUptoSaid : Prop := penStepsUptoRow.holds Try.pinned (OpenSpec.upto penStepsSpec)

/-- 'batonlaw12.PenCodes', WHERE WHAT IT READS IS OF BULK AT MOST 1048576: true; the input reads as it did. -/
def penCodesUptoRow : OpenClaim := { program := "ytagciaanfjllnaa", sum := "cc20e21f579fe9ce1871c28d5e0a57ee9f869bf22c0e7d713c75a95eff88064f", func := "baton/batonlaw12.PenCodes", spec := "penCodes", apart := false, narrowed := true }
def PenCodesUptoSaid : Prop := penCodesUptoRow.holds Try.pinned (OpenSpec.upto penCodesSpec)

end Rows
end Go.Proofs.Ytagciaanfjllnaa
