-- PRINTED BY print.sh 35421559b90ae4d0a3588c463048766b98c2df88dd9212a6774a882060cdf62d: not written by this session
import Derived.Test.YtagciaanfjllnaaProg
import Derived.Below
import Derived.Deep.Draws
import Derived.Deep.AppendLies
import Derived.Maps.AppendAt
import Derived.OwnWalk
import Derived.Laws.BytesArg
import Derived.Laws.MakeOwn
import Derived.Laws.OwnMore
import Derived.Deep.OwnRows
import Derived.Tactics
import Derived.Lib.ConvBytes
import Derived.Laws.Slices
import Derived.WalkKit
import Derived.KernelRfl
import Derived.RowKit3
import Derived.Deep.LoopGhost
import Derived.Deep.QuietTactic
import Derived.BigQuiet
import Derived.WideLaws
import Derived.Deep.DeepCutAuto
import Derived.Deep.CutBlock
import Derived.Deep.RegionHeld3
import Derived.Laws.Rows
import Derived.Lib.AppendStr
import Derived.ArgAppend
import Derived.Laws.IdiomCopy
import Derived.OrdersHeld
import Derived.Laws.BitsLemmas
import Derived.RowKit
import Derived.Test.YtagciaanfjllnaaWWords
import Derived.Test.YtagciaanfjllnaaWLast
import Derived.Test.YtagciaanfjllnaaWTab
import Derived.Test.YtagciaanfjllnaaWFour
import Derived.Test.YtagciaanfjllnaaWQPut
import Derived.Test.YtagciaanfjllnaaWApart
import Derived.Test.YtagciaanfjllnaaWArr
import Derived.Test.YtagciaanfjllnaaWZeros
import Derived.Test.YtagciaanfjllnaaWFoot
import Derived.Test.YtagciaanfjllnaaWKept
import Derived.Test.YtagciaanfjllnaaWShare
import Derived.Test.YtagciaanfjllnaaWN
import Derived.Test.YtagciaanfjllnaaWFootNe
import Derived.Test.YtagciaanfjllnaaWAt
import Derived.Test.YtagciaanfjllnaaWEqStruct
import Derived.Test.YtagciaanfjllnaaWRepsOne
import Derived.Test.YtagciaanfjllnaaWInv
import Derived.Test.YtagciaanfjllnaaWInvWords
import Derived.Test.YtagciaanfjllnaaWGuard
import Derived.Test.YtagciaanfjllnaaWNEv
import Derived.Test.YtagciaanfjllnaaWMore
namespace Go.Proofs.Ytagciaanfjllnaa.PCaretMoves
open Go.RowKit Go.Proofs.YtagciaanfjllnaaW.PrintWords Go.Proofs.YtagciaanfjllnaaW.PrintLast Go.Proofs.YtagciaanfjllnaaW.PrintMore
attribute [local go_sem] max2_int min2_int max_two min_two max_three min_three max_four min_four   -- for this text's walks alone
set_option linter.unusedVariables false
set_option linter.unusedSimpArgs false



def errW : Option Int → Value
  | none => .nilIface
  | some c => .iface 0 (.int .i64 c)
theorem errW_none : errW none = .nilIface := rfl
theorem errW_some (c : Int) : errW (some c) = .iface 0 (.int .i64 c) := rfl

-- the values' own types

end Go.Proofs.Ytagciaanfjllnaa.PCaretMoves
