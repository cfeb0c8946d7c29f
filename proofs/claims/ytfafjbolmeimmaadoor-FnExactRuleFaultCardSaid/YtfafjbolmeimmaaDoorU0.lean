/- Written by a program of this session: plain Lean functions for Go functions, and for each the proof that the call comes to what the function says. -/
import Derived.Test.YtfafjbolmeimmaaDoorProg
import Derived.Below
import Derived.Deep.Draws
import Derived.Deep.AppendLies
import Derived.Maps.AppendAt
import Derived.OwnWalk
import Derived.Laws.BytesArg
import Derived.Laws.MakeOwn
import Derived.Laws.OwnMore
import Derived.Deep.OwnRows
import Derived.Tactics
import Derived.Lib.ConvBytes
import Derived.Laws.Slices
import Derived.WalkKit
import Derived.KernelRfl
import Derived.RowKit3
import Derived.Deep.LoopGhost
import Derived.Deep.QuietTactic
import Derived.BigQuiet
import Derived.WideLaws
import Derived.Deep.DeepCutAuto
import Derived.Deep.CutBlock
import Derived.Deep.RegionHeld3
import Derived.Laws.Rows
import Derived.Lib.AppendStr
import Derived.ArgAppend
import Derived.Laws.IdiomCopy
import Derived.OrdersHeld
import Derived.Laws.BitsLemmas
import Derived.RowKit
import Derived.Test.YtfafjbolmeimmaaDoorXG
import Derived.Test.YtfafjbolmeimmaaDoorWWords
import Derived.Test.YtfafjbolmeimmaaDoorWLast
import Derived.Test.YtfafjbolmeimmaaDoorWTab
import Derived.Test.YtfafjbolmeimmaaDoorWFour
import Derived.Test.YtfafjbolmeimmaaDoorWQPut
import Derived.Test.YtfafjbolmeimmaaDoorWApart
import Derived.Test.YtfafjbolmeimmaaDoorWArr
import Derived.Test.YtfafjbolmeimmaaDoorWZeros
import Derived.Test.YtfafjbolmeimmaaDoorWFoot
import Derived.Test.YtfafjbolmeimmaaDoorWKept
import Derived.Test.YtfafjbolmeimmaaDoorWShare
import Derived.Test.YtfafjbolmeimmaaDoorWN
import Derived.Test.YtfafjbolmeimmaaDoorWFootNe
import Derived.Test.YtfafjbolmeimmaaDoorWAt
import Derived.Test.YtfafjbolmeimmaaDoorWEqStruct
import Derived.Test.YtfafjbolmeimmaaDoorWRepsOne
import Derived.Test.YtfafjbolmeimmaaDoorWInv
import Derived.Test.YtfafjbolmeimmaaDoorWInvWords
import Derived.Test.YtfafjbolmeimmaaDoorWGuard
import Derived.Test.YtfafjbolmeimmaaDoorWNEv
import Derived.Test.YtfafjbolmeimmaaDoorWMore
namespace Go.Proofs.YtfafjbolmeimmaaDoor.P
open Go.RowKit Go.Proofs.YtfafjbolmeimmaaDoorW.PrintWords Go.Proofs.YtfafjbolmeimmaaDoorW.PrintLast Go.Proofs.YtfafjbolmeimmaaDoorW.PrintMore
attribute [local go_sem] max2_int min2_int max_two min_two max_three min_three max_four min_four   -- for this text's walks alone
set_option linter.unusedVariables false
set_option linter.unusedSimpArgs false



def errW : Option Int → Value
  | none => .nilIface
  | some c => .iface 0 (.int .i64 c)
theorem errW_none : errW none = .nilIface := rfl
theorem errW_some (c : Int) : errW (some c) = .iface 0 (.int .i64 c) := rfl

-- the values' own types

end Go.Proofs.YtfafjbolmeimmaaDoor.P
