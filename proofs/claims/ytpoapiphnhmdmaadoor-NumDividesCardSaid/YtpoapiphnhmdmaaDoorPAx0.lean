-- Laid by this session's wip/hp/hp.py: the kit's print with own contracts for what it does not take
import Derived.Test.YtpoapiphnhmdmaaDoorProg
import Derived.Below
import Derived.Deep.Draws
import Derived.Deep.AppendLies
import Derived.Maps.AppendAt
import Derived.OwnWalk
import Derived.Laws.BytesArg
import Derived.Laws.MakeOwn
import Derived.Laws.OwnMore
import Derived.Deep.OwnRows
import Derived.Tactics
import Derived.Lib.ConvBytes
import Derived.Laws.Slices
import Derived.WalkKit
import Derived.KernelRfl
import Derived.RowKit3
import Derived.Deep.LoopGhost
import Derived.Deep.QuietTactic
import Derived.BigQuiet
import Derived.WideLaws
import Derived.Deep.DeepCutAuto
import Derived.Deep.CutBlock
import Derived.Deep.RegionHeld3
import Derived.Laws.Rows
import Derived.Lib.AppendStr
import Derived.ArgAppend
import Derived.Laws.IdiomCopy
import Derived.OrdersHeld
import Derived.Laws.BitsLemmas
import Derived.RowKit
import Derived.ScopeJumps
import Derived.WalkMore
import Derived.Lib.TrailingZeros
import Derived.Test.YtpoapiphnhmdmaaDoorWWords
import Derived.Test.YtpoapiphnhmdmaaDoorWLast
import Derived.Test.YtpoapiphnhmdmaaDoorWTab
import Derived.Test.YtpoapiphnhmdmaaDoorWFour
import Derived.Test.YtpoapiphnhmdmaaDoorWQPut
import Derived.Test.YtpoapiphnhmdmaaDoorWApart
import Derived.Test.YtpoapiphnhmdmaaDoorWArr
import Derived.Test.YtpoapiphnhmdmaaDoorWZeros
import Derived.Test.YtpoapiphnhmdmaaDoorWFoot
import Derived.Test.YtpoapiphnhmdmaaDoorWKept
import Derived.Test.YtpoapiphnhmdmaaDoorWShare
import Derived.Test.YtpoapiphnhmdmaaDoorWN
import Derived.Test.YtpoapiphnhmdmaaDoorWFootNe
import Derived.Test.YtpoapiphnhmdmaaDoorWAt
import Derived.Test.YtpoapiphnhmdmaaDoorWEqStruct
import Derived.Test.YtpoapiphnhmdmaaDoorWRepsOne
import Derived.Test.YtpoapiphnhmdmaaDoorWInv
import Derived.Test.YtpoapiphnhmdmaaDoorWInvWords
import Derived.Test.YtpoapiphnhmdmaaDoorWGuard
import Derived.Test.YtpoapiphnhmdmaaDoorWNEv
import Derived.Test.YtpoapiphnhmdmaaDoorWMore
namespace Go.Proofs.YtpoapiphnhmdmaaDoor.PA
open Go.RowKit Go.Proofs.YtpoapiphnhmdmaaDoorW.PrintWords Go.Proofs.YtpoapiphnhmdmaaDoorW.PrintLast Go.Proofs.YtpoapiphnhmdmaaDoorW.PrintMore
attribute [local go_sem] max2_int min2_int max_two min_two max_three min_three max_four min_four   -- for this text's walks alone
set_option linter.unusedVariables false
set_option linter.unusedSimpArgs false



def errW : Option Int → Value
  | none => .nilIface
  | some c => .iface 0 (.int .i64 c)
theorem errW_none : errW none = .nilIface := rfl
theorem errW_some (c : Int) : errW (some c) = .iface 0 (.int .i64 c) := rfl

theorem info3 : (Tryd.prog.info? 3).map (fun i => (i.zero, i.size, i.bytes)) = some (some (.int .i64 0), 1, 8) := by kernel_rfl
-- the values' own types

end Go.Proofs.YtpoapiphnhmdmaaDoor.PA
