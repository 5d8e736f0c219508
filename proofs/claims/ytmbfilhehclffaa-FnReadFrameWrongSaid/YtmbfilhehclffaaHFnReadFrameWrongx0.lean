/- Proved here: what the Go functions that the law reaches answer, for every input at which their Lean twins answer. Conditions: those that each theorem states. Written by a program of this session (mend.py), out of the text that the kit's print makes for the law. -/
import Derived.Test.YtmbfilhehclffaaProg
import Derived.Below
import Derived.Deep.Draws
import Derived.Deep.AppendLies
import Derived.Maps.AppendAt
import Derived.OwnWalk
import Derived.Laws.BytesArg
import Derived.Laws.MakeOwn
import Derived.Laws.OwnMore
import Derived.Deep.OwnRows
import Derived.Tactics
import Derived.Lib.ConvBytes
import Derived.Laws.Slices
import Derived.WalkKit
import Derived.KernelRfl
import Derived.RowKit3
import Derived.Deep.LoopGhost
import Derived.Deep.QuietTactic
import Derived.BigQuiet
import Derived.WideLaws
import Derived.Deep.DeepCutAuto
import Derived.Deep.CutBlock
import Derived.Deep.RegionHeld3
import Derived.Laws.Rows
import Derived.Lib.AppendStr
import Derived.ArgAppend
import Derived.Laws.IdiomCopy
import Derived.OrdersHeld
import Derived.Laws.BitsLemmas
import Derived.RowKit
import Derived.Test.YtmbfilhehclffaaWWords
import Derived.Test.YtmbfilhehclffaaWLast
import Derived.Test.YtmbfilhehclffaaWTab
import Derived.Test.YtmbfilhehclffaaWFour
import Derived.Test.YtmbfilhehclffaaWQPut
import Derived.Test.YtmbfilhehclffaaWApart
import Derived.Test.YtmbfilhehclffaaWArr
import Derived.Test.YtmbfilhehclffaaWZeros
import Derived.Test.YtmbfilhehclffaaWFoot
import Derived.Test.YtmbfilhehclffaaWKept
import Derived.Test.YtmbfilhehclffaaWShare
import Derived.Test.YtmbfilhehclffaaWN
import Derived.Test.YtmbfilhehclffaaWFootNe
import Derived.Test.YtmbfilhehclffaaWAt
import Derived.Test.YtmbfilhehclffaaWEqStruct
import Derived.Test.YtmbfilhehclffaaWRepsOne
import Derived.Test.YtmbfilhehclffaaWInv
import Derived.Test.YtmbfilhehclffaaWInvWords
import Derived.Test.YtmbfilhehclffaaWGuard
import Derived.Test.YtmbfilhehclffaaWNEv
import Derived.Test.YtmbfilhehclffaaWMore
namespace Go.Proofs.Ytmbfilhehclffaa.HFnReadFrameWrong
open Go.RowKit Go.Proofs.YtmbfilhehclffaaW.PrintWords Go.Proofs.YtmbfilhehclffaaW.PrintLast Go.Proofs.YtmbfilhehclffaaW.PrintMore
attribute [local go_sem] max2_int min2_int max_two min_two max_three min_three max_four min_four   -- for this text's walks alone
set_option linter.unusedVariables false
set_option linter.unusedSimpArgs false



def errW : Option Int → Value
  | none => .nilIface
  | some c => .iface 0 (.int .i64 c)
theorem errW_none : errW none = .nilIface := rfl
theorem errW_some (c : Int) : errW (some c) = .iface 0 (.int .i64 c) := rfl

theorem info5 : (Try.prog.info? 5).map (fun i => (i.zero, i.size, i.bytes)) = some (some (.int .u8 0), 1, 1) := by kernel_rfl
theorem info9 : (Try.prog.info? 9).map (fun i => (i.zero, i.size, i.bytes)) = some (some (.string ⟨#[]⟩), 1, 16) := by kernel_rfl
-- the values' own types

end Go.Proofs.Ytmbfilhehclffaa.HFnReadFrameWrong
