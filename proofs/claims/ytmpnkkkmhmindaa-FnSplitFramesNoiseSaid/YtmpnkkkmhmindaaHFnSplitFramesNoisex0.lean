/- Proved here: what the Go functions that the law reaches answer, for every input at which their Lean twins answer. Conditions: those that each theorem states. Written by a program of this session, a copy of the kit's print with one contract by hand. -/
import Derived.Test.YtmpnkkkmhmindaaProg
import Derived.Below
import Derived.Deep.Draws
import Derived.Deep.AppendLies
import Derived.Maps.AppendAt
import Derived.OwnWalk
import Derived.Laws.BytesArg
import Derived.Laws.MakeOwn
import Derived.Laws.OwnMore
import Derived.Deep.OwnRows
import Derived.Tactics
import Derived.Lib.ConvBytes
import Derived.Laws.Slices
import Derived.WalkKit
import Derived.KernelRfl
import Derived.RowKit3
import Derived.Deep.LoopGhost
import Derived.Deep.QuietTactic
import Derived.BigQuiet
import Derived.WideLaws
import Derived.Deep.DeepCutAuto
import Derived.Deep.CutBlock
import Derived.Deep.RegionHeld3
import Derived.Laws.Rows
import Derived.Lib.AppendStr
import Derived.ArgAppend
import Derived.Laws.IdiomCopy
import Derived.OrdersHeld
import Derived.Laws.BitsLemmas
import Derived.RowKit
import Derived.Lib.Bytealg
import Derived.Lib.Walk
import Derived.Test.YtmpnkkkmhmindaaWWords
import Derived.Test.YtmpnkkkmhmindaaWLast
import Derived.Test.YtmpnkkkmhmindaaWTab
import Derived.Test.YtmpnkkkmhmindaaWFour
import Derived.Test.YtmpnkkkmhmindaaWQPut
import Derived.Test.YtmpnkkkmhmindaaWApart
import Derived.Test.YtmpnkkkmhmindaaWArr
import Derived.Test.YtmpnkkkmhmindaaWZeros
import Derived.Test.YtmpnkkkmhmindaaWFoot
import Derived.Test.YtmpnkkkmhmindaaWKept
import Derived.Test.YtmpnkkkmhmindaaWShare
import Derived.Test.YtmpnkkkmhmindaaWN
import Derived.Test.YtmpnkkkmhmindaaWFootNe
import Derived.Test.YtmpnkkkmhmindaaWAt
import Derived.Test.YtmpnkkkmhmindaaWEqStruct
import Derived.Test.YtmpnkkkmhmindaaWRepsOne
import Derived.Test.YtmpnkkkmhmindaaWInv
import Derived.Test.YtmpnkkkmhmindaaWInvWords
import Derived.Test.YtmpnkkkmhmindaaWGuard
import Derived.Test.YtmpnkkkmhmindaaWNEv
import Derived.Test.YtmpnkkkmhmindaaWMore
namespace Go.Proofs.Ytmpnkkkmhmindaa.HFnSplitFramesNoise
open Go.RowKit Go.Proofs.YtmpnkkkmhmindaaW.PrintWords Go.Proofs.YtmpnkkkmhmindaaW.PrintLast Go.Proofs.YtmpnkkkmhmindaaW.PrintMore
attribute [local go_sem] max2_int min2_int max_two min_two max_three min_three max_four min_four   -- for this text's walks alone
set_option linter.unusedVariables false
set_option linter.unusedSimpArgs false



def errW : Option Int → Value
  | none => .nilIface
  | some c => .iface 0 (.int .i64 c)
theorem errW_none : errW none = .nilIface := rfl
theorem errW_some (c : Int) : errW (some c) = .iface 0 (.int .i64 c) := rfl

theorem info3 : (Try.prog.info? 3).map (fun i => (i.zero, i.size, i.bytes)) = some (some (.int .i64 0), 1, 8) := by kernel_rfl
theorem info5 : (Try.prog.info? 5).map (fun i => (i.zero, i.size, i.bytes)) = some (some (.int .u8 0), 1, 1) := by kernel_rfl
theorem info9 : (Try.prog.info? 9).map (fun i => (i.zero, i.size, i.bytes)) = some (some (.string ⟨#[]⟩), 1, 16) := by kernel_rfl
-- the values' own types

end Go.Proofs.Ytmpnkkkmhmindaa.HFnSplitFramesNoise
