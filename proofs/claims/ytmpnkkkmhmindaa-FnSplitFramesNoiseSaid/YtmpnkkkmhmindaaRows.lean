/-
  No cell of these rows narrows 'for every input' (looked for: loops, veiled, ifaces, maps, wideKeys, modest, calm, conditions, laid).
  DERIVED. THE GIVEN ROWS OF THIS SEAT. 12 by the template 'for every input the law returns true; each argument reads behind the call as it read before'; 0 by the template 'total and deterministic' (their statements: YtmpnkkkmhmindaaTotals.lean).
  GIVEN WITH THE SEED: the statements are not yours to turn. If you find one false, say at which input.
  Laid BY PROGRAM, IN A SANDBOX (cutbox-rows.mjs): the forced cells as the released guide's own fill.sh prints them over the translation 25b1ab330f0714ec… (all of the seat's roots in one cut). By AI agents, Wed Nov 11 2026. No macro, syntax, notation, axiom, sorry.
-/
import Derived.Test.YtmpnkkkmhmindaaChecked
import GoSem.Claim
import GoSem.ClaimJoined
import GoSem.ClaimMapViews
import Derived.JoinedTies
import Derived.KernelRfl
namespace Go.Proofs.Ytmpnkkkmhmindaa
/- THE CELL 'sum', in the pinned program and in every row, IS THE sha256 OF THE DUMP (.gsa) THAT YtmpnkkkmhmindaaProg.lean LOADS. Nothing in Lean hashes anything: it is a label: what it is worth is what the hold of that sum in a sandbox is worth. -/
noncomputable def Try.pinned : Pinned := { name := "ytmpnkkkmhmindaa", sum := "25b1ab330f0714ec23b4df8361e7c4eef466a84ca850ec5671193f89339e5ced", checked := Try.checked }
namespace Rows
def none {H : Type} : Left H := { results := [], args := [] }

/-- 'laws.FnExactValidLeaps': WHATEVER THE INPUT: true; the input reads as it did. -/
def fnExactValidLeapsSpec : ChangeSpec := { name := "fnExactValidLeaps", fn := fun _ => fun
  | [d] => { results := [.lit (.bool true)], args := [d] }
  | _ => none }
def fnExactValidLeapsRow : OpenClaim := { program := "ytmpnkkkmhmindaa", sum := "25b1ab330f0714ec23b4df8361e7c4eef466a84ca850ec5671193f89339e5ced", func := "loop.example/satelliteclock/laws.FnExactValidLeaps", spec := "fnExactValidLeaps", apart := false }
def FnExactValidLeapsSaid : Prop := fnExactValidLeapsRow.holds Try.pinned (OpenSpec.ofChange fnExactValidLeapsSpec)

/-- ITS FALSE NEIGHBOUR: 'it returns false'. Refute it at one input. -/
def fnExactValidLeapsWrong : ChangeSpec := { name := "fnExactValidLeaps", fn := fun _ => fun
  | [d] => { results := [.lit (.bool false)], args := [d] }
  | _ => none }
def FnExactValidLeapsWrongFalsely : Prop := fnExactValidLeapsRow.holds Try.pinned (OpenSpec.ofChange fnExactValidLeapsWrong)

/-- 'laws.FnIsLeapYearFour': WHATEVER THE INPUT: true; the input reads as it did. -/
def fnIsLeapYearFourSpec : ChangeSpec := { name := "fnIsLeapYearFour", fn := fun _ => fun
  | [d] => { results := [.lit (.bool true)], args := [d] }
  | _ => none }
def fnIsLeapYearFourRow : OpenClaim := { program := "ytmpnkkkmhmindaa", sum := "25b1ab330f0714ec23b4df8361e7c4eef466a84ca850ec5671193f89339e5ced", func := "loop.example/satelliteclock/laws.FnIsLeapYearFour", spec := "fnIsLeapYearFour", apart := false }
def FnIsLeapYearFourSaid : Prop := fnIsLeapYearFourRow.holds Try.pinned (OpenSpec.ofChange fnIsLeapYearFourSpec)

/-- ITS FALSE NEIGHBOUR: 'it returns false'. Refute it at one input. -/
def fnIsLeapYearFourWrong : ChangeSpec := { name := "fnIsLeapYearFour", fn := fun _ => fun
  | [d] => { results := [.lit (.bool false)], args := [d] }
  | _ => none }
def FnIsLeapYearFourWrongFalsely : Prop := fnIsLeapYearFourRow.holds Try.pinned (OpenSpec.ofChange fnIsLeapYearFourWrong)

/-- 'laws.FnFullWeek': WHATEVER THE INPUT: true; the input reads as it did. -/
def fnFullWeekSpec : ChangeSpec := { name := "fnFullWeek", fn := fun _ => fun
  | [d] => { results := [.lit (.bool true)], args := [d] }
  | _ => none }
def fnFullWeekRow : OpenClaim := { program := "ytmpnkkkmhmindaa", sum := "25b1ab330f0714ec23b4df8361e7c4eef466a84ca850ec5671193f89339e5ced", func := "loop.example/satelliteclock/laws.FnFullWeek", spec := "fnFullWeek", apart := false }
def FnFullWeekSaid : Prop := fnFullWeekRow.holds Try.pinned (OpenSpec.ofChange fnFullWeekSpec)

/-- ITS FALSE NEIGHBOUR: 'it returns false'. Refute it at one input. -/
def fnFullWeekWrong : ChangeSpec := { name := "fnFullWeek", fn := fun _ => fun
  | [d] => { results := [.lit (.bool false)], args := [d] }
  | _ => none }
def FnFullWeekWrongFalsely : Prop := fnFullWeekRow.holds Try.pinned (OpenSpec.ofChange fnFullWeekWrong)

/-- 'laws.FnSplitFramesJoin': WHATEVER THE INPUT: true; the input reads as it did. -/
def fnSplitFramesJoinSpec : ChangeSpec := { name := "fnSplitFramesJoin", fn := fun _ => fun
  | [d] => { results := [.lit (.bool true)], args := [d] }
  | _ => none }
def fnSplitFramesJoinRow : OpenClaim := { program := "ytmpnkkkmhmindaa", sum := "25b1ab330f0714ec23b4df8361e7c4eef466a84ca850ec5671193f89339e5ced", func := "loop.example/satelliteclock/laws.FnSplitFramesJoin", spec := "fnSplitFramesJoin", inPlace := ["internal/bytealg.IndexByteString"], recurses := true, apart := false }
def FnSplitFramesJoinSaid : Prop := fnSplitFramesJoinRow.holds Try.pinned (OpenSpec.ofChange fnSplitFramesJoinSpec)

/-- ITS FALSE NEIGHBOUR: 'it returns false'. Refute it at one input. -/
def fnSplitFramesJoinWrong : ChangeSpec := { name := "fnSplitFramesJoin", fn := fun _ => fun
  | [d] => { results := [.lit (.bool false)], args := [d] }
  | _ => none }
def FnSplitFramesJoinWrongFalsely : Prop := fnSplitFramesJoinRow.holds Try.pinned (OpenSpec.ofChange fnSplitFramesJoinWrong)

/-- 'laws.FnFullWeekNext': WHATEVER THE INPUT: true; the input reads as it did. -/
def fnFullWeekNextSpec : ChangeSpec := { name := "fnFullWeekNext", fn := fun _ => fun
  | [d] => { results := [.lit (.bool true)], args := [d] }
  | _ => none }
def fnFullWeekNextRow : OpenClaim := { program := "ytmpnkkkmhmindaa", sum := "25b1ab330f0714ec23b4df8361e7c4eef466a84ca850ec5671193f89339e5ced", func := "loop.example/satelliteclock/laws.FnFullWeekNext", spec := "fnFullWeekNext", apart := false }
def FnFullWeekNextSaid : Prop := fnFullWeekNextRow.holds Try.pinned (OpenSpec.ofChange fnFullWeekNextSpec)

/-- ITS FALSE NEIGHBOUR: 'it returns false'. Refute it at one input. -/
def fnFullWeekNextWrong : ChangeSpec := { name := "fnFullWeekNext", fn := fun _ => fun
  | [d] => { results := [.lit (.bool false)], args := [d] }
  | _ => none }
def FnFullWeekNextWrongFalsely : Prop := fnFullWeekNextRow.holds Try.pinned (OpenSpec.ofChange fnFullWeekNextWrong)

/-- 'laws.FnWeekdayOf': WHATEVER THE INPUT: true; the input reads as it did. -/
def fnWeekdayOfSpec : ChangeSpec := { name := "fnWeekdayOf", fn := fun _ => fun
  | [d] => { results := [.lit (.bool true)], args := [d] }
  | _ => none }
def fnWeekdayOfRow : OpenClaim := { program := "ytmpnkkkmhmindaa", sum := "25b1ab330f0714ec23b4df8361e7c4eef466a84ca850ec5671193f89339e5ced", func := "loop.example/satelliteclock/laws.FnWeekdayOf", spec := "fnWeekdayOf", apart := false }
def FnWeekdayOfSaid : Prop := fnWeekdayOfRow.holds Try.pinned (OpenSpec.ofChange fnWeekdayOfSpec)

/-- ITS FALSE NEIGHBOUR: 'it returns false'. Refute it at one input. -/
def fnWeekdayOfWrong : ChangeSpec := { name := "fnWeekdayOf", fn := fun _ => fun
  | [d] => { results := [.lit (.bool false)], args := [d] }
  | _ => none }
def FnWeekdayOfWrongFalsely : Prop := fnWeekdayOfRow.holds Try.pinned (OpenSpec.ofChange fnWeekdayOfWrong)

/-- 'laws.FnWeekdayOfEpoch': WHATEVER THE INPUT: true; the input reads as it did. -/
def fnWeekdayOfEpochSpec : ChangeSpec := { name := "fnWeekdayOfEpoch", fn := fun _ => fun
  | [d] => { results := [.lit (.bool true)], args := [d] }
  | _ => none }
def fnWeekdayOfEpochRow : OpenClaim := { program := "ytmpnkkkmhmindaa", sum := "25b1ab330f0714ec23b4df8361e7c4eef466a84ca850ec5671193f89339e5ced", func := "loop.example/satelliteclock/laws.FnWeekdayOfEpoch", spec := "fnWeekdayOfEpoch", apart := false }
def FnWeekdayOfEpochSaid : Prop := fnWeekdayOfEpochRow.holds Try.pinned (OpenSpec.ofChange fnWeekdayOfEpochSpec)

/-- ITS FALSE NEIGHBOUR: 'it returns false'. Refute it at one input. -/
def fnWeekdayOfEpochWrong : ChangeSpec := { name := "fnWeekdayOfEpoch", fn := fun _ => fun
  | [d] => { results := [.lit (.bool false)], args := [d] }
  | _ => none }
def FnWeekdayOfEpochWrongFalsely : Prop := fnWeekdayOfEpochRow.holds Try.pinned (OpenSpec.ofChange fnWeekdayOfEpochWrong)

/-- 'laws.FnGpsTime': WHATEVER THE INPUT: true; the input reads as it did. -/
def fnGpsTimeSpec : ChangeSpec := { name := "fnGpsTime", fn := fun _ => fun
  | [d] => { results := [.lit (.bool true)], args := [d] }
  | _ => none }
def fnGpsTimeRow : OpenClaim := { program := "ytmpnkkkmhmindaa", sum := "25b1ab330f0714ec23b4df8361e7c4eef466a84ca850ec5671193f89339e5ced", func := "loop.example/satelliteclock/laws.FnGpsTime", spec := "fnGpsTime", apart := false }
def FnGpsTimeSaid : Prop := fnGpsTimeRow.holds Try.pinned (OpenSpec.ofChange fnGpsTimeSpec)

/-- ITS FALSE NEIGHBOUR: 'it returns false'. Refute it at one input. -/
def fnGpsTimeWrong : ChangeSpec := { name := "fnGpsTime", fn := fun _ => fun
  | [d] => { results := [.lit (.bool false)], args := [d] }
  | _ => none }
def FnGpsTimeWrongFalsely : Prop := fnGpsTimeRow.holds Try.pinned (OpenSpec.ofChange fnGpsTimeWrong)

/-- 'laws.FnExactFrameBody': WHATEVER THE INPUT: true; the input reads as it did. -/
def fnExactFrameBodySpec : ChangeSpec := { name := "fnExactFrameBody", fn := fun _ => fun
  | [d] => { results := [.lit (.bool true)], args := [d] }
  | _ => none }
def fnExactFrameBodyRow : OpenClaim := { program := "ytmpnkkkmhmindaa", sum := "25b1ab330f0714ec23b4df8361e7c4eef466a84ca850ec5671193f89339e5ced", func := "loop.example/satelliteclock/laws.FnExactFrameBody", spec := "fnExactFrameBody", apart := false }
def FnExactFrameBodySaid : Prop := fnExactFrameBodyRow.holds Try.pinned (OpenSpec.ofChange fnExactFrameBodySpec)

/-- ITS FALSE NEIGHBOUR: 'it returns false'. Refute it at one input. -/
def fnExactFrameBodyWrong : ChangeSpec := { name := "fnExactFrameBody", fn := fun _ => fun
  | [d] => { results := [.lit (.bool false)], args := [d] }
  | _ => none }
def FnExactFrameBodyWrongFalsely : Prop := fnExactFrameBodyRow.holds Try.pinned (OpenSpec.ofChange fnExactFrameBodyWrong)

/-- 'laws.FnIsLeapYear': WHATEVER THE INPUT: true; the input reads as it did. -/
def fnIsLeapYearSpec : ChangeSpec := { name := "fnIsLeapYear", fn := fun _ => fun
  | [d] => { results := [.lit (.bool true)], args := [d] }
  | _ => none }
def fnIsLeapYearRow : OpenClaim := { program := "ytmpnkkkmhmindaa", sum := "25b1ab330f0714ec23b4df8361e7c4eef466a84ca850ec5671193f89339e5ced", func := "loop.example/satelliteclock/laws.FnIsLeapYear", spec := "fnIsLeapYear", apart := false }
def FnIsLeapYearSaid : Prop := fnIsLeapYearRow.holds Try.pinned (OpenSpec.ofChange fnIsLeapYearSpec)

/-- ITS FALSE NEIGHBOUR: 'it returns false'. Refute it at one input. -/
def fnIsLeapYearWrong : ChangeSpec := { name := "fnIsLeapYear", fn := fun _ => fun
  | [d] => { results := [.lit (.bool false)], args := [d] }
  | _ => none }
def FnIsLeapYearWrongFalsely : Prop := fnIsLeapYearRow.holds Try.pinned (OpenSpec.ofChange fnIsLeapYearWrong)

/-- 'laws.FnSplitFramesNoise': WHATEVER THE INPUT: true; the input reads as it did. -/
def fnSplitFramesNoiseSpec : ChangeSpec := { name := "fnSplitFramesNoise", fn := fun _ => fun
  | [d] => { results := [.lit (.bool true)], args := [d] }
  | _ => none }
def fnSplitFramesNoiseRow : OpenClaim := { program := "ytmpnkkkmhmindaa", sum := "25b1ab330f0714ec23b4df8361e7c4eef466a84ca850ec5671193f89339e5ced", func := "loop.example/satelliteclock/laws.FnSplitFramesNoise", spec := "fnSplitFramesNoise", inPlace := ["internal/bytealg.IndexByteString"], recurses := true, apart := false }
def FnSplitFramesNoiseSaid : Prop := fnSplitFramesNoiseRow.holds Try.pinned (OpenSpec.ofChange fnSplitFramesNoiseSpec)

/-- ITS FALSE NEIGHBOUR: 'it returns false'. Refute it at one input. -/
def fnSplitFramesNoiseWrong : ChangeSpec := { name := "fnSplitFramesNoise", fn := fun _ => fun
  | [d] => { results := [.lit (.bool false)], args := [d] }
  | _ => none }
def FnSplitFramesNoiseWrongFalsely : Prop := fnSplitFramesNoiseRow.holds Try.pinned (OpenSpec.ofChange fnSplitFramesNoiseWrong)

/-- 'laws.FnGpsTimeWeek': WHATEVER THE INPUT: true; the input reads as it did. -/
def fnGpsTimeWeekSpec : ChangeSpec := { name := "fnGpsTimeWeek", fn := fun _ => fun
  | [d] => { results := [.lit (.bool true)], args := [d] }
  | _ => none }
def fnGpsTimeWeekRow : OpenClaim := { program := "ytmpnkkkmhmindaa", sum := "25b1ab330f0714ec23b4df8361e7c4eef466a84ca850ec5671193f89339e5ced", func := "loop.example/satelliteclock/laws.FnGpsTimeWeek", spec := "fnGpsTimeWeek", apart := false }
def FnGpsTimeWeekSaid : Prop := fnGpsTimeWeekRow.holds Try.pinned (OpenSpec.ofChange fnGpsTimeWeekSpec)

/-- ITS FALSE NEIGHBOUR: 'it returns false'. Refute it at one input. -/
def fnGpsTimeWeekWrong : ChangeSpec := { name := "fnGpsTimeWeek", fn := fun _ => fun
  | [d] => { results := [.lit (.bool false)], args := [d] }
  | _ => none }
def FnGpsTimeWeekWrongFalsely : Prop := fnGpsTimeWeekRow.holds Try.pinned (OpenSpec.ofChange fnGpsTimeWeekWrong)

/- THE SECOND FORM. 'bulk': how many values and letters a reading holds, each counted each time it is reached (what is shared counts as often as it is met; a slice's spare places count too). A statement '..UptoSaid' is the law's where the arguments, and the package variables that the reading takes, are together of bulk at most 1048576: NARROWER than '..Said'. Prove '..Said' where nothing that the law and all that it calls make is longer than what came in: it says more and counts as full. Else prove '..UptoSaid'. A law counts once. -/
mutual
def uptoBulk {H : Type} : DataW H → Nat
  | .lit (.string bytes) => bytes.length + 1
  | .lit _ => 1
  | .nil => 1
  | .ptr d => uptoBulk d + 1
  | .slice elems spare => uptoBulkAll elems + uptoBulkAll spare + 1
  | .agg parts => uptoBulkAll parts + 1
  | .iface _ d => uptoBulk d + 1
  | .map entries => uptoBulkEntries entries + 1
  | .held _ => 1
def uptoBulkAll {H : Type} : List (DataW H) → Nat
  | [] => 0
  | d :: r => uptoBulk d + uptoBulkAll r
def uptoBulkEntries {H : Type} : List (Lit × DataW H) → Nat
  | [] => 0
  | x :: r => uptoBulkEntry x + uptoBulkEntries r
def uptoBulkEntry {H : Type} : Lit × DataW H → Nat
  | (.string bytes, d) => bytes.length + uptoBulk d + 1
  | (_, d) => uptoBulk d + 1
 end
def uptoSmall : (H : Type) → List (DataW H) → Bool := fun _ ds => decide (uptoBulkAll ds ≤ 1048576)
def OpenSpec.upto (s : _root_.Go.ChangeSpec) : _root_.Go.OpenSpec := { _root_.Go.OpenSpec.ofChange s with cond := some uptoSmall }

/-- 'laws.FnExactValidLeaps', WHERE WHAT IT READS IS OF BULK AT MOST 1048576: true; the input reads as it did. -/
def fnExactValidLeapsUptoRow : OpenClaim := { program := "ytmpnkkkmhmindaa", sum := "25b1ab330f0714ec23b4df8361e7c4eef466a84ca850ec5671193f89339e5ced", func := "loop.example/satelliteclock/laws.FnExactValidLeaps", spec := "fnExactValidLeaps", apart := false, narrowed := true }
def FnExactValidLeapsUptoSaid : Prop := fnExactValidLeapsUptoRow.holds Try.pinned (OpenSpec.upto fnExactValidLeapsSpec)

/-- 'laws.FnIsLeapYearFour', WHERE WHAT IT READS IS OF BULK AT MOST 1048576: true; the input reads as it did. -/
def fnIsLeapYearFourUptoRow : OpenClaim := { program := "ytmpnkkkmhmindaa", sum := "25b1ab330f0714ec23b4df8361e7c4eef466a84ca850ec5671193f89339e5ced", func := "loop.example/satelliteclock/laws.FnIsLeapYearFour", spec := "fnIsLeapYearFour", apart := false, narrowed := true }
def FnIsLeapYearFourUptoSaid : Prop := fnIsLeapYearFourUptoRow.holds Try.pinned (OpenSpec.upto fnIsLeapYearFourSpec)

/-- 'laws.FnFullWeek', WHERE WHAT IT READS IS OF BULK AT MOST 1048576: true; the input reads as it did. -/
def fnFullWeekUptoRow : OpenClaim := { program := "ytmpnkkkmhmindaa", sum := "25b1ab330f0714ec23b4df8361e7c4eef466a84ca850ec5671193f89339e5ced", func := "loop.example/satelliteclock/laws.FnFullWeek", spec := "fnFullWeek", apart := false, narrowed := true }
def FnFullWeekUptoSaid : Prop := fnFullWeekUptoRow.holds Try.pinned (OpenSpec.upto fnFullWeekSpec)

/-- 'laws.FnSplitFramesJoin', WHERE WHAT IT READS IS OF BULK AT MOST 1048576: true; the input reads as it did. -/
def fnSplitFramesJoinUptoRow : OpenClaim := { program := "ytmpnkkkmhmindaa", sum := "25b1ab330f0714ec23b4df8361e7c4eef466a84ca850ec5671193f89339e5ced", func := "loop.example/satelliteclock/laws.FnSplitFramesJoin", spec := "fnSplitFramesJoin", inPlace := ["internal/bytealg.IndexByteString"], recurses := true, apart := false, narrowed := true }
def FnSplitFramesJoinUptoSaid : Prop := fnSplitFramesJoinUptoRow.holds Try.pinned (OpenSpec.upto fnSplitFramesJoinSpec)

/-- 'laws.FnFullWeekNext', WHERE WHAT IT READS IS OF BULK AT MOST 1048576: true; the input reads as it did. -/
def fnFullWeekNextUptoRow : OpenClaim := { program := "ytmpnkkkmhmindaa", sum := "25b1ab330f0714ec23b4df8361e7c4eef466a84ca850ec5671193f89339e5ced", func := "loop.example/satelliteclock/laws.FnFullWeekNext", spec := "fnFullWeekNext", apart := false, narrowed := true }
def FnFullWeekNextUptoSaid : Prop := fnFullWeekNextUptoRow.holds Try.pinned (OpenSpec.upto fnFullWeekNextSpec)

/-- 'laws.FnWeekdayOf', WHERE WHAT IT READS IS OF BULK AT MOST 1048576: true; the input reads as it did. -/
def fnWeekdayOfUptoRow : OpenClaim := { program := "ytmpnkkkmhmindaa", sum := "25b1ab330f0714ec23b4df8361e7c4eef466a84ca850ec5671193f89339e5ced", func := "loop.example/satelliteclock/laws.FnWeekdayOf", spec := "fnWeekdayOf", apart := false, narrowed := true }
def FnWeekdayOfUptoSaid : Prop := fnWeekdayOfUptoRow.holds Try.pinned (OpenSpec.upto fnWeekdayOfSpec)

/-- 'laws.FnWeekdayOfEpoch', WHERE WHAT IT READS IS OF BULK AT MOST 1048576: true; the input reads as it did. -/
def fnWeekdayOfEpochUptoRow : OpenClaim := { program := "ytmpnkkkmhmindaa", sum := "25b1ab330f0714ec23b4df8361e7c4eef466a84ca850ec5671193f89339e5ced", func := "loop.example/satelliteclock/laws.FnWeekdayOfEpoch", spec := "fnWeekdayOfEpoch", apart := false, narrowed := true }
def FnWeekdayOfEpochUptoSaid : Prop := fnWeekdayOfEpochUptoRow.holds Try.pinned (OpenSpec.upto fnWeekdayOfEpochSpec)

/-- 'laws.FnGpsTime', WHERE WHAT IT READS IS OF BULK AT MOST 1048576: true; the input reads as it did. -/
def fnGpsTimeUptoRow : OpenClaim := { program := "ytmpnkkkmhmindaa", sum := "25b1ab330f0714ec23b4df8361e7c4eef466a84ca850ec5671193f89339e5ced", func := "loop.example/satelliteclock/laws.FnGpsTime", spec := "fnGpsTime", apart := false, narrowed := true }
def FnGpsTimeUptoSaid : Prop := fnGpsTimeUptoRow.holds Try.pinned (OpenSpec.upto fnGpsTimeSpec)

/-- 'laws.FnExactFrameBody', WHERE WHAT IT READS IS OF BULK AT MOST 1048576: true; the input reads as it did. -/
def fnExactFrameBodyUptoRow : OpenClaim := { program := "ytmpnkkkmhmindaa", sum := "25b1ab330f0714ec23b4df8361e7c4eef466a84ca850ec5671193f89339e5ced", func := "loop.example/satelliteclock/laws.FnExactFrameBody", spec := "fnExactFrameBody", apart := false, narrowed := true }
def FnExactFrameBodyUptoSaid : Prop := fnExactFrameBodyUptoRow.holds Try.pinned (OpenSpec.upto fnExactFrameBodySpec)

/-- 'laws.FnIsLeapYear', WHERE WHAT IT READS IS OF BULK AT MOST 1048576: true; the input reads as it did. -/
def fnIsLeapYearUptoRow : OpenClaim := { program := "ytmpnkkkmhmindaa", sum := "25b1ab330f0714ec23b4df8361e7c4eef466a84ca850ec5671193f89339e5ced", func := "loop.example/satelliteclock/laws.FnIsLeapYear", spec := "fnIsLeapYear", apart := false, narrowed := true }
def FnIsLeapYearUptoSaid : Prop := fnIsLeapYearUptoRow.holds Try.pinned (OpenSpec.upto fnIsLeapYearSpec)

/-- 'laws.FnSplitFramesNoise', WHERE WHAT IT READS IS OF BULK AT MOST 1048576: true; the input reads as it did. -/
def fnSplitFramesNoiseUptoRow : OpenClaim := { program := "ytmpnkkkmhmindaa", sum := "25b1ab330f0714ec23b4df8361e7c4eef466a84ca850ec5671193f89339e5ced", func := "loop.example/satelliteclock/laws.FnSplitFramesNoise", spec := "fnSplitFramesNoise", inPlace := ["internal/bytealg.IndexByteString"], recurses := true, apart := false, narrowed := true }
def FnSplitFramesNoiseUptoSaid : Prop := fnSplitFramesNoiseUptoRow.holds Try.pinned (OpenSpec.upto fnSplitFramesNoiseSpec)

/-- 'laws.FnGpsTimeWeek', WHERE WHAT IT READS IS OF BULK AT MOST 1048576: true; the input reads as it did. -/
def fnGpsTimeWeekUptoRow : OpenClaim := { program := "ytmpnkkkmhmindaa", sum := "25b1ab330f0714ec23b4df8361e7c4eef466a84ca850ec5671193f89339e5ced", func := "loop.example/satelliteclock/laws.FnGpsTimeWeek", spec := "fnGpsTimeWeek", apart := false, narrowed := true }
def FnGpsTimeWeekUptoSaid : Prop := fnGpsTimeWeekUptoRow.holds Try.pinned (OpenSpec.upto fnGpsTimeWeekSpec)

end Rows
end Go.Proofs.Ytmpnkkkmhmindaa
