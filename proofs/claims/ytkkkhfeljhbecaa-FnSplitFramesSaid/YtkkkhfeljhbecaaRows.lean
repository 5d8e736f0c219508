/-
  No cell of these rows narrows 'for every input' (looked for: loops, veiled, ifaces, maps, wideKeys, modest, calm, conditions, laid).
  DERIVED. THE GIVEN ROWS OF THIS SEAT. 12 by the template 'for every input the law returns true; each argument reads behind the call as it read before'; 0 by the template 'total and deterministic' (their statements: YtkkkhfeljhbecaaTotals.lean).
  GIVEN WITH THE SEED: the statements are not yours to turn. If you find one false, say at which input.
  Laid BY PROGRAM, IN A SANDBOX (cutbox-rows.mjs): the forced cells as the released guide's own fill.sh prints them over the translation 98e0023b3e80749b… (all of the seat's roots in one cut). By AI agents, Wed Nov 11 2026. No macro, syntax, notation, axiom, sorry.
-/
import Derived.Test.YtkkkhfeljhbecaaChecked
import GoSem.Claim
import GoSem.ClaimJoined
import GoSem.ClaimMapViews
import Derived.JoinedTies
import Derived.KernelRfl
namespace Go.Proofs.Ytkkkhfeljhbecaa
/- THE CELL 'sum', in the pinned program and in every row, IS THE sha256 OF THE DUMP (.gsa) THAT YtkkkhfeljhbecaaProg.lean LOADS. Nothing in Lean hashes anything: it is a label: what it is worth is what the hold of that sum in a sandbox is worth. -/
noncomputable def Try.pinned : Pinned := { name := "ytkkkhfeljhbecaa", sum := "98e0023b3e80749bfec0ec583591a315127e17851c2d277a0e73d5d2d3421f4f", checked := Try.checked }
namespace Rows
def none {H : Type} : Left H := { results := [], args := [] }

/-- 'laws.FnExactConstants': WHATEVER THE INPUT: true; the input reads as it did. -/
def fnExactConstantsSpec : ChangeSpec := { name := "fnExactConstants", fn := fun _ => fun
  | [] => { results := [.lit (.bool true)], args := [] }
  | _ => none }
def fnExactConstantsRow : OpenClaim := { program := "ytkkkhfeljhbecaa", sum := "98e0023b3e80749bfec0ec583591a315127e17851c2d277a0e73d5d2d3421f4f", func := "loop.example/satelliteclock/laws.FnExactConstants", spec := "fnExactConstants", apart := false }
def FnExactConstantsSaid : Prop := fnExactConstantsRow.holds Try.pinned (OpenSpec.ofChange fnExactConstantsSpec)

/-- ITS FALSE NEIGHBOUR: 'it returns false'. Refute it at one input. -/
def fnExactConstantsWrong : ChangeSpec := { name := "fnExactConstants", fn := fun _ => fun
  | [] => { results := [.lit (.bool false)], args := [] }
  | _ => none }
def FnExactConstantsWrongFalsely : Prop := fnExactConstantsRow.holds Try.pinned (OpenSpec.ofChange fnExactConstantsWrong)

/-- 'laws.FnExactIsLeapYear': WHATEVER THE INPUT: true; the input reads as it did. -/
def fnExactIsLeapYearSpec : ChangeSpec := { name := "fnExactIsLeapYear", fn := fun _ => fun
  | [d] => { results := [.lit (.bool true)], args := [d] }
  | _ => none }
def fnExactIsLeapYearRow : OpenClaim := { program := "ytkkkhfeljhbecaa", sum := "98e0023b3e80749bfec0ec583591a315127e17851c2d277a0e73d5d2d3421f4f", func := "loop.example/satelliteclock/laws.FnExactIsLeapYear", spec := "fnExactIsLeapYear", apart := false }
def FnExactIsLeapYearSaid : Prop := fnExactIsLeapYearRow.holds Try.pinned (OpenSpec.ofChange fnExactIsLeapYearSpec)

/-- ITS FALSE NEIGHBOUR: 'it returns false'. Refute it at one input. -/
def fnExactIsLeapYearWrong : ChangeSpec := { name := "fnExactIsLeapYear", fn := fun _ => fun
  | [d] => { results := [.lit (.bool false)], args := [d] }
  | _ => none }
def FnExactIsLeapYearWrongFalsely : Prop := fnExactIsLeapYearRow.holds Try.pinned (OpenSpec.ofChange fnExactIsLeapYearWrong)

/-- 'laws.FnExactFullWeek': WHATEVER THE INPUT: true; the input reads as it did. -/
def fnExactFullWeekSpec : ChangeSpec := { name := "fnExactFullWeek", fn := fun _ => fun
  | [d1, d2] => { results := [.lit (.bool true)], args := [d1, d2] }
  | _ => none }
def fnExactFullWeekRow : OpenClaim := { program := "ytkkkhfeljhbecaa", sum := "98e0023b3e80749bfec0ec583591a315127e17851c2d277a0e73d5d2d3421f4f", func := "loop.example/satelliteclock/laws.FnExactFullWeek", spec := "fnExactFullWeek", apart := false }
def FnExactFullWeekSaid : Prop := fnExactFullWeekRow.holds Try.pinned (OpenSpec.ofChange fnExactFullWeekSpec)

/-- ITS FALSE NEIGHBOUR: 'it returns false'. Refute it at one input. -/
def fnExactFullWeekWrong : ChangeSpec := { name := "fnExactFullWeek", fn := fun _ => fun
  | [d1, d2] => { results := [.lit (.bool false)], args := [d1, d2] }
  | _ => none }
def FnExactFullWeekWrongFalsely : Prop := fnExactFullWeekRow.holds Try.pinned (OpenSpec.ofChange fnExactFullWeekWrong)

/-- 'laws.FnExactGpsTime': WHATEVER THE INPUT: true; the input reads as it did. -/
def fnExactGpsTimeSpec : ChangeSpec := { name := "fnExactGpsTime", fn := fun _ => fun
  | [d1, d2] => { results := [.lit (.bool true)], args := [d1, d2] }
  | _ => none }
def fnExactGpsTimeRow : OpenClaim := { program := "ytkkkhfeljhbecaa", sum := "98e0023b3e80749bfec0ec583591a315127e17851c2d277a0e73d5d2d3421f4f", func := "loop.example/satelliteclock/laws.FnExactGpsTime", spec := "fnExactGpsTime", apart := false }
def FnExactGpsTimeSaid : Prop := fnExactGpsTimeRow.holds Try.pinned (OpenSpec.ofChange fnExactGpsTimeSpec)

/-- ITS FALSE NEIGHBOUR: 'it returns false'. Refute it at one input. -/
def fnExactGpsTimeWrong : ChangeSpec := { name := "fnExactGpsTime", fn := fun _ => fun
  | [d1, d2] => { results := [.lit (.bool false)], args := [d1, d2] }
  | _ => none }
def FnExactGpsTimeWrongFalsely : Prop := fnExactGpsTimeRow.holds Try.pinned (OpenSpec.ofChange fnExactGpsTimeWrong)

/-- 'laws.FnExactWeekdayOf': WHATEVER THE INPUT: true; the input reads as it did. -/
def fnExactWeekdayOfSpec : ChangeSpec := { name := "fnExactWeekdayOf", fn := fun _ => fun
  | [d] => { results := [.lit (.bool true)], args := [d] }
  | _ => none }
def fnExactWeekdayOfRow : OpenClaim := { program := "ytkkkhfeljhbecaa", sum := "98e0023b3e80749bfec0ec583591a315127e17851c2d277a0e73d5d2d3421f4f", func := "loop.example/satelliteclock/laws.FnExactWeekdayOf", spec := "fnExactWeekdayOf", apart := false }
def FnExactWeekdayOfSaid : Prop := fnExactWeekdayOfRow.holds Try.pinned (OpenSpec.ofChange fnExactWeekdayOfSpec)

/-- ITS FALSE NEIGHBOUR: 'it returns false'. Refute it at one input. -/
def fnExactWeekdayOfWrong : ChangeSpec := { name := "fnExactWeekdayOf", fn := fun _ => fun
  | [d] => { results := [.lit (.bool false)], args := [d] }
  | _ => none }
def FnExactWeekdayOfWrongFalsely : Prop := fnExactWeekdayOfRow.holds Try.pinned (OpenSpec.ofChange fnExactWeekdayOfWrong)

/-- 'laws.FnExactSecondOfWeek': WHATEVER THE INPUT: true; the input reads as it did. -/
def fnExactSecondOfWeekSpec : ChangeSpec := { name := "fnExactSecondOfWeek", fn := fun _ => fun
  | [d] => { results := [.lit (.bool true)], args := [d] }
  | _ => none }
def fnExactSecondOfWeekRow : OpenClaim := { program := "ytkkkhfeljhbecaa", sum := "98e0023b3e80749bfec0ec583591a315127e17851c2d277a0e73d5d2d3421f4f", func := "loop.example/satelliteclock/laws.FnExactSecondOfWeek", spec := "fnExactSecondOfWeek", apart := false }
def FnExactSecondOfWeekSaid : Prop := fnExactSecondOfWeekRow.holds Try.pinned (OpenSpec.ofChange fnExactSecondOfWeekSpec)

/-- ITS FALSE NEIGHBOUR: 'it returns false'. Refute it at one input. -/
def fnExactSecondOfWeekWrong : ChangeSpec := { name := "fnExactSecondOfWeek", fn := fun _ => fun
  | [d] => { results := [.lit (.bool false)], args := [d] }
  | _ => none }
def FnExactSecondOfWeekWrongFalsely : Prop := fnExactSecondOfWeekRow.holds Try.pinned (OpenSpec.ofChange fnExactSecondOfWeekWrong)

/-- 'laws.FnExactShortWeek': WHATEVER THE INPUT: true; the input reads as it did. -/
def fnExactShortWeekSpec : ChangeSpec := { name := "fnExactShortWeek", fn := fun _ => fun
  | [d] => { results := [.lit (.bool true)], args := [d] }
  | _ => none }
def fnExactShortWeekRow : OpenClaim := { program := "ytkkkhfeljhbecaa", sum := "98e0023b3e80749bfec0ec583591a315127e17851c2d277a0e73d5d2d3421f4f", func := "loop.example/satelliteclock/laws.FnExactShortWeek", spec := "fnExactShortWeek", apart := false }
def FnExactShortWeekSaid : Prop := fnExactShortWeekRow.holds Try.pinned (OpenSpec.ofChange fnExactShortWeekSpec)

/-- ITS FALSE NEIGHBOUR: 'it returns false'. Refute it at one input. -/
def fnExactShortWeekWrong : ChangeSpec := { name := "fnExactShortWeek", fn := fun _ => fun
  | [d] => { results := [.lit (.bool false)], args := [d] }
  | _ => none }
def FnExactShortWeekWrongFalsely : Prop := fnExactShortWeekRow.holds Try.pinned (OpenSpec.ofChange fnExactShortWeekWrong)

/-- 'laws.FnSplitFrames': WHATEVER THE INPUT: true; the input reads as it did. -/
def fnSplitFramesSpec : ChangeSpec := { name := "fnSplitFrames", fn := fun _ => fun
  | [d] => { results := [.lit (.bool true)], args := [d] }
  | _ => none }
def fnSplitFramesRow : OpenClaim := { program := "ytkkkhfeljhbecaa", sum := "98e0023b3e80749bfec0ec583591a315127e17851c2d277a0e73d5d2d3421f4f", func := "loop.example/satelliteclock/laws.FnSplitFrames", spec := "fnSplitFrames", inPlace := ["internal/bytealg.IndexByteString"], recurses := true, apart := false }
def FnSplitFramesSaid : Prop := fnSplitFramesRow.holds Try.pinned (OpenSpec.ofChange fnSplitFramesSpec)

/-- ITS FALSE NEIGHBOUR: 'it returns false'. Refute it at one input. -/
def fnSplitFramesWrong : ChangeSpec := { name := "fnSplitFrames", fn := fun _ => fun
  | [d] => { results := [.lit (.bool false)], args := [d] }
  | _ => none }
def FnSplitFramesWrongFalsely : Prop := fnSplitFramesRow.holds Try.pinned (OpenSpec.ofChange fnSplitFramesWrong)

/-- 'laws.FnExactWeekOf': WHATEVER THE INPUT: true; the input reads as it did. -/
def fnExactWeekOfSpec : ChangeSpec := { name := "fnExactWeekOf", fn := fun _ => fun
  | [d] => { results := [.lit (.bool true)], args := [d] }
  | _ => none }
def fnExactWeekOfRow : OpenClaim := { program := "ytkkkhfeljhbecaa", sum := "98e0023b3e80749bfec0ec583591a315127e17851c2d277a0e73d5d2d3421f4f", func := "loop.example/satelliteclock/laws.FnExactWeekOf", spec := "fnExactWeekOf", apart := false }
def FnExactWeekOfSaid : Prop := fnExactWeekOfRow.holds Try.pinned (OpenSpec.ofChange fnExactWeekOfSpec)

/-- ITS FALSE NEIGHBOUR: 'it returns false'. Refute it at one input. -/
def fnExactWeekOfWrong : ChangeSpec := { name := "fnExactWeekOf", fn := fun _ => fun
  | [d] => { results := [.lit (.bool false)], args := [d] }
  | _ => none }
def FnExactWeekOfWrongFalsely : Prop := fnExactWeekOfRow.holds Try.pinned (OpenSpec.ofChange fnExactWeekOfWrong)

/-- 'laws.FnExactTimeAt': WHATEVER THE INPUT: true; the input reads as it did. -/
def fnExactTimeAtSpec : ChangeSpec := { name := "fnExactTimeAt", fn := fun _ => fun
  | [d1, d2, d3] => { results := [.lit (.bool true)], args := [d1, d2, d3] }
  | _ => none }
def fnExactTimeAtRow : OpenClaim := { program := "ytkkkhfeljhbecaa", sum := "98e0023b3e80749bfec0ec583591a315127e17851c2d277a0e73d5d2d3421f4f", func := "loop.example/satelliteclock/laws.FnExactTimeAt", spec := "fnExactTimeAt", apart := false }
def FnExactTimeAtSaid : Prop := fnExactTimeAtRow.holds Try.pinned (OpenSpec.ofChange fnExactTimeAtSpec)

/-- ITS FALSE NEIGHBOUR: 'it returns false'. Refute it at one input. -/
def fnExactTimeAtWrong : ChangeSpec := { name := "fnExactTimeAt", fn := fun _ => fun
  | [d1, d2, d3] => { results := [.lit (.bool false)], args := [d1, d2, d3] }
  | _ => none }
def FnExactTimeAtWrongFalsely : Prop := fnExactTimeAtRow.holds Try.pinned (OpenSpec.ofChange fnExactTimeAtWrong)

/-- 'laws.FnExactChecksumOf': WHATEVER THE INPUT: true; the input reads as it did. -/
def fnExactChecksumOfSpec : ChangeSpec := { name := "fnExactChecksumOf", fn := fun _ => fun
  | [d] => { results := [.lit (.bool true)], args := [d] }
  | _ => none }
def fnExactChecksumOfRow : OpenClaim := { program := "ytkkkhfeljhbecaa", sum := "98e0023b3e80749bfec0ec583591a315127e17851c2d277a0e73d5d2d3421f4f", func := "loop.example/satelliteclock/laws.FnExactChecksumOf", spec := "fnExactChecksumOf", apart := false }
def FnExactChecksumOfSaid : Prop := fnExactChecksumOfRow.holds Try.pinned (OpenSpec.ofChange fnExactChecksumOfSpec)

/-- ITS FALSE NEIGHBOUR: 'it returns false'. Refute it at one input. -/
def fnExactChecksumOfWrong : ChangeSpec := { name := "fnExactChecksumOf", fn := fun _ => fun
  | [d] => { results := [.lit (.bool false)], args := [d] }
  | _ => none }
def FnExactChecksumOfWrongFalsely : Prop := fnExactChecksumOfRow.holds Try.pinned (OpenSpec.ofChange fnExactChecksumOfWrong)

/-- 'laws.FnExactMonthDays': WHATEVER THE INPUT: true; the input reads as it did. -/
def fnExactMonthDaysSpec : ChangeSpec := { name := "fnExactMonthDays", fn := fun _ => fun
  | [d1, d2] => { results := [.lit (.bool true)], args := [d1, d2] }
  | _ => none }
def fnExactMonthDaysRow : OpenClaim := { program := "ytkkkhfeljhbecaa", sum := "98e0023b3e80749bfec0ec583591a315127e17851c2d277a0e73d5d2d3421f4f", func := "loop.example/satelliteclock/laws.FnExactMonthDays", spec := "fnExactMonthDays", apart := false }
def FnExactMonthDaysSaid : Prop := fnExactMonthDaysRow.holds Try.pinned (OpenSpec.ofChange fnExactMonthDaysSpec)

/-- ITS FALSE NEIGHBOUR: 'it returns false'. Refute it at one input. -/
def fnExactMonthDaysWrong : ChangeSpec := { name := "fnExactMonthDays", fn := fun _ => fun
  | [d1, d2] => { results := [.lit (.bool false)], args := [d1, d2] }
  | _ => none }
def FnExactMonthDaysWrongFalsely : Prop := fnExactMonthDaysRow.holds Try.pinned (OpenSpec.ofChange fnExactMonthDaysWrong)

/- THE SECOND FORM. 'bulk': how many values and letters a reading holds, each counted each time it is reached (what is shared counts as often as it is met; a slice's spare places count too). A statement '..UptoSaid' is the law's where the arguments, and the package variables that the reading takes, are together of bulk at most 1048576: NARROWER than '..Said'. Prove '..Said' where nothing that the law and all that it calls make is longer than what came in: it says more and counts as full. Else prove '..UptoSaid'. A law counts once. -/
mutual
def uptoBulk {H : Type} : DataW H → Nat
  | .lit (.string bytes) => bytes.length + 1
  | .lit _ => 1
  | .nil => 1
  | .ptr d => uptoBulk d + 1
  | .slice elems spare => uptoBulkAll elems + uptoBulkAll spare + 1
  | .agg parts => uptoBulkAll parts + 1
  | .iface _ d => uptoBulk d + 1
  | .map entries => uptoBulkEntries entries + 1
  | .held _ => 1
def uptoBulkAll {H : Type} : List (DataW H) → Nat
  | [] => 0
  | d :: r => uptoBulk d + uptoBulkAll r
def uptoBulkEntries {H : Type} : List (Lit × DataW H) → Nat
  | [] => 0
  | x :: r => uptoBulkEntry x + uptoBulkEntries r
def uptoBulkEntry {H : Type} : Lit × DataW H → Nat
  | (.string bytes, d) => bytes.length + uptoBulk d + 1
  | (_, d) => uptoBulk d + 1
 end
def uptoSmall : (H : Type) → List (DataW H) → Bool := fun _ ds => decide (uptoBulkAll ds ≤ 1048576)
def OpenSpec.upto (s : _root_.Go.ChangeSpec) : _root_.Go.OpenSpec := { _root_.Go.OpenSpec.ofChange s with cond := some uptoSmall }

/-- 'laws.FnExactConstants', WHERE WHAT IT READS IS OF BULK AT MOST 1048576: true; the input reads as it did. -/
def fnExactConstantsUptoRow : OpenClaim := { program := "ytkkkhfeljhbecaa", sum := "98e0023b3e80749bfec0ec583591a315127e17851c2d277a0e73d5d2d3421f4f", func := "loop.example/satelliteclock/laws.FnExactConstants", spec := "fnExactConstants", apart := false, narrowed := true }
def FnExactConstantsUptoSaid : Prop := fnExactConstantsUptoRow.holds Try.pinned (OpenSpec.upto fnExactConstantsSpec)

/-- 'laws.FnExactIsLeapYear', WHERE WHAT IT READS IS OF BULK AT MOST 1048576: true; the input reads as it did. -/
def fnExactIsLeapYearUptoRow : OpenClaim := { program := "ytkkkhfeljhbecaa", sum := "98e0023b3e80749bfec0ec583591a315127e17851c2d277a0e73d5d2d3421f4f", func := "loop.example/satelliteclock/laws.FnExactIsLeapYear", spec := "fnExactIsLeapYear", apart := false, narrowed := true }
def FnExactIsLeapYearUptoSaid : Prop := fnExactIsLeapYearUptoRow.holds Try.pinned (OpenSpec.upto fnExactIsLeapYearSpec)

/-- 'laws.FnExactFullWeek', WHERE WHAT IT READS IS OF BULK AT MOST 1048576: true; the input reads as it did. -/
def fnExactFullWeekUptoRow : OpenClaim := { program := "ytkkkhfeljhbecaa", sum := "98e0023b3e80749bfec0ec583591a315127e17851c2d277a0e73d5d2d3421f4f", func := "loop.example/satelliteclock/laws.FnExactFullWeek", spec := "fnExactFullWeek", apart := false, narrowed := true }
def FnExactFullWeekUptoSaid : Prop := fnExactFullWeekUptoRow.holds Try.pinned (OpenSpec.upto fnExactFullWeekSpec)

/-- 'laws.FnExactGpsTime', WHERE WHAT IT READS IS OF BULK AT MOST 1048576: true; the input reads as it did. -/
def fnExactGpsTimeUptoRow : OpenClaim := { program := "ytkkkhfeljhbecaa", sum := "98e0023b3e80749bfec0ec583591a315127e17851c2d277a0e73d5d2d3421f4f", func := "loop.example/satelliteclock/laws.FnExactGpsTime", spec := "fnExactGpsTime", apart := false, narrowed := true }
def FnExactGpsTimeUptoSaid : Prop := fnExactGpsTimeUptoRow.holds Try.pinned (OpenSpec.upto fnExactGpsTimeSpec)

/-- 'laws.FnExactWeekdayOf', WHERE WHAT IT READS IS OF BULK AT MOST 1048576: true; the input reads as it did. -/
def fnExactWeekdayOfUptoRow : OpenClaim := { program := "ytkkkhfeljhbecaa", sum := "98e0023b3e80749bfec0ec583591a315127e17851c2d277a0e73d5d2d3421f4f", func := "loop.example/satelliteclock/laws.FnExactWeekdayOf", spec := "fnExactWeekdayOf", apart := false, narrowed := true }
def FnExactWeekdayOfUptoSaid : Prop := fnExactWeekdayOfUptoRow.holds Try.pinned (OpenSpec.upto fnExactWeekdayOfSpec)

/-- 'laws.FnExactSecondOfWeek', WHERE WHAT IT READS IS OF BULK AT MOST 1048576: true; the input reads as it did. -/
def fnExactSecondOfWeekUptoRow : OpenClaim := { program := "ytkkkhfeljhbecaa", sum := "98e0023b3e80749bfec0ec583591a315127e17851c2d277a0e73d5d2d3421f4f", func := "loop.example/satelliteclock/laws.FnExactSecondOfWeek", spec := "fnExactSecondOfWeek", apart := false, narrowed := true }
def FnExactSecondOfWeekUptoSaid : Prop := fnExactSecondOfWeekUptoRow.holds Try.pinned (OpenSpec.upto fnExactSecondOfWeekSpec)

/-- 'laws.FnExactShortWeek', WHERE WHAT IT READS IS OF BULK AT MOST 1048576: true; the input reads as it did. -/
def fnExactShortWeekUptoRow : OpenClaim := { program := "ytkkkhfeljhbecaa", sum := "98e0023b3e80749bfec0ec583591a315127e17851c2d277a0e73d5d2d3421f4f", func := "loop.example/satelliteclock/laws.FnExactShortWeek", spec := "fnExactShortWeek", apart := false, narrowed := true }
def FnExactShortWeekUptoSaid : Prop := fnExactShortWeekUptoRow.holds Try.pinned (OpenSpec.upto fnExactShortWeekSpec)

/-- 'laws.FnSplitFrames', WHERE WHAT IT READS IS OF BULK AT MOST 1048576: true; the input reads as it did. -/
def fnSplitFramesUptoRow : OpenClaim := { program := "ytkkkhfeljhbecaa", sum := "98e0023b3e80749bfec0ec583591a315127e17851c2d277a0e73d5d2d3421f4f", func := "loop.example/satelliteclock/laws.FnSplitFrames", spec := "fnSplitFrames", inPlace := ["internal/bytealg.IndexByteString"], recurses := true, apart := false, narrowed := true }
def FnSplitFramesUptoSaid : Prop := fnSplitFramesUptoRow.holds Try.pinned (OpenSpec.upto fnSplitFramesSpec)

/-- 'laws.FnExactWeekOf', WHERE WHAT IT READS IS OF BULK AT MOST 1048576: true; the input reads as it did. -/
def fnExactWeekOfUptoRow : OpenClaim := { program := "ytkkkhfeljhbecaa", sum := "98e0023b3e80749bfec0ec583591a315127e17851c2d277a0e73d5d2d3421f4f", func := "loop.example/satelliteclock/laws.FnExactWeekOf", spec := "fnExactWeekOf", apart := false, narrowed := true }
def FnExactWeekOfUptoSaid : Prop := fnExactWeekOfUptoRow.holds Try.pinned (OpenSpec.upto fnExactWeekOfSpec)

/-- 'laws.FnExactTimeAt', WHERE WHAT IT READS IS OF BULK AT MOST 1048576: true; the input reads as it did. -/
def fnExactTimeAtUptoRow : OpenClaim := { program := "ytkkkhfeljhbecaa", sum := "98e0023b3e80749bfec0ec583591a315127e17851c2d277a0e73d5d2d3421f4f", func := "loop.example/satelliteclock/laws.FnExactTimeAt", spec := "fnExactTimeAt", apart := false, narrowed := true }
def FnExactTimeAtUptoSaid : Prop := fnExactTimeAtUptoRow.holds Try.pinned (OpenSpec.upto fnExactTimeAtSpec)

/-- 'laws.FnExactChecksumOf', WHERE WHAT IT READS IS OF BULK AT MOST 1048576: true; the input reads as it did. -/
def fnExactChecksumOfUptoRow : OpenClaim := { program := "ytkkkhfeljhbecaa", sum := "98e0023b3e80749bfec0ec583591a315127e17851c2d277a0e73d5d2d3421f4f", func := "loop.example/satelliteclock/laws.FnExactChecksumOf", spec := "fnExactChecksumOf", apart := false, narrowed := true }
def FnExactChecksumOfUptoSaid : Prop := fnExactChecksumOfUptoRow.holds Try.pinned (OpenSpec.upto fnExactChecksumOfSpec)

/-- 'laws.FnExactMonthDays', WHERE WHAT IT READS IS OF BULK AT MOST 1048576: true; the input reads as it did. -/
def fnExactMonthDaysUptoRow : OpenClaim := { program := "ytkkkhfeljhbecaa", sum := "98e0023b3e80749bfec0ec583591a315127e17851c2d277a0e73d5d2d3421f4f", func := "loop.example/satelliteclock/laws.FnExactMonthDays", spec := "fnExactMonthDays", apart := false, narrowed := true }
def FnExactMonthDaysUptoSaid : Prop := fnExactMonthDaysUptoRow.holds Try.pinned (OpenSpec.upto fnExactMonthDaysSpec)

end Rows
end Go.Proofs.Ytkkkhfeljhbecaa
