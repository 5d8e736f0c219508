/-
  No cell of these rows narrows 'for every input' (looked for: loops, veiled, ifaces, maps, wideKeys, modest, calm, conditions, laid).
  DERIVED. THE GIVEN ROWS OF THIS SEAT. 12 by the template 'for every input the law returns true; each argument reads behind the call as it read before'; 0 by the template 'total and deterministic' (their statements: YteojjkfaooobkaaTotals.lean).
  GIVEN WITH THE SEED: the statements are not yours to turn. If you find one false, say at which input.
  Laid BY PROGRAM, IN A SANDBOX (cutbox-rows.mjs): the forced cells as the released guide's own fill.sh prints them over the translation a6dddbbeb37dc5f7… (all of the seat's roots in one cut). By AI agents, Wed Nov 11 2026. No macro, syntax, notation, axiom, sorry.
-/
import Derived.Test.YteojjkfaooobkaaChecked
import GoSem.Claim
import GoSem.ClaimJoined
import GoSem.ClaimMapViews
import Derived.JoinedTies
import Derived.KernelRfl
namespace Go.Proofs.Yteojjkfaooobkaa
/- THE CELL 'sum', in the pinned program and in every row, IS THE sha256 OF THE DUMP (.gsa) THAT YteojjkfaooobkaaProg.lean LOADS. Nothing in Lean hashes anything: it is a label: what it is worth is what the hold of that sum in a sandbox is worth. -/
noncomputable def Try.pinned : Pinned := { name := "yteojjkfaooobkaa", sum := "a6dddbbeb37dc5f791ee608a0642d3def52d9990ea1155edcd9fb9e2b68accd4", checked := Try.checked }
namespace Rows
def none {H : Type} : Left H := { results := [], args := [] }

/-- 'laws.FnSecondOfWeek': WHATEVER THE INPUT: true; the input reads as it did. -/
def fnSecondOfWeekSpec : ChangeSpec := { name := "fnSecondOfWeek", fn := fun _ => fun
  | [d] => { results := [.lit (.bool true)], args := [d] }
  | _ => none }
def fnSecondOfWeekRow : OpenClaim := { program := "yteojjkfaooobkaa", sum := "a6dddbbeb37dc5f791ee608a0642d3def52d9990ea1155edcd9fb9e2b68accd4", func := "loop.example/satelliteclock/laws.FnSecondOfWeek", spec := "fnSecondOfWeek", apart := false }
def FnSecondOfWeekSaid : Prop := fnSecondOfWeekRow.holds Try.pinned (OpenSpec.ofChange fnSecondOfWeekSpec)

/-- ITS FALSE NEIGHBOUR: 'it returns false'. Refute it at one input. -/
def fnSecondOfWeekWrong : ChangeSpec := { name := "fnSecondOfWeek", fn := fun _ => fun
  | [d] => { results := [.lit (.bool false)], args := [d] }
  | _ => none }
def FnSecondOfWeekWrongFalsely : Prop := fnSecondOfWeekRow.holds Try.pinned (OpenSpec.ofChange fnSecondOfWeekWrong)

/-- 'laws.FnExactIsLeapSecond': WHATEVER THE INPUT: true; the input reads as it did. -/
def fnExactIsLeapSecondSpec : ChangeSpec := { name := "fnExactIsLeapSecond", fn := fun _ => fun
  | [d1, d2] => { results := [.lit (.bool true)], args := [d1, d2] }
  | _ => none }
def fnExactIsLeapSecondRow : OpenClaim := { program := "yteojjkfaooobkaa", sum := "a6dddbbeb37dc5f791ee608a0642d3def52d9990ea1155edcd9fb9e2b68accd4", func := "loop.example/satelliteclock/laws.FnExactIsLeapSecond", spec := "fnExactIsLeapSecond", apart := false }
def FnExactIsLeapSecondSaid : Prop := fnExactIsLeapSecondRow.holds Try.pinned (OpenSpec.ofChange fnExactIsLeapSecondSpec)

/-- ITS FALSE NEIGHBOUR: 'it returns false'. Refute it at one input. -/
def fnExactIsLeapSecondWrong : ChangeSpec := { name := "fnExactIsLeapSecond", fn := fun _ => fun
  | [d1, d2] => { results := [.lit (.bool false)], args := [d1, d2] }
  | _ => none }
def FnExactIsLeapSecondWrongFalsely : Prop := fnExactIsLeapSecondRow.holds Try.pinned (OpenSpec.ofChange fnExactIsLeapSecondWrong)

/-- 'laws.FnExactNextLeap': WHATEVER THE INPUT: true; the input reads as it did. -/
def fnExactNextLeapSpec : ChangeSpec := { name := "fnExactNextLeap", fn := fun _ => fun
  | [d1, d2] => { results := [.lit (.bool true)], args := [d1, d2] }
  | _ => none }
def fnExactNextLeapRow : OpenClaim := { program := "yteojjkfaooobkaa", sum := "a6dddbbeb37dc5f791ee608a0642d3def52d9990ea1155edcd9fb9e2b68accd4", func := "loop.example/satelliteclock/laws.FnExactNextLeap", spec := "fnExactNextLeap", apart := false }
def FnExactNextLeapSaid : Prop := fnExactNextLeapRow.holds Try.pinned (OpenSpec.ofChange fnExactNextLeapSpec)

/-- ITS FALSE NEIGHBOUR: 'it returns false'. Refute it at one input. -/
def fnExactNextLeapWrong : ChangeSpec := { name := "fnExactNextLeap", fn := fun _ => fun
  | [d1, d2] => { results := [.lit (.bool false)], args := [d1, d2] }
  | _ => none }
def FnExactNextLeapWrongFalsely : Prop := fnExactNextLeapRow.holds Try.pinned (OpenSpec.ofChange fnExactNextLeapWrong)

/-- 'laws.FnExactReadFrame': WHATEVER THE INPUT: true; the input reads as it did. -/
def fnExactReadFrameSpec : ChangeSpec := { name := "fnExactReadFrame", fn := fun _ => fun
  | [d] => { results := [.lit (.bool true)], args := [d] }
  | _ => none }
def fnExactReadFrameRow : OpenClaim := { program := "yteojjkfaooobkaa", sum := "a6dddbbeb37dc5f791ee608a0642d3def52d9990ea1155edcd9fb9e2b68accd4", func := "loop.example/satelliteclock/laws.FnExactReadFrame", spec := "fnExactReadFrame", apart := false }
def FnExactReadFrameSaid : Prop := fnExactReadFrameRow.holds Try.pinned (OpenSpec.ofChange fnExactReadFrameSpec)

/-- ITS FALSE NEIGHBOUR: 'it returns false'. Refute it at one input. -/
def fnExactReadFrameWrong : ChangeSpec := { name := "fnExactReadFrame", fn := fun _ => fun
  | [d] => { results := [.lit (.bool false)], args := [d] }
  | _ => none }
def FnExactReadFrameWrongFalsely : Prop := fnExactReadFrameRow.holds Try.pinned (OpenSpec.ofChange fnExactReadFrameWrong)

/-- 'laws.FnTimeAtNext': WHATEVER THE INPUT: true; the input reads as it did. -/
def fnTimeAtNextSpec : ChangeSpec := { name := "fnTimeAtNext", fn := fun _ => fun
  | [d] => { results := [.lit (.bool true)], args := [d] }
  | _ => none }
def fnTimeAtNextRow : OpenClaim := { program := "yteojjkfaooobkaa", sum := "a6dddbbeb37dc5f791ee608a0642d3def52d9990ea1155edcd9fb9e2b68accd4", func := "loop.example/satelliteclock/laws.FnTimeAtNext", spec := "fnTimeAtNext", apart := false }
def FnTimeAtNextSaid : Prop := fnTimeAtNextRow.holds Try.pinned (OpenSpec.ofChange fnTimeAtNextSpec)

/-- ITS FALSE NEIGHBOUR: 'it returns false'. Refute it at one input. -/
def fnTimeAtNextWrong : ChangeSpec := { name := "fnTimeAtNext", fn := fun _ => fun
  | [d] => { results := [.lit (.bool false)], args := [d] }
  | _ => none }
def FnTimeAtNextWrongFalsely : Prop := fnTimeAtNextRow.holds Try.pinned (OpenSpec.ofChange fnTimeAtNextWrong)

/-- 'laws.FnWeekOf': WHATEVER THE INPUT: true; the input reads as it did. -/
def fnWeekOfSpec : ChangeSpec := { name := "fnWeekOf", fn := fun _ => fun
  | [d] => { results := [.lit (.bool true)], args := [d] }
  | _ => none }
def fnWeekOfRow : OpenClaim := { program := "yteojjkfaooobkaa", sum := "a6dddbbeb37dc5f791ee608a0642d3def52d9990ea1155edcd9fb9e2b68accd4", func := "loop.example/satelliteclock/laws.FnWeekOf", spec := "fnWeekOf", apart := false }
def FnWeekOfSaid : Prop := fnWeekOfRow.holds Try.pinned (OpenSpec.ofChange fnWeekOfSpec)

/-- ITS FALSE NEIGHBOUR: 'it returns false'. Refute it at one input. -/
def fnWeekOfWrong : ChangeSpec := { name := "fnWeekOf", fn := fun _ => fun
  | [d] => { results := [.lit (.bool false)], args := [d] }
  | _ => none }
def FnWeekOfWrongFalsely : Prop := fnWeekOfRow.holds Try.pinned (OpenSpec.ofChange fnWeekOfWrong)

/-- 'laws.FnWeekOfNext': WHATEVER THE INPUT: true; the input reads as it did. -/
def fnWeekOfNextSpec : ChangeSpec := { name := "fnWeekOfNext", fn := fun _ => fun
  | [d] => { results := [.lit (.bool true)], args := [d] }
  | _ => none }
def fnWeekOfNextRow : OpenClaim := { program := "yteojjkfaooobkaa", sum := "a6dddbbeb37dc5f791ee608a0642d3def52d9990ea1155edcd9fb9e2b68accd4", func := "loop.example/satelliteclock/laws.FnWeekOfNext", spec := "fnWeekOfNext", apart := false }
def FnWeekOfNextSaid : Prop := fnWeekOfNextRow.holds Try.pinned (OpenSpec.ofChange fnWeekOfNextSpec)

/-- ITS FALSE NEIGHBOUR: 'it returns false'. Refute it at one input. -/
def fnWeekOfNextWrong : ChangeSpec := { name := "fnWeekOfNext", fn := fun _ => fun
  | [d] => { results := [.lit (.bool false)], args := [d] }
  | _ => none }
def FnWeekOfNextWrongFalsely : Prop := fnWeekOfNextRow.holds Try.pinned (OpenSpec.ofChange fnWeekOfNextWrong)

/-- 'laws.FnMonthDays': WHATEVER THE INPUT: true; the input reads as it did. -/
def fnMonthDaysSpec : ChangeSpec := { name := "fnMonthDays", fn := fun _ => fun
  | [d] => { results := [.lit (.bool true)], args := [d] }
  | _ => none }
def fnMonthDaysRow : OpenClaim := { program := "yteojjkfaooobkaa", sum := "a6dddbbeb37dc5f791ee608a0642d3def52d9990ea1155edcd9fb9e2b68accd4", func := "loop.example/satelliteclock/laws.FnMonthDays", spec := "fnMonthDays", apart := false }
def FnMonthDaysSaid : Prop := fnMonthDaysRow.holds Try.pinned (OpenSpec.ofChange fnMonthDaysSpec)

/-- ITS FALSE NEIGHBOUR: 'it returns false'. Refute it at one input. -/
def fnMonthDaysWrong : ChangeSpec := { name := "fnMonthDays", fn := fun _ => fun
  | [d] => { results := [.lit (.bool false)], args := [d] }
  | _ => none }
def FnMonthDaysWrongFalsely : Prop := fnMonthDaysRow.holds Try.pinned (OpenSpec.ofChange fnMonthDaysWrong)

/-- 'laws.FnShortWeek': WHATEVER THE INPUT: true; the input reads as it did. -/
def fnShortWeekSpec : ChangeSpec := { name := "fnShortWeek", fn := fun _ => fun
  | [d] => { results := [.lit (.bool true)], args := [d] }
  | _ => none }
def fnShortWeekRow : OpenClaim := { program := "yteojjkfaooobkaa", sum := "a6dddbbeb37dc5f791ee608a0642d3def52d9990ea1155edcd9fb9e2b68accd4", func := "loop.example/satelliteclock/laws.FnShortWeek", spec := "fnShortWeek", apart := false }
def FnShortWeekSaid : Prop := fnShortWeekRow.holds Try.pinned (OpenSpec.ofChange fnShortWeekSpec)

/-- ITS FALSE NEIGHBOUR: 'it returns false'. Refute it at one input. -/
def fnShortWeekWrong : ChangeSpec := { name := "fnShortWeek", fn := fun _ => fun
  | [d] => { results := [.lit (.bool false)], args := [d] }
  | _ => none }
def FnShortWeekWrongFalsely : Prop := fnShortWeekRow.holds Try.pinned (OpenSpec.ofChange fnShortWeekWrong)

/-- 'laws.FnExactDayOf': WHATEVER THE INPUT: true; the input reads as it did. -/
def fnExactDayOfSpec : ChangeSpec := { name := "fnExactDayOf", fn := fun _ => fun
  | [d] => { results := [.lit (.bool true)], args := [d] }
  | _ => none }
def fnExactDayOfRow : OpenClaim := { program := "yteojjkfaooobkaa", sum := "a6dddbbeb37dc5f791ee608a0642d3def52d9990ea1155edcd9fb9e2b68accd4", func := "loop.example/satelliteclock/laws.FnExactDayOf", spec := "fnExactDayOf", apart := false }
def FnExactDayOfSaid : Prop := fnExactDayOfRow.holds Try.pinned (OpenSpec.ofChange fnExactDayOfSpec)

/-- ITS FALSE NEIGHBOUR: 'it returns false'. Refute it at one input. -/
def fnExactDayOfWrong : ChangeSpec := { name := "fnExactDayOf", fn := fun _ => fun
  | [d] => { results := [.lit (.bool false)], args := [d] }
  | _ => none }
def FnExactDayOfWrongFalsely : Prop := fnExactDayOfRow.holds Try.pinned (OpenSpec.ofChange fnExactDayOfWrong)

/-- 'laws.FnExactLeapsBefore': WHATEVER THE INPUT: true; the input reads as it did. -/
def fnExactLeapsBeforeSpec : ChangeSpec := { name := "fnExactLeapsBefore", fn := fun _ => fun
  | [d1, d2] => { results := [.lit (.bool true)], args := [d1, d2] }
  | _ => none }
def fnExactLeapsBeforeRow : OpenClaim := { program := "yteojjkfaooobkaa", sum := "a6dddbbeb37dc5f791ee608a0642d3def52d9990ea1155edcd9fb9e2b68accd4", func := "loop.example/satelliteclock/laws.FnExactLeapsBefore", spec := "fnExactLeapsBefore", apart := false }
def FnExactLeapsBeforeSaid : Prop := fnExactLeapsBeforeRow.holds Try.pinned (OpenSpec.ofChange fnExactLeapsBeforeSpec)

/-- ITS FALSE NEIGHBOUR: 'it returns false'. Refute it at one input. -/
def fnExactLeapsBeforeWrong : ChangeSpec := { name := "fnExactLeapsBefore", fn := fun _ => fun
  | [d1, d2] => { results := [.lit (.bool false)], args := [d1, d2] }
  | _ => none }
def FnExactLeapsBeforeWrongFalsely : Prop := fnExactLeapsBeforeRow.holds Try.pinned (OpenSpec.ofChange fnExactLeapsBeforeWrong)

/-- 'laws.FnExactDateOf': WHATEVER THE INPUT: true; the input reads as it did. -/
def fnExactDateOfSpec : ChangeSpec := { name := "fnExactDateOf", fn := fun _ => fun
  | [d] => { results := [.lit (.bool true)], args := [d] }
  | _ => none }
def fnExactDateOfRow : OpenClaim := { program := "yteojjkfaooobkaa", sum := "a6dddbbeb37dc5f791ee608a0642d3def52d9990ea1155edcd9fb9e2b68accd4", func := "loop.example/satelliteclock/laws.FnExactDateOf", spec := "fnExactDateOf", apart := false }
def FnExactDateOfSaid : Prop := fnExactDateOfRow.holds Try.pinned (OpenSpec.ofChange fnExactDateOfSpec)

/-- ITS FALSE NEIGHBOUR: 'it returns false'. Refute it at one input. -/
def fnExactDateOfWrong : ChangeSpec := { name := "fnExactDateOf", fn := fun _ => fun
  | [d] => { results := [.lit (.bool false)], args := [d] }
  | _ => none }
def FnExactDateOfWrongFalsely : Prop := fnExactDateOfRow.holds Try.pinned (OpenSpec.ofChange fnExactDateOfWrong)

/- THE SECOND FORM. 'bulk': how many values and letters a reading holds, each counted each time it is reached (what is shared counts as often as it is met; a slice's spare places count too). A statement '..UptoSaid' is the law's where the arguments, and the package variables that the reading takes, are together of bulk at most 1048576: NARROWER than '..Said'. Prove '..Said' where nothing that the law and all that it calls make is longer than what came in: it says more and counts as full. Else prove '..UptoSaid'. A law counts once. -/
mutual
def uptoBulk {H : Type} : DataW H → Nat
  | .lit (.string bytes) => bytes.length + 1
  | .lit _ => 1
  | .nil => 1
  | .ptr d => uptoBulk d + 1
  | .slice elems spare => uptoBulkAll elems + uptoBulkAll spare + 1
  | .agg parts => uptoBulkAll parts + 1
  | .iface _ d => uptoBulk d + 1
  | .map entries => uptoBulkEntries entries + 1
  | .held _ => 1
def uptoBulkAll {H : Type} : List (DataW H) → Nat
  | [] => 0
  | d :: r => uptoBulk d + uptoBulkAll r
def uptoBulkEntries {H : Type} : List (Lit × DataW H) → Nat
  | [] => 0
  | x :: r => uptoBulkEntry x + uptoBulkEntries r
def uptoBulkEntry {H : Type} : Lit × DataW H → Nat
  | (.string bytes, d) => bytes.length + uptoBulk d + 1
  | (_, d) => uptoBulk d + 1
 end
def uptoSmall : (H : Type) → List (DataW H) → Bool := fun _ ds => decide (uptoBulkAll ds ≤ 1048576)
def OpenSpec.upto (s : _root_.Go.ChangeSpec) : _root_.Go.OpenSpec := { _root_.Go.OpenSpec.ofChange s with cond := some uptoSmall }

/-- 'laws.FnSecondOfWeek', WHERE WHAT IT READS IS OF BULK AT MOST 1048576: true; the input reads as it did. -/
def fnSecondOfWeekUptoRow : OpenClaim := { program := "yteojjkfaooobkaa", sum := "a6dddbbeb37dc5f791ee608a0642d3def52d9990ea1155edcd9fb9e2b68accd4", func := "loop.example/satelliteclock/laws.FnSecondOfWeek", spec := "fnSecondOfWeek", apart := false, narrowed := true }
def FnSecondOfWeekUptoSaid : Prop := fnSecondOfWeekUptoRow.holds Try.pinned (OpenSpec.upto fnSecondOfWeekSpec)

/-- 'laws.FnExactIsLeapSecond', WHERE WHAT IT READS IS OF BULK AT MOST 1048576: true; the input reads as it did. -/
def fnExactIsLeapSecondUptoRow : OpenClaim := { program := "yteojjkfaooobkaa", sum := "a6dddbbeb37dc5f791ee608a0642d3def52d9990ea1155edcd9fb9e2b68accd4", func := "loop.example/satelliteclock/laws.FnExactIsLeapSecond", spec := "fnExactIsLeapSecond", apart := false, narrowed := true }
def FnExactIsLeapSecondUptoSaid : Prop := fnExactIsLeapSecondUptoRow.holds Try.pinned (OpenSpec.upto fnExactIsLeapSecondSpec)

/-- 'laws.FnExactNextLeap', WHERE WHAT IT READS IS OF BULK AT MOST 1048576: true; the input reads as it did. -/
def fnExactNextLeapUptoRow : OpenClaim := { program := "yteojjkfaooobkaa", sum := "a6dddbbeb37dc5f791ee608a0642d3def52d9990ea1155edcd9fb9e2b68accd4", func := "loop.example/satelliteclock/laws.FnExactNextLeap", spec := "fnExactNextLeap", apart := false, narrowed := true }
def FnExactNextLeapUptoSaid : Prop := fnExactNextLeapUptoRow.holds Try.pinned (OpenSpec.upto fnExactNextLeapSpec)

/-- 'laws.FnExactReadFrame', WHERE WHAT IT READS IS OF BULK AT MOST 1048576: true; the input reads as it did. -/
def fnExactReadFrameUptoRow : OpenClaim := { program := "yteojjkfaooobkaa", sum := "a6dddbbeb37dc5f791ee608a0642d3def52d9990ea1155edcd9fb9e2b68accd4", func := "loop.example/satelliteclock/laws.FnExactReadFrame", spec := "fnExactReadFrame", apart := false, narrowed := true }
def FnExactReadFrameUptoSaid : Prop := fnExactReadFrameUptoRow.holds Try.pinned (OpenSpec.upto fnExactReadFrameSpec)

/-- 'laws.FnTimeAtNext', WHERE WHAT IT READS IS OF BULK AT MOST 1048576: true; the input reads as it did. -/
def fnTimeAtNextUptoRow : OpenClaim := { program := "yteojjkfaooobkaa", sum := "a6dddbbeb37dc5f791ee608a0642d3def52d9990ea1155edcd9fb9e2b68accd4", func := "loop.example/satelliteclock/laws.FnTimeAtNext", spec := "fnTimeAtNext", apart := false, narrowed := true }
def FnTimeAtNextUptoSaid : Prop := fnTimeAtNextUptoRow.holds Try.pinned (OpenSpec.upto fnTimeAtNextSpec)

/-- 'laws.FnWeekOf', WHERE WHAT IT READS IS OF BULK AT MOST 1048576: true; the input reads as it did. -/
def fnWeekOfUptoRow : OpenClaim := { program := "yteojjkfaooobkaa", sum := "a6dddbbeb37dc5f791ee608a0642d3def52d9990ea1155edcd9fb9e2b68accd4", func := "loop.example/satelliteclock/laws.FnWeekOf", spec := "fnWeekOf", apart := false, narrowed := true }
def FnWeekOfUptoSaid : Prop := fnWeekOfUptoRow.holds Try.pinned (OpenSpec.upto fnWeekOfSpec)

/-- 'laws.FnWeekOfNext', WHERE WHAT IT READS IS OF BULK AT MOST 1048576: true; the input reads as it did. -/
def fnWeekOfNextUptoRow : OpenClaim := { program := "yteojjkfaooobkaa", sum := "a6dddbbeb37dc5f791ee608a0642d3def52d9990ea1155edcd9fb9e2b68accd4", func := "loop.example/satelliteclock/laws.FnWeekOfNext", spec := "fnWeekOfNext", apart := false, narrowed := true }
def FnWeekOfNextUptoSaid : Prop := fnWeekOfNextUptoRow.holds Try.pinned (OpenSpec.upto fnWeekOfNextSpec)

/-- 'laws.FnMonthDays', WHERE WHAT IT READS IS OF BULK AT MOST 1048576: true; the input reads as it did. -/
def fnMonthDaysUptoRow : OpenClaim := { program := "yteojjkfaooobkaa", sum := "a6dddbbeb37dc5f791ee608a0642d3def52d9990ea1155edcd9fb9e2b68accd4", func := "loop.example/satelliteclock/laws.FnMonthDays", spec := "fnMonthDays", apart := false, narrowed := true }
def FnMonthDaysUptoSaid : Prop := fnMonthDaysUptoRow.holds Try.pinned (OpenSpec.upto fnMonthDaysSpec)

/-- 'laws.FnShortWeek', WHERE WHAT IT READS IS OF BULK AT MOST 1048576: true; the input reads as it did. -/
def fnShortWeekUptoRow : OpenClaim := { program := "yteojjkfaooobkaa", sum := "a6dddbbeb37dc5f791ee608a0642d3def52d9990ea1155edcd9fb9e2b68accd4", func := "loop.example/satelliteclock/laws.FnShortWeek", spec := "fnShortWeek", apart := false, narrowed := true }
def FnShortWeekUptoSaid : Prop := fnShortWeekUptoRow.holds Try.pinned (OpenSpec.upto fnShortWeekSpec)

/-- 'laws.FnExactDayOf', WHERE WHAT IT READS IS OF BULK AT MOST 1048576: true; the input reads as it did. -/
def fnExactDayOfUptoRow : OpenClaim := { program := "yteojjkfaooobkaa", sum := "a6dddbbeb37dc5f791ee608a0642d3def52d9990ea1155edcd9fb9e2b68accd4", func := "loop.example/satelliteclock/laws.FnExactDayOf", spec := "fnExactDayOf", apart := false, narrowed := true }
def FnExactDayOfUptoSaid : Prop := fnExactDayOfUptoRow.holds Try.pinned (OpenSpec.upto fnExactDayOfSpec)

/-- 'laws.FnExactLeapsBefore', WHERE WHAT IT READS IS OF BULK AT MOST 1048576: true; the input reads as it did. -/
def fnExactLeapsBeforeUptoRow : OpenClaim := { program := "yteojjkfaooobkaa", sum := "a6dddbbeb37dc5f791ee608a0642d3def52d9990ea1155edcd9fb9e2b68accd4", func := "loop.example/satelliteclock/laws.FnExactLeapsBefore", spec := "fnExactLeapsBefore", apart := false, narrowed := true }
def FnExactLeapsBeforeUptoSaid : Prop := fnExactLeapsBeforeUptoRow.holds Try.pinned (OpenSpec.upto fnExactLeapsBeforeSpec)

/-- 'laws.FnExactDateOf', WHERE WHAT IT READS IS OF BULK AT MOST 1048576: true; the input reads as it did. -/
def fnExactDateOfUptoRow : OpenClaim := { program := "yteojjkfaooobkaa", sum := "a6dddbbeb37dc5f791ee608a0642d3def52d9990ea1155edcd9fb9e2b68accd4", func := "loop.example/satelliteclock/laws.FnExactDateOf", spec := "fnExactDateOf", apart := false, narrowed := true }
def FnExactDateOfUptoSaid : Prop := fnExactDateOfUptoRow.holds Try.pinned (OpenSpec.upto fnExactDateOfSpec)

end Rows
end Go.Proofs.Yteojjkfaooobkaa
