/-
  No cell of these rows narrows 'for every input' (looked for: loops, veiled, ifaces, maps, wideKeys, modest, calm, conditions, laid).
  DERIVED. THE GIVEN ROWS OF THIS SEAT. 7 by the template 'for every input the law returns true; each argument reads behind the call as it read before'; 0 by the template 'total and deterministic' (their statements: YtlkcjnhchjhpoaaTotals.lean).
  GIVEN WITH THE SEED: the statements are not yours to turn. If you find one false, say at which input.
  Laid BY PROGRAM, IN A SANDBOX (cutbox-rows.mjs): the forced cells as the released guide's own fill.sh prints them over the translation 3a812757efa2256e… (all of the seat's roots in one cut). By AI agents, Wed Nov 11 2026. No macro, syntax, notation, axiom, sorry.
-/
import Derived.Test.YtlkcjnhchjhpoaaChecked
import GoSem.Claim
import GoSem.ClaimJoined
import GoSem.ClaimMapViews
import Derived.JoinedTies
import Derived.KernelRfl
namespace Go.Proofs.Ytlkcjnhchjhpoaa
/- THE CELL 'sum', in the pinned program and in every row, IS THE sha256 OF THE DUMP (.gsa) THAT YtlkcjnhchjhpoaaProg.lean LOADS. Nothing in Lean hashes anything: it is a label: what it is worth is what the hold of that sum in a sandbox is worth. -/
noncomputable def Try.pinned : Pinned := { name := "ytlkcjnhchjhpoaa", sum := "3a812757efa2256ee850dfd96175f0d94b90b3720bfda2e5faeddfa19794afda", checked := Try.checked }
namespace Rows
def none {H : Type} : Left H := { results := [], args := [] }

/-- 'laws.FnIsLeapSecond': WHATEVER THE INPUT: true; the input reads as it did. -/
def fnIsLeapSecondSpec : ChangeSpec := { name := "fnIsLeapSecond", fn := fun _ => fun
  | [d] => { results := [.lit (.bool true)], args := [d] }
  | _ => none }
def fnIsLeapSecondRow : OpenClaim := { program := "ytlkcjnhchjhpoaa", sum := "3a812757efa2256ee850dfd96175f0d94b90b3720bfda2e5faeddfa19794afda", func := "loop.example/satelliteclock/laws.FnIsLeapSecond", spec := "fnIsLeapSecond", apart := false }
def FnIsLeapSecondSaid : Prop := fnIsLeapSecondRow.holds Try.pinned (OpenSpec.ofChange fnIsLeapSecondSpec)

/-- ITS FALSE NEIGHBOUR: 'it returns false'. Refute it at one input. -/
def fnIsLeapSecondWrong : ChangeSpec := { name := "fnIsLeapSecond", fn := fun _ => fun
  | [d] => { results := [.lit (.bool false)], args := [d] }
  | _ => none }
def FnIsLeapSecondWrongFalsely : Prop := fnIsLeapSecondRow.holds Try.pinned (OpenSpec.ofChange fnIsLeapSecondWrong)

/-- 'laws.FnLeapsBeforeAll': WHATEVER THE INPUT: true; the input reads as it did. -/
def fnLeapsBeforeAllSpec : ChangeSpec := { name := "fnLeapsBeforeAll", fn := fun _ => fun
  | [d] => { results := [.lit (.bool true)], args := [d] }
  | _ => none }
def fnLeapsBeforeAllRow : OpenClaim := { program := "ytlkcjnhchjhpoaa", sum := "3a812757efa2256ee850dfd96175f0d94b90b3720bfda2e5faeddfa19794afda", func := "loop.example/satelliteclock/laws.FnLeapsBeforeAll", spec := "fnLeapsBeforeAll", apart := false }
def FnLeapsBeforeAllSaid : Prop := fnLeapsBeforeAllRow.holds Try.pinned (OpenSpec.ofChange fnLeapsBeforeAllSpec)

/-- ITS FALSE NEIGHBOUR: 'it returns false'. Refute it at one input. -/
def fnLeapsBeforeAllWrong : ChangeSpec := { name := "fnLeapsBeforeAll", fn := fun _ => fun
  | [d] => { results := [.lit (.bool false)], args := [d] }
  | _ => none }
def FnLeapsBeforeAllWrongFalsely : Prop := fnLeapsBeforeAllRow.holds Try.pinned (OpenSpec.ofChange fnLeapsBeforeAllWrong)

/-- 'laws.FnLeapsBeforeParts': WHATEVER THE INPUT: true; the input reads as it did. -/
def fnLeapsBeforePartsSpec : ChangeSpec := { name := "fnLeapsBeforeParts", fn := fun _ => fun
  | [d] => { results := [.lit (.bool true)], args := [d] }
  | _ => none }
def fnLeapsBeforePartsRow : OpenClaim := { program := "ytlkcjnhchjhpoaa", sum := "3a812757efa2256ee850dfd96175f0d94b90b3720bfda2e5faeddfa19794afda", func := "loop.example/satelliteclock/laws.FnLeapsBeforeParts", spec := "fnLeapsBeforeParts", apart := false }
def FnLeapsBeforePartsSaid : Prop := fnLeapsBeforePartsRow.holds Try.pinned (OpenSpec.ofChange fnLeapsBeforePartsSpec)

/-- ITS FALSE NEIGHBOUR: 'it returns false'. Refute it at one input. -/
def fnLeapsBeforePartsWrong : ChangeSpec := { name := "fnLeapsBeforeParts", fn := fun _ => fun
  | [d] => { results := [.lit (.bool false)], args := [d] }
  | _ => none }
def FnLeapsBeforePartsWrongFalsely : Prop := fnLeapsBeforePartsRow.holds Try.pinned (OpenSpec.ofChange fnLeapsBeforePartsWrong)

/-- 'laws.FnNextLeapNone': WHATEVER THE INPUT: true; the input reads as it did. -/
def fnNextLeapNoneSpec : ChangeSpec := { name := "fnNextLeapNone", fn := fun _ => fun
  | [d] => { results := [.lit (.bool true)], args := [d] }
  | _ => none }
def fnNextLeapNoneRow : OpenClaim := { program := "ytlkcjnhchjhpoaa", sum := "3a812757efa2256ee850dfd96175f0d94b90b3720bfda2e5faeddfa19794afda", func := "loop.example/satelliteclock/laws.FnNextLeapNone", spec := "fnNextLeapNone", apart := false }
def FnNextLeapNoneSaid : Prop := fnNextLeapNoneRow.holds Try.pinned (OpenSpec.ofChange fnNextLeapNoneSpec)

/-- ITS FALSE NEIGHBOUR: 'it returns false'. Refute it at one input. -/
def fnNextLeapNoneWrong : ChangeSpec := { name := "fnNextLeapNone", fn := fun _ => fun
  | [d] => { results := [.lit (.bool false)], args := [d] }
  | _ => none }
def FnNextLeapNoneWrongFalsely : Prop := fnNextLeapNoneRow.holds Try.pinned (OpenSpec.ofChange fnNextLeapNoneWrong)

/-- 'laws.FnIsLeapSecondCivil': WHATEVER THE INPUT: true; the input reads as it did. -/
def fnIsLeapSecondCivilSpec : ChangeSpec := { name := "fnIsLeapSecondCivil", fn := fun _ => fun
  | [d] => { results := [.lit (.bool true)], args := [d] }
  | _ => none }
def fnIsLeapSecondCivilRow : OpenClaim := { program := "ytlkcjnhchjhpoaa", sum := "3a812757efa2256ee850dfd96175f0d94b90b3720bfda2e5faeddfa19794afda", func := "loop.example/satelliteclock/laws.FnIsLeapSecondCivil", spec := "fnIsLeapSecondCivil", apart := false }
def FnIsLeapSecondCivilSaid : Prop := fnIsLeapSecondCivilRow.holds Try.pinned (OpenSpec.ofChange fnIsLeapSecondCivilSpec)

/-- ITS FALSE NEIGHBOUR: 'it returns false'. Refute it at one input. -/
def fnIsLeapSecondCivilWrong : ChangeSpec := { name := "fnIsLeapSecondCivil", fn := fun _ => fun
  | [d] => { results := [.lit (.bool false)], args := [d] }
  | _ => none }
def FnIsLeapSecondCivilWrongFalsely : Prop := fnIsLeapSecondCivilRow.holds Try.pinned (OpenSpec.ofChange fnIsLeapSecondCivilWrong)

/-- 'laws.FnLeapsBefore': WHATEVER THE INPUT: true; the input reads as it did. -/
def fnLeapsBeforeSpec : ChangeSpec := { name := "fnLeapsBefore", fn := fun _ => fun
  | [d] => { results := [.lit (.bool true)], args := [d] }
  | _ => none }
def fnLeapsBeforeRow : OpenClaim := { program := "ytlkcjnhchjhpoaa", sum := "3a812757efa2256ee850dfd96175f0d94b90b3720bfda2e5faeddfa19794afda", func := "loop.example/satelliteclock/laws.FnLeapsBefore", spec := "fnLeapsBefore", apart := false }
def FnLeapsBeforeSaid : Prop := fnLeapsBeforeRow.holds Try.pinned (OpenSpec.ofChange fnLeapsBeforeSpec)

/-- ITS FALSE NEIGHBOUR: 'it returns false'. Refute it at one input. -/
def fnLeapsBeforeWrong : ChangeSpec := { name := "fnLeapsBefore", fn := fun _ => fun
  | [d] => { results := [.lit (.bool false)], args := [d] }
  | _ => none }
def FnLeapsBeforeWrongFalsely : Prop := fnLeapsBeforeRow.holds Try.pinned (OpenSpec.ofChange fnLeapsBeforeWrong)

/-- 'laws.FnNextLeap': WHATEVER THE INPUT: true; the input reads as it did. -/
def fnNextLeapSpec : ChangeSpec := { name := "fnNextLeap", fn := fun _ => fun
  | [d] => { results := [.lit (.bool true)], args := [d] }
  | _ => none }
def fnNextLeapRow : OpenClaim := { program := "ytlkcjnhchjhpoaa", sum := "3a812757efa2256ee850dfd96175f0d94b90b3720bfda2e5faeddfa19794afda", func := "loop.example/satelliteclock/laws.FnNextLeap", spec := "fnNextLeap", apart := false }
def FnNextLeapSaid : Prop := fnNextLeapRow.holds Try.pinned (OpenSpec.ofChange fnNextLeapSpec)

/-- ITS FALSE NEIGHBOUR: 'it returns false'. Refute it at one input. -/
def fnNextLeapWrong : ChangeSpec := { name := "fnNextLeap", fn := fun _ => fun
  | [d] => { results := [.lit (.bool false)], args := [d] }
  | _ => none }
def FnNextLeapWrongFalsely : Prop := fnNextLeapRow.holds Try.pinned (OpenSpec.ofChange fnNextLeapWrong)

/- THE SECOND FORM. 'bulk': how many values and letters a reading holds, each counted each time it is reached (what is shared counts as often as it is met; a slice's spare places count too). A statement '..UptoSaid' is the law's where the arguments, and the package variables that the reading takes, are together of bulk at most 1048576: NARROWER than '..Said'. Prove '..Said' where nothing that the law and all that it calls make is longer than what came in: it says more and counts as full. Else prove '..UptoSaid'. A law counts once. -/
mutual
def uptoBulk {H : Type} : DataW H → Nat
  | .lit (.string bytes) => bytes.length + 1
  | .lit _ => 1
  | .nil => 1
  | .ptr d => uptoBulk d + 1
  | .slice elems spare => uptoBulkAll elems + uptoBulkAll spare + 1
  | .agg parts => uptoBulkAll parts + 1
  | .iface _ d => uptoBulk d + 1
  | .map entries => uptoBulkEntries entries + 1
  | .held _ => 1
def uptoBulkAll {H : Type} : List (DataW H) → Nat
  | [] => 0
  | d :: r => uptoBulk d + uptoBulkAll r
def uptoBulkEntries {H : Type} : List (Lit × DataW H) → Nat
  | [] => 0
  | x :: r => uptoBulkEntry x + uptoBulkEntries r
def uptoBulkEntry {H : Type} : Lit × DataW H → Nat
  | (.string bytes, d) => bytes.length + uptoBulk d + 1
  | (_, d) => uptoBulk d + 1
 end
def uptoSmall : (H : Type) → List (DataW H) → Bool := fun _ ds => decide (uptoBulkAll ds ≤ 1048576)
def OpenSpec.upto (s : _root_.Go.ChangeSpec) : _root_.Go.OpenSpec := { _root_.Go.OpenSpec.ofChange s with cond := some uptoSmall }

/-- 'laws.FnIsLeapSecond', WHERE WHAT IT READS IS OF BULK AT MOST 1048576: true; the input reads as it did. -/
def fnIsLeapSecondUptoRow : OpenClaim := { program := "ytlkcjnhchjhpoaa", sum := "3a812757efa2256ee850dfd96175f0d94b90b3720bfda2e5faeddfa19794afda", func := "loop.example/satelliteclock/laws.FnIsLeapSecond", spec := "fnIsLeapSecond", apart := false, narrowed := true }
def FnIsLeapSecondUptoSaid : Prop := fnIsLeapSecondUptoRow.holds Try.pinned (OpenSpec.upto fnIsLeapSecondSpec)

/-- 'laws.FnLeapsBeforeAll', WHERE WHAT IT READS IS OF BULK AT MOST 1048576: true; the input reads as it did. -/
def fnLeapsBeforeAllUptoRow : OpenClaim := { program := "ytlkcjnhchjhpoaa", sum := "3a812757efa2256ee850dfd96175f0d94b90b3720bfda2e5faeddfa19794afda", func := "loop.example/satelliteclock/laws.FnLeapsBeforeAll", spec := "fnLeapsBeforeAll", apart := false, narrowed := true }
def FnLeapsBeforeAllUptoSaid : Prop := fnLeapsBeforeAllUptoRow.holds Try.pinned (OpenSpec.upto fnLeapsBeforeAllSpec)

/-- 'laws.FnLeapsBeforeParts', WHERE WHAT IT READS IS OF BULK AT MOST 1048576: true; the input reads as it did. -/
def fnLeapsBeforePartsUptoRow : OpenClaim := { program := "ytlkcjnhchjhpoaa", sum := "3a812757efa2256ee850dfd96175f0d94b90b3720bfda2e5faeddfa19794afda", func := "loop.example/satelliteclock/laws.FnLeapsBeforeParts", spec := "fnLeapsBeforeParts", apart := false, narrowed := true }
def FnLeapsBeforePartsUptoSaid : Prop := fnLeapsBeforePartsUptoRow.holds Try.pinned (OpenSpec.upto fnLeapsBeforePartsSpec)

/-- 'laws.FnNextLeapNone', WHERE WHAT IT READS IS OF BULK AT MOST 1048576: true; the input reads as it did. -/
def fnNextLeapNoneUptoRow : OpenClaim := { program := "ytlkcjnhchjhpoaa", sum := "3a812757efa2256ee850dfd96175f0d94b90b3720bfda2e5faeddfa19794afda", func := "loop.example/satelliteclock/laws.FnNextLeapNone", spec := "fnNextLeapNone", apart := false, narrowed := true }
def FnNextLeapNoneUptoSaid : Prop := fnNextLeapNoneUptoRow.holds Try.pinned (OpenSpec.upto fnNextLeapNoneSpec)

/-- 'laws.FnIsLeapSecondCivil', WHERE WHAT IT READS IS OF BULK AT MOST 1048576: true; the input reads as it did. -/
def fnIsLeapSecondCivilUptoRow : OpenClaim := { program := "ytlkcjnhchjhpoaa", sum := "3a812757efa2256ee850dfd96175f0d94b90b3720bfda2e5faeddfa19794afda", func := "loop.example/satelliteclock/laws.FnIsLeapSecondCivil", spec := "fnIsLeapSecondCivil", apart := false, narrowed := true }
def FnIsLeapSecondCivilUptoSaid : Prop := fnIsLeapSecondCivilUptoRow.holds Try.pinned (OpenSpec.upto fnIsLeapSecondCivilSpec)

/-- 'laws.FnLeapsBefore', WHERE WHAT IT READS IS OF BULK AT MOST 1048576: true; the input reads as it did. -/
def fnLeapsBeforeUptoRow : OpenClaim := { program := "ytlkcjnhchjhpoaa", sum := "3a812757efa2256ee850dfd96175f0d94b90b3720bfda2e5faeddfa19794afda", func := "loop.example/satelliteclock/laws.FnLeapsBefore", spec := "fnLeapsBefore", apart := false, narrowed := true }
def FnLeapsBeforeUptoSaid : Prop := fnLeapsBeforeUptoRow.holds Try.pinned (OpenSpec.upto fnLeapsBeforeSpec)

/-- 'laws.FnNextLeap', WHERE WHAT IT READS IS OF BULK AT MOST 1048576: true; the input reads as it did. -/
def fnNextLeapUptoRow : OpenClaim := { program := "ytlkcjnhchjhpoaa", sum := "3a812757efa2256ee850dfd96175f0d94b90b3720bfda2e5faeddfa19794afda", func := "loop.example/satelliteclock/laws.FnNextLeap", spec := "fnNextLeap", apart := false, narrowed := true }
def FnNextLeapUptoSaid : Prop := fnNextLeapUptoRow.holds Try.pinned (OpenSpec.upto fnNextLeapSpec)

end Rows
end Go.Proofs.Ytlkcjnhchjhpoaa
