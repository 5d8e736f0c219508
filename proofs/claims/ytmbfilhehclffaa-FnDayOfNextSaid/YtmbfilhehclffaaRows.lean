/-
  No cell of these rows narrows 'for every input' (looked for: loops, veiled, ifaces, maps, wideKeys, modest, calm, conditions, laid).
  DERIVED. THE GIVEN ROWS OF THIS SEAT. 6 by the template 'for every input the law returns true; each argument reads behind the call as it read before'; 0 by the template 'total and deterministic' (their statements: YtmbfilhehclffaaTotals.lean).
  GIVEN WITH THE SEED: the statements are not yours to turn. If you find one false, say at which input.
  Laid BY PROGRAM, IN A SANDBOX (cutbox-rows.mjs): the forced cells as the released guide's own fill.sh prints them over the translation 2d233615bc41ad1f… (all of the seat's roots in one cut). By AI agents, Wed Nov 11 2026. No macro, syntax, notation, axiom, sorry.
-/
import Derived.Test.YtmbfilhehclffaaChecked
import GoSem.Claim
import GoSem.ClaimJoined
import GoSem.ClaimMapViews
import Derived.JoinedTies
import Derived.KernelRfl
namespace Go.Proofs.Ytmbfilhehclffaa
/- THE CELL 'sum', in the pinned program and in every row, IS THE sha256 OF THE DUMP (.gsa) THAT YtmbfilhehclffaaProg.lean LOADS. Nothing in Lean hashes anything: it is a label: what it is worth is what the hold of that sum in a sandbox is worth. -/
noncomputable def Try.pinned : Pinned := { name := "ytmbfilhehclffaa", sum := "2d233615bc41ad1f0856e7109c8c054a1c123dcce88b97857158c3f140f1e732", checked := Try.checked }
namespace Rows
def none {H : Type} : Left H := { results := [], args := [] }

/-- 'laws.FnDayOfMonth': WHATEVER THE INPUT: true; the input reads as it did. -/
def fnDayOfMonthSpec : ChangeSpec := { name := "fnDayOfMonth", fn := fun _ => fun
  | [d] => { results := [.lit (.bool true)], args := [d] }
  | _ => none }
def fnDayOfMonthRow : OpenClaim := { program := "ytmbfilhehclffaa", sum := "2d233615bc41ad1f0856e7109c8c054a1c123dcce88b97857158c3f140f1e732", func := "loop.example/satelliteclock/laws.FnDayOfMonth", spec := "fnDayOfMonth", apart := false }
def FnDayOfMonthSaid : Prop := fnDayOfMonthRow.holds Try.pinned (OpenSpec.ofChange fnDayOfMonthSpec)

/-- ITS FALSE NEIGHBOUR: 'it returns false'. Refute it at one input. -/
def fnDayOfMonthWrong : ChangeSpec := { name := "fnDayOfMonth", fn := fun _ => fun
  | [d] => { results := [.lit (.bool false)], args := [d] }
  | _ => none }
def FnDayOfMonthWrongFalsely : Prop := fnDayOfMonthRow.holds Try.pinned (OpenSpec.ofChange fnDayOfMonthWrong)

/-- 'laws.FnDayOfNext': WHATEVER THE INPUT: true; the input reads as it did. -/
def fnDayOfNextSpec : ChangeSpec := { name := "fnDayOfNext", fn := fun _ => fun
  | [d] => { results := [.lit (.bool true)], args := [d] }
  | _ => none }
def fnDayOfNextRow : OpenClaim := { program := "ytmbfilhehclffaa", sum := "2d233615bc41ad1f0856e7109c8c054a1c123dcce88b97857158c3f140f1e732", func := "loop.example/satelliteclock/laws.FnDayOfNext", spec := "fnDayOfNext", apart := false }
def FnDayOfNextSaid : Prop := fnDayOfNextRow.holds Try.pinned (OpenSpec.ofChange fnDayOfNextSpec)

/-- ITS FALSE NEIGHBOUR: 'it returns false'. Refute it at one input. -/
def fnDayOfNextWrong : ChangeSpec := { name := "fnDayOfNext", fn := fun _ => fun
  | [d] => { results := [.lit (.bool false)], args := [d] }
  | _ => none }
def FnDayOfNextWrongFalsely : Prop := fnDayOfNextRow.holds Try.pinned (OpenSpec.ofChange fnDayOfNextWrong)

/-- 'laws.FnWeekdayOfDate': WHATEVER THE INPUT: true; the input reads as it did. -/
def fnWeekdayOfDateSpec : ChangeSpec := { name := "fnWeekdayOfDate", fn := fun _ => fun
  | [d] => { results := [.lit (.bool true)], args := [d] }
  | _ => none }
def fnWeekdayOfDateRow : OpenClaim := { program := "ytmbfilhehclffaa", sum := "2d233615bc41ad1f0856e7109c8c054a1c123dcce88b97857158c3f140f1e732", func := "loop.example/satelliteclock/laws.FnWeekdayOfDate", spec := "fnWeekdayOfDate", apart := false }
def FnWeekdayOfDateSaid : Prop := fnWeekdayOfDateRow.holds Try.pinned (OpenSpec.ofChange fnWeekdayOfDateSpec)

/-- ITS FALSE NEIGHBOUR: 'it returns false'. Refute it at one input. -/
def fnWeekdayOfDateWrong : ChangeSpec := { name := "fnWeekdayOfDate", fn := fun _ => fun
  | [d] => { results := [.lit (.bool false)], args := [d] }
  | _ => none }
def FnWeekdayOfDateWrongFalsely : Prop := fnWeekdayOfDateRow.holds Try.pinned (OpenSpec.ofChange fnWeekdayOfDateWrong)

/-- 'laws.FnDayOf': WHATEVER THE INPUT: true; the input reads as it did. -/
def fnDayOfSpec : ChangeSpec := { name := "fnDayOf", fn := fun _ => fun
  | [d] => { results := [.lit (.bool true)], args := [d] }
  | _ => none }
def fnDayOfRow : OpenClaim := { program := "ytmbfilhehclffaa", sum := "2d233615bc41ad1f0856e7109c8c054a1c123dcce88b97857158c3f140f1e732", func := "loop.example/satelliteclock/laws.FnDayOf", spec := "fnDayOf", apart := false }
def FnDayOfSaid : Prop := fnDayOfRow.holds Try.pinned (OpenSpec.ofChange fnDayOfSpec)

/-- ITS FALSE NEIGHBOUR: 'it returns false'. Refute it at one input. -/
def fnDayOfWrong : ChangeSpec := { name := "fnDayOf", fn := fun _ => fun
  | [d] => { results := [.lit (.bool false)], args := [d] }
  | _ => none }
def FnDayOfWrongFalsely : Prop := fnDayOfRow.holds Try.pinned (OpenSpec.ofChange fnDayOfWrong)

/-- 'laws.FnReadFrame': WHATEVER THE INPUT: true; the input reads as it did. -/
def fnReadFrameSpec : ChangeSpec := { name := "fnReadFrame", fn := fun _ => fun
  | [d] => { results := [.lit (.bool true)], args := [d] }
  | _ => none }
def fnReadFrameRow : OpenClaim := { program := "ytmbfilhehclffaa", sum := "2d233615bc41ad1f0856e7109c8c054a1c123dcce88b97857158c3f140f1e732", func := "loop.example/satelliteclock/laws.FnReadFrame", spec := "fnReadFrame", recurses := true, apart := false }
def FnReadFrameSaid : Prop := fnReadFrameRow.holds Try.pinned (OpenSpec.ofChange fnReadFrameSpec)

/-- ITS FALSE NEIGHBOUR: 'it returns false'. Refute it at one input. -/
def fnReadFrameWrong : ChangeSpec := { name := "fnReadFrame", fn := fun _ => fun
  | [d] => { results := [.lit (.bool false)], args := [d] }
  | _ => none }
def FnReadFrameWrongFalsely : Prop := fnReadFrameRow.holds Try.pinned (OpenSpec.ofChange fnReadFrameWrong)

/-- 'laws.FnReadFrameWrong': WHATEVER THE INPUT: true; the input reads as it did. -/
def fnReadFrameWrongSpec : ChangeSpec := { name := "fnReadFrameWrong", fn := fun _ => fun
  | [d] => { results := [.lit (.bool true)], args := [d] }
  | _ => none }
def fnReadFrameWrongRow : OpenClaim := { program := "ytmbfilhehclffaa", sum := "2d233615bc41ad1f0856e7109c8c054a1c123dcce88b97857158c3f140f1e732", func := "loop.example/satelliteclock/laws.FnReadFrameWrong", spec := "fnReadFrameWrong", recurses := true, apart := false }
def FnReadFrameWrongSaid : Prop := fnReadFrameWrongRow.holds Try.pinned (OpenSpec.ofChange fnReadFrameWrongSpec)

/-- ITS FALSE NEIGHBOUR: 'it returns false'. Refute it at one input. -/
def fnReadFrameWrongWrong : ChangeSpec := { name := "fnReadFrameWrong", fn := fun _ => fun
  | [d] => { results := [.lit (.bool false)], args := [d] }
  | _ => none }
def FnReadFrameWrongWrongFalsely : Prop := fnReadFrameWrongRow.holds Try.pinned (OpenSpec.ofChange fnReadFrameWrongWrong)

/- THE SECOND FORM. 'bulk': how many values and letters a reading holds, each counted each time it is reached (what is shared counts as often as it is met; a slice's spare places count too). A statement '..UptoSaid' is the law's where the arguments, and the package variables that the reading takes, are together of bulk at most 1048576: NARROWER than '..Said'. Prove '..Said' where nothing that the law and all that it calls make is longer than what came in: it says more and counts as full. Else prove '..UptoSaid'. A law counts once. -/
mutual
def uptoBulk {H : Type} : DataW H → Nat
  | .lit (.string bytes) => bytes.length + 1
  | .lit _ => 1
  | .nil => 1
  | .ptr d => uptoBulk d + 1
  | .slice elems spare => uptoBulkAll elems + uptoBulkAll spare + 1
  | .agg parts => uptoBulkAll parts + 1
  | .iface _ d => uptoBulk d + 1
  | .map entries => uptoBulkEntries entries + 1
  | .held _ => 1
def uptoBulkAll {H : Type} : List (DataW H) → Nat
  | [] => 0
  | d :: r => uptoBulk d + uptoBulkAll r
def uptoBulkEntries {H : Type} : List (Lit × DataW H) → Nat
  | [] => 0
  | x :: r => uptoBulkEntry x + uptoBulkEntries r
def uptoBulkEntry {H : Type} : Lit × DataW H → Nat
  | (.string bytes, d) => bytes.length + uptoBulk d + 1
  | (_, d) => uptoBulk d + 1
 end
def uptoSmall : (H : Type) → List (DataW H) → Bool := fun _ ds => decide (uptoBulkAll ds ≤ 1048576)
def OpenSpec.upto (s : _root_.Go.ChangeSpec) : _root_.Go.OpenSpec := { _root_.Go.OpenSpec.ofChange s with cond := some uptoSmall }

/-- 'laws.FnDayOfMonth', WHERE WHAT IT READS IS OF BULK AT MOST 1048576: true; the input reads as it did. -/
def fnDayOfMonthUptoRow : OpenClaim := { program := "ytmbfilhehclffaa", sum := "2d233615bc41ad1f0856e7109c8c054a1c123dcce88b97857158c3f140f1e732", func := "loop.example/satelliteclock/laws.FnDayOfMonth", spec := "fnDayOfMonth", apart := false, narrowed := true }
def FnDayOfMonthUptoSaid : Prop := fnDayOfMonthUptoRow.holds Try.pinned (OpenSpec.upto fnDayOfMonthSpec)

/-- 'laws.FnDayOfNext', WHERE WHAT IT READS IS OF BULK AT MOST 1048576: true; the input reads as it did. -/
def fnDayOfNextUptoRow : OpenClaim := { program := "ytmbfilhehclffaa", sum := "2d233615bc41ad1f0856e7109c8c054a1c123dcce88b97857158c3f140f1e732", func := "loop.example/satelliteclock/laws.FnDayOfNext", spec := "fnDayOfNext", apart := false, narrowed := true }
def FnDayOfNextUptoSaid : Prop := fnDayOfNextUptoRow.holds Try.pinned (OpenSpec.upto fnDayOfNextSpec)

/-- 'laws.FnWeekdayOfDate', WHERE WHAT IT READS IS OF BULK AT MOST 1048576: true; the input reads as it did. -/
def fnWeekdayOfDateUptoRow : OpenClaim := { program := "ytmbfilhehclffaa", sum := "2d233615bc41ad1f0856e7109c8c054a1c123dcce88b97857158c3f140f1e732", func := "loop.example/satelliteclock/laws.FnWeekdayOfDate", spec := "fnWeekdayOfDate", apart := false, narrowed := true }
def FnWeekdayOfDateUptoSaid : Prop := fnWeekdayOfDateUptoRow.holds Try.pinned (OpenSpec.upto fnWeekdayOfDateSpec)

/-- 'laws.FnDayOf', WHERE WHAT IT READS IS OF BULK AT MOST 1048576: true; the input reads as it did. -/
def fnDayOfUptoRow : OpenClaim := { program := "ytmbfilhehclffaa", sum := "2d233615bc41ad1f0856e7109c8c054a1c123dcce88b97857158c3f140f1e732", func := "loop.example/satelliteclock/laws.FnDayOf", spec := "fnDayOf", apart := false, narrowed := true }
def FnDayOfUptoSaid : Prop := fnDayOfUptoRow.holds Try.pinned (OpenSpec.upto fnDayOfSpec)

/-- 'laws.FnReadFrame', WHERE WHAT IT READS IS OF BULK AT MOST 1048576: true; the input reads as it did. -/
def fnReadFrameUptoRow : OpenClaim := { program := "ytmbfilhehclffaa", sum := "2d233615bc41ad1f0856e7109c8c054a1c123dcce88b97857158c3f140f1e732", func := "loop.example/satelliteclock/laws.FnReadFrame", spec := "fnReadFrame", recurses := true, apart := false, narrowed := true }
def FnReadFrameUptoSaid : Prop := fnReadFrameUptoRow.holds Try.pinned (OpenSpec.upto fnReadFrameSpec)

/-- 'laws.FnReadFrameWrong', WHERE WHAT IT READS IS OF BULK AT MOST 1048576: true; the input reads as it did. -/
def fnReadFrameWrongUptoRow : OpenClaim := { program := "ytmbfilhehclffaa", sum := "2d233615bc41ad1f0856e7109c8c054a1c123dcce88b97857158c3f140f1e732", func := "loop.example/satelliteclock/laws.FnReadFrameWrong", spec := "fnReadFrameWrong", recurses := true, apart := false, narrowed := true }
def FnReadFrameWrongUptoSaid : Prop := fnReadFrameWrongUptoRow.holds Try.pinned (OpenSpec.upto fnReadFrameWrongSpec)

end Rows
end Go.Proofs.Ytmbfilhehclffaa
