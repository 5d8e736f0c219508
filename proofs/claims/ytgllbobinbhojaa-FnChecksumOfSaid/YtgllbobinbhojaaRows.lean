/-
  No cell of these rows narrows 'for every input' (looked for: loops, veiled, ifaces, maps, wideKeys, modest, calm, conditions, laid).
  DERIVED. THE GIVEN ROWS OF THIS SEAT. 12 by the template 'for every input the law returns true; each argument reads behind the call as it read before'; 0 by the template 'total and deterministic' (their statements: YtgllbobinbhojaaTotals.lean).
  GIVEN WITH THE SEED: the statements are not yours to turn. If you find one false, say at which input.
  Laid BY PROGRAM, IN A SANDBOX (cutbox-rows.mjs): the forced cells as the released guide's own fill.sh prints them over the translation be6071c538a1b229… (all of the seat's roots in one cut). By AI agents, Wed Nov 11 2026. No macro, syntax, notation, axiom, sorry.
-/
import Derived.Test.YtgllbobinbhojaaChecked
import GoSem.Claim
import GoSem.ClaimJoined
import GoSem.ClaimMapViews
import Derived.JoinedTies
import Derived.KernelRfl
namespace Go.Proofs.Ytgllbobinbhojaa
/- THE CELL 'sum', in the pinned program and in every row, IS THE sha256 OF THE DUMP (.gsa) THAT YtgllbobinbhojaaProg.lean LOADS. Nothing in Lean hashes anything: it is a label: what it is worth is what the hold of that sum in a sandbox is worth. -/
noncomputable def Try.pinned : Pinned := { name := "ytgllbobinbhojaa", sum := "be6071c538a1b229e3adebed1f9c4db62b00b8de0b942ef92939d0e201c79fc8", checked := Try.checked }
namespace Rows
def none {H : Type} : Left H := { results := [], args := [] }

/-- 'laws.FnValidLeaps': WHATEVER THE INPUT: true; the input reads as it did. -/
def fnValidLeapsSpec : ChangeSpec := { name := "fnValidLeaps", fn := fun _ => fun
  | [d] => { results := [.lit (.bool true)], args := [d] }
  | _ => none }
def fnValidLeapsRow : OpenClaim := { program := "ytgllbobinbhojaa", sum := "be6071c538a1b229e3adebed1f9c4db62b00b8de0b942ef92939d0e201c79fc8", func := "loop.example/satelliteclock/laws.FnValidLeaps", spec := "fnValidLeaps", apart := false }
def FnValidLeapsSaid : Prop := fnValidLeapsRow.holds Try.pinned (OpenSpec.ofChange fnValidLeapsSpec)

/-- ITS FALSE NEIGHBOUR: 'it returns false'. Refute it at one input. -/
def fnValidLeapsWrong : ChangeSpec := { name := "fnValidLeaps", fn := fun _ => fun
  | [d] => { results := [.lit (.bool false)], args := [d] }
  | _ => none }
def FnValidLeapsWrongFalsely : Prop := fnValidLeapsRow.holds Try.pinned (OpenSpec.ofChange fnValidLeapsWrong)

/-- 'laws.FnTimeAtParts': WHATEVER THE INPUT: true; the input reads as it did. -/
def fnTimeAtPartsSpec : ChangeSpec := { name := "fnTimeAtParts", fn := fun _ => fun
  | [d] => { results := [.lit (.bool true)], args := [d] }
  | _ => none }
def fnTimeAtPartsRow : OpenClaim := { program := "ytgllbobinbhojaa", sum := "be6071c538a1b229e3adebed1f9c4db62b00b8de0b942ef92939d0e201c79fc8", func := "loop.example/satelliteclock/laws.FnTimeAtParts", spec := "fnTimeAtParts", apart := false }
def FnTimeAtPartsSaid : Prop := fnTimeAtPartsRow.holds Try.pinned (OpenSpec.ofChange fnTimeAtPartsSpec)

/-- ITS FALSE NEIGHBOUR: 'it returns false'. Refute it at one input. -/
def fnTimeAtPartsWrong : ChangeSpec := { name := "fnTimeAtParts", fn := fun _ => fun
  | [d] => { results := [.lit (.bool false)], args := [d] }
  | _ => none }
def FnTimeAtPartsWrongFalsely : Prop := fnTimeAtPartsRow.holds Try.pinned (OpenSpec.ofChange fnTimeAtPartsWrong)

/-- 'laws.FnTimeAt': WHATEVER THE INPUT: true; the input reads as it did. -/
def fnTimeAtSpec : ChangeSpec := { name := "fnTimeAt", fn := fun _ => fun
  | [d] => { results := [.lit (.bool true)], args := [d] }
  | _ => none }
def fnTimeAtRow : OpenClaim := { program := "ytgllbobinbhojaa", sum := "be6071c538a1b229e3adebed1f9c4db62b00b8de0b942ef92939d0e201c79fc8", func := "loop.example/satelliteclock/laws.FnTimeAt", spec := "fnTimeAt", apart := false }
def FnTimeAtSaid : Prop := fnTimeAtRow.holds Try.pinned (OpenSpec.ofChange fnTimeAtSpec)

/-- ITS FALSE NEIGHBOUR: 'it returns false'. Refute it at one input. -/
def fnTimeAtWrong : ChangeSpec := { name := "fnTimeAt", fn := fun _ => fun
  | [d] => { results := [.lit (.bool false)], args := [d] }
  | _ => none }
def FnTimeAtWrongFalsely : Prop := fnTimeAtRow.holds Try.pinned (OpenSpec.ofChange fnTimeAtWrong)

/-- 'laws.FnChecksumOf': WHATEVER THE INPUT: true; the input reads as it did. -/
def fnChecksumOfSpec : ChangeSpec := { name := "fnChecksumOf", fn := fun _ => fun
  | [d] => { results := [.lit (.bool true)], args := [d] }
  | _ => none }
def fnChecksumOfRow : OpenClaim := { program := "ytgllbobinbhojaa", sum := "be6071c538a1b229e3adebed1f9c4db62b00b8de0b942ef92939d0e201c79fc8", func := "loop.example/satelliteclock/laws.FnChecksumOf", spec := "fnChecksumOf", recurses := true, apart := false }
def FnChecksumOfSaid : Prop := fnChecksumOfRow.holds Try.pinned (OpenSpec.ofChange fnChecksumOfSpec)

/-- ITS FALSE NEIGHBOUR: 'it returns false'. Refute it at one input. -/
def fnChecksumOfWrong : ChangeSpec := { name := "fnChecksumOf", fn := fun _ => fun
  | [d] => { results := [.lit (.bool false)], args := [d] }
  | _ => none }
def FnChecksumOfWrongFalsely : Prop := fnChecksumOfRow.holds Try.pinned (OpenSpec.ofChange fnChecksumOfWrong)

/-- 'laws.FnChecksumOfOrder': WHATEVER THE INPUT: true; the input reads as it did. -/
def fnChecksumOfOrderSpec : ChangeSpec := { name := "fnChecksumOfOrder", fn := fun _ => fun
  | [d] => { results := [.lit (.bool true)], args := [d] }
  | _ => none }
def fnChecksumOfOrderRow : OpenClaim := { program := "ytgllbobinbhojaa", sum := "be6071c538a1b229e3adebed1f9c4db62b00b8de0b942ef92939d0e201c79fc8", func := "loop.example/satelliteclock/laws.FnChecksumOfOrder", spec := "fnChecksumOfOrder", recurses := true, apart := false }
def FnChecksumOfOrderSaid : Prop := fnChecksumOfOrderRow.holds Try.pinned (OpenSpec.ofChange fnChecksumOfOrderSpec)

/-- ITS FALSE NEIGHBOUR: 'it returns false'. Refute it at one input. -/
def fnChecksumOfOrderWrong : ChangeSpec := { name := "fnChecksumOfOrder", fn := fun _ => fun
  | [d] => { results := [.lit (.bool false)], args := [d] }
  | _ => none }
def FnChecksumOfOrderWrongFalsely : Prop := fnChecksumOfOrderRow.holds Try.pinned (OpenSpec.ofChange fnChecksumOfOrderWrong)

/-- 'laws.FnDateOfOrder': WHATEVER THE INPUT: true; the input reads as it did. -/
def fnDateOfOrderSpec : ChangeSpec := { name := "fnDateOfOrder", fn := fun _ => fun
  | [d] => { results := [.lit (.bool true)], args := [d] }
  | _ => none }
def fnDateOfOrderRow : OpenClaim := { program := "ytgllbobinbhojaa", sum := "be6071c538a1b229e3adebed1f9c4db62b00b8de0b942ef92939d0e201c79fc8", func := "loop.example/satelliteclock/laws.FnDateOfOrder", spec := "fnDateOfOrder", apart := false }
def FnDateOfOrderSaid : Prop := fnDateOfOrderRow.holds Try.pinned (OpenSpec.ofChange fnDateOfOrderSpec)

/-- ITS FALSE NEIGHBOUR: 'it returns false'. Refute it at one input. -/
def fnDateOfOrderWrong : ChangeSpec := { name := "fnDateOfOrder", fn := fun _ => fun
  | [d] => { results := [.lit (.bool false)], args := [d] }
  | _ => none }
def FnDateOfOrderWrongFalsely : Prop := fnDateOfOrderRow.holds Try.pinned (OpenSpec.ofChange fnDateOfOrderWrong)

/-- 'laws.FnDateOfYear': WHATEVER THE INPUT: true; the input reads as it did. -/
def fnDateOfYearSpec : ChangeSpec := { name := "fnDateOfYear", fn := fun _ => fun
  | [d] => { results := [.lit (.bool true)], args := [d] }
  | _ => none }
def fnDateOfYearRow : OpenClaim := { program := "ytgllbobinbhojaa", sum := "be6071c538a1b229e3adebed1f9c4db62b00b8de0b942ef92939d0e201c79fc8", func := "loop.example/satelliteclock/laws.FnDateOfYear", spec := "fnDateOfYear", apart := false }
def FnDateOfYearSaid : Prop := fnDateOfYearRow.holds Try.pinned (OpenSpec.ofChange fnDateOfYearSpec)

/-- ITS FALSE NEIGHBOUR: 'it returns false'. Refute it at one input. -/
def fnDateOfYearWrong : ChangeSpec := { name := "fnDateOfYear", fn := fun _ => fun
  | [d] => { results := [.lit (.bool false)], args := [d] }
  | _ => none }
def FnDateOfYearWrongFalsely : Prop := fnDateOfYearRow.holds Try.pinned (OpenSpec.ofChange fnDateOfYearWrong)

/-- 'laws.FnFrameBodyChecksum': WHATEVER THE INPUT: true; the input reads as it did. -/
def fnFrameBodyChecksumSpec : ChangeSpec := { name := "fnFrameBodyChecksum", fn := fun _ => fun
  | [d] => { results := [.lit (.bool true)], args := [d] }
  | _ => none }
def fnFrameBodyChecksumRow : OpenClaim := { program := "ytgllbobinbhojaa", sum := "be6071c538a1b229e3adebed1f9c4db62b00b8de0b942ef92939d0e201c79fc8", func := "loop.example/satelliteclock/laws.FnFrameBodyChecksum", spec := "fnFrameBodyChecksum", recurses := true, apart := false }
def FnFrameBodyChecksumSaid : Prop := fnFrameBodyChecksumRow.holds Try.pinned (OpenSpec.ofChange fnFrameBodyChecksumSpec)

/-- ITS FALSE NEIGHBOUR: 'it returns false'. Refute it at one input. -/
def fnFrameBodyChecksumWrong : ChangeSpec := { name := "fnFrameBodyChecksum", fn := fun _ => fun
  | [d] => { results := [.lit (.bool false)], args := [d] }
  | _ => none }
def FnFrameBodyChecksumWrongFalsely : Prop := fnFrameBodyChecksumRow.holds Try.pinned (OpenSpec.ofChange fnFrameBodyChecksumWrong)

/-- 'laws.FnExactCivilOf': WHATEVER THE INPUT: true; the input reads as it did. -/
def fnExactCivilOfSpec : ChangeSpec := { name := "fnExactCivilOf", fn := fun _ => fun
  | [d1, d2] => { results := [.lit (.bool true)], args := [d1, d2] }
  | _ => none }
def fnExactCivilOfRow : OpenClaim := { program := "ytgllbobinbhojaa", sum := "be6071c538a1b229e3adebed1f9c4db62b00b8de0b942ef92939d0e201c79fc8", func := "loop.example/satelliteclock/laws.FnExactCivilOf", spec := "fnExactCivilOf", apart := false }
def FnExactCivilOfSaid : Prop := fnExactCivilOfRow.holds Try.pinned (OpenSpec.ofChange fnExactCivilOfSpec)

/-- ITS FALSE NEIGHBOUR: 'it returns false'. Refute it at one input. -/
def fnExactCivilOfWrong : ChangeSpec := { name := "fnExactCivilOf", fn := fun _ => fun
  | [d1, d2] => { results := [.lit (.bool false)], args := [d1, d2] }
  | _ => none }
def FnExactCivilOfWrongFalsely : Prop := fnExactCivilOfRow.holds Try.pinned (OpenSpec.ofChange fnExactCivilOfWrong)

/-- 'laws.FnExactSatelliteOf': WHATEVER THE INPUT: true; the input reads as it did. -/
def fnExactSatelliteOfSpec : ChangeSpec := { name := "fnExactSatelliteOf", fn := fun _ => fun
  | [d1, d2] => { results := [.lit (.bool true)], args := [d1, d2] }
  | _ => none }
def fnExactSatelliteOfRow : OpenClaim := { program := "ytgllbobinbhojaa", sum := "be6071c538a1b229e3adebed1f9c4db62b00b8de0b942ef92939d0e201c79fc8", func := "loop.example/satelliteclock/laws.FnExactSatelliteOf", spec := "fnExactSatelliteOf", apart := false }
def FnExactSatelliteOfSaid : Prop := fnExactSatelliteOfRow.holds Try.pinned (OpenSpec.ofChange fnExactSatelliteOfSpec)

/-- ITS FALSE NEIGHBOUR: 'it returns false'. Refute it at one input. -/
def fnExactSatelliteOfWrong : ChangeSpec := { name := "fnExactSatelliteOf", fn := fun _ => fun
  | [d1, d2] => { results := [.lit (.bool false)], args := [d1, d2] }
  | _ => none }
def FnExactSatelliteOfWrongFalsely : Prop := fnExactSatelliteOfRow.holds Try.pinned (OpenSpec.ofChange fnExactSatelliteOfWrong)

/-- 'laws.FnFrameBody': WHATEVER THE INPUT: true; the input reads as it did. -/
def fnFrameBodySpec : ChangeSpec := { name := "fnFrameBody", fn := fun _ => fun
  | [d] => { results := [.lit (.bool true)], args := [d] }
  | _ => none }
def fnFrameBodyRow : OpenClaim := { program := "ytgllbobinbhojaa", sum := "be6071c538a1b229e3adebed1f9c4db62b00b8de0b942ef92939d0e201c79fc8", func := "loop.example/satelliteclock/laws.FnFrameBody", spec := "fnFrameBody", recurses := true, apart := false }
def FnFrameBodySaid : Prop := fnFrameBodyRow.holds Try.pinned (OpenSpec.ofChange fnFrameBodySpec)

/-- ITS FALSE NEIGHBOUR: 'it returns false'. Refute it at one input. -/
def fnFrameBodyWrong : ChangeSpec := { name := "fnFrameBody", fn := fun _ => fun
  | [d] => { results := [.lit (.bool false)], args := [d] }
  | _ => none }
def FnFrameBodyWrongFalsely : Prop := fnFrameBodyRow.holds Try.pinned (OpenSpec.ofChange fnFrameBodyWrong)

/-- 'laws.FnDateOf': WHATEVER THE INPUT: true; the input reads as it did. -/
def fnDateOfSpec : ChangeSpec := { name := "fnDateOf", fn := fun _ => fun
  | [d] => { results := [.lit (.bool true)], args := [d] }
  | _ => none }
def fnDateOfRow : OpenClaim := { program := "ytgllbobinbhojaa", sum := "be6071c538a1b229e3adebed1f9c4db62b00b8de0b942ef92939d0e201c79fc8", func := "loop.example/satelliteclock/laws.FnDateOf", spec := "fnDateOf", apart := false }
def FnDateOfSaid : Prop := fnDateOfRow.holds Try.pinned (OpenSpec.ofChange fnDateOfSpec)

/-- ITS FALSE NEIGHBOUR: 'it returns false'. Refute it at one input. -/
def fnDateOfWrong : ChangeSpec := { name := "fnDateOf", fn := fun _ => fun
  | [d] => { results := [.lit (.bool false)], args := [d] }
  | _ => none }
def FnDateOfWrongFalsely : Prop := fnDateOfRow.holds Try.pinned (OpenSpec.ofChange fnDateOfWrong)

/- THE SECOND FORM. 'bulk': how many values and letters a reading holds, each counted each time it is reached (what is shared counts as often as it is met; a slice's spare places count too). A statement '..UptoSaid' is the law's where the arguments, and the package variables that the reading takes, are together of bulk at most 1048576: NARROWER than '..Said'. Prove '..Said' where nothing that the law and all that it calls make is longer than what came in: it says more and counts as full. Else prove '..UptoSaid'. A law counts once. -/
mutual
def uptoBulk {H : Type} : DataW H → Nat
  | .lit (.string bytes) => bytes.length + 1
  | .lit _ => 1
  | .nil => 1
  | .ptr d => uptoBulk d + 1
  | .slice elems spare => uptoBulkAll elems + uptoBulkAll spare + 1
  | .agg parts => uptoBulkAll parts + 1
  | .iface _ d => uptoBulk d + 1
  | .map entries => uptoBulkEntries entries + 1
  | .held _ => 1
def uptoBulkAll {H : Type} : List (DataW H) → Nat
  | [] => 0
  | d :: r => uptoBulk d + uptoBulkAll r
def uptoBulkEntries {H : Type} : List (Lit × DataW H) → Nat
  | [] => 0
  | x :: r => uptoBulkEntry x + uptoBulkEntries r
def uptoBulkEntry {H : Type} : Lit × DataW H → Nat
  | (.string bytes, d) => bytes.length + uptoBulk d + 1
  | (_, d) => uptoBulk d + 1
 end
def uptoSmall : (H : Type) → List (DataW H) → Bool := fun _ ds => decide (uptoBulkAll ds ≤ 1048576)
def OpenSpec.upto (s : _root_.Go.ChangeSpec) : _root_.Go.OpenSpec := { _root_.Go.OpenSpec.ofChange s with cond := some uptoSmall }

/-- 'laws.FnValidLeaps', WHERE WHAT IT READS IS OF BULK AT MOST 1048576: true; the input reads as it did. -/
def fnValidLeapsUptoRow : OpenClaim := { program := "ytgllbobinbhojaa", sum := "be6071c538a1b229e3adebed1f9c4db62b00b8de0b942ef92939d0e201c79fc8", func := "loop.example/satelliteclock/laws.FnValidLeaps", spec := "fnValidLeaps", apart := false, narrowed := true }
def FnValidLeapsUptoSaid : Prop := fnValidLeapsUptoRow.holds Try.pinned (OpenSpec.upto fnValidLeapsSpec)

/-- 'laws.FnTimeAtParts', WHERE WHAT IT READS IS OF BULK AT MOST 1048576: true; the input reads as it did. -/
def fnTimeAtPartsUptoRow : OpenClaim := { program := "ytgllbobinbhojaa", sum := "be6071c538a1b229e3adebed1f9c4db62b00b8de0b942ef92939d0e201c79fc8", func := "loop.example/satelliteclock/laws.FnTimeAtParts", spec := "fnTimeAtParts", apart := false, narrowed := true }
def FnTimeAtPartsUptoSaid : Prop := fnTimeAtPartsUptoRow.holds Try.pinned (OpenSpec.upto fnTimeAtPartsSpec)

/-- 'laws.FnTimeAt', WHERE WHAT IT READS IS OF BULK AT MOST 1048576: true; the input reads as it did. -/
def fnTimeAtUptoRow : OpenClaim := { program := "ytgllbobinbhojaa", sum := "be6071c538a1b229e3adebed1f9c4db62b00b8de0b942ef92939d0e201c79fc8", func := "loop.example/satelliteclock/laws.FnTimeAt", spec := "fnTimeAt", apart := false, narrowed := true }
def FnTimeAtUptoSaid : Prop := fnTimeAtUptoRow.holds Try.pinned (OpenSpec.upto fnTimeAtSpec)

/-- 'laws.FnChecksumOf', WHERE WHAT IT READS IS OF BULK AT MOST 1048576: true; the input reads as it did. -/
def fnChecksumOfUptoRow : OpenClaim := { program := "ytgllbobinbhojaa", sum := "be6071c538a1b229e3adebed1f9c4db62b00b8de0b942ef92939d0e201c79fc8", func := "loop.example/satelliteclock/laws.FnChecksumOf", spec := "fnChecksumOf", recurses := true, apart := false, narrowed := true }
def FnChecksumOfUptoSaid : Prop := fnChecksumOfUptoRow.holds Try.pinned (OpenSpec.upto fnChecksumOfSpec)

/-- 'laws.FnChecksumOfOrder', WHERE WHAT IT READS IS OF BULK AT MOST 1048576: true; the input reads as it did. -/
def fnChecksumOfOrderUptoRow : OpenClaim := { program := "ytgllbobinbhojaa", sum := "be6071c538a1b229e3adebed1f9c4db62b00b8de0b942ef92939d0e201c79fc8", func := "loop.example/satelliteclock/laws.FnChecksumOfOrder", spec := "fnChecksumOfOrder", recurses := true, apart := false, narrowed := true }
def FnChecksumOfOrderUptoSaid : Prop := fnChecksumOfOrderUptoRow.holds Try.pinned (OpenSpec.upto fnChecksumOfOrderSpec)

/-- 'laws.FnDateOfOrder', WHERE WHAT IT READS IS OF BULK AT MOST 1048576: true; the input reads as it did. -/
def fnDateOfOrderUptoRow : OpenClaim := { program := "ytgllbobinbhojaa", sum := "be6071c538a1b229e3adebed1f9c4db62b00b8de0b942ef92939d0e201c79fc8", func := "loop.example/satelliteclock/laws.FnDateOfOrder", spec := "fnDateOfOrder", apart := false, narrowed := true }
def FnDateOfOrderUptoSaid : Prop := fnDateOfOrderUptoRow.holds Try.pinned (OpenSpec.upto fnDateOfOrderSpec)

/-- 'laws.FnDateOfYear', WHERE WHAT IT READS IS OF BULK AT MOST 1048576: true; the input reads as it did. -/
def fnDateOfYearUptoRow : OpenClaim := { program := "ytgllbobinbhojaa", sum := "be6071c538a1b229e3adebed1f9c4db62b00b8de0b942ef92939d0e201c79fc8", func := "loop.example/satelliteclock/laws.FnDateOfYear", spec := "fnDateOfYear", apart := false, narrowed := true }
def FnDateOfYearUptoSaid : Prop := fnDateOfYearUptoRow.holds Try.pinned (OpenSpec.upto fnDateOfYearSpec)

/-- 'laws.FnFrameBodyChecksum', WHERE WHAT IT READS IS OF BULK AT MOST 1048576: true; the input reads as it did. -/
def fnFrameBodyChecksumUptoRow : OpenClaim := { program := "ytgllbobinbhojaa", sum := "be6071c538a1b229e3adebed1f9c4db62b00b8de0b942ef92939d0e201c79fc8", func := "loop.example/satelliteclock/laws.FnFrameBodyChecksum", spec := "fnFrameBodyChecksum", recurses := true, apart := false, narrowed := true }
def FnFrameBodyChecksumUptoSaid : Prop := fnFrameBodyChecksumUptoRow.holds Try.pinned (OpenSpec.upto fnFrameBodyChecksumSpec)

/-- 'laws.FnExactCivilOf', WHERE WHAT IT READS IS OF BULK AT MOST 1048576: true; the input reads as it did. -/
def fnExactCivilOfUptoRow : OpenClaim := { program := "ytgllbobinbhojaa", sum := "be6071c538a1b229e3adebed1f9c4db62b00b8de0b942ef92939d0e201c79fc8", func := "loop.example/satelliteclock/laws.FnExactCivilOf", spec := "fnExactCivilOf", apart := false, narrowed := true }
def FnExactCivilOfUptoSaid : Prop := fnExactCivilOfUptoRow.holds Try.pinned (OpenSpec.upto fnExactCivilOfSpec)

/-- 'laws.FnExactSatelliteOf', WHERE WHAT IT READS IS OF BULK AT MOST 1048576: true; the input reads as it did. -/
def fnExactSatelliteOfUptoRow : OpenClaim := { program := "ytgllbobinbhojaa", sum := "be6071c538a1b229e3adebed1f9c4db62b00b8de0b942ef92939d0e201c79fc8", func := "loop.example/satelliteclock/laws.FnExactSatelliteOf", spec := "fnExactSatelliteOf", apart := false, narrowed := true }
def FnExactSatelliteOfUptoSaid : Prop := fnExactSatelliteOfUptoRow.holds Try.pinned (OpenSpec.upto fnExactSatelliteOfSpec)

/-- 'laws.FnFrameBody', WHERE WHAT IT READS IS OF BULK AT MOST 1048576: true; the input reads as it did. -/
def fnFrameBodyUptoRow : OpenClaim := { program := "ytgllbobinbhojaa", sum := "be6071c538a1b229e3adebed1f9c4db62b00b8de0b942ef92939d0e201c79fc8", func := "loop.example/satelliteclock/laws.FnFrameBody", spec := "fnFrameBody", recurses := true, apart := false, narrowed := true }
def FnFrameBodyUptoSaid : Prop := fnFrameBodyUptoRow.holds Try.pinned (OpenSpec.upto fnFrameBodySpec)

/-- 'laws.FnDateOf', WHERE WHAT IT READS IS OF BULK AT MOST 1048576: true; the input reads as it did. -/
def fnDateOfUptoRow : OpenClaim := { program := "ytgllbobinbhojaa", sum := "be6071c538a1b229e3adebed1f9c4db62b00b8de0b942ef92939d0e201c79fc8", func := "loop.example/satelliteclock/laws.FnDateOf", spec := "fnDateOf", apart := false, narrowed := true }
def FnDateOfUptoSaid : Prop := fnDateOfUptoRow.holds Try.pinned (OpenSpec.upto fnDateOfSpec)

end Rows
end Go.Proofs.Ytgllbobinbhojaa
