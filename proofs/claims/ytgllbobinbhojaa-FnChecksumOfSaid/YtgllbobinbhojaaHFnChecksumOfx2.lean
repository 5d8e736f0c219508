/- Proved here: what the Go functions that the law reaches answer, for every input at which their Lean twins answer. Conditions: those that each theorem states. Written by a program of this session (mend.py), out of the text that the kit's print makes for the law. -/
import Derived.Test.YtgllbobinbhojaaHFnChecksumOfx0
import Derived.Test.YtgllbobinbhojaaHFnChecksumOfx1
namespace Go.Proofs.Ytgllbobinbhojaa.HFnChecksumOf
open Go.RowKit Go.Proofs.YtgllbobinbhojaaW.PrintWords Go.Proofs.YtgllbobinbhojaaW.PrintLast Go.Proofs.YtgllbobinbhojaaW.PrintMore
attribute [local go_sem] max2_int min2_int max_two min_two max_three min_three max_four min_four   -- for this text's walks alone
set_option linter.unusedVariables false
set_option linter.unusedSimpArgs false

/-! ### spec_formatFix: function 72 -/
def spec_formatFix.f (k : Nat) (a0_0 : Int) (a0_1 : Int) (a0_2 : Int) (a0_3 : Int) (a0_4 : Int) : Option (ByteArray) := (spec_digits.f k (wrap64 (Int.tdiv (mn a0_3 86399) 3600)) 2).bind fun t116 => ((spec_digits.f k (Int.tmod (wrap64 (Int.tdiv (mn a0_3 86399) 60)) 60) 2).bind fun t117 => (if t116.size + t117.size ≤ 9223372036854775807 then ((spec_digits.f k (wrap64 ((wrap64 ((Int.tmod (mn a0_3 86399) 60) + a0_3)) - (mn a0_3 86399))) 2).bind fun t118 => (if (t116 ++ t117).size + t118.size ≤ 9223372036854775807 then (if 4 + ((t116 ++ t117) ++ t118).size ≤ 9223372036854775807 then (if ((⟨#[70, 73, 88, 44]⟩ : ByteArray) ++ ((t116 ++ t117) ++ t118)).size + 1 ≤ 9223372036854775807 then ((spec_digits.f k a0_2 2).bind fun t119 => (if (((⟨#[70, 73, 88, 44]⟩ : ByteArray) ++ ((t116 ++ t117) ++ t118)) ++ (⟨#[44]⟩ : ByteArray)).size + t119.size ≤ 9223372036854775807 then (if ((((⟨#[70, 73, 88, 44]⟩ : ByteArray) ++ ((t116 ++ t117) ++ t118)) ++ (⟨#[44]⟩ : ByteArray)) ++ t119).size + 1 ≤ 9223372036854775807 then ((spec_digits.f k a0_1 2).bind fun t120 => (if (((((⟨#[70, 73, 88, 44]⟩ : ByteArray) ++ ((t116 ++ t117) ++ t118)) ++ (⟨#[44]⟩ : ByteArray)) ++ t119) ++ (⟨#[44]⟩ : ByteArray)).size + t120.size ≤ 9223372036854775807 then (if ((((((⟨#[70, 73, 88, 44]⟩ : ByteArray) ++ ((t116 ++ t117) ++ t118)) ++ (⟨#[44]⟩ : ByteArray)) ++ t119) ++ (⟨#[44]⟩ : ByteArray)) ++ t120).size + 1 ≤ 9223372036854775807 then ((spec_digits.f k a0_0 4).bind fun t121 => (if (((((((⟨#[70, 73, 88, 44]⟩ : ByteArray) ++ ((t116 ++ t117) ++ t118)) ++ (⟨#[44]⟩ : ByteArray)) ++ t119) ++ (⟨#[44]⟩ : ByteArray)) ++ t120) ++ (⟨#[44]⟩ : ByteArray)).size + t121.size ≤ 9223372036854775807 then (if ((((((((⟨#[70, 73, 88, 44]⟩ : ByteArray) ++ ((t116 ++ t117) ++ t118)) ++ (⟨#[44]⟩ : ByteArray)) ++ t119) ++ (⟨#[44]⟩ : ByteArray)) ++ t120) ++ (⟨#[44]⟩ : ByteArray)) ++ t121).size + 1 ≤ 9223372036854775807 then ((spec_decimal.f k a0_4).bind fun t122 => (if (((((((((⟨#[70, 73, 88, 44]⟩ : ByteArray) ++ ((t116 ++ t117) ++ t118)) ++ (⟨#[44]⟩ : ByteArray)) ++ t119) ++ (⟨#[44]⟩ : ByteArray)) ++ t120) ++ (⟨#[44]⟩ : ByteArray)) ++ t121) ++ (⟨#[44]⟩ : ByteArray)).size + t122.size ≤ 9223372036854775807 then (some ((((((((((⟨#[70, 73, 88, 44]⟩ : ByteArray) ++ ((t116 ++ t117) ++ t118)) ++ (⟨#[44]⟩ : ByteArray)) ++ t119) ++ (⟨#[44]⟩ : ByteArray)) ++ t120) ++ (⟨#[44]⟩ : ByteArray)) ++ t121) ++ (⟨#[44]⟩ : ByteArray)) ++ t122)) else (none))) else (none)) else (none))) else (none)) else (none))) else (none)) else (none))) else (none)) else (none)) else (none))) else (none)))
theorem spec_formatFix.mono : ∀ a0 a1 a2 a3 a4 k, LeO (spec_formatFix.f k a0 a1 a2 a3 a4) (spec_formatFix.f (k + 1) a0 a1 a2 a3 a4) := by
  intro a0 a1 a2 a3 a4 k
  unfold spec_formatFix.f
  repeat' first
      | (with_reducible exact spec_decimal.mono _ _)
      | (with_reducible exact spec_digits.mono _ _ _)
      | (with_reducible exact LeO.refl _)
      | (with_reducible exact LeO.none _)
      | (with_reducible refine LeO.ite ?_ ?_)
      | (with_reducible refine LeO.bind ?_ (fun _ => ?_))
      | exact spec_decimal.mono _ _
      | exact spec_digits.mono _ _ _
      | exact LeO.none _
      | refine LeO.ite ?_ ?_
      | refine LeO.bind ?_ (fun _ => ?_)
def spec_formatFix.T4 : Bool × List (List Nat × List Nat) := (true, [([], []), ([0], [0]), ([1], [1]), ([], []), ([3], [3]), ([4], [4]), ([5], [5]), ([2, 6], [2, 6]), ([7], [7]), ([], []), ([9], [9]), ([10], [10]), ([11, 6], [11]), ([8, 12], [8, 12]), ([13], [13]), ([], []), ([15], [15]), ([16], [16]), ([17, 12], [17]), ([14, 18], [14, 18]), ([19], [19]), ([], []), ([21], [21]), ([22, 18], [22]), ([20, 23], [20, 23]), ([24, 23, 0, 1, 2, 3, 4, 5, 6, 7, 8, 9, 10, 11, 12, 13, 14, 15, 16, 17, 18, 19, 20, 21, 22, 23, 24], [24])])
def spec_formatFix.B4 : List Nat := [0, 1, 3, 0, 8, 24, 56, 127, 255, 0, 512, 1536, 3704, 8191, 16383, 0, 32768, 98304, 237176, 524287, 1048575, 0, 2097152, 6790776, 16777215, 33554431]
theorem spec_formatFix.tab4 : rtab .any (opsOf Try.f72 4) = spec_formatFix.T4 := by kernel_rfl
theorem spec_formatFix.bits4 : waitsOk spec_formatFix.T4.2 spec_formatFix.B4 = true := by kernel_rfl
set_option maxHeartbeats 8000000 in
set_option maxRecDepth 100000 in
theorem spec_formatFix.calls (k : Nat) (a0_0 : Int) (a0_1 : Int) (a0_2 : Int) (a0_3 : Int) (a0_4 : Int) (r : ByteArray) (w : World) (h : spec_formatFix.f k a0_0 a0_1 a0_2 a0_3 a0_4 = some r) :
    Calls Try.prog 72 #[.agg #[.int .i64 a0_0, .int .i64 a0_1, .int .i64 a0_2, .int .i64 a0_3, .int .i64 a0_4]] w fun e w' => e = .returned (.string r) ∧ Below w.heap.size w w' := by
  have hu64 := Try.underlying64
  have HB := Aside0.mk (Below.refl w.heap.size w)
  have H : ((spec_digits.f k (wrap64 (Int.tdiv (mn a0_3 86399) 3600)) 2).bind fun t116 => ((spec_digits.f k (Int.tmod (wrap64 (Int.tdiv (mn a0_3 86399) 60)) 60) 2).bind fun t117 => (if t116.size + t117.size ≤ 9223372036854775807 then ((spec_digits.f k (wrap64 ((wrap64 ((Int.tmod (mn a0_3 86399) 60) + a0_3)) - (mn a0_3 86399))) 2).bind fun t118 => (if (t116 ++ t117).size + t118.size ≤ 9223372036854775807 then (if 4 + ((t116 ++ t117) ++ t118).size ≤ 9223372036854775807 then (if ((⟨#[70, 73, 88, 44]⟩ : ByteArray) ++ ((t116 ++ t117) ++ t118)).size + 1 ≤ 9223372036854775807 then ((spec_digits.f k a0_2 2).bind fun t119 => (if (((⟨#[70, 73, 88, 44]⟩ : ByteArray) ++ ((t116 ++ t117) ++ t118)) ++ (⟨#[44]⟩ : ByteArray)).size + t119.size ≤ 9223372036854775807 then (if ((((⟨#[70, 73, 88, 44]⟩ : ByteArray) ++ ((t116 ++ t117) ++ t118)) ++ (⟨#[44]⟩ : ByteArray)) ++ t119).size + 1 ≤ 9223372036854775807 then ((spec_digits.f k a0_1 2).bind fun t120 => (if (((((⟨#[70, 73, 88, 44]⟩ : ByteArray) ++ ((t116 ++ t117) ++ t118)) ++ (⟨#[44]⟩ : ByteArray)) ++ t119) ++ (⟨#[44]⟩ : ByteArray)).size + t120.size ≤ 9223372036854775807 then (if ((((((⟨#[70, 73, 88, 44]⟩ : ByteArray) ++ ((t116 ++ t117) ++ t118)) ++ (⟨#[44]⟩ : ByteArray)) ++ t119) ++ (⟨#[44]⟩ : ByteArray)) ++ t120).size + 1 ≤ 9223372036854775807 then ((spec_digits.f k a0_0 4).bind fun t121 => (if (((((((⟨#[70, 73, 88, 44]⟩ : ByteArray) ++ ((t116 ++ t117) ++ t118)) ++ (⟨#[44]⟩ : ByteArray)) ++ t119) ++ (⟨#[44]⟩ : ByteArray)) ++ t120) ++ (⟨#[44]⟩ : ByteArray)).size + t121.size ≤ 9223372036854775807 then (if ((((((((⟨#[70, 73, 88, 44]⟩ : ByteArray) ++ ((t116 ++ t117) ++ t118)) ++ (⟨#[44]⟩ : ByteArray)) ++ t119) ++ (⟨#[44]⟩ : ByteArray)) ++ t120) ++ (⟨#[44]⟩ : ByteArray)) ++ t121).size + 1 ≤ 9223372036854775807 then ((spec_decimal.f k a0_4).bind fun t122 => (if (((((((((⟨#[70, 73, 88, 44]⟩ : ByteArray) ++ ((t116 ++ t117) ++ t118)) ++ (⟨#[44]⟩ : ByteArray)) ++ t119) ++ (⟨#[44]⟩ : ByteArray)) ++ t120) ++ (⟨#[44]⟩ : ByteArray)) ++ t121) ++ (⟨#[44]⟩ : ByteArray)).size + t122.size ≤ 9223372036854775807 then (some ((((((((((⟨#[70, 73, 88, 44]⟩ : ByteArray) ++ ((t116 ++ t117) ++ t118)) ++ (⟨#[44]⟩ : ByteArray)) ++ t119) ++ (⟨#[44]⟩ : ByteArray)) ++ t120) ++ (⟨#[44]⟩ : ByteArray)) ++ t121) ++ (⟨#[44]⟩ : ByteArray)) ++ t122)) else (none))) else (none)) else (none))) else (none)) else (none))) else (none)) else (none))) else (none)) else (none)) else (none))) else (none)))) = some r := h
  clear h
  obtain ⟨ji2, hji2⟩ : ∃ j_ : Int, (mn a0_3 86399) = j_ := ⟨_, rfl⟩
  replace H : ((spec_digits.f k (wrap64 (Int.tdiv (ji2) 3600)) 2).bind fun t116 => ((spec_digits.f k (Int.tmod (wrap64 (Int.tdiv (ji2) 60)) 60) 2).bind fun t117 => (if t116.size + t117.size ≤ 9223372036854775807 then ((spec_digits.f k (wrap64 ((wrap64 ((Int.tmod (ji2) 60) + a0_3)) - (ji2))) 2).bind fun t118 => (if (t116 ++ t117).size + t118.size ≤ 9223372036854775807 then (if 4 + ((t116 ++ t117) ++ t118).size ≤ 9223372036854775807 then (if ((⟨#[70, 73, 88, 44]⟩ : ByteArray) ++ ((t116 ++ t117) ++ t118)).size + 1 ≤ 9223372036854775807 then ((spec_digits.f k a0_2 2).bind fun t119 => (if (((⟨#[70, 73, 88, 44]⟩ : ByteArray) ++ ((t116 ++ t117) ++ t118)) ++ (⟨#[44]⟩ : ByteArray)).size + t119.size ≤ 9223372036854775807 then (if ((((⟨#[70, 73, 88, 44]⟩ : ByteArray) ++ ((t116 ++ t117) ++ t118)) ++ (⟨#[44]⟩ : ByteArray)) ++ t119).size + 1 ≤ 9223372036854775807 then ((spec_digits.f k a0_1 2).bind fun t120 => (if (((((⟨#[70, 73, 88, 44]⟩ : ByteArray) ++ ((t116 ++ t117) ++ t118)) ++ (⟨#[44]⟩ : ByteArray)) ++ t119) ++ (⟨#[44]⟩ : ByteArray)).size + t120.size ≤ 9223372036854775807 then (if ((((((⟨#[70, 73, 88, 44]⟩ : ByteArray) ++ ((t116 ++ t117) ++ t118)) ++ (⟨#[44]⟩ : ByteArray)) ++ t119) ++ (⟨#[44]⟩ : ByteArray)) ++ t120).size + 1 ≤ 9223372036854775807 then ((spec_digits.f k a0_0 4).bind fun t121 => (if (((((((⟨#[70, 73, 88, 44]⟩ : ByteArray) ++ ((t116 ++ t117) ++ t118)) ++ (⟨#[44]⟩ : ByteArray)) ++ t119) ++ (⟨#[44]⟩ : ByteArray)) ++ t120) ++ (⟨#[44]⟩ : ByteArray)).size + t121.size ≤ 9223372036854775807 then (if ((((((((⟨#[70, 73, 88, 44]⟩ : ByteArray) ++ ((t116 ++ t117) ++ t118)) ++ (⟨#[44]⟩ : ByteArray)) ++ t119) ++ (⟨#[44]⟩ : ByteArray)) ++ t120) ++ (⟨#[44]⟩ : ByteArray)) ++ t121).size + 1 ≤ 9223372036854775807 then ((spec_decimal.f k a0_4).bind fun t122 => (if (((((((((⟨#[70, 73, 88, 44]⟩ : ByteArray) ++ ((t116 ++ t117) ++ t118)) ++ (⟨#[44]⟩ : ByteArray)) ++ t119) ++ (⟨#[44]⟩ : ByteArray)) ++ t120) ++ (⟨#[44]⟩ : ByteArray)) ++ t121) ++ (⟨#[44]⟩ : ByteArray)).size + t122.size ≤ 9223372036854775807 then (some ((((((((((⟨#[70, 73, 88, 44]⟩ : ByteArray) ++ ((t116 ++ t117) ++ t118)) ++ (⟨#[44]⟩ : ByteArray)) ++ t119) ++ (⟨#[44]⟩ : ByteArray)) ++ t120) ++ (⟨#[44]⟩ : ByteArray)) ++ t121) ++ (⟨#[44]⟩ : ByteArray)) ++ t122)) else (none))) else (none)) else (none))) else (none)) else (none))) else (none)) else (none))) else (none)) else (none)) else (none))) else (none)))) = some r := by first | (rw [hji2] at H; exact H) | (simp only [hji2] at H ⊢; exact H)
  (try (have hji2h : ji2 ≤ 86399 := by (rw [← hji2]; unfold mn; (repeat' split) <;> omega)))
  (try (have hji2g : ji2 ≤ 64 := by omega))
  have hji2_ : (if 86399 < a0_3 then 86399 else a0_3) = ji2 := hji2
  replace H := Option.bind_eq_some_iff.mp H
  obtain ⟨t116, A30, H⟩ := H
  replace H : ((spec_digits.f k (Int.tmod (wrap64 (Int.tdiv (ji2) 60)) 60) 2).bind fun t117 => (if t116.size + t117.size ≤ 9223372036854775807 then ((spec_digits.f k (wrap64 ((wrap64 ((Int.tmod (ji2) 60) + a0_3)) - (ji2))) 2).bind fun t118 => (if (t116 ++ t117).size + t118.size ≤ 9223372036854775807 then (if 4 + ((t116 ++ t117) ++ t118).size ≤ 9223372036854775807 then (if ((⟨#[70, 73, 88, 44]⟩ : ByteArray) ++ ((t116 ++ t117) ++ t118)).size + 1 ≤ 9223372036854775807 then ((spec_digits.f k a0_2 2).bind fun t119 => (if (((⟨#[70, 73, 88, 44]⟩ : ByteArray) ++ ((t116 ++ t117) ++ t118)) ++ (⟨#[44]⟩ : ByteArray)).size + t119.size ≤ 9223372036854775807 then (if ((((⟨#[70, 73, 88, 44]⟩ : ByteArray) ++ ((t116 ++ t117) ++ t118)) ++ (⟨#[44]⟩ : ByteArray)) ++ t119).size + 1 ≤ 9223372036854775807 then ((spec_digits.f k a0_1 2).bind fun t120 => (if (((((⟨#[70, 73, 88, 44]⟩ : ByteArray) ++ ((t116 ++ t117) ++ t118)) ++ (⟨#[44]⟩ : ByteArray)) ++ t119) ++ (⟨#[44]⟩ : ByteArray)).size + t120.size ≤ 9223372036854775807 then (if ((((((⟨#[70, 73, 88, 44]⟩ : ByteArray) ++ ((t116 ++ t117) ++ t118)) ++ (⟨#[44]⟩ : ByteArray)) ++ t119) ++ (⟨#[44]⟩ : ByteArray)) ++ t120).size + 1 ≤ 9223372036854775807 then ((spec_digits.f k a0_0 4).bind fun t121 => (if (((((((⟨#[70, 73, 88, 44]⟩ : ByteArray) ++ ((t116 ++ t117) ++ t118)) ++ (⟨#[44]⟩ : ByteArray)) ++ t119) ++ (⟨#[44]⟩ : ByteArray)) ++ t120) ++ (⟨#[44]⟩ : ByteArray)).size + t121.size ≤ 9223372036854775807 then (if ((((((((⟨#[70, 73, 88, 44]⟩ : ByteArray) ++ ((t116 ++ t117) ++ t118)) ++ (⟨#[44]⟩ : ByteArray)) ++ t119) ++ (⟨#[44]⟩ : ByteArray)) ++ t120) ++ (⟨#[44]⟩ : ByteArray)) ++ t121).size + 1 ≤ 9223372036854775807 then ((spec_decimal.f k a0_4).bind fun t122 => (if (((((((((⟨#[70, 73, 88, 44]⟩ : ByteArray) ++ ((t116 ++ t117) ++ t118)) ++ (⟨#[44]⟩ : ByteArray)) ++ t119) ++ (⟨#[44]⟩ : ByteArray)) ++ t120) ++ (⟨#[44]⟩ : ByteArray)) ++ t121) ++ (⟨#[44]⟩ : ByteArray)).size + t122.size ≤ 9223372036854775807 then (some ((((((((((⟨#[70, 73, 88, 44]⟩ : ByteArray) ++ ((t116 ++ t117) ++ t118)) ++ (⟨#[44]⟩ : ByteArray)) ++ t119) ++ (⟨#[44]⟩ : ByteArray)) ++ t120) ++ (⟨#[44]⟩ : ByteArray)) ++ t121) ++ (⟨#[44]⟩ : ByteArray)) ++ t122)) else (none))) else (none)) else (none))) else (none)) else (none))) else (none)) else (none))) else (none)) else (none)) else (none))) else (none))) = some r := H
  have A3 := Aside0.mk A30
  clear A30
  replace H := Option.bind_eq_some_iff.mp H
  obtain ⟨t117, A40, H⟩ := H
  replace H : (if t116.size + t117.size ≤ 9223372036854775807 then ((spec_digits.f k (wrap64 ((wrap64 ((Int.tmod (ji2) 60) + a0_3)) - (ji2))) 2).bind fun t118 => (if (t116 ++ t117).size + t118.size ≤ 9223372036854775807 then (if 4 + ((t116 ++ t117) ++ t118).size ≤ 9223372036854775807 then (if ((⟨#[70, 73, 88, 44]⟩ : ByteArray) ++ ((t116 ++ t117) ++ t118)).size + 1 ≤ 9223372036854775807 then ((spec_digits.f k a0_2 2).bind fun t119 => (if (((⟨#[70, 73, 88, 44]⟩ : ByteArray) ++ ((t116 ++ t117) ++ t118)) ++ (⟨#[44]⟩ : ByteArray)).size + t119.size ≤ 9223372036854775807 then (if ((((⟨#[70, 73, 88, 44]⟩ : ByteArray) ++ ((t116 ++ t117) ++ t118)) ++ (⟨#[44]⟩ : ByteArray)) ++ t119).size + 1 ≤ 9223372036854775807 then ((spec_digits.f k a0_1 2).bind fun t120 => (if (((((⟨#[70, 73, 88, 44]⟩ : ByteArray) ++ ((t116 ++ t117) ++ t118)) ++ (⟨#[44]⟩ : ByteArray)) ++ t119) ++ (⟨#[44]⟩ : ByteArray)).size + t120.size ≤ 9223372036854775807 then (if ((((((⟨#[70, 73, 88, 44]⟩ : ByteArray) ++ ((t116 ++ t117) ++ t118)) ++ (⟨#[44]⟩ : ByteArray)) ++ t119) ++ (⟨#[44]⟩ : ByteArray)) ++ t120).size + 1 ≤ 9223372036854775807 then ((spec_digits.f k a0_0 4).bind fun t121 => (if (((((((⟨#[70, 73, 88, 44]⟩ : ByteArray) ++ ((t116 ++ t117) ++ t118)) ++ (⟨#[44]⟩ : ByteArray)) ++ t119) ++ (⟨#[44]⟩ : ByteArray)) ++ t120) ++ (⟨#[44]⟩ : ByteArray)).size + t121.size ≤ 9223372036854775807 then (if ((((((((⟨#[70, 73, 88, 44]⟩ : ByteArray) ++ ((t116 ++ t117) ++ t118)) ++ (⟨#[44]⟩ : ByteArray)) ++ t119) ++ (⟨#[44]⟩ : ByteArray)) ++ t120) ++ (⟨#[44]⟩ : ByteArray)) ++ t121).size + 1 ≤ 9223372036854775807 then ((spec_decimal.f k a0_4).bind fun t122 => (if (((((((((⟨#[70, 73, 88, 44]⟩ : ByteArray) ++ ((t116 ++ t117) ++ t118)) ++ (⟨#[44]⟩ : ByteArray)) ++ t119) ++ (⟨#[44]⟩ : ByteArray)) ++ t120) ++ (⟨#[44]⟩ : ByteArray)) ++ t121) ++ (⟨#[44]⟩ : ByteArray)).size + t122.size ≤ 9223372036854775807 then (some ((((((((((⟨#[70, 73, 88, 44]⟩ : ByteArray) ++ ((t116 ++ t117) ++ t118)) ++ (⟨#[44]⟩ : ByteArray)) ++ t119) ++ (⟨#[44]⟩ : ByteArray)) ++ t120) ++ (⟨#[44]⟩ : ByteArray)) ++ t121) ++ (⟨#[44]⟩ : ByteArray)) ++ t122)) else (none))) else (none)) else (none))) else (none)) else (none))) else (none)) else (none))) else (none)) else (none)) else (none))) else (none)) = some r := H
  have A4 := Aside0.mk A40
  clear A40
  by_cases c5 : t116.size + t117.size ≤ 9223372036854775807
  · rw [if_pos c5] at H
    have c5b0 := eq_true c5
    have c5b1 : decide (t116.size + t117.size ≤ 9223372036854775807) = true := decide_eq_true c5
    try have c5b2 : (9223372036854775807 < t116.size + t117.size) = False := eq_false (Nat.not_lt.2 c5)
    try (have c5b3 := c5; simp only [ByteArray.size_append', ByteArray.size_mk', List.size_toArray, List.length_cons, List.length_nil, Nat.reduceAdd, Nat.zero_add] at c5b3; replace c5b3 := eq_false (Nat.not_lt.2 c5b3))
    replace H := Option.bind_eq_some_iff.mp H
    obtain ⟨t118, A60, H⟩ := H
    replace H : (if (t116 ++ t117).size + t118.size ≤ 9223372036854775807 then (if 4 + ((t116 ++ t117) ++ t118).size ≤ 9223372036854775807 then (if ((⟨#[70, 73, 88, 44]⟩ : ByteArray) ++ ((t116 ++ t117) ++ t118)).size + 1 ≤ 9223372036854775807 then ((spec_digits.f k a0_2 2).bind fun t119 => (if (((⟨#[70, 73, 88, 44]⟩ : ByteArray) ++ ((t116 ++ t117) ++ t118)) ++ (⟨#[44]⟩ : ByteArray)).size + t119.size ≤ 9223372036854775807 then (if ((((⟨#[70, 73, 88, 44]⟩ : ByteArray) ++ ((t116 ++ t117) ++ t118)) ++ (⟨#[44]⟩ : ByteArray)) ++ t119).size + 1 ≤ 9223372036854775807 then ((spec_digits.f k a0_1 2).bind fun t120 => (if (((((⟨#[70, 73, 88, 44]⟩ : ByteArray) ++ ((t116 ++ t117) ++ t118)) ++ (⟨#[44]⟩ : ByteArray)) ++ t119) ++ (⟨#[44]⟩ : ByteArray)).size + t120.size ≤ 9223372036854775807 then (if ((((((⟨#[70, 73, 88, 44]⟩ : ByteArray) ++ ((t116 ++ t117) ++ t118)) ++ (⟨#[44]⟩ : ByteArray)) ++ t119) ++ (⟨#[44]⟩ : ByteArray)) ++ t120).size + 1 ≤ 9223372036854775807 then ((spec_digits.f k a0_0 4).bind fun t121 => (if (((((((⟨#[70, 73, 88, 44]⟩ : ByteArray) ++ ((t116 ++ t117) ++ t118)) ++ (⟨#[44]⟩ : ByteArray)) ++ t119) ++ (⟨#[44]⟩ : ByteArray)) ++ t120) ++ (⟨#[44]⟩ : ByteArray)).size + t121.size ≤ 9223372036854775807 then (if ((((((((⟨#[70, 73, 88, 44]⟩ : ByteArray) ++ ((t116 ++ t117) ++ t118)) ++ (⟨#[44]⟩ : ByteArray)) ++ t119) ++ (⟨#[44]⟩ : ByteArray)) ++ t120) ++ (⟨#[44]⟩ : ByteArray)) ++ t121).size + 1 ≤ 9223372036854775807 then ((spec_decimal.f k a0_4).bind fun t122 => (if (((((((((⟨#[70, 73, 88, 44]⟩ : ByteArray) ++ ((t116 ++ t117) ++ t118)) ++ (⟨#[44]⟩ : ByteArray)) ++ t119) ++ (⟨#[44]⟩ : ByteArray)) ++ t120) ++ (⟨#[44]⟩ : ByteArray)) ++ t121) ++ (⟨#[44]⟩ : ByteArray)).size + t122.size ≤ 9223372036854775807 then (some ((((((((((⟨#[70, 73, 88, 44]⟩ : ByteArray) ++ ((t116 ++ t117) ++ t118)) ++ (⟨#[44]⟩ : ByteArray)) ++ t119) ++ (⟨#[44]⟩ : ByteArray)) ++ t120) ++ (⟨#[44]⟩ : ByteArray)) ++ t121) ++ (⟨#[44]⟩ : ByteArray)) ++ t122)) else (none))) else (none)) else (none))) else (none)) else (none))) else (none)) else (none))) else (none)) else (none)) else (none)) = some r := H
    have A6 := Aside0.mk A60
    clear A60
    by_cases c7 : (t116 ++ t117).size + t118.size ≤ 9223372036854775807
    · rw [if_pos c7] at H
      have c7b0 := eq_true c7
      have c7b1 : decide ((t116 ++ t117).size + t118.size ≤ 9223372036854775807) = true := decide_eq_true c7
      try have c7b2 : (9223372036854775807 < (t116 ++ t117).size + t118.size) = False := eq_false (Nat.not_lt.2 c7)
      try (have c7b3 := c7; simp only [ByteArray.size_append', ByteArray.size_mk', List.size_toArray, List.length_cons, List.length_nil, Nat.reduceAdd, Nat.zero_add] at c7b3; replace c7b3 := eq_false (Nat.not_lt.2 c7b3))
      by_cases c8 : 4 + ((t116 ++ t117) ++ t118).size ≤ 9223372036854775807
      · rw [if_pos c8] at H
        have c8b0 := eq_true c8
        have c8b1 : decide (4 + ((t116 ++ t117) ++ t118).size ≤ 9223372036854775807) = true := decide_eq_true c8
        try have c8b2 : (9223372036854775807 < 4 + ((t116 ++ t117) ++ t118).size) = False := eq_false (Nat.not_lt.2 c8)
        try (have c8b3 := c8; simp only [ByteArray.size_append', ByteArray.size_mk', List.size_toArray, List.length_cons, List.length_nil, Nat.reduceAdd, Nat.zero_add] at c8b3; replace c8b3 := eq_false (Nat.not_lt.2 c8b3))
        by_cases c9 : ((⟨#[70, 73, 88, 44]⟩ : ByteArray) ++ ((t116 ++ t117) ++ t118)).size + 1 ≤ 9223372036854775807
        · rw [if_pos c9] at H
          have c9b0 := eq_true c9
          have c9b1 : decide (((⟨#[70, 73, 88, 44]⟩ : ByteArray) ++ ((t116 ++ t117) ++ t118)).size + 1 ≤ 9223372036854775807) = true := decide_eq_true c9
          try have c9b2 : (9223372036854775807 < ((⟨#[70, 73, 88, 44]⟩ : ByteArray) ++ ((t116 ++ t117) ++ t118)).size + 1) = False := eq_false (Nat.not_lt.2 c9)
          try (have c9b3 := c9; simp only [ByteArray.size_append', ByteArray.size_mk', List.size_toArray, List.length_cons, List.length_nil, Nat.reduceAdd, Nat.zero_add] at c9b3; replace c9b3 := eq_false (Nat.not_lt.2 c9b3))
          replace H := Option.bind_eq_some_iff.mp H
          obtain ⟨t119, A100, H⟩ := H
          replace H : (if (((⟨#[70, 73, 88, 44]⟩ : ByteArray) ++ ((t116 ++ t117) ++ t118)) ++ (⟨#[44]⟩ : ByteArray)).size + t119.size ≤ 9223372036854775807 then (if ((((⟨#[70, 73, 88, 44]⟩ : ByteArray) ++ ((t116 ++ t117) ++ t118)) ++ (⟨#[44]⟩ : ByteArray)) ++ t119).size + 1 ≤ 9223372036854775807 then ((spec_digits.f k a0_1 2).bind fun t120 => (if (((((⟨#[70, 73, 88, 44]⟩ : ByteArray) ++ ((t116 ++ t117) ++ t118)) ++ (⟨#[44]⟩ : ByteArray)) ++ t119) ++ (⟨#[44]⟩ : ByteArray)).size + t120.size ≤ 9223372036854775807 then (if ((((((⟨#[70, 73, 88, 44]⟩ : ByteArray) ++ ((t116 ++ t117) ++ t118)) ++ (⟨#[44]⟩ : ByteArray)) ++ t119) ++ (⟨#[44]⟩ : ByteArray)) ++ t120).size + 1 ≤ 9223372036854775807 then ((spec_digits.f k a0_0 4).bind fun t121 => (if (((((((⟨#[70, 73, 88, 44]⟩ : ByteArray) ++ ((t116 ++ t117) ++ t118)) ++ (⟨#[44]⟩ : ByteArray)) ++ t119) ++ (⟨#[44]⟩ : ByteArray)) ++ t120) ++ (⟨#[44]⟩ : ByteArray)).size + t121.size ≤ 9223372036854775807 then (if ((((((((⟨#[70, 73, 88, 44]⟩ : ByteArray) ++ ((t116 ++ t117) ++ t118)) ++ (⟨#[44]⟩ : ByteArray)) ++ t119) ++ (⟨#[44]⟩ : ByteArray)) ++ t120) ++ (⟨#[44]⟩ : ByteArray)) ++ t121).size + 1 ≤ 9223372036854775807 then ((spec_decimal.f k a0_4).bind fun t122 => (if (((((((((⟨#[70, 73, 88, 44]⟩ : ByteArray) ++ ((t116 ++ t117) ++ t118)) ++ (⟨#[44]⟩ : ByteArray)) ++ t119) ++ (⟨#[44]⟩ : ByteArray)) ++ t120) ++ (⟨#[44]⟩ : ByteArray)) ++ t121) ++ (⟨#[44]⟩ : ByteArray)).size + t122.size ≤ 9223372036854775807 then (some ((((((((((⟨#[70, 73, 88, 44]⟩ : ByteArray) ++ ((t116 ++ t117) ++ t118)) ++ (⟨#[44]⟩ : ByteArray)) ++ t119) ++ (⟨#[44]⟩ : ByteArray)) ++ t120) ++ (⟨#[44]⟩ : ByteArray)) ++ t121) ++ (⟨#[44]⟩ : ByteArray)) ++ t122)) else (none))) else (none)) else (none))) else (none)) else (none))) else (none)) else (none)) = some r := H
          have A10 := Aside0.mk A100
          clear A100
          by_cases c11 : (((⟨#[70, 73, 88, 44]⟩ : ByteArray) ++ ((t116 ++ t117) ++ t118)) ++ (⟨#[44]⟩ : ByteArray)).size + t119.size ≤ 9223372036854775807
          · rw [if_pos c11] at H
            have c11b0 := eq_true c11
            have c11b1 : decide ((((⟨#[70, 73, 88, 44]⟩ : ByteArray) ++ ((t116 ++ t117) ++ t118)) ++ (⟨#[44]⟩ : ByteArray)).size + t119.size ≤ 9223372036854775807) = true := decide_eq_true c11
            try have c11b2 : (9223372036854775807 < (((⟨#[70, 73, 88, 44]⟩ : ByteArray) ++ ((t116 ++ t117) ++ t118)) ++ (⟨#[44]⟩ : ByteArray)).size + t119.size) = False := eq_false (Nat.not_lt.2 c11)
            try (have c11b3 := c11; simp only [ByteArray.size_append', ByteArray.size_mk', List.size_toArray, List.length_cons, List.length_nil, Nat.reduceAdd, Nat.zero_add] at c11b3; replace c11b3 := eq_false (Nat.not_lt.2 c11b3))
            by_cases c12 : ((((⟨#[70, 73, 88, 44]⟩ : ByteArray) ++ ((t116 ++ t117) ++ t118)) ++ (⟨#[44]⟩ : ByteArray)) ++ t119).size + 1 ≤ 9223372036854775807
            · rw [if_pos c12] at H
              have c12b0 := eq_true c12
              have c12b1 : decide (((((⟨#[70, 73, 88, 44]⟩ : ByteArray) ++ ((t116 ++ t117) ++ t118)) ++ (⟨#[44]⟩ : ByteArray)) ++ t119).size + 1 ≤ 9223372036854775807) = true := decide_eq_true c12
              try have c12b2 : (9223372036854775807 < ((((⟨#[70, 73, 88, 44]⟩ : ByteArray) ++ ((t116 ++ t117) ++ t118)) ++ (⟨#[44]⟩ : ByteArray)) ++ t119).size + 1) = False := eq_false (Nat.not_lt.2 c12)
              try (have c12b3 := c12; simp only [ByteArray.size_append', ByteArray.size_mk', List.size_toArray, List.length_cons, List.length_nil, Nat.reduceAdd, Nat.zero_add] at c12b3; replace c12b3 := eq_false (Nat.not_lt.2 c12b3))
              replace H := Option.bind_eq_some_iff.mp H
              obtain ⟨t120, A130, H⟩ := H
              replace H : (if (((((⟨#[70, 73, 88, 44]⟩ : ByteArray) ++ ((t116 ++ t117) ++ t118)) ++ (⟨#[44]⟩ : ByteArray)) ++ t119) ++ (⟨#[44]⟩ : ByteArray)).size + t120.size ≤ 9223372036854775807 then (if ((((((⟨#[70, 73, 88, 44]⟩ : ByteArray) ++ ((t116 ++ t117) ++ t118)) ++ (⟨#[44]⟩ : ByteArray)) ++ t119) ++ (⟨#[44]⟩ : ByteArray)) ++ t120).size + 1 ≤ 9223372036854775807 then ((spec_digits.f k a0_0 4).bind fun t121 => (if (((((((⟨#[70, 73, 88, 44]⟩ : ByteArray) ++ ((t116 ++ t117) ++ t118)) ++ (⟨#[44]⟩ : ByteArray)) ++ t119) ++ (⟨#[44]⟩ : ByteArray)) ++ t120) ++ (⟨#[44]⟩ : ByteArray)).size + t121.size ≤ 9223372036854775807 then (if ((((((((⟨#[70, 73, 88, 44]⟩ : ByteArray) ++ ((t116 ++ t117) ++ t118)) ++ (⟨#[44]⟩ : ByteArray)) ++ t119) ++ (⟨#[44]⟩ : ByteArray)) ++ t120) ++ (⟨#[44]⟩ : ByteArray)) ++ t121).size + 1 ≤ 9223372036854775807 then ((spec_decimal.f k a0_4).bind fun t122 => (if (((((((((⟨#[70, 73, 88, 44]⟩ : ByteArray) ++ ((t116 ++ t117) ++ t118)) ++ (⟨#[44]⟩ : ByteArray)) ++ t119) ++ (⟨#[44]⟩ : ByteArray)) ++ t120) ++ (⟨#[44]⟩ : ByteArray)) ++ t121) ++ (⟨#[44]⟩ : ByteArray)).size + t122.size ≤ 9223372036854775807 then (some ((((((((((⟨#[70, 73, 88, 44]⟩ : ByteArray) ++ ((t116 ++ t117) ++ t118)) ++ (⟨#[44]⟩ : ByteArray)) ++ t119) ++ (⟨#[44]⟩ : ByteArray)) ++ t120) ++ (⟨#[44]⟩ : ByteArray)) ++ t121) ++ (⟨#[44]⟩ : ByteArray)) ++ t122)) else (none))) else (none)) else (none))) else (none)) else (none)) = some r := H
              have A13 := Aside0.mk A130
              clear A130
              by_cases c14 : (((((⟨#[70, 73, 88, 44]⟩ : ByteArray) ++ ((t116 ++ t117) ++ t118)) ++ (⟨#[44]⟩ : ByteArray)) ++ t119) ++ (⟨#[44]⟩ : ByteArray)).size + t120.size ≤ 9223372036854775807
              · rw [if_pos c14] at H
                have c14b0 := eq_true c14
                have c14b1 : decide ((((((⟨#[70, 73, 88, 44]⟩ : ByteArray) ++ ((t116 ++ t117) ++ t118)) ++ (⟨#[44]⟩ : ByteArray)) ++ t119) ++ (⟨#[44]⟩ : ByteArray)).size + t120.size ≤ 9223372036854775807) = true := decide_eq_true c14
                try have c14b2 : (9223372036854775807 < (((((⟨#[70, 73, 88, 44]⟩ : ByteArray) ++ ((t116 ++ t117) ++ t118)) ++ (⟨#[44]⟩ : ByteArray)) ++ t119) ++ (⟨#[44]⟩ : ByteArray)).size + t120.size) = False := eq_false (Nat.not_lt.2 c14)
                try (have c14b3 := c14; simp only [ByteArray.size_append', ByteArray.size_mk', List.size_toArray, List.length_cons, List.length_nil, Nat.reduceAdd, Nat.zero_add] at c14b3; replace c14b3 := eq_false (Nat.not_lt.2 c14b3))
                by_cases c15 : ((((((⟨#[70, 73, 88, 44]⟩ : ByteArray) ++ ((t116 ++ t117) ++ t118)) ++ (⟨#[44]⟩ : ByteArray)) ++ t119) ++ (⟨#[44]⟩ : ByteArray)) ++ t120).size + 1 ≤ 9223372036854775807
                · rw [if_pos c15] at H
                  have c15b0 := eq_true c15
                  have c15b1 : decide (((((((⟨#[70, 73, 88, 44]⟩ : ByteArray) ++ ((t116 ++ t117) ++ t118)) ++ (⟨#[44]⟩ : ByteArray)) ++ t119) ++ (⟨#[44]⟩ : ByteArray)) ++ t120).size + 1 ≤ 9223372036854775807) = true := decide_eq_true c15
                  try have c15b2 : (9223372036854775807 < ((((((⟨#[70, 73, 88, 44]⟩ : ByteArray) ++ ((t116 ++ t117) ++ t118)) ++ (⟨#[44]⟩ : ByteArray)) ++ t119) ++ (⟨#[44]⟩ : ByteArray)) ++ t120).size + 1) = False := eq_false (Nat.not_lt.2 c15)
                  try (have c15b3 := c15; simp only [ByteArray.size_append', ByteArray.size_mk', List.size_toArray, List.length_cons, List.length_nil, Nat.reduceAdd, Nat.zero_add] at c15b3; replace c15b3 := eq_false (Nat.not_lt.2 c15b3))
                  replace H := Option.bind_eq_some_iff.mp H
                  obtain ⟨t121, A160, H⟩ := H
                  replace H : (if (((((((⟨#[70, 73, 88, 44]⟩ : ByteArray) ++ ((t116 ++ t117) ++ t118)) ++ (⟨#[44]⟩ : ByteArray)) ++ t119) ++ (⟨#[44]⟩ : ByteArray)) ++ t120) ++ (⟨#[44]⟩ : ByteArray)).size + t121.size ≤ 9223372036854775807 then (if ((((((((⟨#[70, 73, 88, 44]⟩ : ByteArray) ++ ((t116 ++ t117) ++ t118)) ++ (⟨#[44]⟩ : ByteArray)) ++ t119) ++ (⟨#[44]⟩ : ByteArray)) ++ t120) ++ (⟨#[44]⟩ : ByteArray)) ++ t121).size + 1 ≤ 9223372036854775807 then ((spec_decimal.f k a0_4).bind fun t122 => (if (((((((((⟨#[70, 73, 88, 44]⟩ : ByteArray) ++ ((t116 ++ t117) ++ t118)) ++ (⟨#[44]⟩ : ByteArray)) ++ t119) ++ (⟨#[44]⟩ : ByteArray)) ++ t120) ++ (⟨#[44]⟩ : ByteArray)) ++ t121) ++ (⟨#[44]⟩ : ByteArray)).size + t122.size ≤ 9223372036854775807 then (some ((((((((((⟨#[70, 73, 88, 44]⟩ : ByteArray) ++ ((t116 ++ t117) ++ t118)) ++ (⟨#[44]⟩ : ByteArray)) ++ t119) ++ (⟨#[44]⟩ : ByteArray)) ++ t120) ++ (⟨#[44]⟩ : ByteArray)) ++ t121) ++ (⟨#[44]⟩ : ByteArray)) ++ t122)) else (none))) else (none)) else (none)) = some r := H
                  have A16 := Aside0.mk A160
                  clear A160
                  by_cases c17 : (((((((⟨#[70, 73, 88, 44]⟩ : ByteArray) ++ ((t116 ++ t117) ++ t118)) ++ (⟨#[44]⟩ : ByteArray)) ++ t119) ++ (⟨#[44]⟩ : ByteArray)) ++ t120) ++ (⟨#[44]⟩ : ByteArray)).size + t121.size ≤ 9223372036854775807
                  · rw [if_pos c17] at H
                    have c17b0 := eq_true c17
                    have c17b1 : decide ((((((((⟨#[70, 73, 88, 44]⟩ : ByteArray) ++ ((t116 ++ t117) ++ t118)) ++ (⟨#[44]⟩ : ByteArray)) ++ t119) ++ (⟨#[44]⟩ : ByteArray)) ++ t120) ++ (⟨#[44]⟩ : ByteArray)).size + t121.size ≤ 9223372036854775807) = true := decide_eq_true c17
                    try have c17b2 : (9223372036854775807 < (((((((⟨#[70, 73, 88, 44]⟩ : ByteArray) ++ ((t116 ++ t117) ++ t118)) ++ (⟨#[44]⟩ : ByteArray)) ++ t119) ++ (⟨#[44]⟩ : ByteArray)) ++ t120) ++ (⟨#[44]⟩ : ByteArray)).size + t121.size) = False := eq_false (Nat.not_lt.2 c17)
                    try (have c17b3 := c17; simp only [ByteArray.size_append', ByteArray.size_mk', List.size_toArray, List.length_cons, List.length_nil, Nat.reduceAdd, Nat.zero_add] at c17b3; replace c17b3 := eq_false (Nat.not_lt.2 c17b3))
                    by_cases c18 : ((((((((⟨#[70, 73, 88, 44]⟩ : ByteArray) ++ ((t116 ++ t117) ++ t118)) ++ (⟨#[44]⟩ : ByteArray)) ++ t119) ++ (⟨#[44]⟩ : ByteArray)) ++ t120) ++ (⟨#[44]⟩ : ByteArray)) ++ t121).size + 1 ≤ 9223372036854775807
                    · rw [if_pos c18] at H
                      have c18b0 := eq_true c18
                      have c18b1 : decide (((((((((⟨#[70, 73, 88, 44]⟩ : ByteArray) ++ ((t116 ++ t117) ++ t118)) ++ (⟨#[44]⟩ : ByteArray)) ++ t119) ++ (⟨#[44]⟩ : ByteArray)) ++ t120) ++ (⟨#[44]⟩ : ByteArray)) ++ t121).size + 1 ≤ 9223372036854775807) = true := decide_eq_true c18
                      try have c18b2 : (9223372036854775807 < ((((((((⟨#[70, 73, 88, 44]⟩ : ByteArray) ++ ((t116 ++ t117) ++ t118)) ++ (⟨#[44]⟩ : ByteArray)) ++ t119) ++ (⟨#[44]⟩ : ByteArray)) ++ t120) ++ (⟨#[44]⟩ : ByteArray)) ++ t121).size + 1) = False := eq_false (Nat.not_lt.2 c18)
                      try (have c18b3 := c18; simp only [ByteArray.size_append', ByteArray.size_mk', List.size_toArray, List.length_cons, List.length_nil, Nat.reduceAdd, Nat.zero_add] at c18b3; replace c18b3 := eq_false (Nat.not_lt.2 c18b3))
                      replace H := Option.bind_eq_some_iff.mp H
                      obtain ⟨t122, A190, H⟩ := H
                      replace H : (if (((((((((⟨#[70, 73, 88, 44]⟩ : ByteArray) ++ ((t116 ++ t117) ++ t118)) ++ (⟨#[44]⟩ : ByteArray)) ++ t119) ++ (⟨#[44]⟩ : ByteArray)) ++ t120) ++ (⟨#[44]⟩ : ByteArray)) ++ t121) ++ (⟨#[44]⟩ : ByteArray)).size + t122.size ≤ 9223372036854775807 then (some ((((((((((⟨#[70, 73, 88, 44]⟩ : ByteArray) ++ ((t116 ++ t117) ++ t118)) ++ (⟨#[44]⟩ : ByteArray)) ++ t119) ++ (⟨#[44]⟩ : ByteArray)) ++ t120) ++ (⟨#[44]⟩ : ByteArray)) ++ t121) ++ (⟨#[44]⟩ : ByteArray)) ++ t122)) else (none)) = some r := H
                      have A19 := Aside0.mk A190
                      clear A190
                      by_cases c20 : (((((((((⟨#[70, 73, 88, 44]⟩ : ByteArray) ++ ((t116 ++ t117) ++ t118)) ++ (⟨#[44]⟩ : ByteArray)) ++ t119) ++ (⟨#[44]⟩ : ByteArray)) ++ t120) ++ (⟨#[44]⟩ : ByteArray)) ++ t121) ++ (⟨#[44]⟩ : ByteArray)).size + t122.size ≤ 9223372036854775807
                      · rw [if_pos c20] at H
                        have c20b0 := eq_true c20
                        have c20b1 : decide ((((((((((⟨#[70, 73, 88, 44]⟩ : ByteArray) ++ ((t116 ++ t117) ++ t118)) ++ (⟨#[44]⟩ : ByteArray)) ++ t119) ++ (⟨#[44]⟩ : ByteArray)) ++ t120) ++ (⟨#[44]⟩ : ByteArray)) ++ t121) ++ (⟨#[44]⟩ : ByteArray)).size + t122.size ≤ 9223372036854775807) = true := decide_eq_true c20
                        try have c20b2 : (9223372036854775807 < (((((((((⟨#[70, 73, 88, 44]⟩ : ByteArray) ++ ((t116 ++ t117) ++ t118)) ++ (⟨#[44]⟩ : ByteArray)) ++ t119) ++ (⟨#[44]⟩ : ByteArray)) ++ t120) ++ (⟨#[44]⟩ : ByteArray)) ++ t121) ++ (⟨#[44]⟩ : ByteArray)).size + t122.size) = False := eq_false (Nat.not_lt.2 c20)
                        try (have c20b3 := c20; simp only [ByteArray.size_append', ByteArray.size_mk', List.size_toArray, List.length_cons, List.length_nil, Nat.reduceAdd, Nat.zero_add] at c20b3; replace c20b3 := eq_false (Nat.not_lt.2 c20b3))
                        obtain rfl := Option.some.inj H
                        go_enter Try.func72, Try.ntmps72
                        try go_wp2_with (first | ((with_reducible refine gate_dst (N := 1) rfl ?_); refine box_event ?hg (N := 1) ?hd (cs := #[.int .i64 a0_0, .int .i64 a0_1, .int .i64 a0_2, .int .i64 a0_3, .int .i64 a0_4]) (t := 64) ?hr ?_; (case hd => rfl); (case hg => rfl); (case hr => first | (go_simp; done) | (go_simp; rfl)); intro gb115 hg w21 hbox hb; have n0_ := Aside0.mk (below_step (by repeat (first | (with_reducible first | exact HB.out | apply below_alloc | apply pw_below_drewN | apply below_drew1) | exact HB.out)) hb); have n1_ := Aside0.mk (hbox); have n2_ := Aside0.mk ((by rw [hg]; exact (below_size (by repeat (first | (with_reducible first | exact HB.out | apply below_alloc | apply pw_below_drewN | apply below_drew1) | exact HB.out))) : w.heap.size ≤ gb115)); have n3_ := Aside0.mk ((by rw [hg]; exact (below_size (by repeat (first | (with_reducible first | exact HB.out | apply below_alloc | apply pw_below_drewN | apply below_drew1) | exact HB.out))) : w.heap.size ≤ gb115)); clear HB; have HB := n0_; have BK115 := n1_; have GW115 := n2_; have GE115 := n3_; clear n0_ n1_ n2_ n3_; clear hb hbox hg; have hcz22_0 : w21.cell? ⟨gb115, 0, none⟩ = some (.int .i64 a0_0) := (blk_cell BK115.out 0).trans rfl; have hcz22_1 : w21.cell? ⟨gb115, 1, none⟩ = some (.int .i64 a0_1) := (blk_cell BK115.out 1).trans rfl; have hcz22_2 : w21.cell? ⟨gb115, 2, none⟩ = some (.int .i64 a0_2) := (blk_cell BK115.out 2).trans rfl; have hcz22_3 : w21.cell? ⟨gb115, 3, none⟩ = some (.int .i64 a0_3) := (blk_cell BK115.out 3).trans rfl; have hcz22_4 : w21.cell? ⟨gb115, 4, none⟩ = some (.int .i64 a0_4) := (blk_cell BK115.out 4).trans rfl; have hfz22_0 := blk_frozen BK115.out 0; have hfz22_1 := blk_frozen BK115.out 1; have hfz22_2 := blk_frozen BK115.out 2; have hfz22_3 := blk_frozen BK115.out 3; have hfz22_4 := blk_frozen BK115.out 4) | ((with_reducible refine gate_callee (f := 77) rfl ?_); refine goesL_ (some 18) rfl rfl Try.func77 (by kernel_rfl) rfl #[.int .i64 (wrap64 (Int.tdiv (ji2) 3600)), .int .i64 2] rfl (by (try simp only [List.map_toArray, List.map_cons, List.map_nil]); first | done | (simp only [hji2]; rfl) | rfl | (simp only [List.length_drop, List.length_take]; rfl)) ?_; (with_reducible refine (spec_digits.calls k (wrap64 (Int.tdiv (ji2) 3600)) 2 t116 _ A3.out).mono ?_); rintro e w23 ⟨rfl, hb⟩; refine ⟨_, rfl, ?_⟩; have n0_ := Aside0.mk (blk_below (g := gb115) (o := .cells #[.int .i64 a0_0, .int .i64 a0_1, .int .i64 a0_2, .int .i64 a0_3, .int .i64 a0_4] 64 (0, 0)) (by (with_reducible repeat (first | refine blk_drewN ?_ _ | refine blk_drew ?_ | refine blk_alloc ?_ _)); exact BK115.out) hb); have n1_ := Aside0.mk (below_step (by repeat (first | (with_reducible first | exact HB.out | apply below_alloc | apply pw_below_drewN | apply below_drew1 | refine below_set ?_ GE115.out) | exact HB.out)) hb); clear BK115; clear HB; have BK115 := n0_; have HB := n1_; clear n0_ n1_; (try clear hb); (try clear hb2); (try clear hk); (try clear hi)) | ((with_reducible refine gate_callee (f := 77) rfl ?_); refine goesL_ (some 22) rfl rfl Try.func77 (by kernel_rfl) rfl #[.int .i64 (Int.tmod (wrap64 (Int.tdiv (ji2) 60)) 60), .int .i64 2] rfl (by (try simp only [List.map_toArray, List.map_cons, List.map_nil]); first | done | (simp only [hji2]; rfl) | rfl | (simp only [List.length_drop, List.length_take]; rfl)) ?_; (with_reducible refine (spec_digits.calls k (Int.tmod (wrap64 (Int.tdiv (ji2) 60)) 60) 2 t117 _ A4.out).mono ?_); rintro e w24 ⟨rfl, hb⟩; refine ⟨_, rfl, ?_⟩; have n0_ := Aside0.mk (blk_below (g := gb115) (o := .cells #[.int .i64 a0_0, .int .i64 a0_1, .int .i64 a0_2, .int .i64 a0_3, .int .i64 a0_4] 64 (0, 0)) (by (with_reducible repeat (first | refine blk_drewN ?_ _ | refine blk_drew ?_ | refine blk_alloc ?_ _)); exact BK115.out) hb); have n1_ := Aside0.mk (below_step (by repeat (first | (with_reducible first | exact HB.out | apply below_alloc | apply pw_below_drewN | apply below_drew1 | refine below_set ?_ GE115.out) | exact HB.out)) hb); clear BK115; clear HB; have BK115 := n0_; have HB := n1_; clear n0_ n1_; (try clear hb); (try clear hb2); (try clear hk); (try clear hi)) | ((with_reducible refine gate_callee (f := 77) rfl ?_); refine goesL_ (some 25) rfl rfl Try.func77 (by kernel_rfl) rfl #[.int .i64 (wrap64 ((wrap64 ((Int.tmod (ji2) 60) + a0_3)) - (ji2))), .int .i64 2] rfl (by (try simp only [List.map_toArray, List.map_cons, List.map_nil]); first | done | (simp only [hji2]; rfl) | rfl | (simp only [List.length_drop, List.length_take]; rfl)) ?_; (with_reducible refine (spec_digits.calls k (wrap64 ((wrap64 ((Int.tmod (ji2) 60) + a0_3)) - (ji2))) 2 t118 _ A6.out).mono ?_); rintro e w25 ⟨rfl, hb⟩; refine ⟨_, rfl, ?_⟩; have n0_ := Aside0.mk (blk_below (g := gb115) (o := .cells #[.int .i64 a0_0, .int .i64 a0_1, .int .i64 a0_2, .int .i64 a0_3, .int .i64 a0_4] 64 (0, 0)) (by (with_reducible repeat (first | refine blk_drewN ?_ _ | refine blk_drew ?_ | refine blk_alloc ?_ _)); exact BK115.out) hb); have n1_ := Aside0.mk (below_step (by repeat (first | (with_reducible first | exact HB.out | apply below_alloc | apply pw_below_drewN | apply below_drew1 | refine below_set ?_ GE115.out) | exact HB.out)) hb); clear BK115; clear HB; have BK115 := n0_; have HB := n1_; clear n0_ n1_; (try clear hb); (try clear hb2); (try clear hk); (try clear hi)))
                        have n0_ := Aside0.mk (blk_drew BK115.out)
                        have n1_ := Aside0.mk (below_drew1 HB.out)
                        clear BK115
                        clear HB
                        have BK115 := n0_
                        have HB := n1_
                        clear n0_ n1_
                        refine start_ (n := 26) (S := fun w' => w'.cell? ⟨gb115, 0, none⟩ = some (.int .i64 a0_0) ∧ w'.cell? ⟨gb115, 1, none⟩ = some (.int .i64 a0_1) ∧ w'.cell? ⟨gb115, 2, none⟩ = some (.int .i64 a0_2) ∧ w'.cell? ⟨gb115, 3, none⟩ = some (.int .i64 a0_3) ∧ w'.cell? ⟨gb115, 4, none⟩ = some (.int .i64 a0_4)) (ds := []) #[false, false, false, false, false, false, false, false, false, false, false, false, false, false, false, false, false, false, false, false, false, false, false, false, false, false] (by kernel_rfl) rfl rfl ⟨(blk_cell BK115.out 0).trans rfl, (blk_cell BK115.out 1).trans rfl, (blk_cell BK115.out 2).trans rfl, (blk_cell BK115.out 3).trans rfl, (blk_cell BK115.out 4).trans rfl⟩ (fun hHeld => ?_); refine with_tabW spec_formatFix.tab4 spec_formatFix.bits4 (fun HT_ HW_ => ?_)
                        generalize w25.drew = w26 at BK115 HB hHeld ⊢
                        refine pure_ (i := 0) (N := some 27) (v := ?_) (a' := ?_) #[true, false, false, false, false, false, false, false, false, false, false, false, false, false, false, false, false, false, false, false, false, false, false, false, false, false] rfl rfl (any_of HT_.out (by kernel_rfl)) (fun _ _ _ h => h) (Or.inl ⟨by rfl, ?_⟩) ?_ ?_
                        rotate_left
                        · intro w'
                          go_simp
                          with_reducible rfl
                        rotate_left
                        · simp only [Act.put, List.setIfInBounds_toArray, List.set_cons_zero, List.set_cons_succ, i64_w, i32_w]
                          rfl
                        refine pure_ (i := 1) (N := some 28) (v := ?_) (a' := ?_) #[true, true, false, false, false, false, false, false, false, false, false, false, false, false, false, false, false, false, false, false, false, false, false, false, false, false] rfl rfl (any_of HT_.out (by kernel_rfl)) (fun _ _ _ h => h) (Or.inl ⟨by rfl, ?_⟩) ?_ ?_
                        rotate_left
                        · intro w'
                          go_simp
                          with_reducible rfl
                        rotate_left
                        · simp only [Act.put, List.setIfInBounds_toArray, List.set_cons_zero, List.set_cons_succ, i64_w, i32_w]
                          rfl
                        refine pure_ (i := 2) (N := some 29) (v := ?_) (a' := ?_) #[true, true, true, false, false, false, false, false, false, false, false, false, false, false, false, false, false, false, false, false, false, false, false, false, false, false] rfl rfl (any_of HT_.out (by kernel_rfl)) (fun _ _ _ h => h) (Or.inl ⟨by rfl, ?_⟩) ?_ ?_
                        rotate_left
                        · intro w'
                          go_simp
                          with_reducible rfl
                        rotate_left
                        · simp only [Act.put, List.setIfInBounds_toArray, List.set_cons_zero, List.set_cons_succ, i64_w, i32_w]
                          rfl
                        refine pure_ (i := 3) (N := some 30) (v := ?_) (a' := ?_) #[true, true, true, true, false, false, false, false, false, false, false, false, false, false, false, false, false, false, false, false, false, false, false, false, false, false] rfl rfl (any_of HT_.out (by kernel_rfl)) (fun _ _ _ h => h) (Or.inl ⟨by rfl, ?_⟩) ?_ ?_
                        rotate_left
                        · intro w'
                          go_simp
                          with_reducible rfl
                        rotate_left
                        · simp only [Act.put, List.setIfInBounds_toArray, List.set_cons_zero, List.set_cons_succ, i64_w, i32_w]
                          rfl
                        refine pure_ (i := 4) (N := some 31) (v := ?_) (a' := ?_) #[true, true, true, true, true, false, false, false, false, false, false, false, false, false, false, false, false, false, false, false, false, false, false, false, false, false] rfl rfl (any_of HT_.out (by kernel_rfl)) (fun _ _ _ h => h) (Or.inl ⟨by rfl, ?_⟩) ?_ ?_
                        rotate_left
                        · intro w'
                          go_simp
                          with_reducible rfl
                        rotate_left
                        · simp only [Act.put, List.setIfInBounds_toArray, List.set_cons_zero, List.set_cons_succ, i64_w, i32_w]
                          rfl
                        refine pure_ (i := 9) (N := some 36) (v := ?_) (a' := ?_) #[true, true, true, true, true, false, false, false, false, true, false, false, false, false, false, false, false, false, false, false, false, false, false, false, false, false] rfl rfl (any_of HT_.out (by kernel_rfl)) (fun _ _ _ h => h) (Or.inl ⟨by rfl, ?_⟩) ?_ ?_
                        rotate_left
                        · intro w'
                          go_simp
                          with_reducible rfl
                        rotate_left
                        · simp only [Act.put, List.setIfInBounds_toArray, List.set_cons_zero, List.set_cons_succ, i64_w, i32_w]
                          rfl
                        refine pure_ (i := 10) (N := some 37) (v := ?_) (a' := ?_) #[true, true, true, true, true, false, false, false, false, true, true, false, false, false, false, false, false, false, false, false, false, false, false, false, false, false] rfl rfl (any_of HT_.out (by kernel_rfl)) (fun _ _ _ h => h) (Or.inl ⟨by rfl, ?_⟩) ?_ ?_
                        rotate_left
                        · intro w'
                          go_simp
                          with_reducible rfl
                        rotate_left
                        · simp only [Act.put, List.setIfInBounds_toArray, List.set_cons_zero, List.set_cons_succ, i64_w, i32_w]
                          rfl
                        refine pure_ (i := 15) (N := some 42) (v := ?_) (a' := ?_) #[true, true, true, true, true, false, false, false, false, true, true, false, false, false, false, true, false, false, false, false, false, false, false, false, false, false] rfl rfl (any_of HT_.out (by kernel_rfl)) (fun _ _ _ h => h) (Or.inl ⟨by rfl, ?_⟩) ?_ ?_
                        rotate_left
                        · intro w'
                          go_simp
                          with_reducible rfl
                        rotate_left
                        · simp only [Act.put, List.setIfInBounds_toArray, List.set_cons_zero, List.set_cons_succ, i64_w, i32_w]
                          rfl
                        refine pure_ (i := 16) (N := some 43) (v := ?_) (a' := ?_) #[true, true, true, true, true, false, false, false, false, true, true, false, false, false, false, true, true, false, false, false, false, false, false, false, false, false] rfl rfl (any_of HT_.out (by kernel_rfl)) (fun _ _ _ h => h) (Or.inl ⟨by rfl, ?_⟩) ?_ ?_
                        rotate_left
                        · intro w'
                          go_simp
                          with_reducible rfl
                        rotate_left
                        · simp only [Act.put, List.setIfInBounds_toArray, List.set_cons_zero, List.set_cons_succ, i64_w, i32_w]
                          rfl
                        refine pure_ (i := 21) (N := some 48) (v := ?_) (a' := ?_) #[true, true, true, true, true, false, false, false, false, true, true, false, false, false, false, true, true, false, false, false, false, true, false, false, false, false] rfl rfl (any_of HT_.out (by kernel_rfl)) (fun _ _ _ h => h) (Or.inl ⟨by rfl, ?_⟩) ?_ ?_
                        rotate_left
                        · intro w'
                          go_simp
                          with_reducible rfl
                        rotate_left
                        · simp only [Act.put, List.setIfInBounds_toArray, List.set_cons_zero, List.set_cons_succ, i64_w, i32_w]
                          rfl
                        refine take_ (i := 5) (N := some 32) (v := ?_) (a' := ?_) #[true, true, true, true, true, true, false, false, false, true, true, false, false, false, false, true, true, false, false, false, false, true, false, false, false, false] rfl rfl (take_ofW HT_.out HW_.out (by kernel_rfl)) (fun _ _ _ h => h) (Or.inl ⟨by rfl, ?_⟩) hHeld ?_ ?_
                        rotate_left
                        · rintro w' ⟨s0, s1, s2, s3, s4⟩
                          go_simp
                          with_reducible rfl
                        rotate_left
                        · simp only [Act.put, List.setIfInBounds_toArray, List.set_cons_zero, List.set_cons_succ, i64_w, i32_w]
                          rfl
                        refine take_ (i := 11) (N := some 38) (v := ?_) (a' := ?_) #[true, true, true, true, true, true, false, false, false, true, true, true, false, false, false, true, true, false, false, false, false, true, false, false, false, false] rfl rfl (take_ofW HT_.out HW_.out (by kernel_rfl)) (fun _ _ _ h => h) (Or.inl ⟨by rfl, ?_⟩) hHeld ?_ ?_
                        rotate_left
                        · rintro w' ⟨s0, s1, s2, s3, s4⟩
                          go_simp
                          with_reducible rfl
                        rotate_left
                        · simp only [Act.put, List.setIfInBounds_toArray, List.set_cons_zero, List.set_cons_succ, i64_w, i32_w]
                          rfl
                        refine take_ (i := 17) (N := some 44) (v := ?_) (a' := ?_) #[true, true, true, true, true, true, false, false, false, true, true, true, false, false, false, true, true, true, false, false, false, true, false, false, false, false] rfl rfl (take_ofW HT_.out HW_.out (by kernel_rfl)) (fun _ _ _ h => h) (Or.inl ⟨by rfl, ?_⟩) hHeld ?_ ?_
                        rotate_left
                        · rintro w' ⟨s0, s1, s2, s3, s4⟩
                          go_simp
                          with_reducible rfl
                        rotate_left
                        · simp only [Act.put, List.setIfInBounds_toArray, List.set_cons_zero, List.set_cons_succ, i64_w, i32_w]
                          rfl
                        refine take_ (i := 22) (N := some 49) (v := ?_) (a' := ?_) #[true, true, true, true, true, true, false, false, false, true, true, true, false, false, false, true, true, true, false, false, false, true, true, false, false, false] rfl rfl (take_ofW HT_.out HW_.out (by kernel_rfl)) (fun _ _ _ h => h) (Or.inl ⟨by rfl, ?_⟩) hHeld ?_ ?_
                        rotate_left
                        · rintro w' ⟨s0, s1, s2, s3, s4⟩
                          go_simp
                          with_reducible rfl
                        rotate_left
                        · simp only [Act.put, List.setIfInBounds_toArray, List.set_cons_zero, List.set_cons_succ, i64_w, i32_w]
                          rfl
                        refine one_ (i := 6) (N := some 33) #[true, true, true, true, true, true, true, false, false, true, true, true, false, false, false, true, true, true, false, false, false, true, true, false, false, false] rfl rfl (one_of HT_.out (by kernel_rfl)) (by decide) (fun K hK => ?_)
                        refine goes_ Try.func77 (by kernel_rfl) rfl #[.int .i64 a0_2, .int .i64 2] (by rfl) rfl rfl (by (try simp only [List.map_toArray, List.map_cons, List.map_nil]); first | done | rfl | (simp only [List.length_drop, List.length_take]; rfl)) ?_
                        with_reducible refine (spec_digits.calls k a0_2 2 t119 _ A10.out).mono ?_
                        rintro e w27 ⟨rfl, hb⟩
                        refine ⟨_, rfl, ?_⟩
                        have n0_ := Aside0.mk (blk_below (g := gb115) (o := .cells #[.int .i64 a0_0, .int .i64 a0_1, .int .i64 a0_2, .int .i64 a0_3, .int .i64 a0_4] 64 (0, 0)) (by (with_reducible repeat (first | refine blk_drewN ?_ _ | refine blk_drew ?_ | refine blk_alloc ?_ _)); exact BK115.out) hb)
                        have n1_ := Aside0.mk (below_step (by repeat (first | (with_reducible first | exact HB.out | apply below_alloc | apply pw_below_drewN | apply below_drew1 | refine below_set ?_ GE115.out) | exact HB.out)) hb)
                        clear BK115
                        clear HB
                        have BK115 := n0_
                        have HB := n1_
                        clear n0_ n1_
                        (try clear hb)
                        (try clear hb2)
                        (try clear hk)
                        (try clear hi)
                        refine hK.out _ _ ⟨(blk_cell BK115.out 0).trans rfl, (blk_cell BK115.out 1).trans rfl, (blk_cell BK115.out 2).trans rfl, (blk_cell BK115.out 3).trans rfl, (blk_cell BK115.out 4).trans rfl⟩ (fun hHeld => ?_)
                        clear hK K
                        refine norm_ (a' := ?_) ?_ ?_
                        rotate_left
                        · show Act.put _ (some 33) _ = _
                          simp only [Act.put, List.setIfInBounds_toArray, List.set_cons_zero, List.set_cons_succ, i64_w, i32_w]
                          rfl
                        refine pure_ (i := 7) (N := some 34) (v := ?_) (a' := ?_) #[true, true, true, true, true, true, true, true, false, true, true, true, false, false, false, true, true, true, false, false, false, true, true, false, false, false] rfl rfl (any_of HT_.out (by kernel_rfl)) (fun _ _ _ h => h) (Or.inl ⟨by rfl, ?_⟩) ?_ ?_
                        rotate_left
                        · intro w'
                          go_simp
                          with_reducible rfl
                        rotate_left
                        · simp only [Act.put, List.setIfInBounds_toArray, List.set_cons_zero, List.set_cons_succ, i64_w, i32_w]
                          rfl
                        refine pure_ (i := 8) (N := some 35) (v := ?_) (a' := ?_) #[true, true, true, true, true, true, true, true, true, true, true, true, false, false, false, true, true, true, false, false, false, true, true, false, false, false] rfl rfl (any_of HT_.out (by kernel_rfl)) (fun _ _ _ h => h) (Or.inl ⟨by rfl, ?_⟩) ?_ ?_
                        rotate_left
                        · intro w'
                          go_simp
                          with_reducible rfl
                        rotate_left
                        · simp only [Act.put, List.setIfInBounds_toArray, List.set_cons_zero, List.set_cons_succ, i64_w, i32_w]
                          rfl
                        refine one_ (i := 12) (N := some 39) #[true, true, true, true, true, true, true, true, true, true, true, true, true, false, false, true, true, true, false, false, false, true, true, false, false, false] rfl rfl (one_of HT_.out (by kernel_rfl)) (by decide) (fun K hK => ?_)
                        refine goes_ Try.func77 (by kernel_rfl) rfl #[.int .i64 a0_1, .int .i64 2] (by rfl) rfl rfl (by (try simp only [List.map_toArray, List.map_cons, List.map_nil]); first | done | rfl | (simp only [List.length_drop, List.length_take]; rfl)) ?_
                        with_reducible refine (spec_digits.calls k a0_1 2 t120 _ A13.out).mono ?_
                        rintro e w28 ⟨rfl, hb⟩
                        refine ⟨_, rfl, ?_⟩
                        have n0_ := Aside0.mk (blk_below (g := gb115) (o := .cells #[.int .i64 a0_0, .int .i64 a0_1, .int .i64 a0_2, .int .i64 a0_3, .int .i64 a0_4] 64 (0, 0)) (by (with_reducible repeat (first | refine blk_drewN ?_ _ | refine blk_drew ?_ | refine blk_alloc ?_ _)); exact BK115.out) hb)
                        have n1_ := Aside0.mk (below_step (by repeat (first | (with_reducible first | exact HB.out | apply below_alloc | apply pw_below_drewN | apply below_drew1 | refine below_set ?_ GE115.out) | exact HB.out)) hb)
                        clear BK115
                        clear HB
                        have BK115 := n0_
                        have HB := n1_
                        clear n0_ n1_
                        (try clear hb)
                        (try clear hb2)
                        (try clear hk)
                        (try clear hi)
                        refine hK.out _ _ ⟨(blk_cell BK115.out 0).trans rfl, (blk_cell BK115.out 1).trans rfl, (blk_cell BK115.out 2).trans rfl, (blk_cell BK115.out 3).trans rfl, (blk_cell BK115.out 4).trans rfl⟩ (fun hHeld => ?_)
                        clear hK K
                        refine norm_ (a' := ?_) ?_ ?_
                        rotate_left
                        · show Act.put _ (some 39) _ = _
                          simp only [Act.put, List.setIfInBounds_toArray, List.set_cons_zero, List.set_cons_succ, i64_w, i32_w]
                          rfl
                        refine pure_ (i := 13) (N := some 40) (v := ?_) (a' := ?_) #[true, true, true, true, true, true, true, true, true, true, true, true, true, true, false, true, true, true, false, false, false, true, true, false, false, false] rfl rfl (any_of HT_.out (by kernel_rfl)) (fun _ _ _ h => h) (Or.inl ⟨by rfl, ?_⟩) ?_ ?_
                        rotate_left
                        · intro w'
                          go_simp
                          with_reducible rfl
                        rotate_left
                        · simp only [Act.put, List.setIfInBounds_toArray, List.set_cons_zero, List.set_cons_succ, i64_w, i32_w]
                          rfl
                        refine pure_ (i := 14) (N := some 41) (v := ?_) (a' := ?_) #[true, true, true, true, true, true, true, true, true, true, true, true, true, true, true, true, true, true, false, false, false, true, true, false, false, false] rfl rfl (any_of HT_.out (by kernel_rfl)) (fun _ _ _ h => h) (Or.inl ⟨by rfl, ?_⟩) ?_ ?_
                        rotate_left
                        · intro w'
                          go_simp
                          with_reducible rfl
                        rotate_left
                        · simp only [Act.put, List.setIfInBounds_toArray, List.set_cons_zero, List.set_cons_succ, i64_w, i32_w]
                          rfl
                        refine one_ (i := 18) (N := some 45) #[true, true, true, true, true, true, true, true, true, true, true, true, true, true, true, true, true, true, true, false, false, true, true, false, false, false] rfl rfl (one_of HT_.out (by kernel_rfl)) (by decide) (fun K hK => ?_)
                        refine goes_ Try.func77 (by kernel_rfl) rfl #[.int .i64 a0_0, .int .i64 4] (by rfl) rfl rfl (by (try simp only [List.map_toArray, List.map_cons, List.map_nil]); first | done | rfl | (simp only [List.length_drop, List.length_take]; rfl)) ?_
                        with_reducible refine (spec_digits.calls k a0_0 4 t121 _ A16.out).mono ?_
                        rintro e w29 ⟨rfl, hb⟩
                        refine ⟨_, rfl, ?_⟩
                        have n0_ := Aside0.mk (blk_below (g := gb115) (o := .cells #[.int .i64 a0_0, .int .i64 a0_1, .int .i64 a0_2, .int .i64 a0_3, .int .i64 a0_4] 64 (0, 0)) (by (with_reducible repeat (first | refine blk_drewN ?_ _ | refine blk_drew ?_ | refine blk_alloc ?_ _)); exact BK115.out) hb)
                        have n1_ := Aside0.mk (below_step (by repeat (first | (with_reducible first | exact HB.out | apply below_alloc | apply pw_below_drewN | apply below_drew1 | refine below_set ?_ GE115.out) | exact HB.out)) hb)
                        clear BK115
                        clear HB
                        have BK115 := n0_
                        have HB := n1_
                        clear n0_ n1_
                        (try clear hb)
                        (try clear hb2)
                        (try clear hk)
                        (try clear hi)
                        refine hK.out _ _ ⟨(blk_cell BK115.out 0).trans rfl, (blk_cell BK115.out 1).trans rfl, (blk_cell BK115.out 2).trans rfl, (blk_cell BK115.out 3).trans rfl, (blk_cell BK115.out 4).trans rfl⟩ (fun hHeld => ?_)
                        clear hK K
                        refine norm_ (a' := ?_) ?_ ?_
                        rotate_left
                        · show Act.put _ (some 45) _ = _
                          simp only [Act.put, List.setIfInBounds_toArray, List.set_cons_zero, List.set_cons_succ, i64_w, i32_w]
                          rfl
                        refine pure_ (i := 19) (N := some 46) (v := ?_) (a' := ?_) #[true, true, true, true, true, true, true, true, true, true, true, true, true, true, true, true, true, true, true, true, false, true, true, false, false, false] rfl rfl (any_of HT_.out (by kernel_rfl)) (fun _ _ _ h => h) (Or.inl ⟨by rfl, ?_⟩) ?_ ?_
                        rotate_left
                        · intro w'
                          go_simp
                          with_reducible rfl
                        rotate_left
                        · simp only [Act.put, List.setIfInBounds_toArray, List.set_cons_zero, List.set_cons_succ, i64_w, i32_w]
                          rfl
                        refine pure_ (i := 20) (N := some 47) (v := ?_) (a' := ?_) #[true, true, true, true, true, true, true, true, true, true, true, true, true, true, true, true, true, true, true, true, true, true, true, false, false, false] rfl rfl (any_of HT_.out (by kernel_rfl)) (fun _ _ _ h => h) (Or.inl ⟨by rfl, ?_⟩) ?_ ?_
                        rotate_left
                        · intro w'
                          go_simp
                          with_reducible rfl
                        rotate_left
                        · simp only [Act.put, List.setIfInBounds_toArray, List.set_cons_zero, List.set_cons_succ, i64_w, i32_w]
                          rfl
                        refine one_ (i := 23) (N := some 50) #[true, true, true, true, true, true, true, true, true, true, true, true, true, true, true, true, true, true, true, true, true, true, true, true, false, false] rfl rfl (one_of HT_.out (by kernel_rfl)) (by decide) (fun K hK => ?_)
                        refine goes_ Try.func78 (by kernel_rfl) rfl #[.int .i64 a0_4] (by rfl) rfl rfl (by (try simp only [List.map_toArray, List.map_cons, List.map_nil]); first | done | rfl | (simp only [List.length_drop, List.length_take]; rfl)) ?_
                        with_reducible refine (spec_decimal.calls k a0_4 t122 _ A19.out).mono ?_
                        rintro e w30 ⟨rfl, hb⟩
                        refine ⟨_, rfl, ?_⟩
                        have n0_ := Aside0.mk (blk_below (g := gb115) (o := .cells #[.int .i64 a0_0, .int .i64 a0_1, .int .i64 a0_2, .int .i64 a0_3, .int .i64 a0_4] 64 (0, 0)) (by (with_reducible repeat (first | refine blk_drewN ?_ _ | refine blk_drew ?_ | refine blk_alloc ?_ _)); exact BK115.out) hb)
                        have n1_ := Aside0.mk (below_step (by repeat (first | (with_reducible first | exact HB.out | apply below_alloc | apply pw_below_drewN | apply below_drew1 | refine below_set ?_ GE115.out) | exact HB.out)) hb)
                        clear BK115
                        clear HB
                        have BK115 := n0_
                        have HB := n1_
                        clear n0_ n1_
                        (try clear hb)
                        (try clear hb2)
                        (try clear hk)
                        (try clear hi)
                        refine hK.out _ _ ⟨(blk_cell BK115.out 0).trans rfl, (blk_cell BK115.out 1).trans rfl, (blk_cell BK115.out 2).trans rfl, (blk_cell BK115.out 3).trans rfl, (blk_cell BK115.out 4).trans rfl⟩ (fun hHeld => ?_)
                        clear hK K
                        refine norm_ (a' := ?_) ?_ ?_
                        rotate_left
                        · show Act.put _ (some 50) _ = _
                          simp only [Act.put, List.setIfInBounds_toArray, List.set_cons_zero, List.set_cons_succ, i64_w, i32_w]
                          rfl
                        refine pure_ (i := 24) (N := some 51) (v := ?_) (a' := ?_) #[true, true, true, true, true, true, true, true, true, true, true, true, true, true, true, true, true, true, true, true, true, true, true, true, true, false] rfl rfl (any_of HT_.out (by kernel_rfl)) (fun _ _ _ h => h) (Or.inl ⟨by rfl, ?_⟩) ?_ ?_
                        rotate_left
                        · intro w'
                          go_simp
                          with_reducible rfl
                        rotate_left
                        · simp only [Act.put, List.setIfInBounds_toArray, List.set_cons_zero, List.set_cons_succ, i64_w, i32_w]
                          rfl
                        refine pure_ (i := 25) (N := some 2) (v := ?_) (a' := ?_) #[true, true, true, true, true, true, true, true, true, true, true, true, true, true, true, true, true, true, true, true, true, true, true, true, true, true] rfl rfl (any_of HT_.out (by kernel_rfl)) (fun _ _ _ h => h) (Or.inl ⟨by rfl, ?_⟩) ?_ ?_
                        rotate_left
                        · intro w'
                          go_simp
                          with_reducible rfl
                        rotate_left
                        · simp only [Act.put, List.setIfInBounds_toArray, List.set_cons_zero, List.set_cons_succ, i64_w, i32_w]
                          rfl
                        refine done_ (done_of HT_.out (by kernel_rfl)) ?_
                        try go_wp2
                        go_ret
                        exact ⟨by first | rfl | (simp [errW_none, errW_some] <;> rfl) | (simp only [← hji2]; first | rfl | (simp [errW_none, errW_some] <;> rfl)) | (simp [*, errW_none, errW_some] <;> rfl) | (refine congrArg (fun b_ => Ending.returned (Value.bool b_)) (decide_eq_decide.2 ?_); unfold wrap64; omega), by repeat (first | (with_reducible first | exact HB.out | apply below_alloc | apply pw_below_drewN | apply below_drew1 | refine below_set ?_ GE115.out) | exact HB.out)⟩
                      · rw [if_neg c20] at H
                        exact absurd H (by simp)
                    · rw [if_neg c18] at H
                      exact absurd H (by simp)
                  · rw [if_neg c17] at H
                    exact absurd H (by simp)
                · rw [if_neg c15] at H
                  exact absurd H (by simp)
              · rw [if_neg c14] at H
                exact absurd H (by simp)
            · rw [if_neg c12] at H
              exact absurd H (by simp)
          · rw [if_neg c11] at H
            exact absurd H (by simp)
        · rw [if_neg c9] at H
          exact absurd H (by simp)
      · rw [if_neg c8] at H
        exact absurd H (by simp)
    · rw [if_neg c7] at H
      exact absurd H (by simp)
  · rw [if_neg c5] at H
    exact absurd H (by simp)

/-! ### spec_reader_of: function 73 -/
def spec_reader_of.f (k : Nat) (s0_0 : List Int) (s0_1 : Int) (l1 : List ByteArray) : Option (ByteArray × Int) := (spec_reader_pick.f k s0_0 s0_1 (l1.length : Int)).bind fun bt123 => (if 0 ≤ bt123.1 then (if bt123.1 < (l1.length : Int) then (some (rdOf ByteArray.empty l1 bt123.1, bt123.2)) else (none)) else (none))
theorem spec_reader_of.mono : ∀ a0 a1 a2 k, LeO (spec_reader_of.f k a0 a1 a2) (spec_reader_of.f (k + 1) a0 a1 a2) := by
  intro a0 a1 a2 k
  unfold spec_reader_of.f
  repeat' first
      | (with_reducible exact spec_reader_pick.mono _ _ _ _)
      | (with_reducible exact LeO.refl _)
      | (with_reducible exact LeO.none _)
      | (with_reducible refine LeO.ite ?_ ?_)
      | (with_reducible refine LeO.bind ?_ (fun _ => ?_))
      | exact spec_reader_pick.mono _ _ _ _
      | exact LeO.none _
      | refine LeO.ite ?_ ?_
      | refine LeO.bind ?_ (fun _ => ?_)
set_option maxHeartbeats 8000000 in
set_option maxRecDepth 100000 in
theorem spec_reader_of.calls (k : Nat) (g : Nat) (s0_0 : List Int) (s0_1 : Int) (A1 : Option Addr) (c1 : Nat) (l1 : List ByteArray) (r1 : ByteArray) (r2 : Int) (w0 w : World) (hI : IsS61 w0 w g s0_0 s0_1) (hB : Below w0.heap.size w0 w) (hr1 : Kd.C Kd.string w A1 l1.length l1) (hc1 : l1.length ≤ c1) (hf1 : ∀ ad, A1 = some ad → 0 < l1.length → ad.block ≠ g) (h : spec_reader_of.f k s0_0 s0_1 l1 = some (r1, r2)) :
    Calls Try.prog 73 #[.pointer (some ⟨g, 0, none⟩), .slice A1 l1.length c1] w fun e w' => e = .returned (.string r1) ∧ IsS61 w0 w' g s0_0 r2 ∧ Below w0.heap.size w0 w' ∧ KeepBut w w' g none := by
  have HR1 := Aside0.mk hr1
  have HC1 := Aside0.mk hc1
  clear hr1 hc1
  have HI0 := Aside0.mk hI
  have HK := Aside0.mk (KeepBut.refl w g none)
  have HL := Aside0.mk hB.size
  clear hI
  have HW0 := Aside0.mk hB.size
  have HB := Aside0.mk hB
  clear hB
  have H : ((spec_reader_pick.f k s0_0 s0_1 (l1.length : Int)).bind fun bt123 => (if 0 ≤ bt123.1 then (if bt123.1 < (l1.length : Int) then (some (rdOf ByteArray.empty l1 bt123.1, bt123.2)) else (none)) else (none))) = some (r1, r2) := h
  clear h
  replace H := Option.bind_eq_some_iff.mp H
  obtain ⟨⟨t123, t124⟩, A30, H⟩ := H
  replace H : (if 0 ≤ t123 then (if t123 < (l1.length : Int) then (some (rdOf ByteArray.empty l1 t123, t124)) else (none)) else (none)) = some (r1, r2) := H
  have A3 := Aside0.mk A30
  clear A30
  by_cases c4 : 0 ≤ t123
  · rw [if_pos c4] at H
    have c4b0 : decide (0 ≤ t123) = true := decide_eq_true c4
    clear c4
    by_cases c5 : t123 < (l1.length : Int)
    · rw [if_pos c5] at H
      have c5b0 : decide (t123 < (l1.length : Int)) = true := decide_eq_true c5
      clear c5
      simp only [Option.some.injEq, Prod.mk.injEq] at H
      obtain ⟨rfl, rfl⟩ := H
      go_enter Try.func73, Try.ntmps73
      go_wp2_with (first | ((with_reducible refine gate_callee (f := 51) rfl ?_); refine goesL_ (some 9) rfl rfl Try.func51 (by kernel_rfl) rfl #[.pointer (some ⟨g, 0, none⟩), .int .i64 (l1.length : Int)] rfl (by (try simp only [List.map_toArray, List.map_cons, List.map_nil]); first | done | rfl | (simp only [List.length_drop, List.length_take]; rfl)) ?_; (with_reducible refine (spec_reader_pick.calls k g s0_0 s0_1 (l1.length : Int) t123 t124 w0 _ ?side1 ?side2 A3.out).mono ?_); (case side1 => repeat (first | (with_reducible first | exact HI0.out | apply IsS61.alloc | apply IsS61.drewN | apply IsS61.drew | apply IsS61.set_1) | exact HI0.out)); (case side2 => repeat (first | (with_reducible first | exact HB.out | apply below_alloc | apply pw_below_drewN | apply below_drew1 | refine below_set ?_ (IsS61.ge HI0.out)) | exact HB.out)); rintro e w6 ⟨rfl, hi, hb, hk⟩; refine ⟨_, rfl, ?_⟩; have n0_ := Aside0.mk (KeepBut.trans (by repeat (first | (with_reducible first | exact HK.out | apply KeepBut.set_ | apply keep_drewN | apply keep_drew | apply keep_alloc) | exact HK.out)) hk (.inl rfl)); have n1_ := Aside0.mk (hb); have n2_ := Aside0.mk (hi); clear HK; clear HB; clear HI0; have HK := n0_; have HB := n1_; have HI0 := n2_; clear n0_ n1_ n2_; (try clear hb); (try clear hb2); (try clear hk); (try clear hi); have p125 : 0 ≤ (t123 : Int) := of_decide_eq_true (by first | (with_reducible assumption) | assumption); have q125 : t123 < (l1.length : Int) := of_decide_eq_true (by first | (with_reducible assumption) | assumption); obtain ⟨ad125, e125, hx125_0⟩ := Kd.at_string HR1.out t123 p125 q125; cases e125; replace hx125_0 := keep_cell HK.out hx125_0 (by first | (rw [add_block]; exact hf1 _ rfl (by omega)) | exact hf1 _ rfl (by omega) | exact hf1 ad125 rfl (by omega)); replace p125 := eq_true p125; replace q125 := eq_true q125))
      go_ret
      exact ⟨by first | rfl | (simp [errW_none, errW_some] <;> rfl) | (simp [*, errW_none, errW_some] <;> rfl) | (refine congrArg (fun b_ => Ending.returned (Value.bool b_)) (decide_eq_decide.2 ?_); unfold wrap64; omega), by repeat (first | (with_reducible first | exact HI0.out | apply IsS61.alloc | apply IsS61.drewN | apply IsS61.drew | apply IsS61.set_1) | exact HI0.out), by repeat (first | (with_reducible first | exact HB.out | apply below_alloc | apply pw_below_drewN | apply below_drew1 | refine below_set ?_ (IsS61.ge HI0.out)) | exact HB.out), by repeat (first | (with_reducible first | exact HK.out | apply KeepBut.set_ | apply keep_drewN | apply keep_drew | apply keep_alloc) | exact HK.out)⟩
    · rw [if_neg c5] at H
      exact absurd H (by simp)
  · rw [if_neg c4] at H
    exact absurd H (by simp)

/-! ### spec_someBody: function 57 -/
def spec_someBody.f (k : Nat) (s0_0 : List Int) (s0_1 : Int) : Option (ByteArray × Int) := (spec_reader_pick.f k s0_0 s0_1 3).bind fun bt126 => (if bt126.1 = 0 then ((spec_reader_pick.f k s0_0 bt126.2 50).bind fun bt128 => ((spec_reader_pick.f k s0_0 bt128.2 12).bind fun bt130 => ((spec_reader_pick.f k s0_0 bt130.2 28).bind fun bt132 => ((spec_reader_pick.f k s0_0 bt132.2 250).bind fun bt134 => ((spec_reader_pick.f k s0_0 bt134.2 33).bind fun bt136 => ((spec_formatFix.f k (wrap64 (2000 + bt128.1)) (wrap64 (1 + bt130.1)) (wrap64 (1 + bt132.1)) (wrap64 (345 * bt134.1)) bt136.1).bind fun t138 => (some (t138, bt136.2)))))))) else ((spec_reader_of.f k s0_0 bt126.2 (([(⟨#[65]⟩ : ByteArray), (⟨#[71, 80, 71, 71, 65, 44, 49]⟩ : ByteArray), (⟨#[84, 73, 77, 69, 32, 49, 50]⟩ : ByteArray), (⟨#[97, 98, 99]⟩ : ByteArray), (⟨#[48]⟩ : ByteArray), (⟨#[126, 32, 126]⟩ : ByteArray), (⟨#[]⟩ : ByteArray), (⟨#[97, 36, 98]⟩ : ByteArray), (⟨#[97, 42, 98]⟩ : ByteArray), (⟨#[48, 49, 50, 51, 52, 53, 54, 55, 56, 57, 48, 49, 50, 51, 52, 53, 54, 55, 56, 57, 48, 49, 50, 51, 52, 53, 54, 55, 56, 57, 48, 49, 50, 51, 52, 53, 54, 55, 56, 57, 48]⟩ : ByteArray), (⟨#[70, 73, 88]⟩ : ByteArray)] : List ByteArray))).bind fun bt142 => (some (bt142.1, bt142.2))))
theorem spec_someBody.mono : ∀ a0 a1 k, LeO (spec_someBody.f k a0 a1) (spec_someBody.f (k + 1) a0 a1) := by
  intro a0 a1 k
  unfold spec_someBody.f
  repeat' first
      | (with_reducible exact spec_formatFix.mono _ _ _ _ _ _)
      | (with_reducible exact spec_reader_of.mono _ _ _ _)
      | (with_reducible exact spec_reader_pick.mono _ _ _ _)
      | (with_reducible exact LeO.refl _)
      | (with_reducible exact LeO.none _)
      | (with_reducible refine LeO.ite ?_ ?_)
      | (with_reducible refine LeO.bind ?_ (fun _ => ?_))
      | exact spec_formatFix.mono _ _ _ _ _ _
      | exact spec_reader_of.mono _ _ _ _
      | exact spec_reader_pick.mono _ _ _ _
      | exact LeO.none _
      | refine LeO.ite ?_ ?_
      | refine LeO.bind ?_ (fun _ => ?_)
set_option maxHeartbeats 8000000 in
set_option maxRecDepth 100000 in
theorem spec_someBody.calls (k : Nat) (g : Nat) (s0_0 : List Int) (s0_1 : Int) (r1 : ByteArray) (r2 : Int) (w0 w : World) (hI : IsS61 w0 w g s0_0 s0_1) (hB : Below w0.heap.size w0 w) (h : spec_someBody.f k s0_0 s0_1 = some (r1, r2)) :
    Calls Try.prog 57 #[.pointer (some ⟨g, 0, none⟩)] w fun e w' => e = .returned (.string r1) ∧ IsS61 w0 w' g s0_0 r2 ∧ Below w0.heap.size w0 w' ∧ KeepBut w w' g none := by
  have hu36 := Try.underlying36
  have hu64 := Try.underlying64
  have HI0 := Aside0.mk hI
  have HK := Aside0.mk (KeepBut.refl w g none)
  have HL := Aside0.mk hB.size
  clear hI
  have HW0 := Aside0.mk hB.size
  have HB := Aside0.mk hB
  clear hB
  have H : ((spec_reader_pick.f k s0_0 s0_1 3).bind fun bt126 => (if bt126.1 = 0 then ((spec_reader_pick.f k s0_0 bt126.2 50).bind fun bt128 => ((spec_reader_pick.f k s0_0 bt128.2 12).bind fun bt130 => ((spec_reader_pick.f k s0_0 bt130.2 28).bind fun bt132 => ((spec_reader_pick.f k s0_0 bt132.2 250).bind fun bt134 => ((spec_reader_pick.f k s0_0 bt134.2 33).bind fun bt136 => ((spec_formatFix.f k (wrap64 (2000 + bt128.1)) (wrap64 (1 + bt130.1)) (wrap64 (1 + bt132.1)) (wrap64 (345 * bt134.1)) bt136.1).bind fun t138 => (some (t138, bt136.2)))))))) else ((spec_reader_of.f k s0_0 bt126.2 (([(⟨#[65]⟩ : ByteArray), (⟨#[71, 80, 71, 71, 65, 44, 49]⟩ : ByteArray), (⟨#[84, 73, 77, 69, 32, 49, 50]⟩ : ByteArray), (⟨#[97, 98, 99]⟩ : ByteArray), (⟨#[48]⟩ : ByteArray), (⟨#[126, 32, 126]⟩ : ByteArray), (⟨#[]⟩ : ByteArray), (⟨#[97, 36, 98]⟩ : ByteArray), (⟨#[97, 42, 98]⟩ : ByteArray), (⟨#[48, 49, 50, 51, 52, 53, 54, 55, 56, 57, 48, 49, 50, 51, 52, 53, 54, 55, 56, 57, 48, 49, 50, 51, 52, 53, 54, 55, 56, 57, 48, 49, 50, 51, 52, 53, 54, 55, 56, 57, 48]⟩ : ByteArray), (⟨#[70, 73, 88]⟩ : ByteArray)] : List ByteArray))).bind fun bt142 => (some (bt142.1, bt142.2))))) = some (r1, r2) := h
  clear h
  replace H := Option.bind_eq_some_iff.mp H
  obtain ⟨⟨t126, t127⟩, A20, H⟩ := H
  replace H : (if t126 = 0 then ((spec_reader_pick.f k s0_0 t127 50).bind fun bt128 => ((spec_reader_pick.f k s0_0 bt128.2 12).bind fun bt130 => ((spec_reader_pick.f k s0_0 bt130.2 28).bind fun bt132 => ((spec_reader_pick.f k s0_0 bt132.2 250).bind fun bt134 => ((spec_reader_pick.f k s0_0 bt134.2 33).bind fun bt136 => ((spec_formatFix.f k (wrap64 (2000 + bt128.1)) (wrap64 (1 + bt130.1)) (wrap64 (1 + bt132.1)) (wrap64 (345 * bt134.1)) bt136.1).bind fun t138 => (some (t138, bt136.2)))))))) else ((spec_reader_of.f k s0_0 t127 (([(⟨#[65]⟩ : ByteArray), (⟨#[71, 80, 71, 71, 65, 44, 49]⟩ : ByteArray), (⟨#[84, 73, 77, 69, 32, 49, 50]⟩ : ByteArray), (⟨#[97, 98, 99]⟩ : ByteArray), (⟨#[48]⟩ : ByteArray), (⟨#[126, 32, 126]⟩ : ByteArray), (⟨#[]⟩ : ByteArray), (⟨#[97, 36, 98]⟩ : ByteArray), (⟨#[97, 42, 98]⟩ : ByteArray), (⟨#[48, 49, 50, 51, 52, 53, 54, 55, 56, 57, 48, 49, 50, 51, 52, 53, 54, 55, 56, 57, 48, 49, 50, 51, 52, 53, 54, 55, 56, 57, 48, 49, 50, 51, 52, 53, 54, 55, 56, 57, 48]⟩ : ByteArray), (⟨#[70, 73, 88]⟩ : ByteArray)] : List ByteArray))).bind fun bt142 => (some (bt142.1, bt142.2)))) = some (r1, r2) := H
  have A2 := Aside0.mk A20
  clear A20
  by_cases c3 : t126 = 0
  · rw [if_pos c3] at H
    have c3b0 : (t126 == 0) = true := beq_iff_eq.mpr c3
    have c3b1 : (t126 != 0) = false := bne_eq_false_iff_eq.mpr c3
    clear c3
    replace H := Option.bind_eq_some_iff.mp H
    obtain ⟨⟨t128, t129⟩, A40, H⟩ := H
    replace H : ((spec_reader_pick.f k s0_0 t129 12).bind fun bt130 => ((spec_reader_pick.f k s0_0 bt130.2 28).bind fun bt132 => ((spec_reader_pick.f k s0_0 bt132.2 250).bind fun bt134 => ((spec_reader_pick.f k s0_0 bt134.2 33).bind fun bt136 => ((spec_formatFix.f k (wrap64 (2000 + t128)) (wrap64 (1 + bt130.1)) (wrap64 (1 + bt132.1)) (wrap64 (345 * bt134.1)) bt136.1).bind fun t138 => (some (t138, bt136.2))))))) = some (r1, r2) := H
    have A4 := Aside0.mk A40
    clear A40
    replace H := Option.bind_eq_some_iff.mp H
    obtain ⟨⟨t130, t131⟩, A50, H⟩ := H
    replace H : ((spec_reader_pick.f k s0_0 t131 28).bind fun bt132 => ((spec_reader_pick.f k s0_0 bt132.2 250).bind fun bt134 => ((spec_reader_pick.f k s0_0 bt134.2 33).bind fun bt136 => ((spec_formatFix.f k (wrap64 (2000 + t128)) (wrap64 (1 + t130)) (wrap64 (1 + bt132.1)) (wrap64 (345 * bt134.1)) bt136.1).bind fun t138 => (some (t138, bt136.2)))))) = some (r1, r2) := H
    have A5 := Aside0.mk A50
    clear A50
    replace H := Option.bind_eq_some_iff.mp H
    obtain ⟨⟨t132, t133⟩, A60, H⟩ := H
    replace H : ((spec_reader_pick.f k s0_0 t133 250).bind fun bt134 => ((spec_reader_pick.f k s0_0 bt134.2 33).bind fun bt136 => ((spec_formatFix.f k (wrap64 (2000 + t128)) (wrap64 (1 + t130)) (wrap64 (1 + t132)) (wrap64 (345 * bt134.1)) bt136.1).bind fun t138 => (some (t138, bt136.2))))) = some (r1, r2) := H
    have A6 := Aside0.mk A60
    clear A60
    replace H := Option.bind_eq_some_iff.mp H
    obtain ⟨⟨t134, t135⟩, A70, H⟩ := H
    replace H : ((spec_reader_pick.f k s0_0 t135 33).bind fun bt136 => ((spec_formatFix.f k (wrap64 (2000 + t128)) (wrap64 (1 + t130)) (wrap64 (1 + t132)) (wrap64 (345 * t134)) bt136.1).bind fun t138 => (some (t138, bt136.2)))) = some (r1, r2) := H
    have A7 := Aside0.mk A70
    clear A70
    replace H := Option.bind_eq_some_iff.mp H
    obtain ⟨⟨t136, t137⟩, A80, H⟩ := H
    replace H : ((spec_formatFix.f k (wrap64 (2000 + t128)) (wrap64 (1 + t130)) (wrap64 (1 + t132)) (wrap64 (345 * t134)) t136).bind fun t138 => (some (t138, t137))) = some (r1, r2) := H
    have A8 := Aside0.mk A80
    clear A80
    replace H := Option.bind_eq_some_iff.mp H
    obtain ⟨t138, A90, H⟩ := H
    replace H : (some (t138, t137)) = some (r1, r2) := H
    have A9 := Aside0.mk A90
    clear A90
    simp only [Option.some.injEq, Prod.mk.injEq] at H
    obtain ⟨rfl, rfl⟩ := H
    go_enter Try.func57, Try.ntmps57
    go_wp2_with (first | ((with_reducible refine gate_callee (f := 51) rfl ?_); refine goesL_ (some 4) rfl rfl Try.func51 (by kernel_rfl) rfl #[.pointer (some ⟨g, 0, none⟩), .int .i64 3] rfl (by (try simp only [List.map_toArray, List.map_cons, List.map_nil]); first | done | rfl | (simp only [List.length_drop, List.length_take]; rfl)) ?_; (with_reducible refine (spec_reader_pick.calls k g s0_0 s0_1 3 t126 t127 w0 _ ?side1 ?side2 A2.out).mono ?_); (case side1 => repeat (first | (with_reducible first | exact HI0.out | apply IsS61.alloc | apply IsS61.drewN | apply IsS61.drew | apply IsS61.set_1) | exact HI0.out)); (case side2 => repeat (first | (with_reducible first | exact HB.out | apply below_alloc | apply pw_below_drewN | apply below_drew1 | refine below_set ?_ (IsS61.ge HI0.out)) | exact HB.out)); rintro e w10 ⟨rfl, hi, hb, hk⟩; refine ⟨_, rfl, ?_⟩; have n0_ := Aside0.mk (KeepBut.trans (by repeat (first | (with_reducible first | exact HK.out | apply KeepBut.set_ | apply keep_drewN | apply keep_drew | apply keep_alloc) | exact HK.out)) hk (.inl rfl)); have n1_ := Aside0.mk (hb); have n2_ := Aside0.mk (hi); clear HK; clear HB; clear HI0; have HK := n0_; have HB := n1_; have HI0 := n2_; clear n0_ n1_ n2_; (try clear hb); (try clear hb2); (try clear hk); (try clear hi)) | ((with_reducible refine gate_callee (f := 51) rfl ?_); refine goesL_ (some 7) rfl rfl Try.func51 (by kernel_rfl) rfl #[.pointer (some ⟨g, 0, none⟩), .int .i64 50] rfl (by (try simp only [List.map_toArray, List.map_cons, List.map_nil]); first | done | rfl | (simp only [List.length_drop, List.length_take]; rfl)) ?_; (with_reducible refine (spec_reader_pick.calls k g s0_0 t127 50 t128 t129 w0 _ ?side1 ?side2 A4.out).mono ?_); (case side1 => repeat (first | (with_reducible first | exact HI0.out | apply IsS61.alloc | apply IsS61.drewN | apply IsS61.drew | apply IsS61.set_1) | exact HI0.out)); (case side2 => repeat (first | (with_reducible first | exact HB.out | apply below_alloc | apply pw_below_drewN | apply below_drew1 | refine below_set ?_ (IsS61.ge HI0.out)) | exact HB.out)); rintro e w11 ⟨rfl, hi, hb, hk⟩; refine ⟨_, rfl, ?_⟩; have n0_ := Aside0.mk (KeepBut.trans (by repeat (first | (with_reducible first | exact HK.out | apply KeepBut.set_ | apply keep_drewN | apply keep_drew | apply keep_alloc) | exact HK.out)) hk (.inl rfl)); have n1_ := Aside0.mk (hb); have n2_ := Aside0.mk (hi); clear HK; clear HB; clear HI0; have HK := n0_; have HB := n1_; have HI0 := n2_; clear n0_ n1_ n2_; (try clear hb); (try clear hb2); (try clear hk); (try clear hi)) | ((with_reducible refine gate_callee (f := 51) rfl ?_); refine goesL_ (some 10) rfl rfl Try.func51 (by kernel_rfl) rfl #[.pointer (some ⟨g, 0, none⟩), .int .i64 12] rfl (by (try simp only [List.map_toArray, List.map_cons, List.map_nil]); first | done | rfl | (simp only [List.length_drop, List.length_take]; rfl)) ?_; (with_reducible refine (spec_reader_pick.calls k g s0_0 t129 12 t130 t131 w0 _ ?side1 ?side2 A5.out).mono ?_); (case side1 => repeat (first | (with_reducible first | exact HI0.out | apply IsS61.alloc | apply IsS61.drewN | apply IsS61.drew | apply IsS61.set_1) | exact HI0.out)); (case side2 => repeat (first | (with_reducible first | exact HB.out | apply below_alloc | apply pw_below_drewN | apply below_drew1 | refine below_set ?_ (IsS61.ge HI0.out)) | exact HB.out)); rintro e w12 ⟨rfl, hi, hb, hk⟩; refine ⟨_, rfl, ?_⟩; have n0_ := Aside0.mk (KeepBut.trans (by repeat (first | (with_reducible first | exact HK.out | apply KeepBut.set_ | apply keep_drewN | apply keep_drew | apply keep_alloc) | exact HK.out)) hk (.inl rfl)); have n1_ := Aside0.mk (hb); have n2_ := Aside0.mk (hi); clear HK; clear HB; clear HI0; have HK := n0_; have HB := n1_; have HI0 := n2_; clear n0_ n1_ n2_; (try clear hb); (try clear hb2); (try clear hk); (try clear hi)) | ((with_reducible refine gate_callee (f := 51) rfl ?_); refine goesL_ (some 13) rfl rfl Try.func51 (by kernel_rfl) rfl #[.pointer (some ⟨g, 0, none⟩), .int .i64 28] rfl (by (try simp only [List.map_toArray, List.map_cons, List.map_nil]); first | done | rfl | (simp only [List.length_drop, List.length_take]; rfl)) ?_; (with_reducible refine (spec_reader_pick.calls k g s0_0 t131 28 t132 t133 w0 _ ?side1 ?side2 A6.out).mono ?_); (case side1 => repeat (first | (with_reducible first | exact HI0.out | apply IsS61.alloc | apply IsS61.drewN | apply IsS61.drew | apply IsS61.set_1) | exact HI0.out)); (case side2 => repeat (first | (with_reducible first | exact HB.out | apply below_alloc | apply pw_below_drewN | apply below_drew1 | refine below_set ?_ (IsS61.ge HI0.out)) | exact HB.out)); rintro e w13 ⟨rfl, hi, hb, hk⟩; refine ⟨_, rfl, ?_⟩; have n0_ := Aside0.mk (KeepBut.trans (by repeat (first | (with_reducible first | exact HK.out | apply KeepBut.set_ | apply keep_drewN | apply keep_drew | apply keep_alloc) | exact HK.out)) hk (.inl rfl)); have n1_ := Aside0.mk (hb); have n2_ := Aside0.mk (hi); clear HK; clear HB; clear HI0; have HK := n0_; have HB := n1_; have HI0 := n2_; clear n0_ n1_ n2_; (try clear hb); (try clear hb2); (try clear hk); (try clear hi)) | ((with_reducible refine gate_callee (f := 51) rfl ?_); refine goesL_ (some 17) rfl rfl Try.func51 (by kernel_rfl) rfl #[.pointer (some ⟨g, 0, none⟩), .int .i64 250] rfl (by (try simp only [List.map_toArray, List.map_cons, List.map_nil]); first | done | rfl | (simp only [List.length_drop, List.length_take]; rfl)) ?_; (with_reducible refine (spec_reader_pick.calls k g s0_0 t133 250 t134 t135 w0 _ ?side1 ?side2 A7.out).mono ?_); (case side1 => repeat (first | (with_reducible first | exact HI0.out | apply IsS61.alloc | apply IsS61.drewN | apply IsS61.drew | apply IsS61.set_1) | exact HI0.out)); (case side2 => repeat (first | (with_reducible first | exact HB.out | apply below_alloc | apply pw_below_drewN | apply below_drew1 | refine below_set ?_ (IsS61.ge HI0.out)) | exact HB.out)); rintro e w14 ⟨rfl, hi, hb, hk⟩; refine ⟨_, rfl, ?_⟩; have n0_ := Aside0.mk (KeepBut.trans (by repeat (first | (with_reducible first | exact HK.out | apply KeepBut.set_ | apply keep_drewN | apply keep_drew | apply keep_alloc) | exact HK.out)) hk (.inl rfl)); have n1_ := Aside0.mk (hb); have n2_ := Aside0.mk (hi); clear HK; clear HB; clear HI0; have HK := n0_; have HB := n1_; have HI0 := n2_; clear n0_ n1_ n2_; (try clear hb); (try clear hb2); (try clear hk); (try clear hi)) | ((with_reducible refine gate_callee (f := 51) rfl ?_); refine goesL_ (some 20) rfl rfl Try.func51 (by kernel_rfl) rfl #[.pointer (some ⟨g, 0, none⟩), .int .i64 33] rfl (by (try simp only [List.map_toArray, List.map_cons, List.map_nil]); first | done | rfl | (simp only [List.length_drop, List.length_take]; rfl)) ?_; (with_reducible refine (spec_reader_pick.calls k g s0_0 t135 33 t136 t137 w0 _ ?side1 ?side2 A8.out).mono ?_); (case side1 => repeat (first | (with_reducible first | exact HI0.out | apply IsS61.alloc | apply IsS61.drewN | apply IsS61.drew | apply IsS61.set_1) | exact HI0.out)); (case side2 => repeat (first | (with_reducible first | exact HB.out | apply below_alloc | apply pw_below_drewN | apply below_drew1 | refine below_set ?_ (IsS61.ge HI0.out)) | exact HB.out)); rintro e w15 ⟨rfl, hi, hb, hk⟩; refine ⟨_, rfl, ?_⟩; have n0_ := Aside0.mk (KeepBut.trans (by repeat (first | (with_reducible first | exact HK.out | apply KeepBut.set_ | apply keep_drewN | apply keep_drew | apply keep_alloc) | exact HK.out)) hk (.inl rfl)); have n1_ := Aside0.mk (hb); have n2_ := Aside0.mk (hi); clear HK; clear HB; clear HI0; have HK := n0_; have HB := n1_; have HI0 := n2_; clear n0_ n1_ n2_; (try clear hb); (try clear hb2); (try clear hk); (try clear hi)) | ((with_reducible refine gate_callee (f := 72) rfl ?_); refine goesL_ (some 22) rfl rfl Try.func72 (by kernel_rfl) rfl #[.agg #[.int .i64 (wrap64 (2000 + t128)), .int .i64 (wrap64 (1 + t130)), .int .i64 (wrap64 (1 + t132)), .int .i64 (wrap64 (345 * t134)), .int .i64 t136]] rfl (by (try simp only [List.map_toArray, List.map_cons, List.map_nil]); first | done | rfl | (simp only [List.length_drop, List.length_take]; rfl)) ?_; (with_reducible refine (spec_formatFix.calls k (wrap64 (2000 + t128)) (wrap64 (1 + t130)) (wrap64 (1 + t132)) (wrap64 (345 * t134)) t136 t138 _ A9.out).mono ?_); rintro e w16 ⟨rfl, hb⟩; refine ⟨_, rfl, ?_⟩; have n0_ := Aside0.mk (IsS61.below (by repeat (first | (with_reducible first | exact HI0.out | apply IsS61.alloc | apply IsS61.drewN | apply IsS61.drew | apply IsS61.set_1) | exact HI0.out)) hb); have n1_ := Aside0.mk (KeepBut.trans (by repeat (first | (with_reducible first | exact HK.out | apply KeepBut.set_ | apply keep_drewN | apply keep_drew | apply keep_alloc) | exact HK.out)) (KeepBut.of_below hb g none) (.inl rfl)); have n2_ := Aside0.mk (below_step (by repeat (first | (with_reducible first | exact HB.out | apply below_alloc | apply pw_below_drewN | apply below_drew1 | refine below_set ?_ (IsS61.ge HI0.out)) | exact HB.out)) hb); clear HI0; clear HK; clear HB; have HI0 := n0_; have HK := n1_; have HB := n2_; clear n0_ n1_ n2_; (try clear hb); (try clear hb2); (try clear hk); (try clear hi)))
    go_ret
    exact ⟨by first | rfl | (simp [errW_none, errW_some] <;> rfl) | (simp [*, errW_none, errW_some] <;> rfl) | (refine congrArg (fun b_ => Ending.returned (Value.bool b_)) (decide_eq_decide.2 ?_); unfold wrap64; omega), by repeat (first | (with_reducible first | exact HI0.out | apply IsS61.alloc | apply IsS61.drewN | apply IsS61.drew | apply IsS61.set_1) | exact HI0.out), by repeat (first | (with_reducible first | exact HB.out | apply below_alloc | apply pw_below_drewN | apply below_drew1 | refine below_set ?_ (IsS61.ge HI0.out)) | exact HB.out), by repeat (first | (with_reducible first | exact HK.out | apply KeepBut.set_ | apply keep_drewN | apply keep_drew | apply keep_alloc) | exact HK.out)⟩
  · rw [if_neg c3] at H
    have c3b0 : (t126 == 0) = false := beq_eq_false_iff_ne.mpr c3
    have c3b1 : (t126 != 0) = true := bne_iff_ne.mpr c3
    obtain ⟨y139, hy139⟩ : ∃ y_ : List ByteArray, y_ = (([(⟨#[65]⟩ : ByteArray), (⟨#[71, 80, 71, 71, 65, 44, 49]⟩ : ByteArray), (⟨#[84, 73, 77, 69, 32, 49, 50]⟩ : ByteArray), (⟨#[97, 98, 99]⟩ : ByteArray), (⟨#[48]⟩ : ByteArray), (⟨#[126, 32, 126]⟩ : ByteArray), (⟨#[]⟩ : ByteArray), (⟨#[97, 36, 98]⟩ : ByteArray), (⟨#[97, 42, 98]⟩ : ByteArray), (⟨#[48, 49, 50, 51, 52, 53, 54, 55, 56, 57, 48, 49, 50, 51, 52, 53, 54, 55, 56, 57, 48, 49, 50, 51, 52, 53, 54, 55, 56, 57, 48, 49, 50, 51, 52, 53, 54, 55, 56, 57, 48]⟩ : ByteArray), (⟨#[70, 73, 88]⟩ : ByteArray)] : List ByteArray)) := ⟨_, rfl⟩
    replace H : ((spec_reader_of.f k s0_0 t127 y139).bind fun bt142 => (some (bt142.1, bt142.2))) = some (r1, r2) := by first | (rw [hy139]; with_reducible exact H) | (have H2_ := (Option.bind_some _ _).symm.trans H; rw [hy139]; with_reducible exact H2_) | (have H2_ := (Option.bind_some _ _).symm.trans H; with_reducible exact H2_) | with_reducible exact H | (rw [hy139]; exact H) | exact H
    have Ny139 := Aside0.mk hy139
    clear hy139
    replace H := Option.bind_eq_some_iff.mp H
    obtain ⟨⟨t142, t143⟩, A170, H⟩ := H
    replace H : (some (t142, t143)) = some (r1, r2) := H
    have A17 := Aside0.mk A170
    clear A170
    simp only [Option.some.injEq, Prod.mk.injEq] at H
    obtain ⟨rfl, rfl⟩ := H
    go_enter Try.func57, Try.ntmps57
    go_wp2_with (first | ((with_reducible refine gate_callee (f := 51) rfl ?_); refine goesL_ (some 4) rfl rfl Try.func51 (by kernel_rfl) rfl #[.pointer (some ⟨g, 0, none⟩), .int .i64 3] rfl (by (try simp only [List.map_toArray, List.map_cons, List.map_nil]); first | done | rfl | (simp only [List.length_drop, List.length_take]; rfl)) ?_; (with_reducible refine (spec_reader_pick.calls k g s0_0 s0_1 3 t126 t127 w0 _ ?side1 ?side2 A2.out).mono ?_); (case side1 => repeat (first | (with_reducible first | exact HI0.out | apply IsS61.alloc | apply IsS61.drewN | apply IsS61.drew | apply IsS61.set_1) | exact HI0.out)); (case side2 => repeat (first | (with_reducible first | exact HB.out | apply below_alloc | apply pw_below_drewN | apply below_drew1 | refine below_set ?_ (IsS61.ge HI0.out)) | exact HB.out)); rintro e w18 ⟨rfl, hi, hb, hk⟩; refine ⟨_, rfl, ?_⟩; have n0_ := Aside0.mk (KeepBut.trans (by repeat (first | (with_reducible first | exact HK.out | apply KeepBut.set_ | apply keep_drewN | apply keep_drew | apply keep_alloc) | exact HK.out)) hk (.inl rfl)); have n1_ := Aside0.mk (hb); have n2_ := Aside0.mk (hi); clear HK; clear HB; clear HI0; have HK := n0_; have HB := n1_; have HI0 := n2_; clear n0_ n1_ n2_; (try clear hb); (try clear hb2); (try clear hk); (try clear hi)) | ((with_reducible refine gate_dst (N := 24) rfl ?_); refine Kd.R_lit Kd.string _ 9 ?hg (N := 24) ?hd (xs := ([(⟨#[65]⟩ : ByteArray), (⟨#[71, 80, 71, 71, 65, 44, 49]⟩ : ByteArray), (⟨#[84, 73, 77, 69, 32, 49, 50]⟩ : ByteArray), (⟨#[97, 98, 99]⟩ : ByteArray), (⟨#[48]⟩ : ByteArray), (⟨#[126, 32, 126]⟩ : ByteArray), (⟨#[]⟩ : ByteArray), (⟨#[97, 36, 98]⟩ : ByteArray), (⟨#[97, 42, 98]⟩ : ByteArray), (⟨#[48, 49, 50, 51, 52, 53, 54, 55, 56, 57, 48, 49, 50, 51, 52, 53, 54, 55, 56, 57, 48, 49, 50, 51, 52, 53, 54, 55, 56, 57, 48, 49, 50, 51, 52, 53, 54, 55, 56, 57, 48]⟩ : ByteArray), (⟨#[70, 73, 88]⟩ : ByteArray)] : List ByteArray)) (inner := [.string (⟨#[65]⟩ : ByteArray), .string (⟨#[71, 80, 71, 71, 65, 44, 49]⟩ : ByteArray), .string (⟨#[84, 73, 77, 69, 32, 49, 50]⟩ : ByteArray), .string (⟨#[97, 98, 99]⟩ : ByteArray), .string (⟨#[48]⟩ : ByteArray), .string (⟨#[126, 32, 126]⟩ : ByteArray), .string (⟨#[]⟩ : ByteArray), .string (⟨#[97, 36, 98]⟩ : ByteArray), .string (⟨#[97, 42, 98]⟩ : ByteArray), .string (⟨#[48, 49, 50, 51, 52, 53, 54, 55, 56, 57, 48, 49, 50, 51, 52, 53, 54, 55, 56, 57, 48, 49, 50, 51, 52, 53, 54, 55, 56, 57, 48, 49, 50, 51, 52, 53, 54, 55, 56, 57, 48]⟩ : ByteArray), .string (⟨#[70, 73, 88]⟩ : ByteArray)]) (ok := fun _ => True) (okp := fun _ => True) ?hr ?hp (fun _ hk => hk) trivial (Below.refl _ _) (Nat.le_refl _) (by simp) ?_; (case hd => rfl); (case hg => rfl); (case hr => first | (go_simp; done) | (go_simp; rfl)); (case hp => exact (Reps.one (show Kd.M Kd.string _ _ _ (⟨#[65]⟩ : ByteArray) [.string (⟨#[65]⟩ : ByteArray)] from rfl) (Reps.one (show Kd.M Kd.string _ _ _ (⟨#[71, 80, 71, 71, 65, 44, 49]⟩ : ByteArray) [.string (⟨#[71, 80, 71, 71, 65, 44, 49]⟩ : ByteArray)] from rfl) (Reps.one (show Kd.M Kd.string _ _ _ (⟨#[84, 73, 77, 69, 32, 49, 50]⟩ : ByteArray) [.string (⟨#[84, 73, 77, 69, 32, 49, 50]⟩ : ByteArray)] from rfl) (Reps.one (show Kd.M Kd.string _ _ _ (⟨#[97, 98, 99]⟩ : ByteArray) [.string (⟨#[97, 98, 99]⟩ : ByteArray)] from rfl) (Reps.one (show Kd.M Kd.string _ _ _ (⟨#[48]⟩ : ByteArray) [.string (⟨#[48]⟩ : ByteArray)] from rfl) (Reps.one (show Kd.M Kd.string _ _ _ (⟨#[126, 32, 126]⟩ : ByteArray) [.string (⟨#[126, 32, 126]⟩ : ByteArray)] from rfl) (Reps.one (show Kd.M Kd.string _ _ _ (⟨#[]⟩ : ByteArray) [.string (⟨#[]⟩ : ByteArray)] from rfl) (Reps.one (show Kd.M Kd.string _ _ _ (⟨#[97, 36, 98]⟩ : ByteArray) [.string (⟨#[97, 36, 98]⟩ : ByteArray)] from rfl) (Reps.one (show Kd.M Kd.string _ _ _ (⟨#[97, 42, 98]⟩ : ByteArray) [.string (⟨#[97, 42, 98]⟩ : ByteArray)] from rfl) (Reps.one (show Kd.M Kd.string _ _ _ (⟨#[48, 49, 50, 51, 52, 53, 54, 55, 56, 57, 48, 49, 50, 51, 52, 53, 54, 55, 56, 57, 48, 49, 50, 51, 52, 53, 54, 55, 56, 57, 48, 49, 50, 51, 52, 53, 54, 55, 56, 57, 48]⟩ : ByteArray) [.string (⟨#[48, 49, 50, 51, 52, 53, 54, 55, 56, 57, 48, 49, 50, 51, 52, 53, 54, 55, 56, 57, 48, 49, 50, 51, 52, 53, 54, 55, 56, 57, 48, 49, 50, 51, 52, 53, 54, 55, 56, 57, 48]⟩ : ByteArray)] from rfl) (Reps.one (show Kd.M Kd.string _ _ _ (⟨#[70, 73, 88]⟩ : ByteArray) [.string (⟨#[70, 73, 88]⟩ : ByteArray)] from rfl) (Reps.none _ _))))))))))))); intro v140 w19 ho20 hb hg_ hnew_; clear hg_ hnew_; (first | rw [← Ny139.out] at ho20 | (simp only [Int.reduceToNat] at ho20; rw [← Ny139.out] at ho20)); have n0_ := Aside0.mk (Kd.R_lower ho20 (keep_size (w := w) (g := g) (row := none) (by repeat (first | (with_reducible first | exact HK.out | apply KeepBut.set_ | apply keep_drewN | apply keep_drew | apply keep_alloc) | exact HK.out)))); have n1_ := Aside0.mk (IsS61.below (by repeat (first | (with_reducible first | exact HI0.out | apply IsS61.alloc | apply IsS61.drewN | apply IsS61.drew | apply IsS61.set_1) | exact HI0.out)) hb); have n2_ := Aside0.mk (KeepBut.trans (by repeat (first | (with_reducible first | exact HK.out | apply KeepBut.set_ | apply keep_drewN | apply keep_drew | apply keep_alloc) | exact HK.out)) (KeepBut.of_below hb g none) (.inl rfl)); have n3_ := Aside0.mk (below_step (by repeat (first | (with_reducible first | exact HB.out | apply below_alloc | apply pw_below_drewN | apply below_drew1 | refine below_set ?_ (IsS61.ge HI0.out)) | exact HB.out)) hb); clear HI0; clear HK; clear HB; have HO141 := n0_; have HI0 := n1_; have HK := n2_; have HB := n3_; clear n0_ n1_ n2_ n3_; clear hb ho20; obtain ⟨Ao21, co21, eo21⟩ := Kd.R_slice HO141.out; subst eo21) | ((with_reducible refine gate_callee (f := 73) rfl ?_); refine goesL_ (some 25) rfl rfl Try.func73 (by kernel_rfl) rfl #[.pointer (some ⟨g, 0, none⟩), .slice Ao21 y139.length co21] rfl (by (try simp only [List.map_toArray, List.map_cons, List.map_nil]); first | done | rfl | (simp only [List.length_drop, List.length_take]; rfl)) ?_; (with_reducible refine (spec_reader_of.calls k g s0_0 t127 _ _ y139 t142 t143 w0 _ ?side1 ?side2 ?side3 ?side4 ?side5 A17.out).mono ?_); (case side1 => repeat (first | (with_reducible first | exact HI0.out | apply IsS61.alloc | apply IsS61.drewN | apply IsS61.drew | apply IsS61.set_1) | exact HI0.out)); (case side2 => repeat (first | (with_reducible first | exact HB.out | apply below_alloc | apply pw_below_drewN | apply below_drew1 | refine below_set ?_ (IsS61.ge HI0.out)) | exact HB.out)); (case side3 => repeat (first | exact (Kd.R_reads' HO141.out).2.2 | (with_reducible refine Kd.C_alloc ?_ _) | (with_reducible refine Kd.C_drewN ?_ _) | (with_reducible refine Kd.C_drew ?_))); (case side4 => exact (Kd.R_reads' HO141.out).2.1); (case side5 => exact far_slice (IsS61.own_ne HI0.out HO141.out (by decide))); rintro e w22 ⟨rfl, hi, hb, hk⟩; refine ⟨_, rfl, ?_⟩; have n0_ := Aside0.mk (Kd.R_mono (Kd.R_keep (IsS61.apart (show IsS61 w0 _ g s0_0 t127 from by repeat (first | (with_reducible first | exact HI0.out | apply IsS61.alloc | apply IsS61.drewN | apply IsS61.drew | apply IsS61.set_1) | exact HI0.out)) (by (with_reducible repeat (first | apply Kd.R_alloc | apply Kd.R_drewN | apply Kd.R_drew)); exact HO141.out) (by decide)) hk (fun _ h => h.2)) (fun _ h => h.1)); have n1_ := Aside0.mk (KeepBut.trans (by repeat (first | (with_reducible first | exact HK.out | apply KeepBut.set_ | apply keep_drewN | apply keep_drew | apply keep_alloc) | exact HK.out)) hk (.inl rfl)); have n2_ := Aside0.mk (hb); have n3_ := Aside0.mk (hi); clear HO141; clear HK; clear HB; clear HI0; have HO141 := n0_; have HK := n1_; have HB := n2_; have HI0 := n3_; clear n0_ n1_ n2_ n3_; (try clear hb); (try clear hb2); (try clear hk); (try clear hi)))
    go_ret
    exact ⟨by first | rfl | (simp [errW_none, errW_some] <;> rfl) | (simp [*, errW_none, errW_some] <;> rfl) | (refine congrArg (fun b_ => Ending.returned (Value.bool b_)) (decide_eq_decide.2 ?_); unfold wrap64; omega), by repeat (first | (with_reducible first | exact HI0.out | apply IsS61.alloc | apply IsS61.drewN | apply IsS61.drew | apply IsS61.set_1) | exact HI0.out), by repeat (first | (with_reducible first | exact HB.out | apply below_alloc | apply pw_below_drewN | apply below_drew1 | refine below_set ?_ (IsS61.ge HI0.out)) | exact HB.out), by repeat (first | (with_reducible first | exact HK.out | apply KeepBut.set_ | apply keep_drewN | apply keep_drew | apply keep_alloc) | exact HK.out)⟩

/-! ### spec_DrawChecksumOf: function 27 -/
def spec_DrawChecksumOf.f (k : Nat) (l0 : List Int) : Option (ByteArray) := (spec_newReader.f l0).bind fun bt144 => ((spec_someBody.f k bt144.1 bt144.2).bind fun bt147 => (some bt147.1))
theorem spec_DrawChecksumOf.mono : ∀ a0 k, LeO (spec_DrawChecksumOf.f k a0) (spec_DrawChecksumOf.f (k + 1) a0) := by
  intro a0 k
  unfold spec_DrawChecksumOf.f
  repeat' first
      | (with_reducible exact spec_someBody.mono _ _ _)
      | (with_reducible exact LeO.refl _)
      | (with_reducible exact LeO.none _)
      | (with_reducible refine LeO.ite ?_ ?_)
      | (with_reducible refine LeO.bind ?_ (fun _ => ?_))
      | exact spec_someBody.mono _ _ _
      | exact LeO.none _
      | refine LeO.ite ?_ ?_
      | refine LeO.bind ?_ (fun _ => ?_)
set_option maxHeartbeats 8000000 in
set_option maxRecDepth 100000 in
theorem spec_DrawChecksumOf.calls (k : Nat) (A0 : Option Addr) (c0 : Nat) (l0 : List Int) (r : ByteArray) (w : World) (hr0 : Kd.C (Kd.int .u8) w A0 l0.length l0) (hc0 : l0.length ≤ c0) (h : spec_DrawChecksumOf.f k l0 = some r) :
    Calls Try.prog 27 #[.slice A0 l0.length c0] w fun e w' => e = .returned (.string r) ∧ Below w.heap.size w w' := by
  have HR0 := Aside0.mk hr0
  have HC0 := Aside0.mk hc0
  clear hr0 hc0
  have HB := Aside0.mk (Below.refl w.heap.size w)
  have H : ((spec_newReader.f l0).bind fun bt144 => ((spec_someBody.f k bt144.1 bt144.2).bind fun bt147 => (some bt147.1))) = some r := h
  clear h
  replace H := Option.bind_eq_some_iff.mp H
  obtain ⟨⟨t144, t145⟩, A20, H⟩ := H
  replace H : ((spec_someBody.f k t144 t145).bind fun bt147 => (some bt147.1)) = some r := H
  have A2 := Aside0.mk A20
  clear A20
  replace H := Option.bind_eq_some_iff.mp H
  obtain ⟨⟨t147, t148⟩, A30, H⟩ := H
  replace H : (some t147) = some r := H
  have A3 := Aside0.mk A30
  clear A30
  obtain rfl := Option.some.inj H
  go_enter Try.func27, Try.ntmps27
  go_wp2_with (first | ((with_reducible refine gate_callee (f := 46) rfl ?_); refine goesL_ (some 4) rfl rfl Try.func46 (by kernel_rfl) rfl #[.slice A0 l0.length c0] rfl (by (try simp only [List.map_toArray, List.map_cons, List.map_nil]); first | done | rfl | (simp only [List.length_drop, List.length_take]; rfl)) ?_; (with_reducible refine (spec_newReader.calls _ _ l0 t144 t145 w _ ?side1 ?side2 ?side3 A2.out).mono ?_); (case side1 => repeat (first | (with_reducible first | exact HB.out | apply below_alloc | apply pw_below_drewN | apply below_drew1) | exact HB.out)); (case side2 => exact HR0.out); (case side3 => exact HC0.out); rintro e w4 ⟨g146, rfl, hi, hb, hb2⟩; refine ⟨_, rfl, ?_⟩; have n0_ := Aside0.mk (hb); have n1_ := Aside0.mk (hi); clear HB; have HB := n0_; have HI146 := n1_; clear n0_ n1_; (try clear hb); (try clear hb2); (try clear hk); (try clear hi)) | ((with_reducible refine gate_callee (f := 57) rfl ?_); refine goesL_ (some 5) rfl rfl Try.func57 (by kernel_rfl) rfl #[.pointer (some ⟨g146, 0, none⟩)] rfl (by (try simp only [List.map_toArray, List.map_cons, List.map_nil]); first | done | rfl | (simp only [List.length_drop, List.length_take]; rfl)) ?_; (with_reducible refine (spec_someBody.calls k g146 t144 t145 t147 t148 w _ ?side1 ?side2 A3.out).mono ?_); (case side1 => repeat (first | (with_reducible first | exact HI146.out | apply IsS61.alloc | apply IsS61.drewN | apply IsS61.drew | apply IsS61.set_1) | exact HI146.out)); (case side2 => repeat (first | (with_reducible first | exact HB.out | apply below_alloc | apply pw_below_drewN | apply below_drew1 | refine below_set ?_ (IsS61.ge HI146.out)) | exact HB.out)); rintro e w5 ⟨rfl, hi, hb, hk⟩; refine ⟨_, rfl, ?_⟩; have n0_ := Aside0.mk (hb); have n1_ := Aside0.mk (hi); clear HB; clear HI146; have HB := n0_; have HI146 := n1_; clear n0_ n1_; (try clear hb); (try clear hb2); (try clear hk); (try clear hi)))
  go_ret
  exact ⟨by first | rfl | (simp [errW_none, errW_some] <;> rfl) | (simp [*, errW_none, errW_some] <;> rfl) | (refine congrArg (fun b_ => Ending.returned (Value.bool b_)) (decide_eq_decide.2 ?_); unfold wrap64; omega), by repeat (first | (with_reducible first | exact HB.out | apply below_alloc | apply pw_below_drewN | apply below_drew1 | refine below_set ?_ (IsS61.ge HI146.out)) | exact HB.out)⟩

/-! ### impl_within: function 47 -/
def impl_within.f (a0 : Int) (a1 : Int) (a2 : Int) : Option (Bool) := if a0 ≥ a1 then (some (decide (a0 ≤ a2))) else (some false)
set_option maxHeartbeats 8000000 in
set_option maxRecDepth 100000 in
theorem impl_within.calls (a0 : Int) (a1 : Int) (a2 : Int) (r : Bool) (w : World) (h : impl_within.f a0 a1 a2 = some r) :
    Calls Try.prog 47 #[.int .i64 a0, .int .i64 a1, .int .i64 a2] w fun e w' => e = .returned (.bool r) ∧ Drawn0 w w' := by
  have H : (if a0 ≥ a1 then (some (decide (a0 ≤ a2))) else (some false)) = some r := h
  clear h
  by_cases c4 : a0 ≥ a1
  · rw [if_pos c4] at H
    have c4b0 : decide (a1 ≤ a0) = true := decide_eq_true c4
    clear c4
    obtain rfl := Option.some.inj H
    go_enter Try.func47, Try.ntmps47
    go_wp2
    go_ret
    exact ⟨by first | rfl | (simp; done) | (simp [*]; done), by repeat (first | exact Drawn0.refl _ | apply Drawn0.step)⟩
  · rw [if_neg c4] at H
    have c4b0 : decide (a1 ≤ a0) = false := decide_eq_false c4
    clear c4
    obtain rfl := Option.some.inj H
    go_enter Try.func47, Try.ntmps47
    go_wp2
    go_ret
    exact ⟨by first | rfl | (simp; done) | (simp [*]; done), by repeat (first | exact Drawn0.refl _ | apply Drawn0.step)⟩

/-! ### impl_ChecksumOf: function 28 -/
def impl_ChecksumOf.l0 : Nat → ByteArray → Int → Int → Int → Option (Int)
  | 0, _, _, _, _ => none
  | k + 1, x0, x3, x10, x11 => if x11 < x10 then (if 0 ≤ x11 then (if x11 < (x0.size : Int) then (if (bt x0 x11) < 32 then (some (-1)) else (if (bt x0 x11) > 126 then (some (-1)) else (if (bt x0 x11) = 36 then (some (-1)) else (if (bt x0 x11) = 42 then (some (-1)) else (impl_ChecksumOf.l0 k x0 (Go.bits .xor .i64 x3 (wrap64 (bt x0 x11))) x10 (wrap64 (x11 + 1))))))) else (none)) else (none)) else (some x3)
def impl_ChecksumOf.f (k : Nat) (a0 : ByteArray) : Option (Int) := (impl_within.f (a0.size : Int) 1 40).bind fun t149 => (if t149 = true then (impl_ChecksumOf.l0 k a0 0 (a0.size : Int) 0) else (some (-1)))
theorem impl_ChecksumOf.mono_l : ∀ k, (∀ y0 y1 y2 y3, LeO (impl_ChecksumOf.l0 k y0 y1 y2 y3) (impl_ChecksumOf.l0 (k + 1) y0 y1 y2 y3))
  | 0 => fun _ _ _ _ r h => by simp [impl_ChecksumOf.l0] at h
  | k + 1 => by
    have ih0 := impl_ChecksumOf.mono_l k
    · intro y0 y1 y2 y3
      unfold impl_ChecksumOf.l0
      repeat' first
      | (with_reducible exact ih0 _ _ _ _)
      | (with_reducible exact LeO.refl _)
      | (with_reducible exact LeO.none _)
      | (with_reducible refine LeO.ite ?_ ?_)
      | (with_reducible refine LeO.bind ?_ (fun _ => ?_))
      | exact ih0 _ _ _ _
      | exact LeO.none _
      | refine LeO.ite ?_ ?_
      | refine LeO.bind ?_ (fun _ => ?_)
theorem impl_ChecksumOf.mono : ∀ a0 k, LeO (impl_ChecksumOf.f k a0) (impl_ChecksumOf.f (k + 1) a0) := by
  intro a0 k
  have ih0 := impl_ChecksumOf.mono_l k
  unfold impl_ChecksumOf.f
  repeat' first
      | (with_reducible exact ih0 _ _ _ _)
      | (with_reducible exact LeO.refl _)
      | (with_reducible exact LeO.none _)
      | (with_reducible refine LeO.ite ?_ ?_)
      | (with_reducible refine LeO.bind ?_ (fun _ => ?_))
      | exact ih0 _ _ _ _
      | exact LeO.none _
      | refine LeO.ite ?_ ?_
      | refine LeO.bind ?_ (fun _ => ?_)
set_option maxHeartbeats 8000000 in
set_option maxRecDepth 100000 in
theorem impl_ChecksumOf.calls (k : Nat) (a0 : ByteArray) (r : Int) (w : World) (h : impl_ChecksumOf.f k a0 = some r) :
    Calls Try.prog 28 #[.string a0] w fun e w' => e = .returned (.int .i64 r) ∧ Drawn0 w w' := by
  have H : ((impl_within.f (a0.size : Int) 1 40).bind fun t149 => (if t149 = true then (impl_ChecksumOf.l0 k a0 0 (a0.size : Int) 0) else (some (-1)))) = some r := h
  clear h
  replace H := Option.bind_eq_some_iff.mp H
  obtain ⟨t149, A20, H⟩ := H
  replace H : (if t149 = true then (impl_ChecksumOf.l0 k a0 0 (a0.size : Int) 0) else (some (-1))) = some r := H
  have A2 := Aside0.mk A20
  clear A20
  by_cases c3 : t149 = true
  · subst c3
    have H1 : (impl_ChecksumOf.l0 k a0 0 (a0.size : Int) 0) = some r := by rw [if_pos rfl] at H; exact H
    clear H
    have H := H1
    clear H1
    have H' := Aside0.mk H
    clear H
    go_enter Try.func28, Try.ntmps28
    go_wp2_with (first | ((with_reducible refine gate_callee (f := 47) rfl ?_); refine goesL_ (some 7) rfl rfl Try.func47 (by kernel_rfl) rfl #[.int .i64 (a0.size : Int), .int .i64 1, .int .i64 40] rfl (by (try simp only [List.map_toArray, List.map_cons, List.map_nil]); first | done | rfl | (simp only [List.length_drop, List.length_take]; rfl)) ?_; (with_reducible refine (impl_within.calls (a0.size : Int) 1 40 true _ A2.out).mono ?_); rintro e w' ⟨rfl, ⟨nd, rfl⟩⟩; refine ⟨_, rfl, ?_⟩))
    go_loopg [3, 11] k (fun kq v3 v11 w' => ∃ (x3_1 : Int) (x11_1 : Int), v3 = .int .i64 x3_1 ∧ v11 = .int .i64 x11_1 ∧ Aside0 (impl_ChecksumOf.l0 kq a0 x3_1 (a0.size : Int) x11_1 = some r) ∧ Aside0 (kq ≤ k) ∧ Drawn0 w w')
    case atStart => exact ⟨(0), (0), (by first | rfl | (simp; done) | (simp [*]; done)), (by first | rfl | (simp; done) | (simp [*]; done)), H', ⟨Nat.le_refl _⟩, by repeat (first | exact Drawn0.refl _ | apply Drawn0.step)⟩
    case round =>
      clear H'
      try clear c2
      try clear p2
      try clear c3
      obtain ⟨x3_1, x11_1, rfl, rfl, HA, HK1, ⟨m1, rfl⟩⟩ := hrel
      cases gk with
      | zero => exact absurd HA.out (by simp [impl_ChecksumOf.l0])
      | succ k1 =>
        have H := HA.out
        clear HA
        simp only [impl_ChecksumOf.l0] at H
        by_cases c4 : x11_1 < (a0.size : Int)
        · rw [if_pos c4] at H
          have c4b0 : decide (x11_1 < (a0.size : Int)) = true := decide_eq_true c4
          clear c4
          by_cases c5 : 0 ≤ x11_1
          · rw [if_pos c5] at H
            have c5b0 : decide (0 ≤ x11_1) = true := decide_eq_true c5
            clear c5
            by_cases c6 : x11_1 < (a0.size : Int)
            · rw [if_pos c6] at H
              have c6b0 : decide (x11_1 < (a0.size : Int)) = true := decide_eq_true c6
              clear c6
              by_cases c8 : (bt a0 x11_1) < 32
              · rw [if_pos c8] at H
                have c8b0 : decide ((bt a0 x11_1) < 32) = true := decide_eq_true c8
                clear c8
                obtain rfl := Option.some.inj H
                have p7 : 0 ≤ (x11_1 : Int) := of_decide_eq_true (by first | (with_reducible assumption) | assumption)
                have q7 : x11_1 < (a0.size : Int) := of_decide_eq_true (by first | (with_reducible assumption) | assumption)
                have hx7 := bt_at a0 x11_1
                replace p7 := eq_true p7
                replace q7 := eq_true q7
                go_wp2
                go_ret
                exact ⟨by first | rfl | (simp; done) | (simp [*]; done), by repeat (first | exact Drawn0.refl _ | apply Drawn0.step)⟩
              · rw [if_neg c8] at H
                have c8b0 : decide ((bt a0 x11_1) < 32) = false := decide_eq_false c8
                clear c8
                by_cases c10 : (bt a0 x11_1) > 126
                · rw [if_pos c10] at H
                  have c10b0 : decide (126 < (bt a0 x11_1)) = true := decide_eq_true c10
                  clear c10
                  obtain rfl := Option.some.inj H
                  have p7 : 0 ≤ (x11_1 : Int) := of_decide_eq_true (by first | (with_reducible assumption) | assumption)
                  have q7 : x11_1 < (a0.size : Int) := of_decide_eq_true (by first | (with_reducible assumption) | assumption)
                  have hx7 := bt_at a0 x11_1
                  replace p7 := eq_true p7
                  replace q7 := eq_true q7
                  have p9 : 0 ≤ (x11_1 : Int) := of_decide_eq_true (by first | (with_reducible assumption) | assumption)
                  have q9 : x11_1 < (a0.size : Int) := of_decide_eq_true (by first | (with_reducible assumption) | assumption)
                  have hx9 := bt_at a0 x11_1
                  replace p9 := eq_true p9
                  replace q9 := eq_true q9
                  go_wp2
                  go_ret
                  exact ⟨by first | rfl | (simp; done) | (simp [*]; done), by repeat (first | exact Drawn0.refl _ | apply Drawn0.step)⟩
                · rw [if_neg c10] at H
                  have c10b0 : decide (126 < (bt a0 x11_1)) = false := decide_eq_false c10
                  clear c10
                  by_cases c12 : (bt a0 x11_1) = 36
                  · rw [if_pos c12] at H
                    have c12b0 : ((bt a0 x11_1) == 36) = true := beq_iff_eq.mpr c12
                    have c12b1 : ((bt a0 x11_1) != 36) = false := bne_eq_false_iff_eq.mpr c12
                    clear c12
                    obtain rfl := Option.some.inj H
                    have p7 : 0 ≤ (x11_1 : Int) := of_decide_eq_true (by first | (with_reducible assumption) | assumption)
                    have q7 : x11_1 < (a0.size : Int) := of_decide_eq_true (by first | (with_reducible assumption) | assumption)
                    have hx7 := bt_at a0 x11_1
                    replace p7 := eq_true p7
                    replace q7 := eq_true q7
                    have p9 : 0 ≤ (x11_1 : Int) := of_decide_eq_true (by first | (with_reducible assumption) | assumption)
                    have q9 : x11_1 < (a0.size : Int) := of_decide_eq_true (by first | (with_reducible assumption) | assumption)
                    have hx9 := bt_at a0 x11_1
                    replace p9 := eq_true p9
                    replace q9 := eq_true q9
                    have p11 : 0 ≤ (x11_1 : Int) := of_decide_eq_true (by first | (with_reducible assumption) | assumption)
                    have q11 : x11_1 < (a0.size : Int) := of_decide_eq_true (by first | (with_reducible assumption) | assumption)
                    have hx11 := bt_at a0 x11_1
                    replace p11 := eq_true p11
                    replace q11 := eq_true q11
                    go_wp2
                    go_ret
                    exact ⟨by first | rfl | (simp; done) | (simp [*]; done), by repeat (first | exact Drawn0.refl _ | apply Drawn0.step)⟩
                  · rw [if_neg c12] at H
                    have c12b0 : ((bt a0 x11_1) == 36) = false := beq_eq_false_iff_ne.mpr c12
                    have c12b1 : ((bt a0 x11_1) != 36) = true := bne_iff_ne.mpr c12
                    by_cases c14 : (bt a0 x11_1) = 42
                    · rw [if_pos c14] at H
                      have c14b0 : ((bt a0 x11_1) == 42) = true := beq_iff_eq.mpr c14
                      have c14b1 : ((bt a0 x11_1) != 42) = false := bne_eq_false_iff_eq.mpr c14
                      clear c14
                      obtain rfl := Option.some.inj H
                      have p7 : 0 ≤ (x11_1 : Int) := of_decide_eq_true (by first | (with_reducible assumption) | assumption)
                      have q7 : x11_1 < (a0.size : Int) := of_decide_eq_true (by first | (with_reducible assumption) | assumption)
                      have hx7 := bt_at a0 x11_1
                      replace p7 := eq_true p7
                      replace q7 := eq_true q7
                      have p9 : 0 ≤ (x11_1 : Int) := of_decide_eq_true (by first | (with_reducible assumption) | assumption)
                      have q9 : x11_1 < (a0.size : Int) := of_decide_eq_true (by first | (with_reducible assumption) | assumption)
                      have hx9 := bt_at a0 x11_1
                      replace p9 := eq_true p9
                      replace q9 := eq_true q9
                      have p11 : 0 ≤ (x11_1 : Int) := of_decide_eq_true (by first | (with_reducible assumption) | assumption)
                      have q11 : x11_1 < (a0.size : Int) := of_decide_eq_true (by first | (with_reducible assumption) | assumption)
                      have hx11 := bt_at a0 x11_1
                      replace p11 := eq_true p11
                      replace q11 := eq_true q11
                      have p13 : 0 ≤ (x11_1 : Int) := of_decide_eq_true (by first | (with_reducible assumption) | assumption)
                      have q13 : x11_1 < (a0.size : Int) := of_decide_eq_true (by first | (with_reducible assumption) | assumption)
                      have hx13 := bt_at a0 x11_1
                      replace p13 := eq_true p13
                      replace q13 := eq_true q13
                      go_wp2
                      go_ret
                      exact ⟨by first | rfl | (simp; done) | (simp [*]; done), by repeat (first | exact Drawn0.refl _ | apply Drawn0.step)⟩
                    · rw [if_neg c14] at H
                      have c14b0 : ((bt a0 x11_1) == 42) = false := beq_eq_false_iff_ne.mpr c14
                      have c14b1 : ((bt a0 x11_1) != 42) = true := bne_iff_ne.mpr c14
                      have H' := Aside0.mk H
                      clear H
                      have p7 : 0 ≤ (x11_1 : Int) := of_decide_eq_true (by first | (with_reducible assumption) | assumption)
                      have q7 : x11_1 < (a0.size : Int) := of_decide_eq_true (by first | (with_reducible assumption) | assumption)
                      have hx7 := bt_at a0 x11_1
                      replace p7 := eq_true p7
                      replace q7 := eq_true q7
                      have p9 : 0 ≤ (x11_1 : Int) := of_decide_eq_true (by first | (with_reducible assumption) | assumption)
                      have q9 : x11_1 < (a0.size : Int) := of_decide_eq_true (by first | (with_reducible assumption) | assumption)
                      have hx9 := bt_at a0 x11_1
                      replace p9 := eq_true p9
                      replace q9 := eq_true q9
                      have p11 : 0 ≤ (x11_1 : Int) := of_decide_eq_true (by first | (with_reducible assumption) | assumption)
                      have q11 : x11_1 < (a0.size : Int) := of_decide_eq_true (by first | (with_reducible assumption) | assumption)
                      have hx11 := bt_at a0 x11_1
                      replace p11 := eq_true p11
                      replace q11 := eq_true q11
                      have p13 : 0 ≤ (x11_1 : Int) := of_decide_eq_true (by first | (with_reducible assumption) | assumption)
                      have q13 : x11_1 < (a0.size : Int) := of_decide_eq_true (by first | (with_reducible assumption) | assumption)
                      have hx13 := bt_at a0 x11_1
                      replace p13 := eq_true p13
                      replace q13 := eq_true q13
                      have p15 : 0 ≤ (x11_1 : Int) := of_decide_eq_true (by first | (with_reducible assumption) | assumption)
                      have q15 : x11_1 < (a0.size : Int) := of_decide_eq_true (by first | (with_reducible assumption) | assumption)
                      have hx15 := bt_at a0 x11_1
                      replace p15 := eq_true p15
                      replace q15 := eq_true q15
                      go_wp2
                      go_roundg k1
                      case measure => have := HK1.out; omega
                      case rel => exact ⟨(Go.bits .xor .i64 x3_1 (wrap64 (bt a0 x11_1))), (wrap64 (x11_1 + 1)), (by first | rfl | (simp; done) | (simp [*]; done)), (by first | rfl | (simp; done) | (simp [*]; done)), H', ⟨by have := HK1.out; omega⟩, by repeat (first | exact Drawn0.refl _ | apply Drawn0.step)⟩
            · rw [if_neg c6] at H
              exact absurd H (by simp)
          · rw [if_neg c5] at H
            exact absurd H (by simp)
        · rw [if_neg c4] at H
          have c4b0 : decide (x11_1 < (a0.size : Int)) = false := decide_eq_false c4
          clear c4
          obtain rfl := Option.some.inj H
          go_wp2
          go_ret
          exact ⟨by first | rfl | (simp; done) | (simp [*]; done), by repeat (first | exact Drawn0.refl _ | apply Drawn0.step)⟩
  · replace c3 := Bool.eq_false_iff.mpr c3
    subst c3
    have H1 : (some (-1)) = some r := by rw [if_neg (show ¬ (false = true) by decide)] at H; exact H
    clear H
    have H := H1
    clear H1
    obtain rfl := Option.some.inj H
    go_enter Try.func28, Try.ntmps28
    go_wp2_with (first | ((with_reducible refine gate_callee (f := 47) rfl ?_); refine goesL_ (some 7) rfl rfl Try.func47 (by kernel_rfl) rfl #[.int .i64 (a0.size : Int), .int .i64 1, .int .i64 40] rfl (by (try simp only [List.map_toArray, List.map_cons, List.map_nil]); first | done | rfl | (simp only [List.length_drop, List.length_take]; rfl)) ?_; (with_reducible refine (impl_within.calls (a0.size : Int) 1 40 false _ A2.out).mono ?_); rintro e w' ⟨rfl, ⟨nd, rfl⟩⟩; refine ⟨_, rfl, ?_⟩))
    go_ret
    exact ⟨by first | rfl | (simp; done) | (simp [*]; done), by repeat (first | exact Drawn0.refl _ | apply Drawn0.step)⟩

end Go.Proofs.Ytgllbobinbhojaa.HFnChecksumOf
