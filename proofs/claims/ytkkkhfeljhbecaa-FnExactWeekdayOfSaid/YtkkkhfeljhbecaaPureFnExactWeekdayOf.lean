/- Proved here, over numbers and lists alone: the law FnExactWeekdayOf answers true at every input (the program's WeekdayOf returns what the reference's returns, for all arguments.) Conditions: none beyond the sizes that the row itself gives. -/
import Derived.Test.YtkkkhfeljhbecaaPFnExactWeekdayOfx1
namespace Go.Proofs.Ytkkkhfeljhbecaa.Pure
open Go.RowKit Go.Proofs.Ytkkkhfeljhbecaa.PFnExactWeekdayOf Go.Proofs.YtkkkhfeljhbecaaW.PrintWords Go.Proofs.YtkkkhfeljhbecaaW.PrintLast

theorem w64 {n : Int} (h0 : -9223372036854775808 ≤ n) (h1 : n ≤ 9223372036854775807) : wrap64 n = n := by unfold wrap64; omega

theorem tmodp {a : Int} (h : 0 ≤ a) (b : Int) : Int.tmod a b = a % b := Int.tmod_eq_emod_of_nonneg h

theorem within_eq (n lo hi : Int) : impl_within.f n lo hi = some (decide (lo ≤ n ∧ n ≤ hi)) := by
  unfold impl_within.f
  by_cases h : lo ≤ n
  · rw [if_pos h]; simp [h]
  · rw [if_neg h]; simp [h]

theorem inRange_eq (n lo hi : Int) : spec_inRange.f n lo hi = some (decide (lo ≤ n ∧ n ≤ hi)) := by
  unfold spec_inRange.f
  by_cases h : lo ≤ n
  · rw [if_pos h]; simp [h]
  · rw [if_neg h]; simp [h]

theorem ite_dec {α : Type} {p : Prop} [Decidable p] {a b : α} : (if decide p = true then a else b) = if p then a else b := by
  by_cases h : p <;> simp [h]

def vWD (d : Int) : Int := if 0 ≤ d ∧ d ≤ 43829 then (d + 2) % 7 else -1

theorem spec_WeekdayOf_eq (d : Int) : spec_WeekdayOf.f d = some (vWD d) := by
  unfold spec_WeekdayOf.f vWD
  rw [inRange_eq, Option.bind_some, ite_dec]
  by_cases h : 0 ≤ d ∧ d ≤ 43829
  · rw [if_pos h, if_pos h, w64 (by omega) (by omega), tmodp (by omega)]
  · rw [if_neg h, if_neg h]

theorem impl_WeekdayOf_eq (d : Int) : impl_WeekdayOf.f d = some (vWD d) := by
  unfold impl_WeekdayOf.f vWD
  rw [within_eq, Option.bind_some, ite_dec]
  by_cases h : 0 ≤ d ∧ d ≤ 43829
  · rw [if_pos h, if_pos h, w64 (by omega) (by omega), tmodp (by omega)]
  · rw [if_neg h, if_neg h]

theorem FnExactWeekdayOf : laws_FnExactWeekdayOf.Pure := by
  intro a _
  unfold laws_FnExactWeekdayOf.f
  rw [impl_WeekdayOf_eq, spec_WeekdayOf_eq]
  simp

end Go.Proofs.Ytkkkhfeljhbecaa.Pure
