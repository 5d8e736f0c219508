/- Proved here, over numbers and lists alone: the law FnExactIsLeapYear answers true at every input (the program's IsLeapYear returns what the reference's returns, for all arguments.) Conditions: none beyond the sizes that the row itself gives. -/
import Derived.Test.YtkkkhfeljhbecaaPFnExactIsLeapYearx1
namespace Go.Proofs.Ytkkkhfeljhbecaa.Pure
open Go.RowKit Go.Proofs.Ytkkkhfeljhbecaa.PFnExactIsLeapYear Go.Proofs.YtkkkhfeljhbecaaW.PrintWords Go.Proofs.YtkkkhfeljhbecaaW.PrintLast

theorem tmodp {a : Int} (h : 0 ≤ a) (b : Int) : Int.tmod a b = a % b := Int.tmod_eq_emod_of_nonneg h

theorem within_eq (n lo hi : Int) : impl_within.f n lo hi = some (decide (lo ≤ n ∧ n ≤ hi)) := by
  unfold impl_within.f
  by_cases h : lo ≤ n
  · rw [if_pos h]; simp [h]
  · rw [if_neg h]; simp [h]

theorem inRange_eq (n lo hi : Int) : spec_inRange.f n lo hi = some (decide (lo ≤ n ∧ n ≤ hi)) := by
  unfold spec_inRange.f
  by_cases h : lo ≤ n
  · rw [if_pos h]; simp [h]
  · rw [if_neg h]; simp [h]

theorem ite_dec {α : Type} {p : Prop} [Decidable p] {a b : α} : (if decide p = true then a else b) = if p then a else b := by
  by_cases h : p <;> simp [h]

def vLeap (y : Int) : Bool := decide (1980 ≤ y ∧ y ≤ 2099 ∧ y % 4 = 0)

theorem impl_IsLeapYear_eq (y : Int) : impl_IsLeapYear.f y = some (vLeap y) := by
  unfold impl_IsLeapYear.f vLeap
  rw [within_eq, Option.bind_some, ite_dec]
  by_cases h : 1980 ≤ y ∧ y ≤ 2099
  · rw [if_pos h, tmodp (by omega), tmodp (by omega), tmodp (by omega)]
    by_cases h4 : y % 4 = 0
    · rw [if_pos h4]
      by_cases h100 : y % 100 = 0
      · rw [if_pos h100]
        have e : y = 2000 := by omega
        subst e
        rfl
      · rw [if_neg h100]
        simp [h, h4]
    · rw [if_neg h4]
      have h400 : ¬ y % 400 = 0 := by omega
      simp [h4, h400]
  · rw [if_neg h]
    congr 1
    symm
    rw [decide_eq_false_iff_not]
    omega

theorem spec_leap_eq {y : Int} (h0 : 1980 ≤ y) (h1 : y ≤ 2099) : spec_leap.f y = some (decide (y % 4 = 0)) := by
  unfold spec_leap.f
  rw [tmodp (by omega), tmodp (by omega), tmodp (by omega)]
  by_cases h4 : y % 4 = 0
  · rw [if_pos h4]
    by_cases h100 : y % 100 = 0
    · rw [if_pos h100]
      have e : y = 2000 := by omega
      subst e
      rfl
    · rw [if_neg h100]
      simp [h4]
  · rw [if_neg h4]
    have h400 : ¬ y % 400 = 0 := by omega
    simp [h4, h400]

theorem spec_IsLeapYear_eq (y : Int) : spec_IsLeapYear.f y = some (vLeap y) := by
  unfold spec_IsLeapYear.f vLeap
  rw [inRange_eq, Option.bind_some, ite_dec]
  by_cases h : 1980 ≤ y ∧ y ≤ 2099
  · rw [if_pos h, spec_leap_eq h.1 h.2, Option.bind_some]
    simp [h]
  · rw [if_neg h]
    congr 1
    symm
    rw [decide_eq_false_iff_not]
    omega

theorem FnExactIsLeapYear : laws_FnExactIsLeapYear.Pure := by
  intro a _
  unfold laws_FnExactIsLeapYear.f
  rw [impl_IsLeapYear_eq, spec_IsLeapYear_eq]
  simp

end Go.Proofs.Ytkkkhfeljhbecaa.Pure
