/- Proved here, over numbers and lists alone: the law FnExactMonthDays answers true at every input (the program's MonthDays returns what the reference's returns, for all arguments.) Conditions: none beyond the sizes that the row itself gives. -/
import Derived.Test.YtkkkhfeljhbecaaPFnExactMonthDaysx1
namespace Go.Proofs.Ytkkkhfeljhbecaa.Pure
open Go.RowKit Go.Proofs.Ytkkkhfeljhbecaa.PFnExactMonthDays Go.Proofs.YtkkkhfeljhbecaaW.PrintWords Go.Proofs.YtkkkhfeljhbecaaW.PrintLast

theorem tmodp {a : Int} (h : 0 ≤ a) (b : Int) : Int.tmod a b = a % b := Int.tmod_eq_emod_of_nonneg h

theorem within_eq (n lo hi : Int) : impl_within.f n lo hi = some (decide (lo ≤ n ∧ n ≤ hi)) := by
  unfold impl_within.f
  by_cases h : lo ≤ n
  · rw [if_pos h]; simp [h]
  · rw [if_neg h]; simp [h]

theorem inRange_eq (n lo hi : Int) : spec_inRange.f n lo hi = some (decide (lo ≤ n ∧ n ≤ hi)) := by
  unfold spec_inRange.f
  by_cases h : lo ≤ n
  · rw [if_pos h]; simp [h]
  · rw [if_neg h]; simp [h]

theorem ite_dec {α : Type} {p : Prop} [Decidable p] {a b : α} : (if decide p = true then a else b) = if p then a else b := by
  by_cases h : p <;> simp [h]

def vLeap (y : Int) : Bool := decide (1980 ≤ y ∧ y ≤ 2099 ∧ y % 4 = 0)

theorem impl_IsLeapYear_eq (y : Int) : impl_IsLeapYear.f y = some (vLeap y) := by
  unfold impl_IsLeapYear.f vLeap
  rw [within_eq, Option.bind_some, ite_dec]
  by_cases h : 1980 ≤ y ∧ y ≤ 2099
  · rw [if_pos h, tmodp (by omega), tmodp (by omega), tmodp (by omega)]
    by_cases h4 : y % 4 = 0
    · rw [if_pos h4]
      by_cases h100 : y % 100 = 0
      · rw [if_pos h100]
        have e : y = 2000 := by omega
        subst e
        rfl
      · rw [if_neg h100]
        simp [h, h4]
    · rw [if_neg h4]
      have h400 : ¬ y % 400 = 0 := by omega
      simp [h4, h400]
  · rw [if_neg h]
    congr 1
    symm
    rw [decide_eq_false_iff_not]
    omega

theorem spec_leap_eq {y : Int} (h0 : 1980 ≤ y) (h1 : y ≤ 2099) : spec_leap.f y = some (decide (y % 4 = 0)) := by
  unfold spec_leap.f
  rw [tmodp (by omega), tmodp (by omega), tmodp (by omega)]
  by_cases h4 : y % 4 = 0
  · rw [if_pos h4]
    by_cases h100 : y % 100 = 0
    · rw [if_pos h100]
      have e : y = 2000 := by omega
      subst e
      rfl
    · rw [if_neg h100]
      simp [h4]
  · rw [if_neg h4]
    have h400 : ¬ y % 400 = 0 := by omega
    simp [h4, h400]

def MD (y m : Int) : Int := if m = 2 then (if y % 4 = 0 then 29 else 28) else if m = 4 ∨ m = 6 ∨ m = 9 ∨ m = 11 then 30 else 31

def vMD (y m : Int) : Int := if (1980 ≤ y ∧ y ≤ 2099) ∧ 1 ≤ m ∧ m ≤ 12 then MD y m else -1

theorem twelve {m : Int} (h0 : 1 ≤ m) (h1 : m ≤ 12) : m = 1 ∨ m = 2 ∨ m = 3 ∨ m = 4 ∨ m = 5 ∨ m = 6 ∨ m = 7 ∨ m = 8 ∨ m = 9 ∨ m = 10 ∨ m = 11 ∨ m = 12 := by omega

theorem spec_monthDays_eq {y m : Int} (h0 : 1980 ≤ y) (h1 : y ≤ 2099) (h2 : 1 ≤ m) (h3 : m ≤ 12) : spec_monthDays.f y m = some (MD y m) := by
  unfold spec_monthDays.f
  rw [Option.bind_some, spec_leap_eq h0 h1]
  by_cases h4 : y % 4 = 0 <;> rcases twelve h2 h3 with rfl | rfl | rfl | rfl | rfl | rfl | rfl | rfl | rfl | rfl | rfl | rfl <;> simp [wrap64, rd, MD, h4]

theorem spec_MonthDays_eq (y m : Int) : spec_MonthDays.f y m = some (vMD y m) := by
  unfold spec_MonthDays.f vMD
  rw [inRange_eq, Option.bind_some, ite_dec, inRange_eq, Option.bind_some, ite_dec]
  by_cases h : 1980 ≤ y ∧ y ≤ 2099
  · rw [if_pos h]
    by_cases h2 : 1 ≤ m ∧ m ≤ 12
    · rw [if_pos h2, spec_monthDays_eq h.1 h.2 h2.1 h2.2, Option.bind_some, if_pos ⟨h, h2⟩]
    · rw [if_neg h2, if_neg (fun e => h2 e.2)]
  · rw [if_neg h, if_neg (fun e => h e.1)]

theorem impl_MonthDays_eq {k : Nat} (hk : 0 < k) (y m : Int) : impl_MonthDays.f k y m = some (vMD y m) := by
  obtain ⟨k, rfl⟩ : ∃ j, k = j + 1 := ⟨k - 1, by omega⟩
  unfold impl_MonthDays.f vMD
  rw [within_eq, Option.bind_some, ite_dec, within_eq, Option.bind_some]
  simp only [impl_MonthDays.j0]
  rw [impl_IsLeapYear_eq, Option.bind_some]
  by_cases h : 1980 ≤ y ∧ y ≤ 2099
  · rw [if_pos h]
    by_cases h2 : 1 ≤ m ∧ m ≤ 12
    · rw [if_neg (by rw [decide_eq_true h2]; decide), if_pos (c := (1980 ≤ y ∧ y ≤ 2099) ∧ 1 ≤ m ∧ m ≤ 12) ⟨h, h2⟩]
      by_cases h4 : y % 4 = 0 <;> rcases twelve h2.1 h2.2 with rfl | rfl | rfl | rfl | rfl | rfl | rfl | rfl | rfl | rfl | rfl | rfl <;> simp [MD, vLeap, h, h4]
    · rw [if_pos (by rw [decide_eq_false h2]; rfl), if_neg (c := (1980 ≤ y ∧ y ≤ 2099) ∧ 1 ≤ m ∧ m ≤ 12) (fun e => h2 e.2)]
  · rw [if_neg h, if_pos trivial, if_neg (c := (1980 ≤ y ∧ y ≤ 2099) ∧ 1 ≤ m ∧ m ≤ 12) (fun e => h e.1)]

theorem FnExactMonthDays : laws_FnExactMonthDays.Pure := by
  intro a b _ _
  refine ⟨1, ?_⟩
  unfold laws_FnExactMonthDays.f
  rw [impl_MonthDays_eq (by omega), spec_MonthDays_eq]
  simp

end Go.Proofs.Ytkkkhfeljhbecaa.Pure
