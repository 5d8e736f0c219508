/- Proved here, over numbers and lists alone: the law FnExactWeekOf answers true at every input (the program's WeekOf returns what the reference's returns, for all arguments.) Conditions: none beyond the sizes that the row itself gives. -/
import Derived.Test.YtkkkhfeljhbecaaPFnExactWeekOfx1
namespace Go.Proofs.Ytkkkhfeljhbecaa.Pure
open Go.RowKit Go.Proofs.Ytkkkhfeljhbecaa.PFnExactWeekOf Go.Proofs.YtkkkhfeljhbecaaW.PrintWords Go.Proofs.YtkkkhfeljhbecaaW.PrintLast

theorem w64 {n : Int} (h0 : -9223372036854775808 ≤ n) (h1 : n ≤ 9223372036854775807) : wrap64 n = n := by unfold wrap64; omega

theorem tdivp {a : Int} (h : 0 ≤ a) (b : Int) : Int.tdiv a b = a / b := Int.tdiv_eq_ediv_of_nonneg h

theorem within_eq (n lo hi : Int) : impl_within.f n lo hi = some (decide (lo ≤ n ∧ n ≤ hi)) := by
  unfold impl_within.f
  by_cases h : lo ≤ n
  · rw [if_pos h]; simp [h]
  · rw [if_neg h]; simp [h]

theorem inRange_eq (n lo hi : Int) : spec_inRange.f n lo hi = some (decide (lo ≤ n ∧ n ≤ hi)) := by
  unfold spec_inRange.f
  by_cases h : lo ≤ n
  · rw [if_pos h]; simp [h]
  · rw [if_neg h]; simp [h]

theorem ite_dec {α : Type} {p : Prop} [Decidable p] {a b : α} : (if decide p = true then a else b) = if p then a else b := by
  by_cases h : p <;> simp [h]

theorem isTime_eq (t : Int) : impl_isTime.f t = some (decide (0 ≤ t ∧ t ≤ 3786479999)) := by
  unfold impl_isTime.f
  rw [within_eq, Option.bind_some]

theorem validTime_eq (t : Int) : spec_validTime.f t = some (decide (0 ≤ t ∧ t ≤ 3786479999)) := by
  unfold spec_validTime.f
  rw [inRange_eq, Option.bind_some]

def vWeek (t : Int) : Int := if 0 ≤ t ∧ t ≤ 3786479999 then t / 604800 else -1

theorem spec_WeekOf_eq (t : Int) : spec_WeekOf.f t = some (vWeek t) := by
  unfold spec_WeekOf.f vWeek
  rw [validTime_eq, Option.bind_some, ite_dec]
  by_cases h : 0 ≤ t ∧ t ≤ 3786479999
  · rw [if_pos h, if_pos h, tdivp h.1, w64 (by omega) (by omega)]
  · rw [if_neg h, if_neg h]

theorem impl_WeekOf_eq (t : Int) : impl_WeekOf.f t = some (vWeek t) := by
  unfold impl_WeekOf.f vWeek
  rw [isTime_eq, Option.bind_some, ite_dec]
  by_cases h : 0 ≤ t ∧ t ≤ 3786479999
  · rw [if_pos h, if_pos h, tdivp h.1, w64 (by omega) (by omega)]
  · rw [if_neg h, if_neg h]

theorem FnExactWeekOf : laws_FnExactWeekOf.Pure := by
  intro a _
  unfold laws_FnExactWeekOf.f
  rw [impl_WeekOf_eq, spec_WeekOf_eq]
  simp

end Go.Proofs.Ytkkkhfeljhbecaa.Pure
