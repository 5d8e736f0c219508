/- Proved here, over numbers and lists alone: the law FnExactSecondOfWeek answers true at every input (the program's SecondOfWeek returns what the reference's returns, for all arguments.) Conditions: none beyond the sizes that the row itself gives. -/
import Derived.Test.YtkkkhfeljhbecaaPFnExactSecondOfWeekx1
namespace Go.Proofs.Ytkkkhfeljhbecaa.Pure
open Go.RowKit Go.Proofs.Ytkkkhfeljhbecaa.PFnExactSecondOfWeek Go.Proofs.YtkkkhfeljhbecaaW.PrintWords Go.Proofs.YtkkkhfeljhbecaaW.PrintLast

theorem tmodp {a : Int} (h : 0 ≤ a) (b : Int) : Int.tmod a b = a % b := Int.tmod_eq_emod_of_nonneg h

theorem within_eq (n lo hi : Int) : impl_within.f n lo hi = some (decide (lo ≤ n ∧ n ≤ hi)) := by
  unfold impl_within.f
  by_cases h : lo ≤ n
  · rw [if_pos h]; simp [h]
  · rw [if_neg h]; simp [h]

theorem inRange_eq (n lo hi : Int) : spec_inRange.f n lo hi = some (decide (lo ≤ n ∧ n ≤ hi)) := by
  unfold spec_inRange.f
  by_cases h : lo ≤ n
  · rw [if_pos h]; simp [h]
  · rw [if_neg h]; simp [h]

theorem ite_dec {α : Type} {p : Prop} [Decidable p] {a b : α} : (if decide p = true then a else b) = if p then a else b := by
  by_cases h : p <;> simp [h]

theorem isTime_eq (t : Int) : impl_isTime.f t = some (decide (0 ≤ t ∧ t ≤ 3786479999)) := by
  unfold impl_isTime.f
  rw [within_eq, Option.bind_some]

theorem validTime_eq (t : Int) : spec_validTime.f t = some (decide (0 ≤ t ∧ t ≤ 3786479999)) := by
  unfold spec_validTime.f
  rw [inRange_eq, Option.bind_some]

def vSec (t : Int) : Int := if 0 ≤ t ∧ t ≤ 3786479999 then t % 604800 else -1

theorem spec_SecondOfWeek_eq (t : Int) : spec_SecondOfWeek.f t = some (vSec t) := by
  unfold spec_SecondOfWeek.f vSec
  rw [validTime_eq, Option.bind_some, ite_dec]
  by_cases h : 0 ≤ t ∧ t ≤ 3786479999
  · rw [if_pos h, if_pos h, tmodp h.1]
  · rw [if_neg h, if_neg h]

theorem impl_SecondOfWeek_eq (t : Int) : impl_SecondOfWeek.f t = some (vSec t) := by
  unfold impl_SecondOfWeek.f vSec
  rw [isTime_eq, Option.bind_some, ite_dec]
  by_cases h : 0 ≤ t ∧ t ≤ 3786479999
  · rw [if_pos h, if_pos h, tmodp h.1]
  · rw [if_neg h, if_neg h]

theorem FnExactSecondOfWeek : laws_FnExactSecondOfWeek.Pure := by
  intro a _
  unfold laws_FnExactSecondOfWeek.f
  rw [impl_SecondOfWeek_eq, spec_SecondOfWeek_eq]
  simp

end Go.Proofs.Ytkkkhfeljhbecaa.Pure
