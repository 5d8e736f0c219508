/- Proved here, over numbers and lists alone: the law FnExactGpsTime answers true at every input (the program's GpsTime returns what the reference's returns, for all arguments.) Conditions: none beyond the sizes that the row itself gives. -/
import Derived.Test.YtkkkhfeljhbecaaPFnExactGpsTimex1
namespace Go.Proofs.Ytkkkhfeljhbecaa.Pure
open Go.RowKit Go.Proofs.Ytkkkhfeljhbecaa.PFnExactGpsTime Go.Proofs.YtkkkhfeljhbecaaW.PrintWords Go.Proofs.YtkkkhfeljhbecaaW.PrintLast

theorem w64 {n : Int} (h0 : -9223372036854775808 ≤ n) (h1 : n ≤ 9223372036854775807) : wrap64 n = n := by unfold wrap64; omega

theorem within_eq (n lo hi : Int) : impl_within.f n lo hi = some (decide (lo ≤ n ∧ n ≤ hi)) := by
  unfold impl_within.f
  by_cases h : lo ≤ n
  · rw [if_pos h]; simp [h]
  · rw [if_neg h]; simp [h]

theorem inRange_eq (n lo hi : Int) : spec_inRange.f n lo hi = some (decide (lo ≤ n ∧ n ≤ hi)) := by
  unfold spec_inRange.f
  by_cases h : lo ≤ n
  · rw [if_pos h]; simp [h]
  · rw [if_neg h]; simp [h]

theorem ite_dec {α : Type} {p : Prop} [Decidable p] {a b : α} : (if decide p = true then a else b) = if p then a else b := by
  by_cases h : p <;> simp [h]

def vGT (d s : Int) : Int := if (5 ≤ d ∧ d ≤ 43829) ∧ 0 ≤ s ∧ s ≤ 86399 then (d - 5) * 86400 + s else -1

theorem gt_arith {d s : Int} (h : 5 ≤ d ∧ d ≤ 43829) (h2 : 0 ≤ s ∧ s ≤ 86399) : wrap64 (wrap64 (wrap64 (d - 5) * 86400) + s) = (d - 5) * 86400 + s := by
  rw [w64 (n := d - 5) (by omega) (by omega), w64 (n := (d - 5) * 86400) (by omega) (by omega), w64 (by omega) (by omega)]

theorem spec_GpsTime_eq (d s : Int) : spec_GpsTime.f d s = some (vGT d s) := by
  unfold spec_GpsTime.f vGT
  rw [inRange_eq, Option.bind_some, ite_dec, inRange_eq, Option.bind_some, ite_dec]
  by_cases h : 5 ≤ d ∧ d ≤ 43829
  · rw [if_pos h]
    by_cases h2 : 0 ≤ s ∧ s ≤ 86399
    · rw [if_pos h2, if_pos ⟨h, h2⟩, gt_arith h h2]
    · rw [if_neg h2, if_neg (fun e => h2 e.2)]
  · rw [if_neg h, if_neg (fun e => h e.1)]

theorem impl_GpsTime_eq (d s : Int) : impl_GpsTime.f d s = some (vGT d s) := by
  unfold impl_GpsTime.f vGT
  rw [within_eq, Option.bind_some, ite_dec, within_eq, Option.bind_some, ite_dec]
  by_cases h : 5 ≤ d ∧ d ≤ 43829
  · rw [if_pos h]
    by_cases h2 : 0 ≤ s ∧ s ≤ 86399
    · rw [if_pos h2, if_pos ⟨h, h2⟩, gt_arith h h2]
    · rw [if_neg h2, if_neg (fun e => h2 e.2)]
  · rw [if_neg h, if_neg (fun e => h e.1)]

theorem FnExactGpsTime : laws_FnExactGpsTime.Pure := by
  intro a b _ _
  unfold laws_FnExactGpsTime.f
  rw [impl_GpsTime_eq, spec_GpsTime_eq]
  simp

end Go.Proofs.Ytkkkhfeljhbecaa.Pure
