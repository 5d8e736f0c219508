/- Proved here, over numbers and lists alone: the law FnExactFullWeek answers true at every input (the program's FullWeek returns what the reference's returns, for all arguments.) Conditions: none beyond the sizes that the row itself gives. -/
import Derived.Test.YtkkkhfeljhbecaaPFnExactFullWeekx1
namespace Go.Proofs.Ytkkkhfeljhbecaa.Pure
open Go.RowKit Go.Proofs.Ytkkkhfeljhbecaa.PFnExactFullWeek Go.Proofs.YtkkkhfeljhbecaaW.PrintWords Go.Proofs.YtkkkhfeljhbecaaW.PrintLast

theorem w64 {n : Int} (h0 : -9223372036854775808 ≤ n) (h1 : n ≤ 9223372036854775807) : wrap64 n = n := by unfold wrap64; omega

theorem tmodp {a : Int} (h : 0 ≤ a) (b : Int) : Int.tmod a b = a % b := Int.tmod_eq_emod_of_nonneg h

theorem within_eq (n lo hi : Int) : impl_within.f n lo hi = some (decide (lo ≤ n ∧ n ≤ hi)) := by
  unfold impl_within.f
  by_cases h : lo ≤ n
  · rw [if_pos h]; simp [h]
  · rw [if_neg h]; simp [h]

theorem inRange_eq (n lo hi : Int) : spec_inRange.f n lo hi = some (decide (lo ≤ n ∧ n ≤ hi)) := by
  unfold spec_inRange.f
  by_cases h : lo ≤ n
  · rw [if_pos h]; simp [h]
  · rw [if_neg h]; simp [h]

theorem ite_dec {α : Type} {p : Prop} [Decidable p] {a b : α} : (if decide p = true then a else b) = if p then a else b := by
  by_cases h : p <;> simp [h]

def vFW (s f : Int) : Int := if (0 ≤ s ∧ s ≤ 1023) ∧ 0 ≤ f ∧ f ≤ 6000 then f + (s - f % 1024 + 1024) % 1024 else -1

theorem fw_arith {s f : Int} (h : 0 ≤ s ∧ s ≤ 1023) (h2 : 0 ≤ f ∧ f ≤ 6000) : wrap64 (f + Int.tmod (wrap64 (wrap64 (s - Int.tmod f 1024) + 1024)) 1024) = f + (s - f % 1024 + 1024) % 1024 := by
  rw [tmodp h2.1, w64 (n := s - f % 1024) (by omega) (by omega), w64 (n := s - f % 1024 + 1024) (by omega) (by omega), tmodp (by omega), w64 (by omega) (by omega)]

theorem spec_FullWeek_eq (s f : Int) : spec_FullWeek.f s f = some (vFW s f) := by
  unfold spec_FullWeek.f vFW
  rw [inRange_eq, Option.bind_some, ite_dec, inRange_eq, Option.bind_some, ite_dec]
  by_cases h : 0 ≤ s ∧ s ≤ 1023
  · rw [if_pos h]
    by_cases h2 : 0 ≤ f ∧ f ≤ 6000
    · rw [if_pos h2, if_pos ⟨h, h2⟩, fw_arith h h2]
    · rw [if_neg h2, if_neg (fun e => h2 e.2)]
  · rw [if_neg h, if_neg (fun e => h e.1)]

theorem impl_FullWeek_eq (s f : Int) : impl_FullWeek.f s f = some (vFW s f) := by
  unfold impl_FullWeek.f vFW
  rw [within_eq, Option.bind_some, ite_dec, within_eq, Option.bind_some, ite_dec]
  by_cases h : 0 ≤ s ∧ s ≤ 1023
  · rw [if_pos h]
    by_cases h2 : 0 ≤ f ∧ f ≤ 6000
    · rw [if_pos h2, if_pos ⟨h, h2⟩, fw_arith h h2]
    · rw [if_neg h2, if_neg (fun e => h2 e.2)]
  · rw [if_neg h, if_neg (fun e => h e.1)]

theorem FnExactFullWeek : laws_FnExactFullWeek.Pure := by
  intro a b _ _
  unfold laws_FnExactFullWeek.f
  rw [impl_FullWeek_eq, spec_FullWeek_eq]
  simp

end Go.Proofs.Ytkkkhfeljhbecaa.Pure
