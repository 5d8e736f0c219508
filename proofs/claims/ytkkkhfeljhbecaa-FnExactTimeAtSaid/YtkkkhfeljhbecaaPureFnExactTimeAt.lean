/- Proved here, over numbers and lists alone: the law FnExactTimeAt answers true at every input (the program's TimeAt returns what the reference's returns, for all arguments.) Conditions: none beyond the sizes that the row itself gives. -/
import Derived.Test.YtkkkhfeljhbecaaPFnExactTimeAtx1
namespace Go.Proofs.Ytkkkhfeljhbecaa.Pure
open Go.RowKit Go.Proofs.Ytkkkhfeljhbecaa.PFnExactTimeAt Go.Proofs.YtkkkhfeljhbecaaW.PrintWords Go.Proofs.YtkkkhfeljhbecaaW.PrintLast

theorem w64 {n : Int} (h0 : -9223372036854775808 ≤ n) (h1 : n ≤ 9223372036854775807) : wrap64 n = n := by unfold wrap64; omega

theorem tmodp {a : Int} (h : 0 ≤ a) (b : Int) : Int.tmod a b = a % b := Int.tmod_eq_emod_of_nonneg h

theorem within_eq (n lo hi : Int) : impl_within.f n lo hi = some (decide (lo ≤ n ∧ n ≤ hi)) := by
  unfold impl_within.f
  by_cases h : lo ≤ n
  · rw [if_pos h]; simp [h]
  · rw [if_neg h]; simp [h]

theorem inRange_eq (n lo hi : Int) : spec_inRange.f n lo hi = some (decide (lo ≤ n ∧ n ≤ hi)) := by
  unfold spec_inRange.f
  by_cases h : lo ≤ n
  · rw [if_pos h]; simp [h]
  · rw [if_neg h]; simp [h]

theorem ite_dec {α : Type} {p : Prop} [Decidable p] {a b : α} : (if decide p = true then a else b) = if p then a else b := by
  by_cases h : p <;> simp [h]

def vFW (s f : Int) : Int := if (0 ≤ s ∧ s ≤ 1023) ∧ 0 ≤ f ∧ f ≤ 6000 then f + (s - f % 1024 + 1024) % 1024 else -1

theorem fw_arith {s f : Int} (h : 0 ≤ s ∧ s ≤ 1023) (h2 : 0 ≤ f ∧ f ≤ 6000) : wrap64 (f + Int.tmod (wrap64 (wrap64 (s - Int.tmod f 1024) + 1024)) 1024) = f + (s - f % 1024 + 1024) % 1024 := by
  rw [tmodp h2.1, w64 (n := s - f % 1024) (by omega) (by omega), w64 (n := s - f % 1024 + 1024) (by omega) (by omega), tmodp (by omega), w64 (by omega) (by omega)]

theorem spec_FullWeek_eq (s f : Int) : spec_FullWeek.f s f = some (vFW s f) := by
  unfold spec_FullWeek.f vFW
  rw [inRange_eq, Option.bind_some, ite_dec, inRange_eq, Option.bind_some, ite_dec]
  by_cases h : 0 ≤ s ∧ s ≤ 1023
  · rw [if_pos h]
    by_cases h2 : 0 ≤ f ∧ f ≤ 6000
    · rw [if_pos h2, if_pos ⟨h, h2⟩, fw_arith h h2]
    · rw [if_neg h2, if_neg (fun e => h2 e.2)]
  · rw [if_neg h, if_neg (fun e => h e.1)]

theorem impl_FullWeek_eq (s f : Int) : impl_FullWeek.f s f = some (vFW s f) := by
  unfold impl_FullWeek.f vFW
  rw [within_eq, Option.bind_some, ite_dec, within_eq, Option.bind_some, ite_dec]
  by_cases h : 0 ≤ s ∧ s ≤ 1023
  · rw [if_pos h]
    by_cases h2 : 0 ≤ f ∧ f ≤ 6000
    · rw [if_pos h2, if_pos ⟨h, h2⟩, fw_arith h h2]
    · rw [if_neg h2, if_neg (fun e => h2 e.2)]
  · rw [if_neg h, if_neg (fun e => h e.1)]

theorem isTime_eq (t : Int) : impl_isTime.f t = some (decide (0 ≤ t ∧ t ≤ 3786479999)) := by
  unfold impl_isTime.f
  rw [within_eq, Option.bind_some]

theorem validTime_eq (t : Int) : spec_validTime.f t = some (decide (0 ≤ t ∧ t ≤ 3786479999)) := by
  unfold spec_validTime.f
  rw [inRange_eq, Option.bind_some]

def vTime (s n f : Int) : Int := if 0 ≤ vFW s f ∧ (0 ≤ n ∧ n ≤ 604799) ∧ vFW s f * 604800 + n ≤ 3786479999 then vFW s f * 604800 + n else -1

theorem vFW_bd (s f : Int) : -1 ≤ vFW s f ∧ vFW s f ≤ 7100 := by unfold vFW; split <;> omega

theorem spec_TimeAt_eq (s n f : Int) : spec_TimeAt.f s n f = some (vTime s n f) := by
  have hb := vFW_bd s f
  unfold spec_TimeAt.f vTime
  rw [spec_FullWeek_eq, Option.bind_some]
  generalize vFW s f = w at hb
  by_cases h : w < 0
  · rw [if_pos h, if_neg (by omega)]
  · rw [if_neg h, inRange_eq, Option.bind_some, ite_dec]
    by_cases h2 : 0 ≤ n ∧ n ≤ 604799
    · have e : wrap64 (wrap64 (w * 604800) + n) = w * 604800 + n := by
        rw [w64 (n := w * 604800) (by omega) (by omega), w64 (by omega) (by omega)]
      rw [if_pos h2, e, validTime_eq, Option.bind_some, ite_dec]
      by_cases h3 : 0 ≤ w * 604800 + n ∧ w * 604800 + n ≤ 3786479999
      · rw [if_pos h3, if_pos ⟨by omega, h2, h3.2⟩]
      · rw [if_neg h3, if_neg (by omega)]
    · rw [if_neg h2, if_neg (by omega)]

theorem impl_TimeAt_eq (s n f : Int) : impl_TimeAt.f s n f = some (vTime s n f) := by
  have hb := vFW_bd s f
  unfold impl_TimeAt.f vTime
  rw [impl_FullWeek_eq, Option.bind_some]
  generalize vFW s f = w at hb
  by_cases h : w < 0
  · rw [if_pos h, if_neg (by omega)]
  · rw [if_neg h, within_eq, Option.bind_some, ite_dec]
    by_cases h2 : 0 ≤ n ∧ n ≤ 604799
    · have e : wrap64 (wrap64 (w * 604800) + n) = w * 604800 + n := by
        rw [w64 (n := w * 604800) (by omega) (by omega), w64 (by omega) (by omega)]
      rw [if_pos h2, e, isTime_eq, Option.bind_some, ite_dec]
      by_cases h3 : 0 ≤ w * 604800 + n ∧ w * 604800 + n ≤ 3786479999
      · rw [if_pos h3, if_pos ⟨by omega, h2, h3.2⟩]
      · rw [if_neg h3, if_neg (by omega)]
    · rw [if_neg h2, if_neg (by omega)]

theorem FnExactTimeAt : laws_FnExactTimeAt.Pure := by
  intro a b c _ _ _
  unfold laws_FnExactTimeAt.f
  rw [impl_TimeAt_eq, spec_TimeAt_eq]
  simp

end Go.Proofs.Ytkkkhfeljhbecaa.Pure
