/- Proved here, over numbers and lists alone: the law FnExactDayOf answers true at every input (the program's DayOf returns what the reference's returns, for all arguments.) Conditions: none beyond the sizes that the row itself gives. -/
import Derived.Test.YteojjkfaooobkaaPFnExactDayOfx2
namespace Go.Proofs.Yteojjkfaooobkaa.Pure
open Go.RowKit Go.Proofs.Yteojjkfaooobkaa.PFnExactDayOf Go.Proofs.YteojjkfaooobkaaW.PrintWords Go.Proofs.YteojjkfaooobkaaW.PrintLast

theorem w64 {n : Int} (h0 : -9223372036854775808 ≤ n) (h1 : n ≤ 9223372036854775807) : wrap64 n = n := by unfold wrap64; omega

theorem tmodp {a : Int} (h : 0 ≤ a) (b : Int) : Int.tmod a b = a % b := Int.tmod_eq_emod_of_nonneg h

theorem within_eq (n lo hi : Int) : impl_within.f n lo hi = some (decide (lo ≤ n ∧ n ≤ hi)) := by
  unfold impl_within.f
  by_cases h : lo ≤ n
  · rw [if_pos h]; simp [h]
  · rw [if_neg h]; simp [h]

theorem inRange_eq (n lo hi : Int) : spec_inRange.f n lo hi = some (decide (lo ≤ n ∧ n ≤ hi)) := by
  unfold spec_inRange.f
  by_cases h : lo ≤ n
  · rw [if_pos h]; simp [h]
  · rw [if_neg h]; simp [h]

theorem ite_dec {α : Type} {p : Prop} [Decidable p] {a b : α} : (if decide p = true then a else b) = if p then a else b := by
  by_cases h : p <;> simp [h]

def vLeap (y : Int) : Bool := decide (1980 ≤ y ∧ y ≤ 2099 ∧ y % 4 = 0)

theorem impl_IsLeapYear_eq (y : Int) : impl_IsLeapYear.f y = some (vLeap y) := by
  unfold impl_IsLeapYear.f vLeap
  rw [within_eq, Option.bind_some, ite_dec]
  by_cases h : 1980 ≤ y ∧ y ≤ 2099
  · rw [if_pos h, tmodp (by omega), tmodp (by omega), tmodp (by omega)]
    by_cases h4 : y % 4 = 0
    · rw [if_pos h4]
      by_cases h100 : y % 100 = 0
      · rw [if_pos h100]
        have e : y = 2000 := by omega
        subst e
        rfl
      · rw [if_neg h100]
        simp [h, h4]
    · rw [if_neg h4]
      have h400 : ¬ y % 400 = 0 := by omega
      simp [h4, h400]
  · rw [if_neg h]
    congr 1
    symm
    rw [decide_eq_false_iff_not]
    omega

theorem spec_leap_eq {y : Int} (h0 : 1980 ≤ y) (h1 : y ≤ 2099) : spec_leap.f y = some (decide (y % 4 = 0)) := by
  unfold spec_leap.f
  rw [tmodp (by omega), tmodp (by omega), tmodp (by omega)]
  by_cases h4 : y % 4 = 0
  · rw [if_pos h4]
    by_cases h100 : y % 100 = 0
    · rw [if_pos h100]
      have e : y = 2000 := by omega
      subst e
      rfl
    · rw [if_neg h100]
      simp [h4]
  · rw [if_neg h4]
    have h400 : ¬ y % 400 = 0 := by omega
    simp [h4, h400]

def MD (y m : Int) : Int := if m = 2 then (if y % 4 = 0 then 29 else 28) else if m = 4 ∨ m = 6 ∨ m = 9 ∨ m = 11 then 30 else 31

def vMD (y m : Int) : Int := if (1980 ≤ y ∧ y ≤ 2099) ∧ 1 ≤ m ∧ m ≤ 12 then MD y m else -1

theorem twelve {m : Int} (h0 : 1 ≤ m) (h1 : m ≤ 12) : m = 1 ∨ m = 2 ∨ m = 3 ∨ m = 4 ∨ m = 5 ∨ m = 6 ∨ m = 7 ∨ m = 8 ∨ m = 9 ∨ m = 10 ∨ m = 11 ∨ m = 12 := by omega

theorem spec_monthDays_eq {y m : Int} (h0 : 1980 ≤ y) (h1 : y ≤ 2099) (h2 : 1 ≤ m) (h3 : m ≤ 12) : spec_monthDays.f y m = some (MD y m) := by
  unfold spec_monthDays.f
  rw [Option.bind_some, spec_leap_eq h0 h1]
  by_cases h4 : y % 4 = 0 <;> rcases twelve h2 h3 with rfl | rfl | rfl | rfl | rfl | rfl | rfl | rfl | rfl | rfl | rfl | rfl <;> simp [wrap64, rd, MD, h4]

theorem impl_MonthDays_eq {k : Nat} (hk : 0 < k) (y m : Int) : impl_MonthDays.f k y m = some (vMD y m) := by
  obtain ⟨k, rfl⟩ : ∃ j, k = j + 1 := ⟨k - 1, by omega⟩
  unfold impl_MonthDays.f vMD
  rw [within_eq, Option.bind_some, ite_dec, within_eq, Option.bind_some]
  simp only [impl_MonthDays.j0]
  rw [impl_IsLeapYear_eq, Option.bind_some]
  by_cases h : 1980 ≤ y ∧ y ≤ 2099
  · rw [if_pos h]
    by_cases h2 : 1 ≤ m ∧ m ≤ 12
    · rw [if_neg (by rw [decide_eq_true h2]; decide), if_pos (c := (1980 ≤ y ∧ y ≤ 2099) ∧ 1 ≤ m ∧ m ≤ 12) ⟨h, h2⟩]
      by_cases h4 : y % 4 = 0 <;> rcases twelve h2.1 h2.2 with rfl | rfl | rfl | rfl | rfl | rfl | rfl | rfl | rfl | rfl | rfl | rfl <;> simp [MD, vLeap, h, h4]
    · rw [if_pos (by rw [decide_eq_false h2]; rfl), if_neg (c := (1980 ≤ y ∧ y ≤ 2099) ∧ 1 ≤ m ∧ m ≤ 12) (fun e => h2 e.2)]
  · rw [if_neg h, if_pos trivial, if_neg (c := (1980 ≤ y ∧ y ≤ 2099) ∧ 1 ≤ m ∧ m ≤ 12) (fun e => h e.1)]

def CM (y m : Int) : Int := (if m ≤ 1 then 0 else if m = 2 then 31 else if m = 3 then 59 else if m = 4 then 90 else if m = 5 then 120 else if m = 6 then 151 else if m = 7 then 181 else if m = 8 then 212 else if m = 9 then 243 else if m = 10 then 273 else if m = 11 then 304 else if m = 12 then 334 else 365) + (if 3 ≤ m ∧ y % 4 = 0 then 1 else 0)

theorem CM_succ {y m : Int} (h0 : 1 ≤ m) (h1 : m ≤ 12) : CM y (m + 1) = CM y m + MD y m := by
  by_cases h4 : y % 4 = 0 <;> rcases twelve h0 h1 with rfl | rfl | rfl | rfl | rfl | rfl | rfl | rfl | rfl | rfl | rfl | rfl <;> simp [CM, MD, h4]

theorem CM_one (y : Int) : CM y 1 = 0 := by simp [CM]

theorem CM_end (y : Int) : CM y 13 = 365 + if y % 4 = 0 then 1 else 0 := by simp [CM]

theorem CM_bd (y m : Int) : 0 ≤ CM y m ∧ CM y m ≤ 366 := by unfold CM; omega

theorem vMD_in {y m : Int} (h : 1980 ≤ y ∧ y ≤ 2099) (h0 : 1 ≤ m) (h1 : m ≤ 12) : vMD y m = MD y m := if_pos ⟨h, h0, h1⟩

def YD (y : Int) : Int := 365 * (y - 1980) + (y - 1977) / 4

def num (y m d : Int) : Int := YD y + CM y m + d - 1

def good (y m d : Int) : Prop := (1980 ≤ y ∧ y ≤ 2099) ∧ (1 ≤ m ∧ m ≤ 12) ∧ 1 ≤ d ∧ d ≤ MD y m

theorem MD_bd (y m : Int) : 28 ≤ MD y m ∧ MD y m ≤ 31 := by
  unfold MD
  split
  · split <;> omega
  · split <;> omega

theorem YD_succ (y : Int) : YD (y + 1) = YD y + CM y 13 := by
  rw [CM_end]
  unfold YD
  split <;> omega

def vDay (y m d : Int) : Int := if (1980 ≤ y ∧ y ≤ 2099) ∧ (1 ≤ m ∧ m ≤ 12) ∧ 1 ≤ d ∧ d ≤ MD y m then num y m d else -1

theorem vDay_good {y m d : Int} (h : good y m d) : vDay y m d = num y m d := if_pos h

theorem toInt_eq (b : Bool) : spec_toInt.f b = some (if b = true then 1 else 0) := by
  unfold spec_toInt.f
  cases b <;> rfl

theorem toInt_dec {p : Prop} [Decidable p] : (if decide p = true then (1 : Int) else 0) = if p then 1 else 0 := ite_dec

theorem validDate_eq (y m d : Int) : spec_validDate.f y m d = some (decide ((1980 ≤ y ∧ y ≤ 2099) ∧ (1 ≤ m ∧ m ≤ 12) ∧ 1 ≤ d ∧ d ≤ MD y m)) := by
  unfold spec_validDate.f
  rw [inRange_eq, Option.bind_some, ite_dec, inRange_eq, Option.bind_some, ite_dec]
  by_cases h : 1980 ≤ y ∧ y ≤ 2099
  · rw [if_pos h]
    by_cases h2 : 1 ≤ m ∧ m ≤ 12
    · rw [if_pos h2, spec_monthDays_eq h.1 h.2 h2.1 h2.2, Option.bind_some, inRange_eq, Option.bind_some]
      simp [h, h2]
    · rw [if_neg h2]
      congr 1
      symm
      rw [decide_eq_false_iff_not]
      exact fun e => h2 e.2.1
  · rw [if_neg h]
    congr 1
    symm
    rw [decide_eq_false_iff_not]
    exact fun e => h e.1

theorem spec_day_months {Y M D c : Int} (hY : 1980 ≤ Y ∧ Y ≤ 2099) (hM : M ≤ 12) (h0 : 0 ≤ c) (h1 : c ≤ 1000000) (e : Nat) : ∀ (k : Nat) (m : Int), 1 ≤ m → m + e = M → e < k → spec_dayOf.l1 k (c + CM Y m) m Y M D = some (c + CM Y M) := by
  induction e with
  | zero =>
    intro k m h2 h3 hk
    obtain ⟨k, rfl⟩ : ∃ m, k = m + 1 := ⟨k - 1, by omega⟩
    obtain rfl : m = M := by omega
    simp only [spec_dayOf.l1]
    rw [if_neg (by omega)]
  | succ e ih =>
    intro k m h2 h3 hk
    obtain ⟨k, rfl⟩ : ∃ m, k = m + 1 := ⟨k - 1, by omega⟩
    simp only [spec_dayOf.l1]
    have hb := CM_bd Y (m + 1)
    have hs := CM_succ (y := Y) (m := m) h2 (by omega)
    have ew : wrap64 (c + CM Y m + MD Y m) = c + CM Y (m + 1) := by rw [hs, w64 (by omega) (by omega)]; omega
    rw [if_pos (by omega), spec_monthDays_eq hY.1 hY.2 h2 (by omega), Option.bind_some, ew, w64 (n := m + 1) (by omega) (by omega)]
    exact ih k (m + 1) (by omega) (by omega) (by omega)

theorem YD_bd {y : Int} (h : 1980 ≤ y ∧ y ≤ 2100) : 0 ≤ YD y ∧ YD y ≤ 43830 := by unfold YD; omega

theorem spec_day_years {Y M D c : Int} (hY : Y ≤ 2099) (hM : 1 ≤ M ∧ M ≤ 12) (h0 : 0 ≤ c) (h1 : c ≤ 100) (e : Nat) : ∀ (k : Nat) (y : Int), 1980 ≤ y → y + e = Y → e + 20 < k → spec_dayOf.l0 k (c + YD y) y Y M D = some (c + YD Y + CM Y M) := by
  induction e with
  | zero =>
    intro k y h2 h3 hk
    obtain ⟨k, rfl⟩ : ∃ m, k = m + 1 := ⟨k - 1, by omega⟩
    obtain rfl : y = Y := by omega
    simp only [spec_dayOf.l0]
    have hb := YD_bd (y := y) (by omega)
    have h := spec_day_months (Y := y) (M := M) (D := D) (c := c + YD y) (by omega) hM.2 (by omega) (by omega) (M - 1).toNat k 1 (by omega) (by omega) (by omega)
    rw [CM_one, Int.add_zero] at h
    rw [if_neg (by omega)]
    exact h
  | succ e ih =>
    intro k y h2 h3 hk
    obtain ⟨k, rfl⟩ : ∃ m, k = m + 1 := ⟨k - 1, by omega⟩
    simp only [spec_dayOf.l0]
    have hb := YD_bd (y := y + 1) (by omega)
    have hb0 := YD_bd (y := y) (by omega)
    have hs := YD_succ y
    rw [CM_end] at hs
    rw [if_pos (by omega), spec_leap_eq h2 (by omega), Option.bind_some, toInt_eq, Option.bind_some, toInt_dec]
    have ew : wrap64 (wrap64 (c + YD y + 365) + if y % 4 = 0 then 1 else 0) = c + YD (y + 1) := by
      rw [hs, w64 (n := c + YD y + 365) (by omega) (by omega)]
      split <;> rw [w64 (by omega) (by omega)] <;> omega
    rw [ew, w64 (n := y + 1) (by omega) (by omega)]
    exact ih k (y + 1) (by omega) (by omega) (by omega)

theorem YD_first : YD 1980 = 0 := by decide

theorem spec_DayOf_eq {k : Nat} (hk : 200 ≤ k) (y m d : Int) : spec_DayOf.f k y m d = some (vDay y m d) := by
  unfold spec_DayOf.f
  rw [validDate_eq, Option.bind_some, ite_dec]
  by_cases h : (1980 ≤ y ∧ y ≤ 2099) ∧ (1 ≤ m ∧ m ≤ 12) ∧ 1 ≤ d ∧ d ≤ MD y m
  · have hm := MD_bd y m
    rw [if_pos h]
    unfold spec_dayOf.f
    have hl := spec_day_years (Y := y) (M := m) (D := d) (c := d - 1) h.1.2 h.2.1 (by omega) (by omega) (y - 1980).toNat k 1980 (by omega) (by omega) (by omega)
    rw [YD_first, Int.add_zero] at hl
    rw [w64 (by omega) (by omega), hl, Option.bind_some, vDay_good h]
    congr 1
    unfold num
    omega
  · rw [if_neg h]
    unfold vDay
    rw [if_neg h]

theorem impl_day_full {y Y M D c : Int} (hY : 1980 ≤ y ∧ y < Y) (hY2 : Y ≤ 2099) (h0 : 0 ≤ c) (h1 : c ≤ 1000000) (e : Nat) : ∀ (k : Nat) (m : Int), 1 ≤ m → m + e = 13 → 0 < k → impl_DayOf.l1 (k + e + 1) (c + CM y m) y m Y M D = impl_DayOf.l0 k (c + CM y 13) (y + 1) Y M D := by
  induction e with
  | zero =>
    intro k m h2 h3 hk
    obtain rfl : m = 13 := by omega
    simp only [impl_DayOf.l1]
    rw [if_neg (by omega), w64 (by omega) (by omega)]
  | succ e ih =>
    intro k m h2 h3 hk
    have hb := CM_bd y (m + 1)
    have hs := CM_succ (y := y) (m := m) h2 (by omega)
    have ew : wrap64 (c + CM y m + MD y m) = c + CM y (m + 1) := by rw [hs, w64 (by omega) (by omega)]; omega
    rw [show k + (e + 1) + 1 = (k + e + 1) + 1 by omega]
    simp only [impl_DayOf.l1]
    rw [if_pos (by omega), if_pos (by omega), impl_MonthDays_eq (by omega), Option.bind_some, vMD_in (by omega) h2 (by omega), ew, w64 (n := m + 1) (by omega) (by omega)]
    exact ih k (m + 1) (by omega) (by omega) hk

theorem impl_day_last {Y M D c : Int} (hY : 1980 ≤ Y ∧ Y ≤ 2099) (hM : M ≤ 12) (h0 : 0 ≤ c) (h1 : c ≤ 1000000) (e : Nat) : ∀ (k : Nat) (m : Int), 1 ≤ m → m + e = M → 0 < k → impl_DayOf.l1 (k + e + 1) (c + CM Y m) Y m Y M D = impl_DayOf.l0 k (c + CM Y M) (Y + 1) Y M D := by
  induction e with
  | zero =>
    intro k m h2 h3 hk
    obtain rfl : m = M := by omega
    simp only [impl_DayOf.l1]
    rw [if_pos (by omega), if_neg (by omega), if_neg (by omega), w64 (by omega) (by omega)]
  | succ e ih =>
    intro k m h2 h3 hk
    have hb := CM_bd Y (m + 1)
    have hs := CM_succ (y := Y) (m := m) h2 (by omega)
    have ew : wrap64 (c + CM Y m + MD Y m) = c + CM Y (m + 1) := by rw [hs, w64 (by omega) (by omega)]; omega
    rw [show k + (e + 1) + 1 = (k + e + 1) + 1 by omega]
    simp only [impl_DayOf.l1]
    rw [if_pos (by omega), if_neg (by omega), if_pos (by omega), impl_MonthDays_eq (by omega), Option.bind_some, vMD_in (by omega) h2 (by omega), ew, w64 (n := m + 1) (by omega) (by omega)]
    exact ih k (m + 1) (by omega) (by omega) hk

theorem impl_day_years {Y M D c : Int} (hY : Y ≤ 2099) (hM : 1 ≤ M ∧ M ≤ 12) (h0 : 0 ≤ c) (h1 : c ≤ 100) (e : Nat) : ∀ (k : Nat) (y : Int), 1980 ≤ y → y + e = Y → 20 * e + 40 ≤ k → impl_DayOf.l0 k (c + YD y) y Y M D = some (c + YD Y + CM Y M) := by
  induction e with
  | zero =>
    intro k y h2 h3 hk
    obtain rfl : y = Y := by omega
    have hb := YD_bd (y := y) (by omega)
    obtain ⟨k, rfl⟩ : ∃ j, k = (j + 1 + (M - 1).toNat + 1) + 1 := ⟨k - (M - 1).toNat - 3, by omega⟩
    have h := impl_day_last (Y := y) (M := M) (D := D) (c := c + YD y) (by omega) hM.2 (by omega) (by omega) (M - 1).toNat (k + 1) 1 (by omega) (by omega) (by omega)
    rw [CM_one, Int.add_zero] at h
    simp only [impl_DayOf.l0]
    rw [if_pos (by omega), h]
    simp only [impl_DayOf.l0]
    rw [if_neg (by omega)]
  | succ e ih =>
    intro k y h2 h3 hk
    have hb := YD_bd (y := y) (by omega)
    obtain ⟨k, rfl⟩ : ∃ j, k = (j + 12 + 1) + 1 := ⟨k - 14, by omega⟩
    have h := impl_day_full (y := y) (Y := Y) (M := M) (D := D) (c := c + YD y) (by omega) hY (by omega) (by omega) 12 k 1 (by omega) (by omega) (by omega)
    rw [CM_one, Int.add_zero] at h
    simp only [impl_DayOf.l0]
    rw [if_pos (by omega), h, show c + YD y + CM y 13 = c + YD (y + 1) by rw [YD_succ y]; omega]
    exact ih k (y + 1) (by omega) (by omega) (by omega)

theorem impl_DayOf_eq {k : Nat} (hk : 3000 ≤ k) (y m d : Int) : impl_DayOf.f k y m d = some (vDay y m d) := by
  unfold impl_DayOf.f
  rw [impl_MonthDays_eq (by omega), Option.bind_some, within_eq, Option.bind_some, ite_dec]
  by_cases h : (1980 ≤ y ∧ y ≤ 2099) ∧ (1 ≤ m ∧ m ≤ 12) ∧ 1 ≤ d ∧ d ≤ MD y m
  · have hm := MD_bd y m
    rw [vMD_in h.1 h.2.1.1 h.2.1.2, if_pos h.2.2]
    have hl := impl_day_years (Y := y) (M := m) (D := d) (c := d - 1) h.1.2 h.2.1 (by omega) (by omega) (y - 1980).toNat k 1980 (by omega) (by omega) (by omega)
    rw [YD_first, Int.add_zero] at hl
    rw [w64 (by omega) (by omega), hl, vDay_good h]
    congr 1
    unfold num
    omega
  · have hn : ¬ (1 ≤ d ∧ d ≤ vMD y m) := by
      intro hd
      unfold vMD at hd
      split at hd
      · rename_i hym
        exact h ⟨hym.1, hym.2, hd⟩
      · omega
    rw [if_neg hn]
    unfold vDay
    rw [if_neg h]

theorem FnExactDayOf (y m d : Int) : ∃ k, laws_FnExactDayOf.f k y m d = some true := by
  refine ⟨3000, ?_⟩
  unfold laws_FnExactDayOf.f laws_toDate.f
  rw [Option.bind_some]
  dsimp only
  rw [spec_DayOf_eq (by omega), Option.bind_some, Option.bind_some]
  dsimp only
  rw [impl_DayOf_eq (by omega), Option.bind_some]
  simp

end Go.Proofs.Yteojjkfaooobkaa.Pure
