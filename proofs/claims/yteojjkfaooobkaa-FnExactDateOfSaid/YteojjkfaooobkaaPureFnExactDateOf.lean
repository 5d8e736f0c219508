/- Proved here, over numbers and lists alone: the law FnExactDateOf answers true at every input (the program's DateOf returns what the reference's returns, for all arguments.) Conditions: none beyond the sizes that the row itself gives. -/
import Derived.Test.YteojjkfaooobkaaHFnExactDateOfx2
namespace Go.Proofs.Yteojjkfaooobkaa.Pure
open Go.RowKit Go.Proofs.Yteojjkfaooobkaa.HFnExactDateOf Go.Proofs.YteojjkfaooobkaaW.PrintWords Go.Proofs.YteojjkfaooobkaaW.PrintLast

theorem w64 {n : Int} (h0 : -9223372036854775808 ≤ n) (h1 : n ≤ 9223372036854775807) : wrap64 n = n := by unfold wrap64; omega

theorem tmodp {a : Int} (h : 0 ≤ a) (b : Int) : Int.tmod a b = a % b := Int.tmod_eq_emod_of_nonneg h

theorem within_eq (n lo hi : Int) : impl_within.f n lo hi = some (decide (lo ≤ n ∧ n ≤ hi)) := by
  unfold impl_within.f
  by_cases h : lo ≤ n
  · rw [if_pos h]; simp [h]
  · rw [if_neg h]; simp [h]

theorem inRange_eq (n lo hi : Int) : spec_inRange.f n lo hi = some (decide (lo ≤ n ∧ n ≤ hi)) := by
  unfold spec_inRange.f
  by_cases h : lo ≤ n
  · rw [if_pos h]; simp [h]
  · rw [if_neg h]; simp [h]

theorem ite_dec {α : Type} {p : Prop} [Decidable p] {a b : α} : (if decide p = true then a else b) = if p then a else b := by
  by_cases h : p <;> simp [h]

def vLeap (y : Int) : Bool := decide (1980 ≤ y ∧ y ≤ 2099 ∧ y % 4 = 0)

theorem impl_IsLeapYear_eq (y : Int) : impl_IsLeapYear.f y = some (vLeap y) := by
  unfold impl_IsLeapYear.f vLeap
  rw [within_eq, Option.bind_some, ite_dec]
  by_cases h : 1980 ≤ y ∧ y ≤ 2099
  · rw [if_pos h, tmodp (by omega), tmodp (by omega), tmodp (by omega)]
    by_cases h4 : y % 4 = 0
    · rw [if_pos h4]
      by_cases h100 : y % 100 = 0
      · rw [if_pos h100]
        have e : y = 2000 := by omega
        subst e
        rfl
      · rw [if_neg h100]
        simp [h, h4]
    · rw [if_neg h4]
      have h400 : ¬ y % 400 = 0 := by omega
      simp [h4, h400]
  · rw [if_neg h]
    congr 1
    symm
    rw [decide_eq_false_iff_not]
    omega

theorem spec_leap_eq {y : Int} (h0 : 1980 ≤ y) (h1 : y ≤ 2099) : spec_leap.f y = some (decide (y % 4 = 0)) := by
  unfold spec_leap.f
  rw [tmodp (by omega), tmodp (by omega), tmodp (by omega)]
  by_cases h4 : y % 4 = 0
  · rw [if_pos h4]
    by_cases h100 : y % 100 = 0
    · rw [if_pos h100]
      have e : y = 2000 := by omega
      subst e
      rfl
    · rw [if_neg h100]
      simp [h4]
  · rw [if_neg h4]
    have h400 : ¬ y % 400 = 0 := by omega
    simp [h4, h400]

def MD (y m : Int) : Int := if m = 2 then (if y % 4 = 0 then 29 else 28) else if m = 4 ∨ m = 6 ∨ m = 9 ∨ m = 11 then 30 else 31

def vMD (y m : Int) : Int := if (1980 ≤ y ∧ y ≤ 2099) ∧ 1 ≤ m ∧ m ≤ 12 then MD y m else -1

theorem twelve {m : Int} (h0 : 1 ≤ m) (h1 : m ≤ 12) : m = 1 ∨ m = 2 ∨ m = 3 ∨ m = 4 ∨ m = 5 ∨ m = 6 ∨ m = 7 ∨ m = 8 ∨ m = 9 ∨ m = 10 ∨ m = 11 ∨ m = 12 := by omega

theorem spec_monthDays_eq {y m : Int} (h0 : 1980 ≤ y) (h1 : y ≤ 2099) (h2 : 1 ≤ m) (h3 : m ≤ 12) : spec_monthDays.f y m = some (MD y m) := by
  unfold spec_monthDays.f
  rw [Option.bind_some, spec_leap_eq h0 h1]
  by_cases h4 : y % 4 = 0 <;> rcases twelve h2 h3 with rfl | rfl | rfl | rfl | rfl | rfl | rfl | rfl | rfl | rfl | rfl | rfl <;> simp [wrap64, rd, MD, h4]

theorem impl_MonthDays_eq {k : Nat} (hk : 0 < k) (y m : Int) : impl_MonthDays.f k y m = some (vMD y m) := by
  obtain ⟨k, rfl⟩ : ∃ j, k = j + 1 := ⟨k - 1, by omega⟩
  unfold impl_MonthDays.f vMD
  rw [within_eq, Option.bind_some, ite_dec, within_eq, Option.bind_some]
  simp only [impl_MonthDays.j0]
  rw [impl_IsLeapYear_eq, Option.bind_some]
  by_cases h : 1980 ≤ y ∧ y ≤ 2099
  · rw [if_pos h]
    by_cases h2 : 1 ≤ m ∧ m ≤ 12
    · rw [if_neg (by rw [decide_eq_true h2]; decide), if_pos (c := (1980 ≤ y ∧ y ≤ 2099) ∧ 1 ≤ m ∧ m ≤ 12) ⟨h, h2⟩]
      by_cases h4 : y % 4 = 0 <;> rcases twelve h2.1 h2.2 with rfl | rfl | rfl | rfl | rfl | rfl | rfl | rfl | rfl | rfl | rfl | rfl <;> simp [MD, vLeap, h, h4]
    · rw [if_pos (by rw [decide_eq_false h2]; rfl), if_neg (c := (1980 ≤ y ∧ y ≤ 2099) ∧ 1 ≤ m ∧ m ≤ 12) (fun e => h2 e.2)]
  · rw [if_neg h, if_pos trivial, if_neg (c := (1980 ≤ y ∧ y ≤ 2099) ∧ 1 ≤ m ∧ m ≤ 12) (fun e => h e.1)]

def CM (y m : Int) : Int := (if m ≤ 1 then 0 else if m = 2 then 31 else if m = 3 then 59 else if m = 4 then 90 else if m = 5 then 120 else if m = 6 then 151 else if m = 7 then 181 else if m = 8 then 212 else if m = 9 then 243 else if m = 10 then 273 else if m = 11 then 304 else if m = 12 then 334 else 365) + (if 3 ≤ m ∧ y % 4 = 0 then 1 else 0)

theorem CM_succ {y m : Int} (h0 : 1 ≤ m) (h1 : m ≤ 12) : CM y (m + 1) = CM y m + MD y m := by
  by_cases h4 : y % 4 = 0 <;> rcases twelve h0 h1 with rfl | rfl | rfl | rfl | rfl | rfl | rfl | rfl | rfl | rfl | rfl | rfl <;> simp [CM, MD, h4]

theorem CM_one (y : Int) : CM y 1 = 0 := by simp [CM]

theorem CM_end (y : Int) : CM y 13 = 365 + if y % 4 = 0 then 1 else 0 := by simp [CM]

theorem CM_bd (y m : Int) : 0 ≤ CM y m ∧ CM y m ≤ 366 := by unfold CM; omega

theorem vMD_in {y m : Int} (h : 1980 ≤ y ∧ y ≤ 2099) (h0 : 1 ≤ m) (h1 : m ≤ 12) : vMD y m = MD y m := if_pos ⟨h, h0, h1⟩

def YD (y : Int) : Int := 365 * (y - 1980) + (y - 1977) / 4

def num (y m d : Int) : Int := YD y + CM y m + d - 1

def good (y m d : Int) : Prop := (1980 ≤ y ∧ y ≤ 2099) ∧ (1 ≤ m ∧ m ≤ 12) ∧ 1 ≤ d ∧ d ≤ MD y m

theorem MD_bd (y m : Int) : 28 ≤ MD y m ∧ MD y m ≤ 31 := by
  unfold MD
  split
  · split <;> omega
  · split <;> omega

theorem YD_succ (y : Int) : YD (y + 1) = YD y + CM y 13 := by
  rw [CM_end]
  unfold YD
  split <;> omega

theorem CM_mono (y : Int) (d : Nat) : ∀ m : Int, 1 ≤ m → m + d ≤ 13 → CM y m ≤ CM y (m + d) := by
  induction d with
  | zero => intro m _ _; simp
  | succ d ih =>
    intro m h0 h1
    have h2 := ih m h0 (by omega)
    have h3 := CM_succ (y := y) (m := m + d) (by omega) (by omega)
    have h4 := MD_bd y (m + d)
    have e : m + ((d + 1 : Nat) : Int) = m + d + 1 := by omega
    rw [e]
    omega

theorem CM_le (y : Int) {m n : Int} (h0 : 1 ≤ m) (h1 : m ≤ n) (h2 : n ≤ 13) : CM y m ≤ CM y n := by
  have h := CM_mono y (n - m).toNat m h0 (by omega)
  have e : m + ((n - m).toNat : Int) = n := by omega
  rwa [e] at h

theorem YD_le {y z : Int} (h : y ≤ z) : YD y ≤ YD z := by unfold YD; omega

theorem num_month {y m d : Int} (h : good y m d) : YD y + CM y m ≤ num y m d ∧ num y m d < YD y + CM y (m + 1) := by
  obtain ⟨h0, h1, h2⟩ := h
  have h3 := CM_succ (y := y) h1.1 h1.2
  unfold num
  omega

theorem num_year {y m d : Int} (h : good y m d) : YD y ≤ num y m d ∧ num y m d < YD (y + 1) := by
  have h1 := num_month h
  have h2 := CM_bd y m
  have h3 := CM_le y (m := m + 1) (n := 13) (by have := h.2.1; omega) (by have := h.2.1; omega) (by omega)
  rw [YD_succ y]
  omega

theorem same_year {y m d y' m' d' : Int} (h : good y m d) (h' : good y' m' d') (a b : Int) (ha : num y m d = a) (hb : num y' m' d' = b) (hab : a ≤ b) : y ≤ y' := by
  have h1 := num_year h
  have h2 := num_year h'
  by_cases hy : y ≤ y'
  · exact hy
  · have h3 := YD_le (y := y' + 1) (z := y) (by omega)
    omega

theorem same_month {y m d m' d' : Int} (h : good y m d) (h' : good y m' d') (hab : num y m d ≤ num y m' d') : m ≤ m' := by
  have h1 := num_month h
  have h2 := num_month h'
  by_cases hy : m ≤ m'
  · exact hy
  · have h3 := CM_le y (m := m' + 1) (n := m) (by have := h'.2.1; omega) (by omega) (by have := h.2.1; omega)
    omega

theorem num_inj {y m d y' m' d' : Int} (h : good y m d) (h' : good y' m' d') (e : num y m d = num y' m' d') : y = y' ∧ m = m' ∧ d = d' := by
  have e1 : y = y' := by
    have a := same_year h h' _ _ rfl rfl (by omega)
    have b := same_year h' h _ _ rfl rfl (by omega)
    omega
  subst e1
  have e2 : m = m' := by
    have a := same_month h h' (by omega)
    have b := same_month h' h (by omega)
    omega
  subst e2
  unfold num at e
  exact ⟨rfl, rfl, by omega⟩

theorem toInt_eq (b : Bool) : spec_toInt.f b = some (if b = true then 1 else 0) := by
  unfold spec_toInt.f
  cases b <;> rfl

theorem toInt_dec {p : Prop} [Decidable p] : (if decide p = true then (1 : Int) else 0) = if p then 1 else 0 := ite_dec

theorem YD_bd {y : Int} (h : 1980 ≤ y ∧ y ≤ 2100) : 0 ≤ YD y ∧ YD y ≤ 43830 := by unfold YD; omega

theorem YD_first : YD 1980 = 0 := by decide

theorem spec_date_months {y n : Int} (hy : 1980 ≤ y ∧ y ≤ 2099) (hn : 0 ≤ n ∧ n ≤ 43829) (hin : n < YD y + CM y 13) (e : Nat) : ∀ (k : Nat) (x m : Int), 1 ≤ m → m + e = 13 → 0 ≤ x → x + YD y + CM y m = n → e < k → ∃ Y M D, good Y M D ∧ num Y M D = n ∧ spec_DateOf.l1 k x y m = some (Y, M, D) := by
  induction e with
  | zero =>
    intro k x m h0 h1 h2 h3 hk
    obtain rfl : m = 13 := by omega
    omega
  | succ e ih =>
    intro k x m h0 h1 h2 h3 hk
    obtain ⟨k, rfl⟩ : ∃ m, k = m + 1 := ⟨k - 1, by omega⟩
    simp only [spec_DateOf.l1]
    rw [spec_monthDays_eq hy.1 hy.2 h0 (by omega), Option.bind_some]
    have hm := MD_bd y m
    have hb := CM_bd y m
    have hyb := YD_bd (y := y) (by omega)
    by_cases hx : x ≥ MD y m
    · rw [if_pos hx, Option.bind_some, w64 (n := x - MD y m) (by omega) (by omega), w64 (n := m + 1) (by omega) (by omega)]
      have hs := CM_succ (y := y) h0 (by omega)
      exact ih k _ (m + 1) (by omega) (by omega) (by omega) (by omega) (by omega)
    · rw [if_neg hx, w64 (n := x + 1) (by omega) (by omega)]
      refine ⟨y, m, x + 1, ⟨hy, ⟨h0, by omega⟩, by omega, by omega⟩, ?_, rfl⟩
      unfold num
      omega

theorem spec_date_years {n : Int} (hn : 0 ≤ n ∧ n ≤ 43829) (e : Nat) : ∀ (k : Nat) (x y : Int), 1980 ≤ y → y + e = 2100 → 0 ≤ x → x + YD y = n → e + 20 < k → ∃ Y M D, good Y M D ∧ num Y M D = n ∧ spec_DateOf.l0 k x y = some (Y, M, D) := by
  induction e with
  | zero =>
    intro k x y h0 h1 h2 h3 hk
    obtain rfl : y = 2100 := by omega
    have e2 : YD 2100 = 43830 := by decide
    omega
  | succ e ih =>
    intro k x y h0 h1 h2 h3 hk
    obtain ⟨k, rfl⟩ : ∃ m, k = m + 1 := ⟨k - 1, by omega⟩
    have hyb := YD_bd (y := y) (by omega)
    have hs := YD_succ y
    rw [CM_end] at hs
    simp only [spec_DateOf.l0]
    rw [spec_leap_eq h0 (by omega)]
    simp only [Option.bind_some, toInt_eq, toInt_dec]
    generalize hq : (if y % 4 = 0 then (1 : Int) else 0) = q at hs
    have hq0 : 0 ≤ q ∧ q ≤ 1 := by rw [← hq]; split <;> omega
    rw [w64 (n := 365 + q) (by omega) (by omega)]
    by_cases hx : x ≥ 365 + q
    · rw [if_pos hx, w64 (n := x - 365) (by omega) (by omega), w64 (n := x - 365 - q) (by omega) (by omega), w64 (n := y + 1) (by omega) (by omega)]
      exact ih k _ (y + 1) (by omega) (by omega) (by omega) (by omega) (by omega)
    · rw [if_neg hx]
      exact spec_date_months ⟨h0, by omega⟩ hn (by rw [CM_end, hq]; omega) 12 k x 1 (by omega) (by omega) h2 (by rw [CM_one]; omega) (by omega)

theorem spec_DateOf_ex {k : Nat} (hk : 2000 ≤ k) {n : Int} (hn : 0 ≤ n ∧ n ≤ 43829) : ∃ Y M D, good Y M D ∧ num Y M D = n ∧ spec_DateOf.f k n = some (Y, M, D) := by
  unfold spec_DateOf.f
  rw [inRange_eq, Option.bind_some, ite_dec, if_pos hn]
  exact spec_date_years hn 120 k n 1980 (by omega) (by omega) hn.1 (by rw [YD_first]; omega) (by omega)

theorem spec_DateOf_no {k : Nat} {n : Int} (hn : ¬ (0 ≤ n ∧ n ≤ 43829)) : spec_DateOf.f k n = some (0, 0, 0) := by
  unfold spec_DateOf.f
  rw [inRange_eq, Option.bind_some, ite_dec, if_neg hn]

theorem impl_date_loop {n : Int} (hn : 0 ≤ n ∧ n ≤ 43829) (z : Int) (e : Nat) : ∀ (k : Nat) (x y m : Int), 1980 ≤ y → 1 ≤ m → m ≤ 12 → (y - 1980) * 12 + m + e = 1441 → 0 ≤ x → x + YD y + CM y m = n → e < k → ∃ Y M D, good Y M D ∧ num Y M D = n ∧ impl_DateOf.l0 k x y m z = some (Y, M, D) := by
  induction e with
  | zero =>
    intro k x y m h0 h1 h2 h3 h4 h5 hk
    have e1 : y = 2100 := by omega
    subst e1
    have e2 : YD 2100 = 43830 := by decide
    have hb := CM_bd 2100 m
    omega
  | succ e ih =>
    intro k x y m h0 h1 h2 h3 h4 h5 hk
    obtain ⟨k, rfl⟩ : ∃ m, k = m + 1 := ⟨k - 1, by omega⟩
    have hy : y ≤ 2099 := by omega
    have hb := CM_bd y m
    have hm := MD_bd y m
    have hyb := YD_bd (y := y) (by omega)
    have hs := CM_succ (y := y) h1 h2
    simp only [impl_DateOf.l0]
    rw [impl_MonthDays_eq (by omega), Option.bind_some, Option.bind_some, vMD_in ⟨h0, hy⟩ h1 h2, w64 (n := m + 1) (by omega) (by omega)]
    by_cases hx : x ≥ MD y m
    · rw [if_pos hx, w64 (n := x - MD y m) (by omega) (by omega)]
      by_cases h12 : m + 1 > 12
      · rw [if_pos h12, w64 (n := y + 1) (by omega) (by omega)]
        obtain rfl : m = 12 := by omega
        have hys := YD_succ y
        have h13 : CM y (12 + 1) = CM y 13 := rfl
        exact ih k _ (y + 1) 1 (by omega) (by omega) (by omega) (by omega) (by omega) (by rw [CM_one]; omega) (by omega)
      · rw [if_neg h12]
        exact ih k _ y (m + 1) h0 (by omega) (by omega) (by omega) (by omega) (by omega) (by omega)
    · rw [if_neg hx, w64 (n := x + 1) (by omega) (by omega)]
      refine ⟨y, m, x + 1, ⟨⟨h0, hy⟩, ⟨h1, h2⟩, by omega, by omega⟩, ?_, rfl⟩
      unfold num
      omega

theorem impl_DateOf_ex {k : Nat} (hk : 2000 ≤ k) {n : Int} (hn : 0 ≤ n ∧ n ≤ 43829) : ∃ Y M D, good Y M D ∧ num Y M D = n ∧ impl_DateOf.f k n = some (Y, M, D) := by
  unfold impl_DateOf.f
  rw [within_eq, Option.bind_some, ite_dec, if_pos hn]
  exact impl_date_loop hn 0 1440 k n 1980 1 (by omega) (by omega) (by omega) (by omega) hn.1 (by rw [YD_first, CM_one]; omega) (by omega)

theorem impl_DateOf_no {k : Nat} {n : Int} (hn : ¬ (0 ≤ n ∧ n ≤ 43829)) : impl_DateOf.f k n = some (0, 0, 0) := by
  unfold impl_DateOf.f
  rw [within_eq, Option.bind_some, ite_dec, if_neg hn]

theorem DateOf_both {k : Nat} (hk : 2000 ≤ k) (n : Int) : ∃ Y M D, impl_DateOf.f k n = some (Y, M, D) ∧ spec_DateOf.f k n = some (Y, M, D) ∧ ((0 ≤ n ∧ n ≤ 43829) → good Y M D ∧ num Y M D = n) := by
  by_cases hn : 0 ≤ n ∧ n ≤ 43829
  · obtain ⟨Y, M, D, h1, h2, h3⟩ := impl_DateOf_ex hk hn
    obtain ⟨Y', M', D', g1, g2, g3⟩ := spec_DateOf_ex hk hn
    obtain ⟨rfl, rfl, rfl⟩ := num_inj h1 g1 (by omega)
    exact ⟨Y, M, D, h3, g3, fun _ => ⟨h1, h2⟩⟩
  · exact ⟨0, 0, 0, impl_DateOf_no hn, spec_DateOf_no hn, fun h => absurd h hn⟩

theorem FnExactDateOf : laws_FnExactDateOf.Pure := by
  intro n _
  refine ⟨2000, ?_⟩
  unfold laws_FnExactDateOf.f
  obtain ⟨Y, M, D, h1, h2, _⟩ := DateOf_both (k := 2000) (by omega) n
  rw [h1, h2]
  simp [laws_eqDate.f]

end Go.Proofs.Yteojjkfaooobkaa.Pure
