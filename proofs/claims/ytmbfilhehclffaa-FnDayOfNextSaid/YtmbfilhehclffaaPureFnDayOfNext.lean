/- Proved here, over numbers and lists alone: the law FnDayOfNext answers true at every input (Days follow each other. DayOf the next day of a month, or of the first day of the next month, is 1 more.) Conditions: none beyond the sizes that the row itself gives. -/
import Derived.Test.YtmbfilhehclffaaHFnDayOfNextx4
namespace Go.Proofs.Ytmbfilhehclffaa.Pure
open Go.RowKit Go.Proofs.Ytmbfilhehclffaa.HFnDayOfNext Go.Proofs.YtmbfilhehclffaaW.PrintWords Go.Proofs.YtmbfilhehclffaaW.PrintLast

theorem w64 {n : Int} (h0 : -9223372036854775808 ≤ n) (h1 : n ≤ 9223372036854775807) : wrap64 n = n := by unfold wrap64; omega

theorem tmodp {a : Int} (h : 0 ≤ a) (b : Int) : Int.tmod a b = a % b := Int.tmod_eq_emod_of_nonneg h

theorem tdivp {a : Int} (h : 0 ≤ a) (b : Int) : Int.tdiv a b = a / b := Int.tdiv_eq_ediv_of_nonneg h

theorem within_eq (n lo hi : Int) : impl_within.f n lo hi = some (decide (lo ≤ n ∧ n ≤ hi)) := by
  unfold impl_within.f
  by_cases h : lo ≤ n
  · rw [if_pos h]; simp [h]
  · rw [if_neg h]; simp [h]

theorem inRange_eq (n lo hi : Int) : spec_inRange.f n lo hi = some (decide (lo ≤ n ∧ n ≤ hi)) := by
  unfold spec_inRange.f
  by_cases h : lo ≤ n
  · rw [if_pos h]; simp [h]
  · rw [if_neg h]; simp [h]

theorem ite_dec {α : Type} {p : Prop} [Decidable p] {a b : α} : (if decide p = true then a else b) = if p then a else b := by
  by_cases h : p <;> simp [h]

theorem rd_mem (l : List Int) (i : Int) (h0 : 0 ≤ i) (h1 : i < (l.length : Int)) : rd l i ∈ l := by
  unfold rd
  have h : i.toNat < l.length := by omega
  rw [List.getD_eq_getElem?_getD, List.getElem?_eq_getElem h]
  exact List.getElem_mem h

theorem xor_nat (a b : Nat) (ha : a < 4611686018427387904) (hb : b < 4611686018427387904) : Go.bits .xor .i64 a b = ((a ^^^ b : Nat) : Int) ∧ a ^^^ b < 4611686018427387904 := by
  have hx : a ^^^ b < 2 ^ 62 := Nat.xor_lt_two_pow (by simpa using ha) (by simpa using hb)
  have hx' : a ^^^ b < 4611686018427387904 := by simpa using hx
  have e1 : IntKind.i64.bits = 64 := rfl
  have ha' : a % 2 ^ IntKind.i64.bits = a := Nat.mod_eq_of_lt (by rw [e1]; omega)
  have hb' : b % 2 ^ IntKind.i64.bits = b := Nat.mod_eq_of_lt (by rw [e1]; omega)
  refine ⟨?_, hx'⟩
  simp only [Go.bits, BitVec.ofInt_natCast, BitVec.toNat_xor, BitVec.toNat_ofNat, ha', hb']
  rw [IntKind.wrap_i64]
  omega

theorem xor_pos {x y : Int} (h0 : 0 ≤ x) (h1 : x < 4611686018427387904) (h2 : 0 ≤ y) (h3 : y < 4611686018427387904) : 0 ≤ Go.bits .xor .i64 x y := by
  obtain ⟨a, rfl⟩ := Int.eq_ofNat_of_zero_le h0
  obtain ⟨b, rfl⟩ := Int.eq_ofNat_of_zero_le h2
  rw [(xor_nat a b (by omega) (by omega)).1]
  omega

def Bytes (bs : List Int) : Prop := (∀ x, x ∈ bs → 0 ≤ x ∧ x ≤ 255) ∧ bs.length ≤ 2000

theorem newReader_eq (c : List Int) (h : ∀ x, x ∈ c → 0 ≤ x ∧ x ≤ 255) : ∃ bs, Bytes bs ∧ spec_newReader.f c = some (bs, 0) := by
  unfold spec_newReader.f
  by_cases hl : (c.length : Int) > 2000
  · refine ⟨c.take 2000, ⟨fun x hx => h x (List.mem_of_mem_take hx), by rw [List.length_take]; omega⟩, ?_⟩
    rw [if_pos hl, if_pos (by omega)]
  · exact ⟨c, ⟨h, by omega⟩, by rw [if_neg hl]⟩

theorem pick_eq {bs : List Int} (hb : Bytes bs) {k : Nat} (hk : 0 < k) {p n : Int} (hp : 0 ≤ p) (hp2 : p ≤ 1000000) (hn : 1 ≤ n) :
    ∃ v, spec_reader_pick.f k bs p n = some (v, p + 1) ∧ 0 ≤ v ∧ v < n := by
  obtain ⟨k, rfl⟩ : ∃ m, k = m + 1 := ⟨k - 1, by omega⟩
  obtain ⟨hb, hl⟩ := hb
  unfold spec_reader_pick.f
  rw [if_neg (by omega), w64 (n := p + 1) (by omega) (by omega)]
  simp only [spec_reader_pick.j0]
  have e1 : wrap64 (p + 1 - 1) = p := by unfold wrap64; omega
  rw [e1]
  have hn0 : ¬ n = 0 := by omega
  by_cases h0 : (bs.length : Int) = 0
  · rw [if_pos (by simpa using h0)]
    exact ⟨0, rfl, by omega, by omega⟩
  · rw [if_neg (by simpa using h0)]
    by_cases h1 : p < (bs.length : Int)
    · have hr := hb _ (rd_mem bs p hp h1)
      rw [if_pos h1, if_pos hp, if_neg hn0, w64 (n := rd bs p) (by omega) (by omega), tmodp hr.1]
      exact ⟨_, rfl, Int.emod_nonneg _ hn0, Int.emod_lt_of_pos _ (by omega)⟩
    · rw [if_neg h1, if_neg h0]
      have hL : (0 : Int) < bs.length := by omega
      have e7 : wrap64 (wrap64 (p * 7) + 3) = p * 7 + 3 := by unfold wrap64; omega
      rw [e7, tmodp hp, tmodp (a := p * 7 + 3) (by omega), tdivp hp]
      have a0 := Int.emod_nonneg p h0
      have a1 := Int.emod_lt_of_pos p hL
      have b0 := Int.emod_nonneg (p * 7 + 3) h0
      have b1 := Int.emod_lt_of_pos (p * 7 + 3) hL
      have hra := hb _ (rd_mem bs _ a0 a1)
      have hrb := hb _ (rd_mem bs _ b0 b1)
      have hd0 : 0 ≤ p / (bs.length : Int) := Int.ediv_nonneg hp (by omega)
      have hd1 : p / (bs.length : Int) ≤ p := Int.ediv_le_self _ hp
      rw [if_pos a0, if_pos a1, if_pos b0, if_pos b1, if_neg hn0]
      generalize rd bs (p % (bs.length : Int)) = ra at hra
      generalize rd bs ((p * 7 + 3) % (bs.length : Int)) = rb at hrb
      generalize p / (bs.length : Int) = q at hd0 hd1
      have ex : wrap64 (wrap64 (wrap64 (wrap64 (wrap64 ra * 131) + wrap64 (wrap64 rb * 1117)) + wrap64 (p * 29)) + wrap64 (wrap64 q * 53)) = ra * 131 + rb * 1117 + p * 29 + q * 53 := by
        unfold wrap64; omega
      rw [ex]
      generalize hx : ra * 131 + rb * 1117 + p * 29 + q * 53 = x
      have hx0 : 0 ≤ x := by omega
      have hx1 : x < 1000000000 := by omega
      rw [tdivp hx0, w64 (n := x / 64) (by omega) (by omega)]
      have hz := xor_pos hx0 (by omega) (y := x / 64) (by omega) (by omega)
      rw [tmodp hz]
      exact ⟨_, rfl, Int.emod_nonneg _ hn0, Int.emod_lt_of_pos _ (by omega)⟩

theorem one_eq {bs : List Int} (hb : Bytes bs) {k : Nat} (hk : 0 < k) {p : Int} (hp : 0 ≤ p) (hp2 : p ≤ 1000000) (l : List Int) (hl : 1 ≤ (l.length : Int)) :
    ∃ v, spec_reader_one.f k bs p l = some (v, p + 1) ∧ v ∈ l := by
  obtain ⟨v, hv, h0, h1⟩ := pick_eq hb hk hp hp2 hl
  unfold spec_reader_one.f
  rw [hv, Option.bind_some, if_pos h0, if_pos h1]
  exact ⟨_, rfl, rd_mem _ _ h0 h1⟩

def Tells {α : Type} (Q : α → Prop) (o : Option α) : Prop := ∃ r, o = some r ∧ Q r

theorem Tells.some {α : Type} {Q : α → Prop} {a : α} (h : Q a) : Tells Q (some a) := ⟨a, rfl, h⟩

theorem Tells.bind {α β : Type} {R : α → Prop} {Q : β → Prop} {o : Option α} {f : α → Option β} (h : Tells R o) (g : ∀ a, R a → Tells Q (f a)) : Tells Q (o.bind f) := by
  obtain ⟨a, rfl, ha⟩ := h
  exact g a ha

theorem Tells.bind2 {α β γ : Type} {R : α × β → Prop} {Q : γ → Prop} {o : Option (α × β)} {f : α × β → Option γ} (h : Tells R o) (g : ∀ a b, R (a, b) → Tells Q (f (a, b))) : Tells Q (o.bind f) := by
  obtain ⟨⟨a, b⟩, rfl, ha⟩ := h
  exact g a b ha

theorem Tells.ite {α : Type} {Q : α → Prop} {c : Prop} [Decidable c] {a b : Option α} (h : c → Tells Q a) (g : ¬ c → Tells Q b) : Tells Q (if c then a else b) := by
  by_cases e : c
  · rw [if_pos e]; exact h e
  · rw [if_neg e]; exact g e

theorem Tells.mono {α : Type} {Q R : α → Prop} {o : Option α} (h : Tells Q o) (g : ∀ a, Q a → R a) : Tells R o := by
  obtain ⟨a, ha, hq⟩ := h
  exact ⟨a, ha, g a hq⟩

theorem Tells.yes {o : Option Bool} (h : Tells (fun b => b = true) o) : o = Option.some true := by
  obtain ⟨a, ha, rfl⟩ := h
  exact ha

theorem Tells.eq {α : Type} {Q : α → Prop} {o : Option α} {a : α} (e : o = Option.some a) (h : Q a) : Tells Q o := ⟨a, e, h⟩

theorem pick_t {bs : List Int} (hb : Bytes bs) {k : Nat} (hk : 0 < k) {p n : Int} (hp : 0 ≤ p) (hp2 : p ≤ 1000000) (hn : 1 ≤ n) :
    Tells (fun r => r.2 = p + 1 ∧ 0 ≤ r.1 ∧ r.1 < n) (spec_reader_pick.f k bs p n) := by
  obtain ⟨v, hv, h0, h1⟩ := pick_eq hb hk hp hp2 hn
  exact ⟨_, hv, rfl, h0, h1⟩

theorem one_t {bs : List Int} (hb : Bytes bs) {k : Nat} (hk : 0 < k) {p : Int} (hp : 0 ≤ p) (hp2 : p ≤ 1000000) {l : List Int} (hl : 1 ≤ l.length) :
    Tells (fun r => r.2 = p + 1 ∧ r.1 ∈ l) (spec_reader_one.f k bs p l) := by
  obtain ⟨v, hv, h0⟩ := one_eq hb hk hp hp2 l (by omega)
  exact ⟨_, hv, rfl, h0⟩

theorem newReader_t {c : List Int} (h : ∀ x, x ∈ c → 0 ≤ x ∧ x ≤ 255) : Tells (fun r => r.2 = 0 ∧ Bytes r.1) (spec_newReader.f c) := by
  obtain ⟨bs, hb, e⟩ := newReader_eq c h
  exact ⟨_, e, rfl, hb⟩

def vLeap (y : Int) : Bool := decide (1980 ≤ y ∧ y ≤ 2099 ∧ y % 4 = 0)

theorem impl_IsLeapYear_eq (y : Int) : impl_IsLeapYear.f y = some (vLeap y) := by
  unfold impl_IsLeapYear.f vLeap
  rw [within_eq, Option.bind_some, ite_dec]
  by_cases h : 1980 ≤ y ∧ y ≤ 2099
  · rw [if_pos h, tmodp (by omega), tmodp (by omega), tmodp (by omega)]
    by_cases h4 : y % 4 = 0
    · rw [if_pos h4]
      by_cases h100 : y % 100 = 0
      · rw [if_pos h100]
        have e : y = 2000 := by omega
        subst e
        rfl
      · rw [if_neg h100]
        simp [h, h4]
    · rw [if_neg h4]
      have h400 : ¬ y % 400 = 0 := by omega
      simp [h4, h400]
  · rw [if_neg h]
    congr 1
    symm
    rw [decide_eq_false_iff_not]
    omega

theorem spec_leap_eq {y : Int} (h0 : 1980 ≤ y) (h1 : y ≤ 2099) : spec_leap.f y = some (decide (y % 4 = 0)) := by
  unfold spec_leap.f
  rw [tmodp (by omega), tmodp (by omega), tmodp (by omega)]
  by_cases h4 : y % 4 = 0
  · rw [if_pos h4]
    by_cases h100 : y % 100 = 0
    · rw [if_pos h100]
      have e : y = 2000 := by omega
      subst e
      rfl
    · rw [if_neg h100]
      simp [h4]
  · rw [if_neg h4]
    have h400 : ¬ y % 400 = 0 := by omega
    simp [h4, h400]

def MD (y m : Int) : Int := if m = 2 then (if y % 4 = 0 then 29 else 28) else if m = 4 ∨ m = 6 ∨ m = 9 ∨ m = 11 then 30 else 31

def vMD (y m : Int) : Int := if (1980 ≤ y ∧ y ≤ 2099) ∧ 1 ≤ m ∧ m ≤ 12 then MD y m else -1

theorem twelve {m : Int} (h0 : 1 ≤ m) (h1 : m ≤ 12) : m = 1 ∨ m = 2 ∨ m = 3 ∨ m = 4 ∨ m = 5 ∨ m = 6 ∨ m = 7 ∨ m = 8 ∨ m = 9 ∨ m = 10 ∨ m = 11 ∨ m = 12 := by omega

theorem spec_monthDays_eq {y m : Int} (h0 : 1980 ≤ y) (h1 : y ≤ 2099) (h2 : 1 ≤ m) (h3 : m ≤ 12) : spec_monthDays.f y m = some (MD y m) := by
  unfold spec_monthDays.f
  rw [Option.bind_some, spec_leap_eq h0 h1]
  by_cases h4 : y % 4 = 0 <;> rcases twelve h2 h3 with rfl | rfl | rfl | rfl | rfl | rfl | rfl | rfl | rfl | rfl | rfl | rfl <;> simp [wrap64, rd, MD, h4]

theorem impl_MonthDays_eq {k : Nat} (hk : 0 < k) (y m : Int) : impl_MonthDays.f k y m = some (vMD y m) := by
  obtain ⟨k, rfl⟩ : ∃ j, k = j + 1 := ⟨k - 1, by omega⟩
  unfold impl_MonthDays.f vMD
  rw [within_eq, Option.bind_some, ite_dec, within_eq, Option.bind_some]
  simp only [impl_MonthDays.j0]
  rw [impl_IsLeapYear_eq, Option.bind_some]
  by_cases h : 1980 ≤ y ∧ y ≤ 2099
  · rw [if_pos h]
    by_cases h2 : 1 ≤ m ∧ m ≤ 12
    · rw [if_neg (by rw [decide_eq_true h2]; decide), if_pos (c := (1980 ≤ y ∧ y ≤ 2099) ∧ 1 ≤ m ∧ m ≤ 12) ⟨h, h2⟩]
      by_cases h4 : y % 4 = 0 <;> rcases twelve h2.1 h2.2 with rfl | rfl | rfl | rfl | rfl | rfl | rfl | rfl | rfl | rfl | rfl | rfl <;> simp [MD, vLeap, h, h4]
    · rw [if_pos (by rw [decide_eq_false h2]; rfl), if_neg (c := (1980 ≤ y ∧ y ≤ 2099) ∧ 1 ≤ m ∧ m ≤ 12) (fun e => h2 e.2)]
  · rw [if_neg h, if_pos trivial, if_neg (c := (1980 ≤ y ∧ y ≤ 2099) ∧ 1 ≤ m ∧ m ≤ 12) (fun e => h e.1)]

theorem wf8 {l : List Int} (h : ∀ x ∈ l, (Lit.int .u8 x).wf = true) : ∀ x, x ∈ l → 0 ≤ x ∧ x ≤ 255 := by
  intro x hx
  have := h x hx
  simp [Lit.wf, IntKind.min, IntKind.max, IntKind.signed, IntKind.bits] at this
  omega

theorem someYear_t {bs : List Int} (hb : Bytes bs) {k : Nat} (hk : 0 < k) {p : Int} (hp : 0 ≤ p) (hp2 : p ≤ 900000) : Tells (fun r => r.2 = p + 2) (spec_someYear.f k bs p) := by
  unfold spec_someYear.f
  refine (pick_t hb hk hp (by omega) (by omega)).bind2 ?_
  rintro a q ⟨rfl, h0, h1⟩
  dsimp only
  refine (one_t hb hk (by omega) (by omega) (by simp)).bind2 ?_
  rintro b q ⟨rfl, _⟩
  exact Tells.some (by dsimp only; omega)

def CM (y m : Int) : Int := (if m ≤ 1 then 0 else if m = 2 then 31 else if m = 3 then 59 else if m = 4 then 90 else if m = 5 then 120 else if m = 6 then 151 else if m = 7 then 181 else if m = 8 then 212 else if m = 9 then 243 else if m = 10 then 273 else if m = 11 then 304 else if m = 12 then 334 else 365) + (if 3 ≤ m ∧ y % 4 = 0 then 1 else 0)

theorem CM_succ {y m : Int} (h0 : 1 ≤ m) (h1 : m ≤ 12) : CM y (m + 1) = CM y m + MD y m := by
  by_cases h4 : y % 4 = 0 <;> rcases twelve h0 h1 with rfl | rfl | rfl | rfl | rfl | rfl | rfl | rfl | rfl | rfl | rfl | rfl <;> simp [CM, MD, h4]

theorem CM_one (y : Int) : CM y 1 = 0 := by simp [CM]

theorem CM_end (y : Int) : CM y 13 = 365 + if y % 4 = 0 then 1 else 0 := by simp [CM]

theorem CM_bd (y m : Int) : 0 ≤ CM y m ∧ CM y m ≤ 366 := by unfold CM; omega

theorem vMD_in {y m : Int} (h : 1980 ≤ y ∧ y ≤ 2099) (h0 : 1 ≤ m) (h1 : m ≤ 12) : vMD y m = MD y m := if_pos ⟨h, h0, h1⟩

def YD (y : Int) : Int := 365 * (y - 1980) + (y - 1977) / 4

def num (y m d : Int) : Int := YD y + CM y m + d - 1

def good (y m d : Int) : Prop := (1980 ≤ y ∧ y ≤ 2099) ∧ (1 ≤ m ∧ m ≤ 12) ∧ 1 ≤ d ∧ d ≤ MD y m

theorem MD_bd (y m : Int) : 28 ≤ MD y m ∧ MD y m ≤ 31 := by
  unfold MD
  split
  · split <;> omega
  · split <;> omega

theorem YD_succ (y : Int) : YD (y + 1) = YD y + CM y 13 := by
  rw [CM_end]
  unfold YD
  split <;> omega

theorem CM_mono (y : Int) (d : Nat) : ∀ m : Int, 1 ≤ m → m + d ≤ 13 → CM y m ≤ CM y (m + d) := by
  induction d with
  | zero => intro m _ _; simp
  | succ d ih =>
    intro m h0 h1
    have h2 := ih m h0 (by omega)
    have h3 := CM_succ (y := y) (m := m + d) (by omega) (by omega)
    have h4 := MD_bd y (m + d)
    have e : m + ((d + 1 : Nat) : Int) = m + d + 1 := by omega
    rw [e]
    omega

theorem CM_le (y : Int) {m n : Int} (h0 : 1 ≤ m) (h1 : m ≤ n) (h2 : n ≤ 13) : CM y m ≤ CM y n := by
  have h := CM_mono y (n - m).toNat m h0 (by omega)
  have e : m + ((n - m).toNat : Int) = n := by omega
  rwa [e] at h

theorem YD_le {y z : Int} (h : y ≤ z) : YD y ≤ YD z := by unfold YD; omega

theorem num_month {y m d : Int} (h : good y m d) : YD y + CM y m ≤ num y m d ∧ num y m d < YD y + CM y (m + 1) := by
  obtain ⟨h0, h1, h2⟩ := h
  have h3 := CM_succ (y := y) h1.1 h1.2
  unfold num
  omega

theorem num_year {y m d : Int} (h : good y m d) : YD y ≤ num y m d ∧ num y m d < YD (y + 1) := by
  have h1 := num_month h
  have h2 := CM_bd y m
  have h3 := CM_le y (m := m + 1) (n := 13) (by have := h.2.1; omega) (by have := h.2.1; omega) (by omega)
  rw [YD_succ y]
  omega

theorem num_last {y m d : Int} (h : good y m d) : 0 ≤ num y m d ∧ num y m d ≤ 43829 := by
  have h1 := num_year h
  have h2 := YD_le (y := 1980) (z := y) h.1.1
  have h3 := YD_le (y := y + 1) (z := 2100) (by have := h.1; omega)
  have e1 : YD 1980 = 0 := by decide
  have e2 : YD 2100 = 43830 := by decide
  omega

def vDay (y m d : Int) : Int := if (1980 ≤ y ∧ y ≤ 2099) ∧ (1 ≤ m ∧ m ≤ 12) ∧ 1 ≤ d ∧ d ≤ MD y m then num y m d else -1

theorem vDay_good {y m d : Int} (h : good y m d) : vDay y m d = num y m d := if_pos h

theorem vDay_pos {y m d : Int} (h : ¬ vDay y m d < 0) : good y m d := by
  unfold vDay at h
  split at h
  · assumption
  · omega

theorem toInt_eq (b : Bool) : spec_toInt.f b = some (if b = true then 1 else 0) := by
  unfold spec_toInt.f
  cases b <;> rfl

theorem toInt_dec {p : Prop} [Decidable p] : (if decide p = true then (1 : Int) else 0) = if p then 1 else 0 := ite_dec

theorem validDate_eq (y m d : Int) : spec_validDate.f y m d = some (decide ((1980 ≤ y ∧ y ≤ 2099) ∧ (1 ≤ m ∧ m ≤ 12) ∧ 1 ≤ d ∧ d ≤ MD y m)) := by
  unfold spec_validDate.f
  rw [inRange_eq, Option.bind_some, ite_dec, inRange_eq, Option.bind_some, ite_dec]
  by_cases h : 1980 ≤ y ∧ y ≤ 2099
  · rw [if_pos h]
    by_cases h2 : 1 ≤ m ∧ m ≤ 12
    · rw [if_pos h2, spec_monthDays_eq h.1 h.2 h2.1 h2.2, Option.bind_some, inRange_eq, Option.bind_some]
      simp [h, h2]
    · rw [if_neg h2]
      congr 1
      symm
      rw [decide_eq_false_iff_not]
      exact fun e => h2 e.2.1
  · rw [if_neg h]
    congr 1
    symm
    rw [decide_eq_false_iff_not]
    exact fun e => h e.1

theorem spec_day_months {Y M D c : Int} (hY : 1980 ≤ Y ∧ Y ≤ 2099) (hM : M ≤ 12) (h0 : 0 ≤ c) (h1 : c ≤ 1000000) (e : Nat) : ∀ (k : Nat) (m : Int), 1 ≤ m → m + e = M → e < k → spec_dayOf.l1 k (c + CM Y m) m Y M D = some (c + CM Y M) := by
  induction e with
  | zero =>
    intro k m h2 h3 hk
    obtain ⟨k, rfl⟩ : ∃ m, k = m + 1 := ⟨k - 1, by omega⟩
    obtain rfl : m = M := by omega
    simp only [spec_dayOf.l1]
    rw [if_neg (by omega)]
  | succ e ih =>
    intro k m h2 h3 hk
    obtain ⟨k, rfl⟩ : ∃ m, k = m + 1 := ⟨k - 1, by omega⟩
    simp only [spec_dayOf.l1]
    have hb := CM_bd Y (m + 1)
    have hs := CM_succ (y := Y) (m := m) h2 (by omega)
    have ew : wrap64 (c + CM Y m + MD Y m) = c + CM Y (m + 1) := by rw [hs, w64 (by omega) (by omega)]; omega
    rw [if_pos (by omega), spec_monthDays_eq hY.1 hY.2 h2 (by omega), Option.bind_some, ew, w64 (n := m + 1) (by omega) (by omega)]
    exact ih k (m + 1) (by omega) (by omega) (by omega)

theorem YD_bd {y : Int} (h : 1980 ≤ y ∧ y ≤ 2100) : 0 ≤ YD y ∧ YD y ≤ 43830 := by unfold YD; omega

theorem spec_day_years {Y M D c : Int} (hY : Y ≤ 2099) (hM : 1 ≤ M ∧ M ≤ 12) (h0 : 0 ≤ c) (h1 : c ≤ 100) (e : Nat) : ∀ (k : Nat) (y : Int), 1980 ≤ y → y + e = Y → e + 20 < k → spec_dayOf.l0 k (c + YD y) y Y M D = some (c + YD Y + CM Y M) := by
  induction e with
  | zero =>
    intro k y h2 h3 hk
    obtain ⟨k, rfl⟩ : ∃ m, k = m + 1 := ⟨k - 1, by omega⟩
    obtain rfl : y = Y := by omega
    simp only [spec_dayOf.l0]
    have hb := YD_bd (y := y) (by omega)
    have h := spec_day_months (Y := y) (M := M) (D := D) (c := c + YD y) (by omega) hM.2 (by omega) (by omega) (M - 1).toNat k 1 (by omega) (by omega) (by omega)
    rw [CM_one, Int.add_zero] at h
    rw [if_neg (by omega)]
    exact h
  | succ e ih =>
    intro k y h2 h3 hk
    obtain ⟨k, rfl⟩ : ∃ m, k = m + 1 := ⟨k - 1, by omega⟩
    simp only [spec_dayOf.l0]
    have hb := YD_bd (y := y + 1) (by omega)
    have hb0 := YD_bd (y := y) (by omega)
    have hs := YD_succ y
    rw [CM_end] at hs
    rw [if_pos (by omega), spec_leap_eq h2 (by omega), Option.bind_some, toInt_eq, Option.bind_some, toInt_dec]
    have ew : wrap64 (wrap64 (c + YD y + 365) + if y % 4 = 0 then 1 else 0) = c + YD (y + 1) := by
      rw [hs, w64 (n := c + YD y + 365) (by omega) (by omega)]
      split <;> rw [w64 (by omega) (by omega)] <;> omega
    rw [ew, w64 (n := y + 1) (by omega) (by omega)]
    exact ih k (y + 1) (by omega) (by omega) (by omega)

theorem YD_first : YD 1980 = 0 := by decide

theorem spec_DayOf_eq {k : Nat} (hk : 200 ≤ k) (y m d : Int) : spec_DayOf.f k y m d = some (vDay y m d) := by
  unfold spec_DayOf.f
  rw [validDate_eq, Option.bind_some, ite_dec]
  by_cases h : (1980 ≤ y ∧ y ≤ 2099) ∧ (1 ≤ m ∧ m ≤ 12) ∧ 1 ≤ d ∧ d ≤ MD y m
  · have hm := MD_bd y m
    rw [if_pos h]
    unfold spec_dayOf.f
    have hl := spec_day_years (Y := y) (M := m) (D := d) (c := d - 1) h.1.2 h.2.1 (by omega) (by omega) (y - 1980).toNat k 1980 (by omega) (by omega) (by omega)
    rw [YD_first, Int.add_zero] at hl
    rw [w64 (by omega) (by omega), hl, Option.bind_some, vDay_good h]
    congr 1
    unfold num
    omega
  · rw [if_neg h]
    unfold vDay
    rw [if_neg h]

theorem impl_day_full {y Y M D c : Int} (hY : 1980 ≤ y ∧ y < Y) (hY2 : Y ≤ 2099) (h0 : 0 ≤ c) (h1 : c ≤ 1000000) (e : Nat) : ∀ (k : Nat) (m : Int), 1 ≤ m → m + e = 13 → 0 < k → impl_DayOf.l1 (k + e + 1) (c + CM y m) y m Y M D = impl_DayOf.l0 k (c + CM y 13) (y + 1) Y M D := by
  induction e with
  | zero =>
    intro k m h2 h3 hk
    obtain rfl : m = 13 := by omega
    simp only [impl_DayOf.l1]
    rw [if_neg (by omega), w64 (by omega) (by omega)]
  | succ e ih =>
    intro k m h2 h3 hk
    have hb := CM_bd y (m + 1)
    have hs := CM_succ (y := y) (m := m) h2 (by omega)
    have ew : wrap64 (c + CM y m + MD y m) = c + CM y (m + 1) := by rw [hs, w64 (by omega) (by omega)]; omega
    rw [show k + (e + 1) + 1 = (k + e + 1) + 1 by omega]
    simp only [impl_DayOf.l1]
    rw [if_pos (by omega), if_pos (by omega), impl_MonthDays_eq (by omega), Option.bind_some, vMD_in (by omega) h2 (by omega), ew, w64 (n := m + 1) (by omega) (by omega)]
    exact ih k (m + 1) (by omega) (by omega) hk

theorem impl_day_last {Y M D c : Int} (hY : 1980 ≤ Y ∧ Y ≤ 2099) (hM : M ≤ 12) (h0 : 0 ≤ c) (h1 : c ≤ 1000000) (e : Nat) : ∀ (k : Nat) (m : Int), 1 ≤ m → m + e = M → 0 < k → impl_DayOf.l1 (k + e + 1) (c + CM Y m) Y m Y M D = impl_DayOf.l0 k (c + CM Y M) (Y + 1) Y M D := by
  induction e with
  | zero =>
    intro k m h2 h3 hk
    obtain rfl : m = M := by omega
    simp only [impl_DayOf.l1]
    rw [if_pos (by omega), if_neg (by omega), if_neg (by omega), w64 (by omega) (by omega)]
  | succ e ih =>
    intro k m h2 h3 hk
    have hb := CM_bd Y (m + 1)
    have hs := CM_succ (y := Y) (m := m) h2 (by omega)
    have ew : wrap64 (c + CM Y m + MD Y m) = c + CM Y (m + 1) := by rw [hs, w64 (by omega) (by omega)]; omega
    rw [show k + (e + 1) + 1 = (k + e + 1) + 1 by omega]
    simp only [impl_DayOf.l1]
    rw [if_pos (by omega), if_neg (by omega), if_pos (by omega), impl_MonthDays_eq (by omega), Option.bind_some, vMD_in (by omega) h2 (by omega), ew, w64 (n := m + 1) (by omega) (by omega)]
    exact ih k (m + 1) (by omega) (by omega) hk

theorem impl_day_years {Y M D c : Int} (hY : Y ≤ 2099) (hM : 1 ≤ M ∧ M ≤ 12) (h0 : 0 ≤ c) (h1 : c ≤ 100) (e : Nat) : ∀ (k : Nat) (y : Int), 1980 ≤ y → y + e = Y → 20 * e + 40 ≤ k → impl_DayOf.l0 k (c + YD y) y Y M D = some (c + YD Y + CM Y M) := by
  induction e with
  | zero =>
    intro k y h2 h3 hk
    obtain rfl : y = Y := by omega
    have hb := YD_bd (y := y) (by omega)
    obtain ⟨k, rfl⟩ : ∃ j, k = (j + 1 + (M - 1).toNat + 1) + 1 := ⟨k - (M - 1).toNat - 3, by omega⟩
    have h := impl_day_last (Y := y) (M := M) (D := D) (c := c + YD y) (by omega) hM.2 (by omega) (by omega) (M - 1).toNat (k + 1) 1 (by omega) (by omega) (by omega)
    rw [CM_one, Int.add_zero] at h
    simp only [impl_DayOf.l0]
    rw [if_pos (by omega), h]
    simp only [impl_DayOf.l0]
    rw [if_neg (by omega)]
  | succ e ih =>
    intro k y h2 h3 hk
    have hb := YD_bd (y := y) (by omega)
    obtain ⟨k, rfl⟩ : ∃ j, k = (j + 12 + 1) + 1 := ⟨k - 14, by omega⟩
    have h := impl_day_full (y := y) (Y := Y) (M := M) (D := D) (c := c + YD y) (by omega) hY (by omega) (by omega) 12 k 1 (by omega) (by omega) (by omega)
    rw [CM_one, Int.add_zero] at h
    simp only [impl_DayOf.l0]
    rw [if_pos (by omega), h, show c + YD y + CM y 13 = c + YD (y + 1) by rw [YD_succ y]; omega]
    exact ih k (y + 1) (by omega) (by omega) (by omega)

theorem impl_DayOf_eq {k : Nat} (hk : 3000 ≤ k) (y m d : Int) : impl_DayOf.f k y m d = some (vDay y m d) := by
  unfold impl_DayOf.f
  rw [impl_MonthDays_eq (by omega), Option.bind_some, within_eq, Option.bind_some, ite_dec]
  by_cases h : (1980 ≤ y ∧ y ≤ 2099) ∧ (1 ≤ m ∧ m ≤ 12) ∧ 1 ≤ d ∧ d ≤ MD y m
  · have hm := MD_bd y m
    rw [vMD_in h.1 h.2.1.1 h.2.1.2, if_pos h.2.2]
    have hl := impl_day_years (Y := y) (M := m) (D := d) (c := d - 1) h.1.2 h.2.1 (by omega) (by omega) (y - 1980).toNat k 1980 (by omega) (by omega) (by omega)
    rw [YD_first, Int.add_zero] at hl
    rw [w64 (by omega) (by omega), hl, vDay_good h]
    congr 1
    unfold num
    omega
  · have hn : ¬ (1 ≤ d ∧ d ≤ vMD y m) := by
      intro hd
      unfold vMD at hd
      split at hd
      · rename_i hym
        exact h ⟨hym.1, hym.2, hd⟩
      · omega
    rw [if_neg hn]
    unfold vDay
    rw [if_neg h]

theorem someDate_j {bs : List Int} (hb : Bytes bs) {k : Nat} (hk : 1 < k) {p y m d : Int} (hp : 0 ≤ p) (hp2 : p ≤ 800000) : Tells (fun _ => True) (spec_someDate.j0 k bs p y m d) := by
  obtain ⟨k, rfl⟩ : ∃ j, k = j + 1 := ⟨k - 1, by omega⟩
  simp only [spec_someDate.j0]
  refine (pick_t hb (by omega) hp (by omega) (by omega)).bind2 ?_
  rintro a q ⟨rfl, _, _⟩
  dsimp only
  refine Tells.ite (fun _ => ?_) (fun _ => Tells.some trivial)
  refine (someYear_t hb (by omega) (by omega) (by omega)).bind2 ?_
  rintro a q rfl
  dsimp only
  refine (one_t hb (by omega) (by omega) (by omega) (by simp)).bind2 ?_
  rintro b q ⟨rfl, _⟩
  dsimp only
  refine (one_t hb (by omega) (by omega) (by omega) (by simp)).bind2 ?_
  rintro b q ⟨rfl, _⟩
  exact Tells.some trivial

theorem someDate_t {bs : List Int} (hb : Bytes bs) {k : Nat} (hk : 1 < k) {p : Int} (hp : 0 ≤ p) (hp2 : p ≤ 700000) : Tells (fun _ => True) (spec_someDate.f k bs p) := by
  unfold spec_someDate.f
  refine (pick_t hb (by omega) hp (by omega) (by omega)).bind2 ?_
  rintro a q ⟨rfl, _, _⟩
  dsimp only
  refine (pick_t hb (by omega) (by omega) (by omega) (by omega)).bind2 ?_
  rintro a q ⟨rfl, _, _⟩
  dsimp only
  refine (pick_t hb (by omega) (by omega) (by omega) (by omega)).bind2 ?_
  rintro a q ⟨rfl, _, _⟩
  dsimp only
  refine (pick_t hb (by omega) (by omega) (by omega) (by omega)).bind2 ?_
  rintro a q ⟨rfl, _, _⟩
  dsimp only
  refine Tells.ite (fun _ => ?_) (fun _ => Tells.ite (fun _ => ?_) (fun _ => ?_))
  · refine (one_t hb (by omega) (by omega) (by omega) (by simp)).bind2 ?_
    rintro b q ⟨rfl, _⟩
    exact someDate_j hb hk (by dsimp only; omega) (by dsimp only; omega)
  · refine (one_t hb (by omega) (by omega) (by omega) (by simp)).bind2 ?_
    rintro b q ⟨rfl, _⟩
    dsimp only
    refine (one_t hb (by omega) (by omega) (by omega) (by simp)).bind2 ?_
    rintro b q ⟨rfl, _⟩
    exact someDate_j hb hk (by dsimp only; omega) (by dsimp only; omega)
  · exact someDate_j hb hk (by omega) (by omega)

theorem DrawDayOf_t {c : List Int} (hc : ∀ x, x ∈ c → 0 ≤ x ∧ x ≤ 255) {k : Nat} (hk : 1 < k) : Tells (fun _ => True) (spec_DrawDayOf.f k c) := by
  unfold spec_DrawDayOf.f
  refine (newReader_t hc).bind2 ?_
  rintro bs p ⟨rfl, (hb : Bytes bs)⟩
  refine (someDate_t hb hk (by omega) (by omega)).bind ?_
  rintro a _
  exact Tells.some trivial

theorem FnDayOfNext : laws_FnDayOfNext.Pure := by
  intro l _ _ hw
  refine ⟨1999999 + 1, Tells.yes ?_⟩
  unfold laws_FnDayOfNext.f
  refine Tells.ite (fun _ => Tells.some rfl) (fun hl => ?_)
  refine (DrawDayOf_t (wf8 hw) (by omega)).bind (fun x _ => ?_)
  obtain ⟨y, m, d⟩ := x
  dsimp only
  rw [impl_DayOf_eq (by omega), Option.bind_some, spec_DayOf_eq (by omega), Option.bind_some, if_pos rfl]
  have hT : laws_FnDayOfNext.j0 (1999999 + 1) (vDay y m d) true y m d = some true := by
    simp only [laws_FnDayOfNext.j0]
    rw [if_pos trivial, spec_DayOf_eq (by omega), Option.bind_some]
    simp
  refine Tells.ite (fun _ => Tells.eq hT rfl) (fun hn => ?_)
  by_cases hc : vDay y m d = 43829
  · rw [beq_iff_eq.2 hc]
    exact Tells.eq hT rfl
  · rw [beq_eq_false_iff_ne.2 hc]
    have g := vDay_pos hn
    rw [vDay_good g] at hc ⊢
    have hM := MD_bd y m
    have hlast := num_last g
    have hy := g.1
    have hm := g.2.1
    have hd := g.2.2
    have hs := CM_succ (y := y) hm.1 hm.2
    simp only [laws_FnDayOfNext.j0]
    rw [if_neg (by decide), impl_MonthDays_eq (by omega), Option.bind_some, vMD_in g.1 hm.1 hm.2, w64 (n := num y m d + 1) (by omega) (by omega), w64 (n := y + 1) (by omega) (by omega), w64 (n := m + 1) (by omega) (by omega), w64 (n := d + 1) (by omega) (by omega)]
    refine Tells.ite (fun hdm => ?_) (fun hdm => ?_)
    · refine Tells.ite (fun h12 => ?_) (fun h12 => ?_)
      · subst h12
        have hb2 := MD_bd (y + 1) 1
        have hys := YD_succ y
        have e13 : CM y (12 + 1) = CM y 13 := rfl
        have hy2 : y ≤ 2098 := by
          by_cases h : y ≤ 2098
          · exact h
          · exfalso
            obtain rfl : y = 2099 := by omega
            have e2 : YD (2099 + 1) = 43830 := by decide
            unfold num at hc
            omega
        have g2 : good (y + 1) 1 1 := ⟨by omega, by omega, by omega, by omega⟩
        rw [impl_DayOf_eq (by omega), Option.bind_some, vDay_good g2]
        refine Tells.some ?_
        rw [beq_iff_eq]
        have e1 := CM_one (y + 1)
        unfold num
        omega
      · have hb2 := MD_bd y (m + 1)
        have g2 : good y (m + 1) 1 := ⟨hy, by omega, by omega, by omega⟩
        rw [impl_DayOf_eq (by omega), Option.bind_some, vDay_good g2]
        refine Tells.some ?_
        rw [beq_iff_eq]
        unfold num
        omega
    · have g2 : good y m (d + 1) := ⟨hy, hm, by omega, by omega⟩
      rw [impl_DayOf_eq (by omega), Option.bind_some, vDay_good g2]
      refine Tells.some ?_
      rw [beq_iff_eq]
      unfold num
      omega

end Go.Proofs.Ytmbfilhehclffaa.Pure
