/- Proved here, over numbers and lists alone: the law FnIsLeapYear answers true at every input (Leap years have 366 days. MonthDays of all months add up to 366 exactly if IsLeapYear.) Conditions: none beyond the sizes that the row itself gives. -/
import Derived.Test.YtmpnkkkmhmindaaPFnIsLeapYearx2
namespace Go.Proofs.Ytmpnkkkmhmindaa.Pure
open Go.RowKit Go.Proofs.Ytmpnkkkmhmindaa.PFnIsLeapYear Go.Proofs.YtmpnkkkmhmindaaW.PrintWords Go.Proofs.YtmpnkkkmhmindaaW.PrintLast

theorem w64 {n : Int} (h0 : -9223372036854775808 ≤ n) (h1 : n ≤ 9223372036854775807) : wrap64 n = n := by unfold wrap64; omega

theorem tmodp {a : Int} (h : 0 ≤ a) (b : Int) : Int.tmod a b = a % b := Int.tmod_eq_emod_of_nonneg h

theorem tdivp {a : Int} (h : 0 ≤ a) (b : Int) : Int.tdiv a b = a / b := Int.tdiv_eq_ediv_of_nonneg h

theorem within_eq (n lo hi : Int) : impl_within.f n lo hi = some (decide (lo ≤ n ∧ n ≤ hi)) := by
  unfold impl_within.f
  by_cases h : lo ≤ n
  · rw [if_pos h]; simp [h]
  · rw [if_neg h]; simp [h]

theorem inRange_eq (n lo hi : Int) : spec_inRange.f n lo hi = some (decide (lo ≤ n ∧ n ≤ hi)) := by
  unfold spec_inRange.f
  by_cases h : lo ≤ n
  · rw [if_pos h]; simp [h]
  · rw [if_neg h]; simp [h]

theorem ite_dec {α : Type} {p : Prop} [Decidable p] {a b : α} : (if decide p = true then a else b) = if p then a else b := by
  by_cases h : p <;> simp [h]

theorem rd_mem (l : List Int) (i : Int) (h0 : 0 ≤ i) (h1 : i < (l.length : Int)) : rd l i ∈ l := by
  unfold rd
  have h : i.toNat < l.length := by omega
  rw [List.getD_eq_getElem?_getD, List.getElem?_eq_getElem h]
  exact List.getElem_mem h

theorem xor_nat (a b : Nat) (ha : a < 4611686018427387904) (hb : b < 4611686018427387904) : Go.bits .xor .i64 a b = ((a ^^^ b : Nat) : Int) ∧ a ^^^ b < 4611686018427387904 := by
  have hx : a ^^^ b < 2 ^ 62 := Nat.xor_lt_two_pow (by simpa using ha) (by simpa using hb)
  have hx' : a ^^^ b < 4611686018427387904 := by simpa using hx
  have e1 : IntKind.i64.bits = 64 := rfl
  have ha' : a % 2 ^ IntKind.i64.bits = a := Nat.mod_eq_of_lt (by rw [e1]; omega)
  have hb' : b % 2 ^ IntKind.i64.bits = b := Nat.mod_eq_of_lt (by rw [e1]; omega)
  refine ⟨?_, hx'⟩
  simp only [Go.bits, BitVec.ofInt_natCast, BitVec.toNat_xor, BitVec.toNat_ofNat, ha', hb']
  rw [IntKind.wrap_i64]
  omega

theorem xor_pos {x y : Int} (h0 : 0 ≤ x) (h1 : x < 4611686018427387904) (h2 : 0 ≤ y) (h3 : y < 4611686018427387904) : 0 ≤ Go.bits .xor .i64 x y := by
  obtain ⟨a, rfl⟩ := Int.eq_ofNat_of_zero_le h0
  obtain ⟨b, rfl⟩ := Int.eq_ofNat_of_zero_le h2
  rw [(xor_nat a b (by omega) (by omega)).1]
  omega

def Bytes (bs : List Int) : Prop := (∀ x, x ∈ bs → 0 ≤ x ∧ x ≤ 255) ∧ bs.length ≤ 2000

theorem newReader_eq (c : List Int) (h : ∀ x, x ∈ c → 0 ≤ x ∧ x ≤ 255) : ∃ bs, Bytes bs ∧ spec_newReader.f c = some (bs, 0) := by
  unfold spec_newReader.f
  by_cases hl : (c.length : Int) > 2000
  · refine ⟨c.take 2000, ⟨fun x hx => h x (List.mem_of_mem_take hx), by rw [List.length_take]; omega⟩, ?_⟩
    rw [if_pos hl, if_pos (by omega)]
  · exact ⟨c, ⟨h, by omega⟩, by rw [if_neg hl]⟩

theorem pick_eq {bs : List Int} (hb : Bytes bs) {k : Nat} (hk : 0 < k) {p n : Int} (hp : 0 ≤ p) (hp2 : p ≤ 1000000) (hn : 1 ≤ n) :
    ∃ v, spec_reader_pick.f k bs p n = some (v, p + 1) ∧ 0 ≤ v ∧ v < n := by
  obtain ⟨k, rfl⟩ : ∃ m, k = m + 1 := ⟨k - 1, by omega⟩
  obtain ⟨hb, hl⟩ := hb
  unfold spec_reader_pick.f
  rw [if_neg (by omega), w64 (n := p + 1) (by omega) (by omega)]
  simp only [spec_reader_pick.j0]
  have e1 : wrap64 (p + 1 - 1) = p := by unfold wrap64; omega
  rw [e1]
  have hn0 : ¬ n = 0 := by omega
  by_cases h0 : (bs.length : Int) = 0
  · rw [if_pos (by simpa using h0)]
    exact ⟨0, rfl, by omega, by omega⟩
  · rw [if_neg (by simpa using h0)]
    by_cases h1 : p < (bs.length : Int)
    · have hr := hb _ (rd_mem bs p hp h1)
      rw [if_pos h1, if_pos hp, if_neg hn0, w64 (n := rd bs p) (by omega) (by omega), tmodp hr.1]
      exact ⟨_, rfl, Int.emod_nonneg _ hn0, Int.emod_lt_of_pos _ (by omega)⟩
    · rw [if_neg h1, if_neg h0]
      have hL : (0 : Int) < bs.length := by omega
      have e7 : wrap64 (wrap64 (p * 7) + 3) = p * 7 + 3 := by unfold wrap64; omega
      rw [e7, tmodp hp, tmodp (a := p * 7 + 3) (by omega), tdivp hp]
      have a0 := Int.emod_nonneg p h0
      have a1 := Int.emod_lt_of_pos p hL
      have b0 := Int.emod_nonneg (p * 7 + 3) h0
      have b1 := Int.emod_lt_of_pos (p * 7 + 3) hL
      have hra := hb _ (rd_mem bs _ a0 a1)
      have hrb := hb _ (rd_mem bs _ b0 b1)
      have hd0 : 0 ≤ p / (bs.length : Int) := Int.ediv_nonneg hp (by omega)
      have hd1 : p / (bs.length : Int) ≤ p := Int.ediv_le_self _ hp
      rw [if_pos a0, if_pos a1, if_pos b0, if_pos b1, if_neg hn0]
      generalize rd bs (p % (bs.length : Int)) = ra at hra
      generalize rd bs ((p * 7 + 3) % (bs.length : Int)) = rb at hrb
      generalize p / (bs.length : Int) = q at hd0 hd1
      have ex : wrap64 (wrap64 (wrap64 (wrap64 (wrap64 ra * 131) + wrap64 (wrap64 rb * 1117)) + wrap64 (p * 29)) + wrap64 (wrap64 q * 53)) = ra * 131 + rb * 1117 + p * 29 + q * 53 := by
        unfold wrap64; omega
      rw [ex]
      generalize hx : ra * 131 + rb * 1117 + p * 29 + q * 53 = x
      have hx0 : 0 ≤ x := by omega
      have hx1 : x < 1000000000 := by omega
      rw [tdivp hx0, w64 (n := x / 64) (by omega) (by omega)]
      have hz := xor_pos hx0 (by omega) (y := x / 64) (by omega) (by omega)
      rw [tmodp hz]
      exact ⟨_, rfl, Int.emod_nonneg _ hn0, Int.emod_lt_of_pos _ (by omega)⟩

theorem one_eq {bs : List Int} (hb : Bytes bs) {k : Nat} (hk : 0 < k) {p : Int} (hp : 0 ≤ p) (hp2 : p ≤ 1000000) (l : List Int) (hl : 1 ≤ (l.length : Int)) :
    ∃ v, spec_reader_one.f k bs p l = some (v, p + 1) ∧ v ∈ l := by
  obtain ⟨v, hv, h0, h1⟩ := pick_eq hb hk hp hp2 hl
  unfold spec_reader_one.f
  rw [hv, Option.bind_some, if_pos h0, if_pos h1]
  exact ⟨_, rfl, rd_mem _ _ h0 h1⟩

def Tells {α : Type} (Q : α → Prop) (o : Option α) : Prop := ∃ r, o = some r ∧ Q r

theorem Tells.some {α : Type} {Q : α → Prop} {a : α} (h : Q a) : Tells Q (some a) := ⟨a, rfl, h⟩

theorem Tells.bind {α β : Type} {R : α → Prop} {Q : β → Prop} {o : Option α} {f : α → Option β} (h : Tells R o) (g : ∀ a, R a → Tells Q (f a)) : Tells Q (o.bind f) := by
  obtain ⟨a, rfl, ha⟩ := h
  exact g a ha

theorem Tells.bind2 {α β γ : Type} {R : α × β → Prop} {Q : γ → Prop} {o : Option (α × β)} {f : α × β → Option γ} (h : Tells R o) (g : ∀ a b, R (a, b) → Tells Q (f (a, b))) : Tells Q (o.bind f) := by
  obtain ⟨⟨a, b⟩, rfl, ha⟩ := h
  exact g a b ha

theorem Tells.ite {α : Type} {Q : α → Prop} {c : Prop} [Decidable c] {a b : Option α} (h : c → Tells Q a) (g : ¬ c → Tells Q b) : Tells Q (if c then a else b) := by
  by_cases e : c
  · rw [if_pos e]; exact h e
  · rw [if_neg e]; exact g e

theorem Tells.mono {α : Type} {Q R : α → Prop} {o : Option α} (h : Tells Q o) (g : ∀ a, Q a → R a) : Tells R o := by
  obtain ⟨a, ha, hq⟩ := h
  exact ⟨a, ha, g a hq⟩

theorem Tells.yes {o : Option Bool} (h : Tells (fun b => b = true) o) : o = Option.some true := by
  obtain ⟨a, ha, rfl⟩ := h
  exact ha

theorem Tells.eq {α : Type} {Q : α → Prop} {o : Option α} {a : α} (e : o = Option.some a) (h : Q a) : Tells Q o := ⟨a, e, h⟩

theorem pick_t {bs : List Int} (hb : Bytes bs) {k : Nat} (hk : 0 < k) {p n : Int} (hp : 0 ≤ p) (hp2 : p ≤ 1000000) (hn : 1 ≤ n) :
    Tells (fun r => r.2 = p + 1 ∧ 0 ≤ r.1 ∧ r.1 < n) (spec_reader_pick.f k bs p n) := by
  obtain ⟨v, hv, h0, h1⟩ := pick_eq hb hk hp hp2 hn
  exact ⟨_, hv, rfl, h0, h1⟩

theorem one_t {bs : List Int} (hb : Bytes bs) {k : Nat} (hk : 0 < k) {p : Int} (hp : 0 ≤ p) (hp2 : p ≤ 1000000) {l : List Int} (hl : 1 ≤ l.length) :
    Tells (fun r => r.2 = p + 1 ∧ r.1 ∈ l) (spec_reader_one.f k bs p l) := by
  obtain ⟨v, hv, h0⟩ := one_eq hb hk hp hp2 l (by omega)
  exact ⟨_, hv, rfl, h0⟩

theorem newReader_t {c : List Int} (h : ∀ x, x ∈ c → 0 ≤ x ∧ x ≤ 255) : Tells (fun r => r.2 = 0 ∧ Bytes r.1) (spec_newReader.f c) := by
  obtain ⟨bs, hb, e⟩ := newReader_eq c h
  exact ⟨_, e, rfl, hb⟩

def vLeap (y : Int) : Bool := decide (1980 ≤ y ∧ y ≤ 2099 ∧ y % 4 = 0)

theorem impl_IsLeapYear_eq (y : Int) : impl_IsLeapYear.f y = some (vLeap y) := by
  unfold impl_IsLeapYear.f vLeap
  rw [within_eq, Option.bind_some, ite_dec]
  by_cases h : 1980 ≤ y ∧ y ≤ 2099
  · rw [if_pos h, tmodp (by omega), tmodp (by omega), tmodp (by omega)]
    by_cases h4 : y % 4 = 0
    · rw [if_pos h4]
      by_cases h100 : y % 100 = 0
      · rw [if_pos h100]
        have e : y = 2000 := by omega
        subst e
        rfl
      · rw [if_neg h100]
        simp [h, h4]
    · rw [if_neg h4]
      have h400 : ¬ y % 400 = 0 := by omega
      simp [h4, h400]
  · rw [if_neg h]
    congr 1
    symm
    rw [decide_eq_false_iff_not]
    omega

theorem spec_leap_eq {y : Int} (h0 : 1980 ≤ y) (h1 : y ≤ 2099) : spec_leap.f y = some (decide (y % 4 = 0)) := by
  unfold spec_leap.f
  rw [tmodp (by omega), tmodp (by omega), tmodp (by omega)]
  by_cases h4 : y % 4 = 0
  · rw [if_pos h4]
    by_cases h100 : y % 100 = 0
    · rw [if_pos h100]
      have e : y = 2000 := by omega
      subst e
      rfl
    · rw [if_neg h100]
      simp [h4]
  · rw [if_neg h4]
    have h400 : ¬ y % 400 = 0 := by omega
    simp [h4, h400]

theorem spec_IsLeapYear_eq (y : Int) : spec_IsLeapYear.f y = some (vLeap y) := by
  unfold spec_IsLeapYear.f vLeap
  rw [inRange_eq, Option.bind_some, ite_dec]
  by_cases h : 1980 ≤ y ∧ y ≤ 2099
  · rw [if_pos h, spec_leap_eq h.1 h.2, Option.bind_some]
    simp [h]
  · rw [if_neg h]
    congr 1
    symm
    rw [decide_eq_false_iff_not]
    omega

def MD (y m : Int) : Int := if m = 2 then (if y % 4 = 0 then 29 else 28) else if m = 4 ∨ m = 6 ∨ m = 9 ∨ m = 11 then 30 else 31

def vMD (y m : Int) : Int := if (1980 ≤ y ∧ y ≤ 2099) ∧ 1 ≤ m ∧ m ≤ 12 then MD y m else -1

theorem twelve {m : Int} (h0 : 1 ≤ m) (h1 : m ≤ 12) : m = 1 ∨ m = 2 ∨ m = 3 ∨ m = 4 ∨ m = 5 ∨ m = 6 ∨ m = 7 ∨ m = 8 ∨ m = 9 ∨ m = 10 ∨ m = 11 ∨ m = 12 := by omega

theorem impl_MonthDays_eq {k : Nat} (hk : 0 < k) (y m : Int) : impl_MonthDays.f k y m = some (vMD y m) := by
  obtain ⟨k, rfl⟩ : ∃ j, k = j + 1 := ⟨k - 1, by omega⟩
  unfold impl_MonthDays.f vMD
  rw [within_eq, Option.bind_some, ite_dec, within_eq, Option.bind_some]
  simp only [impl_MonthDays.j0]
  rw [impl_IsLeapYear_eq, Option.bind_some]
  by_cases h : 1980 ≤ y ∧ y ≤ 2099
  · rw [if_pos h]
    by_cases h2 : 1 ≤ m ∧ m ≤ 12
    · rw [if_neg (by rw [decide_eq_true h2]; decide), if_pos (c := (1980 ≤ y ∧ y ≤ 2099) ∧ 1 ≤ m ∧ m ≤ 12) ⟨h, h2⟩]
      by_cases h4 : y % 4 = 0 <;> rcases twelve h2.1 h2.2 with rfl | rfl | rfl | rfl | rfl | rfl | rfl | rfl | rfl | rfl | rfl | rfl <;> simp [MD, vLeap, h, h4]
    · rw [if_pos (by rw [decide_eq_false h2]; rfl), if_neg (c := (1980 ≤ y ∧ y ≤ 2099) ∧ 1 ≤ m ∧ m ≤ 12) (fun e => h2 e.2)]
  · rw [if_neg h, if_pos trivial, if_neg (c := (1980 ≤ y ∧ y ≤ 2099) ∧ 1 ≤ m ∧ m ≤ 12) (fun e => h e.1)]

theorem wf8 {l : List Int} (h : ∀ x ∈ l, (Lit.int .u8 x).wf = true) : ∀ x, x ∈ l → 0 ≤ x ∧ x ≤ 255 := by
  intro x hx
  have := h x hx
  simp [Lit.wf, IntKind.min, IntKind.max, IntKind.signed, IntKind.bits] at this
  omega

theorem someYear_t {bs : List Int} (hb : Bytes bs) {k : Nat} (hk : 0 < k) {p : Int} (hp : 0 ≤ p) (hp2 : p ≤ 900000) : Tells (fun r => r.2 = p + 2) (spec_someYear.f k bs p) := by
  unfold spec_someYear.f
  refine (pick_t hb hk hp (by omega) (by omega)).bind2 ?_
  rintro a q ⟨rfl, h0, h1⟩
  dsimp only
  refine (one_t hb hk (by omega) (by omega) (by simp)).bind2 ?_
  rintro b q ⟨rfl, _⟩
  exact Tells.some (by dsimp only; omega)

theorem DrawIsLeapYear_t {c : List Int} (hc : ∀ x, x ∈ c → 0 ≤ x ∧ x ≤ 255) {k : Nat} (hk : 0 < k) : Tells (fun _ => True) (spec_DrawIsLeapYear.f k c) := by
  unfold spec_DrawIsLeapYear.f
  refine (newReader_t hc).bind2 ?_
  rintro bs p ⟨rfl, (hb : Bytes bs)⟩
  refine (someYear_t hb hk (by omega) (by omega)).bind2 ?_
  rintro a q _
  exact Tells.some trivial

def CM (y m : Int) : Int := (if m ≤ 1 then 0 else if m = 2 then 31 else if m = 3 then 59 else if m = 4 then 90 else if m = 5 then 120 else if m = 6 then 151 else if m = 7 then 181 else if m = 8 then 212 else if m = 9 then 243 else if m = 10 then 273 else if m = 11 then 304 else if m = 12 then 334 else 365) + (if 3 ≤ m ∧ y % 4 = 0 then 1 else 0)

theorem CM_succ {y m : Int} (h0 : 1 ≤ m) (h1 : m ≤ 12) : CM y (m + 1) = CM y m + MD y m := by
  by_cases h4 : y % 4 = 0 <;> rcases twelve h0 h1 with rfl | rfl | rfl | rfl | rfl | rfl | rfl | rfl | rfl | rfl | rfl | rfl <;> simp [CM, MD, h4]

theorem CM_one (y : Int) : CM y 1 = 0 := by simp [CM]

theorem CM_end (y : Int) : CM y 13 = 365 + if y % 4 = 0 then 1 else 0 := by simp [CM]

theorem CM_bd (y m : Int) : 0 ≤ CM y m ∧ CM y m ≤ 366 := by unfold CM; omega

theorem vMD_in {y m : Int} (h : 1980 ≤ y ∧ y ≤ 2099) (h0 : 1 ≤ m) (h1 : m ≤ 12) : vMD y m = MD y m := if_pos ⟨h, h0, h1⟩

theorem leap_loop {y : Int} (h : 1980 ≤ y ∧ y ≤ 2099) (d : Nat) : ∀ (k : Nat) (m : Int), 1 ≤ m → m + d = 13 → d + 1 < k → laws_FnIsLeapYear.l0 k y (vLeap y) (CM y m) m = some true := by
  induction d with
  | zero =>
    intro k m h0 h1 hk
    obtain ⟨k, rfl⟩ : ∃ m, k = m + 1 := ⟨k - 1, by omega⟩
    obtain rfl : m = 13 := by omega
    simp only [laws_FnIsLeapYear.l0]
    rw [if_neg (by omega), CM_end]
    by_cases h4 : y % 4 = 0
    · simp [h4, vLeap, h]
    · simp [h4, vLeap]
  | succ d ih =>
    intro k m h0 h1 hk
    obtain ⟨k, rfl⟩ : ∃ m, k = m + 1 := ⟨k - 1, by omega⟩
    simp only [laws_FnIsLeapYear.l0]
    have hb := CM_bd y (m + 1)
    rw [if_pos (by omega), impl_MonthDays_eq (by omega), Option.bind_some, vMD_in h h0 (by omega), ← CM_succ h0 (by omega), w64 (n := m + 1) (by omega) (by omega), w64 (by omega) (by omega)]
    exact ih k (m + 1) (by omega) (by omega) (by omega)

theorem FnIsLeapYear : laws_FnIsLeapYear.Pure := by
  intro l _ _ hw
  refine ⟨2000000, Tells.yes ?_⟩
  unfold laws_FnIsLeapYear.f
  refine Tells.ite (fun _ => Tells.some rfl) (fun hl => ?_)
  refine (DrawIsLeapYear_t (wf8 hw) (by omega)).bind (fun y _ => ?_)
  rw [impl_IsLeapYear_eq, Option.bind_some, spec_IsLeapYear_eq, Option.bind_some, if_neg (by simp)]
  have hj : ∀ b, laws_FnIsLeapYear.j0 (1999999 + 1) y (vLeap y) b = if b = true then ((spec_IsLeapYear.f y).bind fun t131 => (some (vLeap y == t131))) else (laws_FnIsLeapYear.l0 1999999 y (vLeap y) 0 1) := fun b => rfl
  have hT : laws_FnIsLeapYear.j0 2000000 y (vLeap y) true = some true := by
    rw [hj, spec_IsLeapYear_eq]
    simp
  refine Tells.ite (fun _ => Tells.eq hT rfl) (fun h0 => ?_)
  by_cases hc : y > 2099
  · rw [decide_eq_true hc]
    exact Tells.eq hT rfl
  · rw [decide_eq_false hc]
    refine Tells.eq ?_ rfl
    rw [hj, if_neg (by decide), ← CM_one y]
    exact leap_loop ⟨by omega, by omega⟩ 12 _ 1 (by omega) (by omega) (by omega)

end Go.Proofs.Ytmpnkkkmhmindaa.Pure
