/- Proved here, over numbers and lists alone: the law FnNextLeap answers true at every input (The next leap second is the first one. NextLeap is a leap second, not before the time, and none lies between.) Conditions: none beyond the sizes that the row itself gives. -/
import Derived.Test.YtlkcjnhchjhpoaaHFnNextLeapx4
namespace Go.Proofs.Ytlkcjnhchjhpoaa.Pure
open Go.RowKit Go.Proofs.Ytlkcjnhchjhpoaa.HFnNextLeap Go.Proofs.YtlkcjnhchjhpoaaW.PrintWords Go.Proofs.YtlkcjnhchjhpoaaW.PrintLast

theorem w64 {n : Int} (h0 : -9223372036854775808 ≤ n) (h1 : n ≤ 9223372036854775807) : wrap64 n = n := by unfold wrap64; omega

theorem tmodp {a : Int} (h : 0 ≤ a) (b : Int) : Int.tmod a b = a % b := Int.tmod_eq_emod_of_nonneg h

theorem tdivp {a : Int} (h : 0 ≤ a) (b : Int) : Int.tdiv a b = a / b := Int.tdiv_eq_ediv_of_nonneg h

theorem within_eq (n lo hi : Int) : impl_within.f n lo hi = some (decide (lo ≤ n ∧ n ≤ hi)) := by
  unfold impl_within.f
  by_cases h : lo ≤ n
  · rw [if_pos h]; simp [h]
  · rw [if_neg h]; simp [h]

theorem inRange_eq (n lo hi : Int) : spec_inRange.f n lo hi = some (decide (lo ≤ n ∧ n ≤ hi)) := by
  unfold spec_inRange.f
  by_cases h : lo ≤ n
  · rw [if_pos h]; simp [h]
  · rw [if_neg h]; simp [h]

theorem ite_dec {α : Type} {p : Prop} [Decidable p] {a b : α} : (if decide p = true then a else b) = if p then a else b := by
  by_cases h : p <;> simp [h]

theorem rd_mem (l : List Int) (i : Int) (h0 : 0 ≤ i) (h1 : i < (l.length : Int)) : rd l i ∈ l := by
  unfold rd
  have h : i.toNat < l.length := by omega
  rw [List.getD_eq_getElem?_getD, List.getElem?_eq_getElem h]
  exact List.getElem_mem h

theorem xor_nat (a b : Nat) (ha : a < 4611686018427387904) (hb : b < 4611686018427387904) : Go.bits .xor .i64 a b = ((a ^^^ b : Nat) : Int) ∧ a ^^^ b < 4611686018427387904 := by
  have hx : a ^^^ b < 2 ^ 62 := Nat.xor_lt_two_pow (by simpa using ha) (by simpa using hb)
  have hx' : a ^^^ b < 4611686018427387904 := by simpa using hx
  have e1 : IntKind.i64.bits = 64 := rfl
  have ha' : a % 2 ^ IntKind.i64.bits = a := Nat.mod_eq_of_lt (by rw [e1]; omega)
  have hb' : b % 2 ^ IntKind.i64.bits = b := Nat.mod_eq_of_lt (by rw [e1]; omega)
  refine ⟨?_, hx'⟩
  simp only [Go.bits, BitVec.ofInt_natCast, BitVec.toNat_xor, BitVec.toNat_ofNat, ha', hb']
  rw [IntKind.wrap_i64]
  omega

theorem xor_pos {x y : Int} (h0 : 0 ≤ x) (h1 : x < 4611686018427387904) (h2 : 0 ≤ y) (h3 : y < 4611686018427387904) : 0 ≤ Go.bits .xor .i64 x y := by
  obtain ⟨a, rfl⟩ := Int.eq_ofNat_of_zero_le h0
  obtain ⟨b, rfl⟩ := Int.eq_ofNat_of_zero_le h2
  rw [(xor_nat a b (by omega) (by omega)).1]
  omega

def Bytes (bs : List Int) : Prop := (∀ x, x ∈ bs → 0 ≤ x ∧ x ≤ 255) ∧ bs.length ≤ 2000

theorem newReader_eq (c : List Int) (h : ∀ x, x ∈ c → 0 ≤ x ∧ x ≤ 255) : ∃ bs, Bytes bs ∧ spec_newReader.f c = some (bs, 0) := by
  unfold spec_newReader.f
  by_cases hl : (c.length : Int) > 2000
  · refine ⟨c.take 2000, ⟨fun x hx => h x (List.mem_of_mem_take hx), by rw [List.length_take]; omega⟩, ?_⟩
    rw [if_pos hl, if_pos (by omega)]
  · exact ⟨c, ⟨h, by omega⟩, by rw [if_neg hl]⟩

theorem pick_eq {bs : List Int} (hb : Bytes bs) {k : Nat} (hk : 0 < k) {p n : Int} (hp : 0 ≤ p) (hp2 : p ≤ 1000000) (hn : 1 ≤ n) :
    ∃ v, spec_reader_pick.f k bs p n = some (v, p + 1) ∧ 0 ≤ v ∧ v < n := by
  obtain ⟨k, rfl⟩ : ∃ m, k = m + 1 := ⟨k - 1, by omega⟩
  obtain ⟨hb, hl⟩ := hb
  unfold spec_reader_pick.f
  rw [if_neg (by omega), w64 (n := p + 1) (by omega) (by omega)]
  simp only [spec_reader_pick.j0]
  have e1 : wrap64 (p + 1 - 1) = p := by unfold wrap64; omega
  rw [e1]
  have hn0 : ¬ n = 0 := by omega
  by_cases h0 : (bs.length : Int) = 0
  · rw [if_pos (by simpa using h0)]
    exact ⟨0, rfl, by omega, by omega⟩
  · rw [if_neg (by simpa using h0)]
    by_cases h1 : p < (bs.length : Int)
    · have hr := hb _ (rd_mem bs p hp h1)
      rw [if_pos h1, if_pos hp, if_neg hn0, w64 (n := rd bs p) (by omega) (by omega), tmodp hr.1]
      exact ⟨_, rfl, Int.emod_nonneg _ hn0, Int.emod_lt_of_pos _ (by omega)⟩
    · rw [if_neg h1, if_neg h0]
      have hL : (0 : Int) < bs.length := by omega
      have e7 : wrap64 (wrap64 (p * 7) + 3) = p * 7 + 3 := by unfold wrap64; omega
      rw [e7, tmodp hp, tmodp (a := p * 7 + 3) (by omega), tdivp hp]
      have a0 := Int.emod_nonneg p h0
      have a1 := Int.emod_lt_of_pos p hL
      have b0 := Int.emod_nonneg (p * 7 + 3) h0
      have b1 := Int.emod_lt_of_pos (p * 7 + 3) hL
      have hra := hb _ (rd_mem bs _ a0 a1)
      have hrb := hb _ (rd_mem bs _ b0 b1)
      have hd0 : 0 ≤ p / (bs.length : Int) := Int.ediv_nonneg hp (by omega)
      have hd1 : p / (bs.length : Int) ≤ p := Int.ediv_le_self _ hp
      rw [if_pos a0, if_pos a1, if_pos b0, if_pos b1, if_neg hn0]
      generalize rd bs (p % (bs.length : Int)) = ra at hra
      generalize rd bs ((p * 7 + 3) % (bs.length : Int)) = rb at hrb
      generalize p / (bs.length : Int) = q at hd0 hd1
      have ex : wrap64 (wrap64 (wrap64 (wrap64 (wrap64 ra * 131) + wrap64 (wrap64 rb * 1117)) + wrap64 (p * 29)) + wrap64 (wrap64 q * 53)) = ra * 131 + rb * 1117 + p * 29 + q * 53 := by
        unfold wrap64; omega
      rw [ex]
      generalize hx : ra * 131 + rb * 1117 + p * 29 + q * 53 = x
      have hx0 : 0 ≤ x := by omega
      have hx1 : x < 1000000000 := by omega
      rw [tdivp hx0, w64 (n := x / 64) (by omega) (by omega)]
      have hz := xor_pos hx0 (by omega) (y := x / 64) (by omega) (by omega)
      rw [tmodp hz]
      exact ⟨_, rfl, Int.emod_nonneg _ hn0, Int.emod_lt_of_pos _ (by omega)⟩

theorem one_eq {bs : List Int} (hb : Bytes bs) {k : Nat} (hk : 0 < k) {p : Int} (hp : 0 ≤ p) (hp2 : p ≤ 1000000) (l : List Int) (hl : 1 ≤ (l.length : Int)) :
    ∃ v, spec_reader_one.f k bs p l = some (v, p + 1) ∧ v ∈ l := by
  obtain ⟨v, hv, h0, h1⟩ := pick_eq hb hk hp hp2 hl
  unfold spec_reader_one.f
  rw [hv, Option.bind_some, if_pos h0, if_pos h1]
  exact ⟨_, rfl, rd_mem _ _ h0 h1⟩

def Tells {α : Type} (Q : α → Prop) (o : Option α) : Prop := ∃ r, o = some r ∧ Q r

theorem Tells.some {α : Type} {Q : α → Prop} {a : α} (h : Q a) : Tells Q (some a) := ⟨a, rfl, h⟩

theorem Tells.bind {α β : Type} {R : α → Prop} {Q : β → Prop} {o : Option α} {f : α → Option β} (h : Tells R o) (g : ∀ a, R a → Tells Q (f a)) : Tells Q (o.bind f) := by
  obtain ⟨a, rfl, ha⟩ := h
  exact g a ha

theorem Tells.bind2 {α β γ : Type} {R : α × β → Prop} {Q : γ → Prop} {o : Option (α × β)} {f : α × β → Option γ} (h : Tells R o) (g : ∀ a b, R (a, b) → Tells Q (f (a, b))) : Tells Q (o.bind f) := by
  obtain ⟨⟨a, b⟩, rfl, ha⟩ := h
  exact g a b ha

theorem Tells.ite {α : Type} {Q : α → Prop} {c : Prop} [Decidable c] {a b : Option α} (h : c → Tells Q a) (g : ¬ c → Tells Q b) : Tells Q (if c then a else b) := by
  by_cases e : c
  · rw [if_pos e]; exact h e
  · rw [if_neg e]; exact g e

theorem Tells.mono {α : Type} {Q R : α → Prop} {o : Option α} (h : Tells Q o) (g : ∀ a, Q a → R a) : Tells R o := by
  obtain ⟨a, ha, hq⟩ := h
  exact ⟨a, ha, g a hq⟩

theorem Tells.yes {o : Option Bool} (h : Tells (fun b => b = true) o) : o = Option.some true := by
  obtain ⟨a, ha, rfl⟩ := h
  exact ha

theorem Tells.eq {α : Type} {Q : α → Prop} {o : Option α} {a : α} (e : o = Option.some a) (h : Q a) : Tells Q o := ⟨a, e, h⟩

theorem pick_t {bs : List Int} (hb : Bytes bs) {k : Nat} (hk : 0 < k) {p n : Int} (hp : 0 ≤ p) (hp2 : p ≤ 1000000) (hn : 1 ≤ n) :
    Tells (fun r => r.2 = p + 1 ∧ 0 ≤ r.1 ∧ r.1 < n) (spec_reader_pick.f k bs p n) := by
  obtain ⟨v, hv, h0, h1⟩ := pick_eq hb hk hp hp2 hn
  exact ⟨_, hv, rfl, h0, h1⟩

theorem one_t {bs : List Int} (hb : Bytes bs) {k : Nat} (hk : 0 < k) {p : Int} (hp : 0 ≤ p) (hp2 : p ≤ 1000000) {l : List Int} (hl : 1 ≤ l.length) :
    Tells (fun r => r.2 = p + 1 ∧ r.1 ∈ l) (spec_reader_one.f k bs p l) := by
  obtain ⟨v, hv, h0⟩ := one_eq hb hk hp hp2 l (by omega)
  exact ⟨_, hv, rfl, h0⟩

theorem newReader_t {c : List Int} (h : ∀ x, x ∈ c → 0 ≤ x ∧ x ≤ 255) : Tells (fun r => r.2 = 0 ∧ Bytes r.1) (spec_newReader.f c) := by
  obtain ⟨bs, hb, e⟩ := newReader_eq c h
  exact ⟨_, e, rfl, hb⟩

theorem isTime_eq (t : Int) : impl_isTime.f t = some (decide (0 ≤ t ∧ t ≤ 3786479999)) := by
  unfold impl_isTime.f
  rw [within_eq, Option.bind_some]

theorem validTime_eq (t : Int) : spec_validTime.f t = some (decide (0 ≤ t ∧ t ≤ 3786479999)) := by
  unfold spec_validTime.f
  rw [inRange_eq, Option.bind_some]

theorem wf8 {l : List Int} (h : ∀ x ∈ l, (Lit.int .u8 x).wf = true) : ∀ x, x ∈ l → 0 ≤ x ∧ x ≤ 255 := by
  intro x hx
  have := h x hx
  simp [Lit.wf, IntKind.min, IntKind.max, IntKind.signed, IntKind.bits] at this
  omega

def okAt (l : List Int) (i : Int) : Bool := decide ((1 ≤ rd l i ∧ rd l i ≤ 1893239999) ∧ (i > 0 → rd l (i - 1) + 604800 ≤ rd l i))

def leapsFrom (l : List Int) : Nat → Int → Bool
  | 0, _ => true
  | d + 1, i => okAt l i && leapsFrom l d (i + 1)

def vVL (l : List Int) : Bool := leapsFrom l l.length 0 && decide ((l.length : Int) ≤ 8)

theorem spec_leaps_loop (x : List Int) (hx : x.length ≤ 1048576) (d : Nat) : ∀ (k : Nat) (i : Int), 0 ≤ i → i + d = (x.length : Int) → d < k → (i > 0 → 1 ≤ rd x (i - 1) ∧ rd x (i - 1) ≤ 1893239999) → spec_validLeaps.l0 k x i = some (leapsFrom x d i && decide ((x.length : Int) ≤ 8)) := by
  induction d with
  | zero =>
    intro k i h0 h1 hk hp
    obtain ⟨k, rfl⟩ : ∃ m, k = m + 1 := ⟨k - 1, by omega⟩
    simp only [spec_validLeaps.l0]
    rw [if_neg (by omega)]
    simp [leapsFrom]
  | succ d ih =>
    intro k i h0 h1 hk hp
    obtain ⟨k, rfl⟩ : ∃ m, k = m + 1 := ⟨k - 1, by omega⟩
    simp only [spec_validLeaps.l0]
    rw [if_pos (by omega), if_pos h0, inRange_eq, Option.bind_some, ite_dec, w64 (n := i + 1) (by omega) (by omega), leapsFrom]
    by_cases h2 : 1 ≤ rd x i ∧ rd x i ≤ 1893239999
    · have hi := ih k (i + 1) (by omega) (by omega) (by omega) (fun _ => by rw [show i + 1 - 1 = i by omega]; exact h2)
      rw [if_pos h2, hi]
      by_cases h3 : i > 0
      · have hq := hp h3
        rw [if_pos h3, w64 (n := i - 1) (by omega) (by omega), if_pos (by omega), if_pos (by omega), w64 (by omega) (by omega)]
        by_cases h4 : rd x i < rd x (i - 1) + 604800
        · have e : okAt x i = false := by
            unfold okAt
            rw [decide_eq_false_iff_not]
            intro hh
            have := hh.2 h3
            omega
          rw [if_pos h4, e]
          rfl
        · have e : okAt x i = true := by
            unfold okAt
            rw [decide_eq_true_eq]
            exact ⟨h2, fun _ => by omega⟩
          rw [if_neg h4, e, Bool.true_and]
      · have e : okAt x i = true := by
          unfold okAt
          rw [decide_eq_true_eq]
          exact ⟨h2, fun hh => absurd hh h3⟩
        rw [if_neg h3, e, Bool.true_and]
    · have e : okAt x i = false := by
        unfold okAt
        rw [decide_eq_false_iff_not]
        exact fun hh => h2 hh.1
      rw [if_neg h2, e]
      rfl

theorem spec_validLeaps_eq {x : List Int} (hx : x.length ≤ 1048576) {k : Nat} (hk : 1048577 ≤ k) : spec_validLeaps.f k x = some (vVL x) := by
  unfold spec_validLeaps.f
  exact spec_leaps_loop x hx x.length k 0 (by omega) (by omega) (by omega) (fun h => by omega)

theorem impl_leaps_loop (x : List Int) (hx : x.length ≤ 1048576) (d : Nat) : ∀ (k : Nat) (i : Int), 0 ≤ i → i + d = (x.length : Int) → d < k → (i > 0 → 1 ≤ rd x (i - 1) ∧ rd x (i - 1) ≤ 1893239999) → impl_ValidLeaps.l0 k x x (x.length : Int) i = some (leapsFrom x d i && decide ((x.length : Int) ≤ 8)) := by
  induction d with
  | zero =>
    intro k i h0 h1 hk hp
    obtain ⟨k, rfl⟩ : ∃ m, k = m + 1 := ⟨k - 1, by omega⟩
    simp only [impl_ValidLeaps.l0]
    rw [if_neg (by omega)]
    simp [leapsFrom]
  | succ d ih =>
    intro k i h0 h1 hk hp
    obtain ⟨k, rfl⟩ : ∃ m, k = m + 1 := ⟨k - 1, by omega⟩
    simp only [impl_ValidLeaps.l0]
    rw [if_pos (by omega), if_pos h0, if_pos (by omega), within_eq, Option.bind_some, ite_dec, w64 (n := i + 1) (by omega) (by omega), leapsFrom]
    by_cases h2 : 1 ≤ rd x i ∧ rd x i ≤ 1893239999
    · have hi := ih k (i + 1) (by omega) (by omega) (by omega) (fun _ => by rw [show i + 1 - 1 = i by omega]; exact h2)
      rw [if_pos h2, hi]
      by_cases h3 : i > 0
      · have hq := hp h3
        rw [if_pos h3, w64 (n := i - 1) (by omega) (by omega), if_pos (by omega), if_pos (by omega), w64 (by omega) (by omega)]
        by_cases h4 : rd x i < rd x (i - 1) + 604800
        · have e : okAt x i = false := by
            unfold okAt
            rw [decide_eq_false_iff_not]
            intro hh
            have := hh.2 h3
            omega
          rw [if_pos h4, e]
          rfl
        · have e : okAt x i = true := by
            unfold okAt
            rw [decide_eq_true_eq]
            exact ⟨h2, fun _ => by omega⟩
          rw [if_neg h4, e, Bool.true_and]
      · have e : okAt x i = true := by
          unfold okAt
          rw [decide_eq_true_eq]
          exact ⟨h2, fun hh => absurd hh h3⟩
        rw [if_neg h3, e, Bool.true_and]
    · have e : okAt x i = false := by
        unfold okAt
        rw [decide_eq_false_iff_not]
        exact fun hh => h2 hh.1
      rw [if_neg h2, e]
      rfl

theorem impl_ValidLeaps_eq {x : List Int} (hx : x.length ≤ 1048576) {k : Nat} (hk : 1048577 ≤ k) : impl_ValidLeaps.f k x = some (vVL x) := by
  unfold impl_ValidLeaps.f
  exact impl_leaps_loop x hx x.length k 0 (by omega) (by omega) (by omega) (fun h => by omega)

theorem someTime_t {bs : List Int} (hb : Bytes bs) {k : Nat} (hk : 0 < k) {p : Int} (hp : 0 ≤ p) (hp2 : p ≤ 900000) : Tells (fun r => p ≤ r.2 ∧ r.2 ≤ p + 3) (spec_someTime.f k bs p) := by
  unfold spec_someTime.f
  refine (pick_t hb hk hp (by omega) (by omega)).bind2 ?_
  rintro a q ⟨rfl, h0, h1⟩
  dsimp only
  refine Tells.ite (fun _ => ?_) (fun _ => Tells.ite (fun _ => ?_) (fun _ => ?_))
  · refine (one_t hb hk (by omega) (by omega) (by simp)).bind2 ?_
    rintro b q ⟨rfl, _⟩
    exact Tells.some (by dsimp only; omega)
  · refine (pick_t hb hk (by omega) (by omega) (by omega)).bind2 ?_
    rintro b q ⟨rfl, _, _⟩
    exact Tells.some (by dsimp only; omega)
  · refine (pick_t hb hk (by omega) (by omega) (by omega)).bind2 ?_
    rintro b q ⟨rfl, _, _⟩
    dsimp only
    refine (pick_t hb hk (by omega) (by omega) (by omega)).bind2 ?_
    rintro b q ⟨rfl, _, _⟩
    exact Tells.some (by dsimp only; omega)

theorem anyTime_t {bs : List Int} (hb : Bytes bs) {k : Nat} (hk : 0 < k) {p : Int} (hp : 0 ≤ p) (hp2 : p ≤ 800000) : Tells (fun r => p ≤ r.2 ∧ r.2 ≤ p + 4) (spec_anyTime.f k bs p) := by
  unfold spec_anyTime.f
  refine (pick_t hb hk hp (by omega) (by omega)).bind2 ?_
  rintro a q ⟨rfl, h0, h1⟩
  dsimp only
  refine Tells.ite (fun _ => ?_) (fun _ => ?_)
  · refine (one_t hb hk (by omega) (by omega) (by simp)).bind2 ?_
    rintro b q ⟨rfl, _⟩
    exact Tells.some (by dsimp only; omega)
  · refine (someTime_t hb hk (by omega) (by omega)).bind2 ?_
    rintro b q ⟨h2, h3⟩
    dsimp only at h2 h3
    exact Tells.some (by dsimp only; omega)

def has (l : List Int) (t : Int) : Nat → Int → Bool
  | 0, _ => false
  | d + 1, i => decide (rd l i = t) || has l t d (i + 1)

def vIn (l : List Int) (t : Int) : Bool := has l t l.length 0

theorem has_iff (l : List Int) (t : Int) (d : Nat) : ∀ i : Int, has l t d i = true ↔ ∃ j : Int, i ≤ j ∧ j < i + d ∧ rd l j = t := by
  induction d with
  | zero =>
    intro i
    simp only [has]
    constructor
    · intro h; exact absurd h (by decide)
    · rintro ⟨j, h0, h1, _⟩; omega
  | succ d ih =>
    intro i
    rw [has, Bool.or_eq_true, ih, decide_eq_true_eq]
    constructor
    · rintro (h | ⟨j, h0, h1, h2⟩)
      · exact ⟨i, by omega, by omega, h⟩
      · exact ⟨j, by omega, by omega, h2⟩
    · rintro ⟨j, h0, h1, h2⟩
      by_cases e : j = i
      · rw [e] at h2; exact Or.inl h2
      · exact Or.inr ⟨j, by omega, by omega, h2⟩

theorem vIn_iff (l : List Int) (t : Int) : vIn l t = true ↔ ∃ j : Int, 0 ≤ j ∧ j < (l.length : Int) ∧ rd l j = t := by
  unfold vIn
  rw [has_iff]
  constructor
  · rintro ⟨j, h0, h1, h2⟩; exact ⟨j, h0, by omega, h2⟩
  · rintro ⟨j, h0, h1, h2⟩; exact ⟨j, h0, by omega, h2⟩

theorem isIn_loop (l : List Int) (hl : l.length ≤ 1048576) (t : Int) (d : Nat) : ∀ (k : Nat) (i : Int), 0 ≤ i → i + d = (l.length : Int) → d < k → laws_isIn.l0 k l t i = some (has l t d i) := by
  induction d with
  | zero =>
    intro k i h0 h1 hk
    obtain ⟨k, rfl⟩ : ∃ m, k = m + 1 := ⟨k - 1, by omega⟩
    simp only [laws_isIn.l0]
    rw [if_neg (by omega)]
    rfl
  | succ d ih =>
    intro k i h0 h1 hk
    obtain ⟨k, rfl⟩ : ∃ m, k = m + 1 := ⟨k - 1, by omega⟩
    simp only [laws_isIn.l0]
    rw [if_pos (by omega), if_pos h0, w64 (n := i + 1) (by omega) (by omega), ih k (i + 1) (by omega) (by omega) (by omega), has]
    by_cases h : rd l i = t
    · rw [if_pos h, decide_eq_true h]; rfl
    · rw [if_neg h, decide_eq_false h]; rfl

theorem isIn_eq {l : List Int} (hl : l.length ≤ 1048576) (t : Int) {k : Nat} (hk : 1048577 ≤ k) : laws_isIn.f k l t = some (vIn l t) := by
  unfold laws_isIn.f
  exact isIn_loop l hl t l.length k 0 (by omega) (by omega) (by omega)

def cnt (l : List Int) (t : Int) : Nat → Int → Int
  | 0, _ => 0
  | d + 1, i => (if rd l i < t then 1 else 0) + cnt l t d (i + 1)

def vCnt (l : List Int) (t : Int) : Int := cnt l t l.length 0

theorem impl_cnt_loop (l : List Int) (hl : l.length ≤ 1048576) (t : Int) (d : Nat) : ∀ (k : Nat) (acc i : Int), 0 ≤ i → i + d = (l.length : Int) → d < k → 0 ≤ acc → acc ≤ i → impl_leapsBefore.l0 k t acc l (l.length : Int) i = some (acc + cnt l t d i) := by
  induction d with
  | zero =>
    intro k acc i h0 h1 hk h2 h3
    obtain ⟨k, rfl⟩ : ∃ m, k = m + 1 := ⟨k - 1, by omega⟩
    simp only [impl_leapsBefore.l0]
    rw [if_neg (by omega)]
    simp [cnt]
  | succ d ih =>
    intro k acc i h0 h1 hk h2 h3
    obtain ⟨k, rfl⟩ : ∃ m, k = m + 1 := ⟨k - 1, by omega⟩
    simp only [impl_leapsBefore.l0]
    rw [if_pos (by omega), if_pos h0, if_pos (by omega), w64 (n := i + 1) (by omega) (by omega), cnt]
    by_cases h : rd l i < t
    · rw [if_pos h, if_pos h, w64 (by omega) (by omega), ih k (acc + 1) (i + 1) (by omega) (by omega) (by omega) (by omega) (by omega)]
      congr 1
      omega
    · rw [if_neg h, if_neg h, ih k acc (i + 1) (by omega) (by omega) (by omega) (by omega) (by omega)]
      congr 1
      omega

theorem impl_cnt_eq {l : List Int} (hl : l.length ≤ 1048576) (t : Int) {k : Nat} (hk : 1048577 ≤ k) : impl_leapsBefore.f k l t = some (vCnt l t) := by
  unfold impl_leapsBefore.f
  rw [impl_cnt_loop l hl t l.length k 0 0 (by omega) (by omega) (by omega) (by omega) (by omega), Int.zero_add]
  rfl

def vLB (l : List Int) (t : Int) : Int := if vVL l = true ∧ 0 ≤ t ∧ t ≤ 3786479999 then vCnt l t else -1

theorem impl_LeapsBefore_eq {l : List Int} (hl : l.length ≤ 1048576) (t : Int) {k : Nat} (hk : 1048577 ≤ k) : impl_LeapsBefore.f k l t = some (vLB l t) := by
  unfold impl_LeapsBefore.f vLB
  rw [impl_ValidLeaps_eq hl hk, Option.bind_some, isTime_eq, Option.bind_some, ite_dec, impl_cnt_eq hl t hk, Option.bind_some]
  by_cases h : vVL l = true
  · rw [if_pos h]
    by_cases h2 : 0 ≤ t ∧ t ≤ 3786479999
    · rw [if_pos h2, if_pos ⟨h, h2⟩]
    · rw [if_neg h2, if_neg (fun e => h2 e.2)]
  · rw [if_neg h, if_neg (fun e => h e.1)]

def nxt (l : List Int) (t : Int) : Nat → Int → Int
  | 0, _ => -1
  | d + 1, i => if rd l i ≥ t then rd l i else nxt l t d (i + 1)

theorem spec_nxt_loop (l : List Int) (hl : l.length ≤ 1048576) (t : Int) (d : Nat) : ∀ (k : Nat) (i : Int), 0 ≤ i → i + d = (l.length : Int) → d < k → spec_NextLeap.l0 k l t i = some (nxt l t d i) := by
  induction d with
  | zero =>
    intro k i h0 h1 hk
    obtain ⟨k, rfl⟩ : ∃ m, k = m + 1 := ⟨k - 1, by omega⟩
    simp only [spec_NextLeap.l0]
    rw [if_neg (by omega)]
    rfl
  | succ d ih =>
    intro k i h0 h1 hk
    obtain ⟨k, rfl⟩ : ∃ m, k = m + 1 := ⟨k - 1, by omega⟩
    simp only [spec_NextLeap.l0]
    rw [if_pos (by omega), if_pos h0, w64 (n := i + 1) (by omega) (by omega), ih k (i + 1) (by omega) (by omega) (by omega), nxt]
    split <;> rfl

theorem impl_nxt_loop (l : List Int) (hl : l.length ≤ 1048576) (t : Int) (d : Nat) : ∀ (k : Nat) (i : Int), 0 ≤ i → i + d = (l.length : Int) → d < k → impl_NextLeap.l0 k t l (l.length : Int) i = some (nxt l t d i) := by
  induction d with
  | zero =>
    intro k i h0 h1 hk
    obtain ⟨k, rfl⟩ : ∃ m, k = m + 1 := ⟨k - 1, by omega⟩
    simp only [impl_NextLeap.l0]
    rw [if_neg (by omega)]
    rfl
  | succ d ih =>
    intro k i h0 h1 hk
    obtain ⟨k, rfl⟩ : ∃ m, k = m + 1 := ⟨k - 1, by omega⟩
    simp only [impl_NextLeap.l0]
    rw [if_pos (by omega), if_pos h0, if_pos (by omega), w64 (n := i + 1) (by omega) (by omega), ih k (i + 1) (by omega) (by omega) (by omega), nxt]
    split <;> rfl

def vNext (l : List Int) (t : Int) : Int := if vVL l = true ∧ 0 ≤ t ∧ t ≤ 3786479999 then nxt l t l.length 0 else -1

theorem spec_NextLeap_eq {l : List Int} (hl : l.length ≤ 1048576) (t : Int) {k : Nat} (hk : 1048578 ≤ k) : spec_NextLeap.f k l t = some (vNext l t) := by
  obtain ⟨k, rfl⟩ : ∃ m, k = m + 1 := ⟨k - 1, by omega⟩
  unfold spec_NextLeap.f vNext
  rw [spec_validLeaps_eq hl (by omega), Option.bind_some, validTime_eq, Option.bind_some]
  simp only [spec_NextLeap.j0]
  rw [spec_nxt_loop l hl t l.length k 0 (by omega) (by omega) (by omega)]
  by_cases h : vVL l = true
  · rw [if_pos h]
    by_cases h2 : 0 ≤ t ∧ t ≤ 3786479999
    · rw [decide_eq_true h2, if_pos (c := vVL l = true ∧ _) ⟨h, h2⟩]; rfl
    · rw [decide_eq_false h2, if_neg (c := vVL l = true ∧ _) (fun e => h2 e.2)]; rfl
  · rw [if_neg h, if_neg (c := vVL l = true ∧ _) (fun e => h e.1)]; rfl

theorem impl_NextLeap_eq {l : List Int} (hl : l.length ≤ 1048576) (t : Int) {k : Nat} (hk : 1048578 ≤ k) : impl_NextLeap.f k l t = some (vNext l t) := by
  obtain ⟨k, rfl⟩ : ∃ m, k = m + 1 := ⟨k - 1, by omega⟩
  unfold impl_NextLeap.f vNext
  rw [impl_ValidLeaps_eq hl (by omega), Option.bind_some, isTime_eq, Option.bind_some]
  simp only [impl_NextLeap.j0]
  rw [impl_nxt_loop l hl t l.length k 0 (by omega) (by omega) (by omega)]
  by_cases h : vVL l = true
  · rw [if_pos h]
    by_cases h2 : 0 ≤ t ∧ t ≤ 3786479999
    · rw [decide_eq_true h2, if_pos (c := vVL l = true ∧ _) ⟨h, h2⟩]; rfl
    · rw [decide_eq_false h2, if_neg (c := vVL l = true ∧ _) (fun e => h2 e.2)]; rfl
  · rw [if_neg h, if_neg (c := vVL l = true ∧ _) (fun e => h e.1)]; rfl

theorem someLeaps_loop {bs : List Int} (hb : Bytes bs) (d : Nat) : ∀ (k : Nat) (x : List Int) (t n p : Int), n ≤ d → (x.length : Int) + d ≤ 100 → d < k → 0 ≤ p → p + d ≤ 900000 → Tells (fun r => (r.1.length : Int) ≤ x.length + d ∧ p ≤ r.2 ∧ r.2 ≤ p + d) (spec_someLeaps.l0 k x t n bs p) := by
  induction d with
  | zero =>
    intro k x t n p h0 h1 hk h2 h3
    obtain ⟨k, rfl⟩ : ∃ m, k = m + 1 := ⟨k - 1, by omega⟩
    simp only [spec_someLeaps.l0]
    rw [if_neg (by omega)]
    exact Tells.some (by dsimp only; omega)
  | succ d ih =>
    intro k x t n p h0 h1 hk h2 h3
    obtain ⟨k, rfl⟩ : ∃ m, k = m + 1 := ⟨k - 1, by omega⟩
    simp only [spec_someLeaps.l0]
    refine Tells.ite (fun hn => ?_) (fun _ => Tells.some (by dsimp only; omega))
    rw [if_pos (by omega)]
    refine (one_t hb (by omega) h2 (by omega) (by simp)).bind2 ?_
    rintro a q ⟨rfl, _⟩
    dsimp only
    have hlen : ((x ++ [t]).length : Int) = x.length + 1 := by simp
    have hn1 : wrap64 (n - 1) ≤ d := by rw [w64 (by omega) (by omega)]; omega
    refine (ih k (x ++ [t]) _ _ (p + 1) hn1 (by omega) (by omega) (by omega) (by omega)).mono ?_
    rintro r ⟨g0, g1, g2⟩
    exact ⟨by omega, by omega, by omega⟩

theorem someLeaps_t {bs : List Int} (hb : Bytes bs) {k : Nat} (hk : 50 < k) {p : Int} (hp : 0 ≤ p) (hp2 : p ≤ 800000) : Tells (fun r => (r.1.length : Int) ≤ 8 ∧ p ≤ r.2 ∧ r.2 ≤ p + 20) (spec_someLeaps.f k bs p) := by
  unfold spec_someLeaps.f
  refine (pick_t hb (by omega) hp (by omega) (by omega)).bind2 ?_
  rintro a q ⟨rfl, _, _⟩
  dsimp only
  refine (one_t hb (by omega) (by omega) (by omega) (by simp)).bind2 ?_
  rintro b q ⟨rfl, hm⟩
  dsimp only at hm ⊢
  simp only [List.mem_cons, List.not_mem_nil, or_false] at hm
  refine (someLeaps_loop hb 8 k [] _ b _ (by omega) (by simp) (by omega) (by omega) (by omega)).mono ?_
  rintro r ⟨g0, g1, g2⟩
  have e : (([] : List Int).length : Int) = 0 := rfl
  exact ⟨by omega, by omega, by omega⟩

theorem copyInts_eq {l : List Int} (h : l.length < 1000) : spec_copyInts.f l = some l := by
  unfold spec_copyInts.f
  rw [Option.bind_some, if_pos (by rw [List.length_nil]; omega), List.nil_append]

theorem spoil_t {bs : List Int} (hb : Bytes bs) {k : Nat} (hk : 50 < k) {p : Int} (hp : 0 ≤ p) (hp2 : p ≤ 800000) {l : List Int} (hl : l.length ≤ 100) (n : Int) : Tells (fun r => (r.1.length : Int) ≤ l.length + 1 ∧ p ≤ r.2 ∧ r.2 ≤ p + 3) (spec_reader_spoil.f k bs p l n) := by
  unfold spec_reader_spoil.f
  rw [copyInts_eq (by omega), Option.bind_some]
  refine (pick_t hb (by omega) hp (by omega) (by omega)).bind2 ?_
  rintro a q ⟨rfl, _, _⟩
  dsimp only
  refine Tells.ite (fun _ => ?_) (fun _ => Tells.ite (fun _ => ?_) (fun _ => Tells.ite (fun _ => ?_) (fun _ => ?_)))
  · rw [if_pos (by omega)]
    have e : ((l ++ [n]).length : Int) = l.length + 1 := by simp
    exact Tells.some (by dsimp only; omega)
  · refine Tells.ite (fun _ => ?_) (fun _ => ?_)
    · rw [if_pos (by omega)]
      have e : ((l.drop (1 : Int).toNat).length : Int) ≤ l.length := by rw [List.length_drop]; omega
      exact Tells.some (by dsimp only; omega)
    · exact Tells.some (by dsimp only; omega)
  · refine Tells.ite (fun h0 => ?_) (fun _ => ?_)
    · refine (pick_t hb (by omega) (by omega) (by omega) (by omega)).bind2 ?_
      rintro b q ⟨rfl, g0, g1⟩
      dsimp only at g0 g1 ⊢
      refine (one_t hb (by omega) (by omega) (by omega) (by simp)).bind2 ?_
      rintro c q ⟨rfl, _⟩
      dsimp only
      rw [if_pos g0, if_pos g1]
      have e : ((l.set b.toNat c).length : Int) = l.length := by rw [List.length_set]
      exact Tells.some (by dsimp only; omega)
    · exact Tells.some (by dsimp only; omega)
  · exact Tells.some (by dsimp only; omega)

theorem anyLeaps_t {bs : List Int} (hb : Bytes bs) {k : Nat} (hk : 50 < k) {p : Int} (hp : 0 ≤ p) (hp2 : p ≤ 700000) : Tells (fun r => (r.1.length : Int) ≤ 100 ∧ 0 ≤ r.2 ∧ r.2 ≤ p + 50) (spec_anyLeaps.f k bs p) := by
  unfold spec_anyLeaps.f
  refine (someLeaps_t hb hk hp (by omega)).bind2 ?_
  rintro l q ⟨h0, h1, h2⟩
  dsimp only at h0 h1 h2 ⊢
  refine (pick_t hb (by omega) (by omega) (by omega) (by omega)).bind2 ?_
  rintro b q ⟨rfl, g0, g1⟩
  dsimp only
  refine Tells.ite (fun _ => ?_) (fun _ => Tells.some (by dsimp only; omega))
  refine (one_t hb (by omega) (by omega) (by omega) (by simp)).bind2 ?_
  rintro c q ⟨rfl, _⟩
  dsimp only
  rw [if_pos (by omega)]
  have e : (l ++ [c]).length = l.length + 1 := by simp
  refine (spoil_t hb hk (by omega) (by omega) (l := l ++ [c]) (by omega) _).bind2 ?_
  rintro m q ⟨f0, f1, f2⟩
  dsimp only at f0 f1 f2
  exact Tells.some (by dsimp only; omega)

theorem leapTime_j {bs : List Int} (hb : Bytes bs) {k : Nat} (hk : 50 < k) {p : Int} (hp : 0 ≤ p) (hp2 : p ≤ 700000) (l : List Int) (b : Bool) (h : b = true → 1 ≤ (l.length : Int)) : Tells (fun _ => True) (spec_leapTime.j0 k l b bs p) := by
  obtain ⟨k, rfl⟩ : ∃ m, k = m + 1 := ⟨k - 1, by omega⟩
  simp only [spec_leapTime.j0]
  refine Tells.ite (fun hbt => ?_) (fun _ => ?_)
  · refine (pick_t hb (by omega) hp (by omega) (h hbt)).bind2 ?_
    rintro a q ⟨rfl, g0, g1⟩
    dsimp only at g0 g1 ⊢
    rw [if_pos g0, if_pos g1]
    refine (one_t hb (by omega) (by omega) (by omega) (by simp)).bind2 ?_
    rintro c q ⟨rfl, _⟩
    exact Tells.some trivial
  · refine (anyTime_t hb (by omega) hp (by omega)).bind2 ?_
    rintro a q _
    exact Tells.some trivial

theorem leapTime_t {bs : List Int} (hb : Bytes bs) {k : Nat} (hk : 50 < k) {p : Int} (hp : 0 ≤ p) (hp2 : p ≤ 600000) (l : List Int) : Tells (fun _ => True) (spec_leapTime.f k bs p l) := by
  unfold spec_leapTime.f
  refine Tells.ite (fun h => ?_) (fun _ => ?_)
  · refine (pick_t hb (by omega) hp (by omega) (by omega)).bind2 ?_
    rintro a q ⟨rfl, _, _⟩
    exact leapTime_j hb hk (by dsimp only; omega) (by dsimp only; omega) l _ (fun _ => by omega)
  · exact leapTime_j hb hk hp (by omega) l _ (fun h => absurd h (by decide))

theorem DrawLeapsBefore_t {c : List Int} (hc : ∀ x, x ∈ c → 0 ≤ x ∧ x ≤ 255) {k : Nat} (hk : 50 < k) : Tells (fun r => r.1.length ≤ 100) (spec_DrawLeapsBefore.f k c) := by
  unfold spec_DrawLeapsBefore.f
  refine (newReader_t hc).bind2 ?_
  rintro bs p ⟨rfl, (hb : Bytes bs)⟩
  dsimp only
  refine (anyLeaps_t hb hk (by omega) (by omega)).bind2 ?_
  rintro l q ⟨h0, h1, h2⟩
  dsimp only at h0 h1 h2 ⊢
  refine (leapTime_t hb hk h1 (by omega) l).bind ?_
  rintro r _
  exact Tells.some (by dsimp only; omega)

theorem DrawNextLeap_t {c : List Int} (hc : ∀ x, x ∈ c → 0 ≤ x ∧ x ≤ 255) {k : Nat} (hk : 50 < k) : Tells (fun r => r.1.length ≤ 100) (spec_DrawNextLeap.f k c) := by
  unfold spec_DrawNextLeap.f
  refine (DrawLeapsBefore_t hc hk).bind ?_
  rintro r h
  exact Tells.some h

theorem leapsFrom_iff (l : List Int) (d : Nat) : ∀ i : Int, leapsFrom l d i = true ↔ ∀ j : Int, i ≤ j → j < i + d → okAt l j = true := by
  induction d with
  | zero =>
    intro i
    simp only [leapsFrom, true_iff]
    intro j h0 h1
    omega
  | succ d ih =>
    intro i
    rw [leapsFrom, Bool.and_eq_true, ih]
    constructor
    · intro ⟨h0, h1⟩ j hj0 hj1
      by_cases e : j = i
      · rw [e]; exact h0
      · exact h1 j (by omega) (by omega)
    · intro h
      exact ⟨h i (by omega) (by omega), fun j h0 h1 => h j (by omega) (by omega)⟩

theorem vVL_iff (l : List Int) : vVL l = true ↔ (∀ j : Int, 0 ≤ j → j < (l.length : Int) → (1 ≤ rd l j ∧ rd l j ≤ 1893239999) ∧ (j > 0 → rd l (j - 1) + 604800 ≤ rd l j)) ∧ l.length ≤ 8 := by
  unfold vVL
  rw [Bool.and_eq_true, leapsFrom_iff, decide_eq_true_eq]
  constructor
  · intro ⟨h0, h1⟩
    refine ⟨fun j a b => ?_, by omega⟩
    have := h0 j a (by omega)
    unfold okAt at this
    rw [decide_eq_true_eq] at this
    exact this
  · intro ⟨h0, h1⟩
    refine ⟨fun j a b => ?_, by omega⟩
    unfold okAt
    rw [decide_eq_true_eq]
    exact h0 j a (by omega)

theorem vVL_asc {l : List Int} (h : vVL l = true) (d : Nat) : ∀ i : Int, 0 ≤ i → i + d + 1 < (l.length : Int) → rd l i + 604800 ≤ rd l (i + d + 1) := by
  have hv := ((vVL_iff l).1 h).1
  induction d with
  | zero =>
    intro i h0 h1
    have := (hv (i + 1) (by omega) (by omega)).2 (by omega)
    rw [show i + 1 - 1 = i by omega] at this
    simpa using this
  | succ d ih =>
    intro i h0 h1
    have a := ih i h0 (by omega)
    have b := (hv (i + (d + 1 : Nat) + 1) (by omega) (by omega)).2 (by omega)
    rw [show i + ((d + 1 : Nat) : Int) + 1 - 1 = i + d + 1 by omega] at b
    omega

theorem vVL_lt {l : List Int} (h : vVL l = true) {i j : Int} (h0 : 0 ≤ i) (h1 : i < j) (h2 : j < (l.length : Int)) : rd l i + 604800 ≤ rd l j := by
  have a := vVL_asc h (j - i - 1).toNat i h0 (by omega)
  rwa [show i + ((j - i - 1).toNat : Int) + 1 = j by omega] at a

theorem cnt_same {l l' : List Int} {t t' : Int} (d : Nat) : ∀ i : Int, (∀ j : Int, i ≤ j → j < i + d → (rd l j < t ↔ rd l' j < t')) → cnt l t d i = cnt l' t' d i := by
  induction d with
  | zero => intro i _; rfl
  | succ d ih =>
    intro i h
    rw [cnt, cnt, ih (i + 1) (fun j a b => h j (by omega) (by omega))]
    have := h i (by omega) (by omega)
    simp only [this]

theorem nxt_cases {l : List Int} {t : Int} (d : Nat) : ∀ i : Int, (∀ j : Int, i ≤ j → j < i + d → 1 ≤ rd l j) → (nxt l t d i = -1 ∧ ∀ j : Int, i ≤ j → j < i + d → rd l j < t) ∨ (∃ j : Int, i ≤ j ∧ j < i + d ∧ nxt l t d i = rd l j ∧ t ≤ rd l j ∧ ∀ a : Int, i ≤ a → a < j → rd l a < t) := by
  induction d with
  | zero => intro i _; exact Or.inl ⟨rfl, fun j a b => by omega⟩
  | succ d ih =>
    intro i h
    rw [nxt]
    by_cases hg : rd l i ≥ t
    · rw [if_pos hg]
      exact Or.inr ⟨i, by omega, by omega, rfl, hg, fun a b c => by omega⟩
    · rw [if_neg hg]
      rcases ih (i + 1) (fun j a b => h j (by omega) (by omega)) with ⟨h1, h2⟩ | ⟨j, h1, h2, h3, h4, h5⟩
      · refine Or.inl ⟨h1, fun j a b => ?_⟩
        by_cases e : j = i
        · rw [e]; omega
        · exact h2 j (by omega) (by omega)
      · refine Or.inr ⟨j, by omega, by omega, h3, h4, fun a b c => ?_⟩
        by_cases e : a = i
        · rw [e]; omega
        · exact h5 a (by omega) c

theorem vNext_pos {l : List Int} {t : Int} (h : ¬ vNext l t < 0) : vVL l = true ∧ 0 ≤ t ∧ t ≤ 3786479999 := by
  unfold vNext at h
  split at h
  · assumption
  · omega

theorem next_loop (x : List Int) (hx : x.length ≤ 1048576) {t n : Int} (hno : ∀ j : Int, 0 ≤ j → j < (x.length : Int) → t ≤ rd x j → n ≤ rd x j) (hin : vIn x n = true) (hge : t ≤ n) (hlb : vLB x n = vLB x t) (d : Nat) : ∀ (k : Nat) (i : Int), 0 ≤ i → i + d = (x.length : Int) → 1048578 + d < k → laws_FnNextLeap.l0 k x t n i = some true := by
  induction d with
  | zero =>
    intro k i h0 h1 hk
    obtain ⟨k, rfl⟩ : ∃ m, k = m + 1 := ⟨k - 1, by omega⟩
    simp only [laws_FnNextLeap.l0]
    rw [if_neg (by omega), isIn_eq hx n (by omega), Option.bind_some, if_pos hin, if_pos hge, impl_LeapsBefore_eq hx n (by omega), Option.bind_some, impl_LeapsBefore_eq hx t (by omega), Option.bind_some, hlb]
    simp
  | succ d ih =>
    intro k i h0 h1 hk
    obtain ⟨k, rfl⟩ : ∃ m, k = m + 1 := ⟨k - 1, by omega⟩
    simp only [laws_FnNextLeap.l0]
    rw [if_pos (by omega), if_pos h0, w64 (n := i + 1) (by omega) (by omega), ih k (i + 1) (by omega) (by omega) (by omega)]
    by_cases hg : rd x i ≥ t
    · have := hno i h0 (by omega) hg
      rw [if_pos hg, if_neg (by omega)]
    · rw [if_neg hg]

theorem FnNextLeap : laws_FnNextLeap.Pure := by
  intro l _ _ hw
  refine ⟨2999999 + 1, Tells.yes ?_⟩
  unfold laws_FnNextLeap.f
  refine Tells.ite (fun _ => Tells.some rfl) (fun hl => ?_)
  refine (DrawNextLeap_t (wf8 hw) (by omega)).bind2 (fun x t hx => ?_)
  have hx' : x.length ≤ 1048576 := by dsimp only at hx; omega
  dsimp only
  rw [impl_NextLeap_eq hx' t (by omega), Option.bind_some, spec_NextLeap_eq hx' t (by omega), Option.bind_some, if_pos rfl]
  by_cases hn : vNext x t < 0
  · rw [decide_eq_true hn]
    simp only [laws_FnNextLeap.j0]
    rw [if_pos trivial, spec_NextLeap_eq hx' t (by omega), Option.bind_some]
    exact Tells.some (by simp)
  · rw [decide_eq_false hn]
    obtain ⟨hv, h0, h1⟩ := vNext_pos hn
    have hall := ((vVL_iff x).1 hv).1
    have v1 : vNext x t = nxt x t x.length 0 := if_pos ⟨hv, h0, h1⟩
    rw [v1] at hn ⊢
    simp only [laws_FnNextLeap.j0]
    rw [if_neg (by decide)]
    rcases nxt_cases (l := x) (t := t) x.length 0 (fun j a b => (hall j a (by omega)).1.1) with ⟨g1, g2⟩ | ⟨j, g1, g2, g3, g4, g5⟩
    · omega
    · rw [g3]
      have hj := (hall j g1 (by omega)).1
      have hno : ∀ a : Int, 0 ≤ a → a < (x.length : Int) → t ≤ rd x a → rd x j ≤ rd x a := by
        intro a b c e
        by_cases h2 : a < j
        · have := g5 a b h2
          omega
        · by_cases h3 : j < a
          · have := vVL_lt hv g1 h3 c
            omega
          · have : a = j := by omega
            rw [this]
            omega
      have hlb : vLB x (rd x j) = vLB x t := by
        unfold vLB
        rw [if_pos ⟨hv, by omega, by omega⟩, if_pos ⟨hv, h0, h1⟩]
        refine cnt_same x.length 0 (fun a b c => ⟨fun e => ?_, fun e => by omega⟩)
        by_cases h2 : t ≤ rd x a
        · have := hno a b (by omega) h2
          omega
        · omega
      exact Tells.eq (next_loop x hx' hno ((vIn_iff x _).2 ⟨j, g1, by omega, rfl⟩) g4 hlb x.length 2999999 0 (by omega) (by omega) (by omega)) rfl

end Go.Proofs.Ytlkcjnhchjhpoaa.Pure
