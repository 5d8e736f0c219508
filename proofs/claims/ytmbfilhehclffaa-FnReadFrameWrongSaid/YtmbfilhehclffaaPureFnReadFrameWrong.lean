/- Proved here, over numbers and lists alone: the law FnReadFrameWrong answers true at every input (Wrong bytes are found. ReadFrame of a sentence in which one byte of its text is another one fails.) Conditions: none beyond the sizes that the row itself gives. -/
import Derived.Test.YtmbfilhehclffaaHFnReadFrameWrongx5
namespace Go.Proofs.Ytmbfilhehclffaa.Pure
open Go.RowKit Go.Proofs.Ytmbfilhehclffaa.HFnReadFrameWrong Go.Proofs.YtmbfilhehclffaaW.PrintWords Go.Proofs.YtmbfilhehclffaaW.PrintLast

theorem w64 {n : Int} (h0 : -9223372036854775808 ≤ n) (h1 : n ≤ 9223372036854775807) : wrap64 n = n := by unfold wrap64; omega

theorem tmodp {a : Int} (h : 0 ≤ a) (b : Int) : Int.tmod a b = a % b := Int.tmod_eq_emod_of_nonneg h

theorem tdivp {a : Int} (h : 0 ≤ a) (b : Int) : Int.tdiv a b = a / b := Int.tdiv_eq_ediv_of_nonneg h

theorem within_eq (n lo hi : Int) : impl_within.f n lo hi = some (decide (lo ≤ n ∧ n ≤ hi)) := by
  unfold impl_within.f
  by_cases h : lo ≤ n
  · rw [if_pos h]; simp [h]
  · rw [if_neg h]; simp [h]

theorem inRange_eq (n lo hi : Int) : spec_inRange.f n lo hi = some (decide (lo ≤ n ∧ n ≤ hi)) := by
  unfold spec_inRange.f
  by_cases h : lo ≤ n
  · rw [if_pos h]; simp [h]
  · rw [if_neg h]; simp [h]

theorem ite_dec {α : Type} {p : Prop} [Decidable p] {a b : α} : (if decide p = true then a else b) = if p then a else b := by
  by_cases h : p <;> simp [h]

theorem rd_mem (l : List Int) (i : Int) (h0 : 0 ≤ i) (h1 : i < (l.length : Int)) : rd l i ∈ l := by
  unfold rd
  have h : i.toNat < l.length := by omega
  rw [List.getD_eq_getElem?_getD, List.getElem?_eq_getElem h]
  exact List.getElem_mem h

theorem xor_nat (a b : Nat) (ha : a < 4611686018427387904) (hb : b < 4611686018427387904) : Go.bits .xor .i64 a b = ((a ^^^ b : Nat) : Int) ∧ a ^^^ b < 4611686018427387904 := by
  have hx : a ^^^ b < 2 ^ 62 := Nat.xor_lt_two_pow (by simpa using ha) (by simpa using hb)
  have hx' : a ^^^ b < 4611686018427387904 := by simpa using hx
  have e1 : IntKind.i64.bits = 64 := rfl
  have ha' : a % 2 ^ IntKind.i64.bits = a := Nat.mod_eq_of_lt (by rw [e1]; omega)
  have hb' : b % 2 ^ IntKind.i64.bits = b := Nat.mod_eq_of_lt (by rw [e1]; omega)
  refine ⟨?_, hx'⟩
  simp only [Go.bits, BitVec.ofInt_natCast, BitVec.toNat_xor, BitVec.toNat_ofNat, ha', hb']
  rw [IntKind.wrap_i64]
  omega

theorem xor_pos {x y : Int} (h0 : 0 ≤ x) (h1 : x < 4611686018427387904) (h2 : 0 ≤ y) (h3 : y < 4611686018427387904) : 0 ≤ Go.bits .xor .i64 x y := by
  obtain ⟨a, rfl⟩ := Int.eq_ofNat_of_zero_le h0
  obtain ⟨b, rfl⟩ := Int.eq_ofNat_of_zero_le h2
  rw [(xor_nat a b (by omega) (by omega)).1]
  omega

def Bytes (bs : List Int) : Prop := (∀ x, x ∈ bs → 0 ≤ x ∧ x ≤ 255) ∧ bs.length ≤ 2000

theorem newReader_eq (c : List Int) (h : ∀ x, x ∈ c → 0 ≤ x ∧ x ≤ 255) : ∃ bs, Bytes bs ∧ spec_newReader.f c = some (bs, 0) := by
  unfold spec_newReader.f
  by_cases hl : (c.length : Int) > 2000
  · refine ⟨c.take 2000, ⟨fun x hx => h x (List.mem_of_mem_take hx), by rw [List.length_take]; omega⟩, ?_⟩
    rw [if_pos hl, if_pos (by omega)]
  · exact ⟨c, ⟨h, by omega⟩, by rw [if_neg hl]⟩

theorem pick_eq {bs : List Int} (hb : Bytes bs) {k : Nat} (hk : 0 < k) {p n : Int} (hp : 0 ≤ p) (hp2 : p ≤ 1000000) (hn : 1 ≤ n) :
    ∃ v, spec_reader_pick.f k bs p n = some (v, p + 1) ∧ 0 ≤ v ∧ v < n := by
  obtain ⟨k, rfl⟩ : ∃ m, k = m + 1 := ⟨k - 1, by omega⟩
  obtain ⟨hb, hl⟩ := hb
  unfold spec_reader_pick.f
  rw [if_neg (by omega), w64 (n := p + 1) (by omega) (by omega)]
  simp only [spec_reader_pick.j0]
  have e1 : wrap64 (p + 1 - 1) = p := by unfold wrap64; omega
  rw [e1]
  have hn0 : ¬ n = 0 := by omega
  by_cases h0 : (bs.length : Int) = 0
  · rw [if_pos (by simpa using h0)]
    exact ⟨0, rfl, by omega, by omega⟩
  · rw [if_neg (by simpa using h0)]
    by_cases h1 : p < (bs.length : Int)
    · have hr := hb _ (rd_mem bs p hp h1)
      rw [if_pos h1, if_pos hp, if_neg hn0, w64 (n := rd bs p) (by omega) (by omega), tmodp hr.1]
      exact ⟨_, rfl, Int.emod_nonneg _ hn0, Int.emod_lt_of_pos _ (by omega)⟩
    · rw [if_neg h1, if_neg h0]
      have hL : (0 : Int) < bs.length := by omega
      have e7 : wrap64 (wrap64 (p * 7) + 3) = p * 7 + 3 := by unfold wrap64; omega
      rw [e7, tmodp hp, tmodp (a := p * 7 + 3) (by omega), tdivp hp]
      have a0 := Int.emod_nonneg p h0
      have a1 := Int.emod_lt_of_pos p hL
      have b0 := Int.emod_nonneg (p * 7 + 3) h0
      have b1 := Int.emod_lt_of_pos (p * 7 + 3) hL
      have hra := hb _ (rd_mem bs _ a0 a1)
      have hrb := hb _ (rd_mem bs _ b0 b1)
      have hd0 : 0 ≤ p / (bs.length : Int) := Int.ediv_nonneg hp (by omega)
      have hd1 : p / (bs.length : Int) ≤ p := Int.ediv_le_self _ hp
      rw [if_pos a0, if_pos a1, if_pos b0, if_pos b1, if_neg hn0]
      generalize rd bs (p % (bs.length : Int)) = ra at hra
      generalize rd bs ((p * 7 + 3) % (bs.length : Int)) = rb at hrb
      generalize p / (bs.length : Int) = q at hd0 hd1
      have ex : wrap64 (wrap64 (wrap64 (wrap64 (wrap64 ra * 131) + wrap64 (wrap64 rb * 1117)) + wrap64 (p * 29)) + wrap64 (wrap64 q * 53)) = ra * 131 + rb * 1117 + p * 29 + q * 53 := by
        unfold wrap64; omega
      rw [ex]
      generalize hx : ra * 131 + rb * 1117 + p * 29 + q * 53 = x
      have hx0 : 0 ≤ x := by omega
      have hx1 : x < 1000000000 := by omega
      rw [tdivp hx0, w64 (n := x / 64) (by omega) (by omega)]
      have hz := xor_pos hx0 (by omega) (y := x / 64) (by omega) (by omega)
      rw [tmodp hz]
      exact ⟨_, rfl, Int.emod_nonneg _ hn0, Int.emod_lt_of_pos _ (by omega)⟩

theorem of_eq {bs : List Int} (hb : Bytes bs) {k : Nat} (hk : 0 < k) {p : Int} (hp : 0 ≤ p) (hp2 : p ≤ 1000000) (l : List ByteArray) (hl : 1 ≤ (l.length : Int)) :
    ∃ v, spec_reader_of.f k bs p l = some (v, p + 1) ∧ v ∈ l := by
  obtain ⟨v, hv, h0, h1⟩ := pick_eq hb hk hp hp2 hl
  unfold spec_reader_of.f
  rw [hv, Option.bind_some, if_pos h0, if_pos h1]
  refine ⟨_, rfl, ?_⟩
  unfold rdOf
  have h : v.toNat < l.length := by omega
  rw [List.getD_eq_getElem?_getD, List.getElem?_eq_getElem h]
  exact List.getElem_mem h

def Tells {α : Type} (Q : α → Prop) (o : Option α) : Prop := ∃ r, o = some r ∧ Q r

theorem Tells.some {α : Type} {Q : α → Prop} {a : α} (h : Q a) : Tells Q (some a) := ⟨a, rfl, h⟩

theorem Tells.bind {α β : Type} {R : α → Prop} {Q : β → Prop} {o : Option α} {f : α → Option β} (h : Tells R o) (g : ∀ a, R a → Tells Q (f a)) : Tells Q (o.bind f) := by
  obtain ⟨a, rfl, ha⟩ := h
  exact g a ha

theorem Tells.bind2 {α β γ : Type} {R : α × β → Prop} {Q : γ → Prop} {o : Option (α × β)} {f : α × β → Option γ} (h : Tells R o) (g : ∀ a b, R (a, b) → Tells Q (f (a, b))) : Tells Q (o.bind f) := by
  obtain ⟨⟨a, b⟩, rfl, ha⟩ := h
  exact g a b ha

theorem Tells.ite {α : Type} {Q : α → Prop} {c : Prop} [Decidable c] {a b : Option α} (h : c → Tells Q a) (g : ¬ c → Tells Q b) : Tells Q (if c then a else b) := by
  by_cases e : c
  · rw [if_pos e]; exact h e
  · rw [if_neg e]; exact g e

theorem Tells.mono {α : Type} {Q R : α → Prop} {o : Option α} (h : Tells Q o) (g : ∀ a, Q a → R a) : Tells R o := by
  obtain ⟨a, ha, hq⟩ := h
  exact ⟨a, ha, g a hq⟩

theorem Tells.yes {o : Option Bool} (h : Tells (fun b => b = true) o) : o = Option.some true := by
  obtain ⟨a, ha, rfl⟩ := h
  exact ha

theorem Tells.eq {α : Type} {Q : α → Prop} {o : Option α} {a : α} (e : o = Option.some a) (h : Q a) : Tells Q o := ⟨a, e, h⟩

theorem pick_t {bs : List Int} (hb : Bytes bs) {k : Nat} (hk : 0 < k) {p n : Int} (hp : 0 ≤ p) (hp2 : p ≤ 1000000) (hn : 1 ≤ n) :
    Tells (fun r => r.2 = p + 1 ∧ 0 ≤ r.1 ∧ r.1 < n) (spec_reader_pick.f k bs p n) := by
  obtain ⟨v, hv, h0, h1⟩ := pick_eq hb hk hp hp2 hn
  exact ⟨_, hv, rfl, h0, h1⟩

theorem of_t {bs : List Int} (hb : Bytes bs) {k : Nat} (hk : 0 < k) {p : Int} (hp : 0 ≤ p) (hp2 : p ≤ 1000000) {l : List ByteArray} (hl : 1 ≤ l.length) :
    Tells (fun r => r.2 = p + 1 ∧ r.1 ∈ l) (spec_reader_of.f k bs p l) := by
  obtain ⟨v, hv, h0⟩ := of_eq hb hk hp hp2 l (by omega)
  exact ⟨_, hv, rfl, h0⟩

theorem newReader_t {c : List Int} (h : ∀ x, x ∈ c → 0 ≤ x ∧ x ≤ 255) : Tells (fun r => r.2 = 0 ∧ Bytes r.1) (spec_newReader.f c) := by
  obtain ⟨bs, hb, e⟩ := newReader_eq c h
  exact ⟨_, e, rfl, hb⟩

theorem wf8 {l : List Int} (h : ∀ x ∈ l, (Lit.int .u8 x).wf = true) : ∀ x, x ∈ l → 0 ≤ x ∧ x ≤ 255 := by
  intro x hx
  have := h x hx
  simp [Lit.wf, IntKind.min, IntKind.max, IntKind.signed, IntKind.bits] at this
  omega

theorem bt_range (s : ByteArray) (i : Int) : 0 ≤ bt s i ∧ bt s i ≤ 255 := by
  unfold bt
  split
  · rename_i h
    have := (s[i.toNat]'h).toNat_lt
    omega
  · omega

theorem bt_nat (s : ByteArray) (i : Nat) (h : i < s.size) : bt s (i : Int) = ((s[i]'h).toNat : Int) := by
  unfold bt
  simp [h]

theorem bt_left {a b : ByteArray} {i : Int} (h0 : 0 ≤ i) (h1 : i < (a.size : Int)) : bt (a ++ b) i = bt a i := by
  obtain ⟨n, rfl⟩ := Int.eq_ofNat_of_zero_le h0
  have hn : n < a.size := by omega
  rw [bt_nat _ _ (by rw [ByteArray.size_append]; omega), bt_nat _ _ hn, ByteArray.getElem_append_left hn]

theorem bt_right {a b : ByteArray} {i : Int} (h0 : (a.size : Int) ≤ i) (h1 : i < (a.size : Int) + (b.size : Int)) : bt (a ++ b) i = bt b (i - a.size) := by
  obtain ⟨n, rfl⟩ := Int.eq_ofNat_of_zero_le (by omega : 0 ≤ i)
  have hn : a.size ≤ n := by omega
  have e : ((n : Int) - (a.size : Int)) = ((n - a.size : Nat) : Int) := by omega
  rw [e, bt_nat _ _ (by rw [ByteArray.size_append]; omega), bt_nat _ _ (by omega), ByteArray.getElem_append_right hn]

theorem bt_extract {s : ByteArray} {a b : Nat} {i : Int} (h0 : 0 ≤ i) (h1 : (a : Int) + i < (b : Int)) (h2 : b ≤ s.size) : bt (s.extract a b) i = bt s (a + i) := by
  obtain ⟨n, rfl⟩ := Int.eq_ofNat_of_zero_le h0
  have e : ((a : Int) + (n : Int)) = ((a + n : Nat) : Int) := by omega
  rw [e, bt_nat _ _ (by rw [ByteArray.size_extract]; omega), bt_nat _ _ (by omega), ByteArray.getElem_extract]

def okb (c : Int) : Bool := decide ((32 ≤ c ∧ c ≤ 126) ∧ c ≠ 36 ∧ c ≠ 42)

def allFrom (s : ByteArray) : Nat → Int → Bool
  | 0, _ => true
  | d + 1, i => okb (bt s i) && allFrom s d (i + 1)

def X (s : ByteArray) : Nat → Int → Nat
  | 0, _ => 0
  | d + 1, i => (bt s i).toNat ^^^ X s d (i + 1)

def vBody (s : ByteArray) : Bool := allFrom s s.size 0 && decide (1 ≤ (s.size : Int) ∧ (s.size : Int) ≤ 40)

def ck (s : ByteArray) : Nat := X s s.size 0

theorem allFrom_iff (s : ByteArray) (d : Nat) : ∀ i : Int, allFrom s d i = true ↔ ∀ j : Int, i ≤ j → j < i + d → okb (bt s j) = true := by
  induction d with
  | zero => intro i; simp [allFrom]; intro j h0 h1; omega
  | succ d ih =>
    intro i
    rw [allFrom, Bool.and_eq_true, ih]
    constructor
    · intro ⟨h0, h1⟩ j hj0 hj1
      by_cases e : j = i
      · rw [e]; exact h0
      · exact h1 j (by omega) (by omega)
    · intro h
      exact ⟨h i (by omega) (by omega), fun j h0 h1 => h j (by omega) (by omega)⟩

theorem vBody_iff (s : ByteArray) : vBody s = true ↔ (∀ j : Int, 0 ≤ j → j < (s.size : Int) → okb (bt s j) = true) ∧ 1 ≤ s.size ∧ s.size ≤ 40 := by
  unfold vBody
  rw [Bool.and_eq_true, allFrom_iff]
  simp only [Int.zero_add, decide_eq_true_eq]
  constructor
  · intro ⟨h0, h1⟩; exact ⟨h0, by omega, by omega⟩
  · intro ⟨h0, h1⟩; exact ⟨h0, by omega, by omega⟩

theorem bt_lt8 (s : ByteArray) (i : Int) : (bt s i).toNat < 2 ^ 8 := by
  have := bt_range s i
  omega

theorem xor_step {acc : Nat} (ha : acc < 2 ^ 8) (s : ByteArray) (i : Int) : Go.bits .xor .i64 (acc : Int) (wrap64 (bt s i)) = ((acc ^^^ (bt s i).toNat : Nat) : Int) ∧ acc ^^^ (bt s i).toNat < 2 ^ 8 := by
  have h := bt_range s i
  have hb := bt_lt8 s i
  refine ⟨?_, Nat.xor_lt_two_pow ha hb⟩
  rw [w64 (by omega) (by omega)]
  obtain ⟨b, e⟩ := Int.eq_ofNat_of_zero_le h.1
  rw [e] at h hb ⊢
  rw [(xor_nat acc b (by omega) (by omega)).1]
  rfl

theorem checksum_loop (s : ByteArray) (hs : s.size ≤ 1048576) (d : Nat) : ∀ (k : Nat) (acc : Nat) (i : Int), 0 ≤ i → i + d = (s.size : Int) → d < k → acc < 2 ^ 8 → spec_checksum.l0 k s (acc : Int) i = some ((acc ^^^ X s d i : Nat) : Int) := by
  induction d with
  | zero =>
    intro k acc i h0 h1 hk ha
    obtain ⟨k, rfl⟩ : ∃ m, k = m + 1 := ⟨k - 1, by omega⟩
    simp only [spec_checksum.l0]
    rw [if_neg (by omega)]
    simp [X]
  | succ d ih =>
    intro k acc i h0 h1 hk ha
    obtain ⟨k, rfl⟩ : ∃ m, k = m + 1 := ⟨k - 1, by omega⟩
    simp only [spec_checksum.l0]
    have hx := xor_step ha s i
    rw [if_pos (by omega), if_pos h0, hx.1, w64 (n := i + 1) (by omega) (by omega), ih k _ (i + 1) (by omega) (by omega) (by omega) hx.2, X, Nat.xor_assoc]

theorem spec_checksum_eq (s : ByteArray) (hs : s.size ≤ 1048576) {k : Nat} (hk : 1048577 ≤ k) : spec_checksum.f k s = some ((ck s : Nat) : Int) := by
  unfold spec_checksum.f
  have := checksum_loop s hs s.size k 0 0 (by omega) (by omega) (by omega) (by decide)
  rw [Nat.zero_xor] at this
  exact this

theorem isBody_loop (s : ByteArray) (hs : s.size ≤ 1048576) (d : Nat) : ∀ (k : Nat) (i : Int), 0 ≤ i → i + d = (s.size : Int) → d < k → spec_isBody.l0 k s i = some (allFrom s d i && decide (1 ≤ (s.size : Int) ∧ (s.size : Int) ≤ 40)) := by
  induction d with
  | zero =>
    intro k i h0 h1 hk
    obtain ⟨k, rfl⟩ : ∃ m, k = m + 1 := ⟨k - 1, by omega⟩
    simp only [spec_isBody.l0]
    rw [if_neg (by omega), inRange_eq, Option.bind_some]
    simp [allFrom]
  | succ d ih =>
    intro k i h0 h1 hk
    obtain ⟨k, rfl⟩ : ∃ m, k = m + 1 := ⟨k - 1, by omega⟩
    have hb := bt_range s i
    simp only [spec_isBody.l0]
    rw [if_pos (by omega), if_pos h0, w64 (n := bt s i) (by omega) (by omega), inRange_eq, Option.bind_some, ite_dec, w64 (n := i + 1) (by omega) (by omega), ih k (i + 1) (by omega) (by omega) (by omega), allFrom]
    by_cases h2 : 32 ≤ bt s i ∧ bt s i ≤ 126
    · rw [if_pos h2]
      by_cases h3 : bt s i = 36
      · rw [if_pos h3]; simp [okb, h3]
      · rw [if_neg h3]
        by_cases h4 : bt s i = 42
        · rw [if_pos h4]; simp [okb, h4]
        · rw [if_neg h4]; simp [okb, h2, h3, h4]
    · rw [if_neg h2]; simp [okb, h2]

theorem spec_isBody_eq (s : ByteArray) (hs : s.size ≤ 1048576) {k : Nat} (hk : 1048577 ≤ k) : spec_isBody.f k s = some (vBody s) := by
  unfold spec_isBody.f
  exact isBody_loop s hs s.size k 0 (by omega) (by omega) (by omega)

def vCk (s : ByteArray) : Int := if vBody s = true then (ck s : Int) else -1

theorem ChecksumOf_loop (s : ByteArray) (hs : s.size ≤ 1048576) (d : Nat) : ∀ (k : Nat) (acc : Nat) (i : Int), 0 ≤ i → i + d = (s.size : Int) → d < k → acc < 2 ^ 8 → impl_ChecksumOf.l0 k s (acc : Int) (s.size : Int) i = some (if allFrom s d i = true then ((acc ^^^ X s d i : Nat) : Int) else -1) := by
  induction d with
  | zero =>
    intro k acc i h0 h1 hk ha
    obtain ⟨k, rfl⟩ : ∃ m, k = m + 1 := ⟨k - 1, by omega⟩
    simp only [impl_ChecksumOf.l0]
    rw [if_neg (by omega)]
    simp [X, allFrom]
  | succ d ih =>
    intro k acc i h0 h1 hk ha
    obtain ⟨k, rfl⟩ : ∃ m, k = m + 1 := ⟨k - 1, by omega⟩
    simp only [impl_ChecksumOf.l0]
    have hx := xor_step ha s i
    rw [if_pos (by omega), if_pos h0, if_pos (by omega), hx.1, w64 (n := i + 1) (by omega) (by omega), ih k _ (i + 1) (by omega) (by omega) (by omega) hx.2, X, Nat.xor_assoc, allFrom]
    by_cases h1 : bt s i < 32
    · rw [if_pos h1, if_neg]; simp [okb]; omega
    · rw [if_neg h1]
      by_cases h2 : bt s i > 126
      · rw [if_pos h2, if_neg]; simp [okb]; omega
      · rw [if_neg h2]
        by_cases h3 : bt s i = 36
        · rw [if_pos h3]; simp [okb, h3]
        · rw [if_neg h3]
          by_cases h4 : bt s i = 42
          · rw [if_pos h4]; simp [okb, h4]
          · have e : okb (bt s i) = true := by unfold okb; rw [decide_eq_true_eq]; omega
            rw [if_neg h4, e, Bool.true_and]

theorem impl_ChecksumOf_eq (s : ByteArray) (hs : s.size ≤ 1048576) {k : Nat} (hk : 1048577 ≤ k) : impl_ChecksumOf.f k s = some (vCk s) := by
  unfold impl_ChecksumOf.f vCk vBody
  rw [within_eq, Option.bind_some, ite_dec]
  have h := ChecksumOf_loop s hs s.size k 0 0 (by omega) (by omega) (by omega) (by decide)
  rw [Nat.zero_xor] at h
  by_cases h2 : 1 ≤ (s.size : Int) ∧ (s.size : Int) ≤ 40
  · rw [if_pos h2]
    refine h.trans ?_
    simp [h2, ck]
  · rw [if_neg h2, if_neg]
    simp [h2]

def HEX : ByteArray := ⟨#[48, 49, 50, 51, 52, 53, 54, 55, 56, 57, 65, 66, 67, 68, 69, 70]⟩

def hexd (n : Nat) : ByteArray := HEX.extract n (n + 1)

def frame (s : ByteArray) (c : Nat) : ByteArray := ((((⟨#[36]⟩ : ByteArray) ++ s) ++ (⟨#[42]⟩ : ByteArray)) ++ hexd (c / 16)) ++ hexd (c % 16)

def vFrame (s : ByteArray) : ByteArray := if vBody s = true then frame s (ck s) else (⟨#[]⟩ : ByteArray)

theorem hexd_size {n : Nat} (h : n < 16) : (hexd n).size = 1 := by
  unfold hexd
  rw [ByteArray.size_extract]
  have e : HEX.size = 16 := rfl
  omega

theorem body_lt (s : ByteArray) (d : Nat) : ∀ i, allFrom s d i = true → X s d i < 2 ^ 7 := by
  induction d with
  | zero => intro i _; simp [X]
  | succ d ih =>
    intro i h
    rw [allFrom, Bool.and_eq_true] at h
    rw [X]
    have h1 := h.1
    unfold okb at h1
    rw [decide_eq_true_eq] at h1
    exact Nat.xor_lt_two_pow (by omega) (ih _ h.2)

theorem ck_lt {s : ByteArray} (h : vBody s = true) : ck s < 128 := by
  unfold vBody at h
  rw [Bool.and_eq_true] at h
  exact body_lt s s.size 0 h.1

theorem spec_hexDigit_eq {n : Nat} (h : n < 16) : spec_hexDigit.f (n : Int) = some (hexd n) := by
  unfold spec_hexDigit.f
  have e : wrap64 ((n : Int) + 1) = ((n + 1 : Nat) : Int) := by unfold wrap64; omega
  rw [e, if_pos (by omega), if_pos (by omega), if_pos (by omega)]
  rfl

theorem spec_FrameBody_eq (s : ByteArray) (hs : s.size ≤ 1048576) {k : Nat} (hk : 1048577 ≤ k) : spec_FrameBody.f k s = some (vFrame s) := by
  unfold spec_FrameBody.f vFrame
  rw [spec_isBody_eq s hs hk, Option.bind_some]
  by_cases h : vBody s = true
  · have hc := ck_lt h
    have e1 : wrap64 (Int.tdiv (ck s : Int) 16) = ((ck s / 16 : Nat) : Int) := by rw [tdivp (by omega), w64 (by omega) (by omega)]; omega
    have e2 : Int.tmod (ck s : Int) 16 = ((ck s % 16 : Nat) : Int) := by rw [tmodp (by omega)]; omega
    have z1 := hexd_size (n := ck s / 16) (by omega)
    have z2 := hexd_size (n := ck s % 16) (by omega)
    have z3 : (⟨#[36]⟩ : ByteArray).size = 1 := rfl
    have z4 : (⟨#[42]⟩ : ByteArray).size = 1 := rfl
    rw [if_pos h, if_pos h, spec_checksum_eq s hs hk, Option.bind_some, e1, e2, spec_hexDigit_eq (by omega), Option.bind_some, spec_hexDigit_eq (by omega), Option.bind_some]
    rw [if_pos (by omega), if_pos (by rw [ByteArray.size_append]; omega), if_pos (by simp only [ByteArray.size_append]; omega), if_pos (by simp only [ByteArray.size_append]; omega)]
    rfl
  · rw [if_neg h, if_neg h]

theorem impl_FrameBody_eq (s : ByteArray) (hs : s.size ≤ 1048576) {k : Nat} (hk : 1048577 ≤ k) : impl_FrameBody.f k s = some (vFrame s) := by
  unfold impl_FrameBody.f vFrame
  rw [impl_ChecksumOf_eq s hs hk, Option.bind_some]
  unfold vCk
  by_cases h : vBody s = true
  · have hc := ck_lt h
    have e1 : wrap64 (Int.tdiv (ck s : Int) 16) = ((ck s / 16 : Nat) : Int) := by rw [tdivp (by omega), w64 (by omega) (by omega)]; omega
    have e2 : Int.tmod (ck s : Int) 16 = ((ck s % 16 : Nat) : Int) := by rw [tmodp (by omega)]; omega
    have e3 : wrap64 (((ck s / 16 : Nat) : Int) + 1) = ((ck s / 16 + 1 : Nat) : Int) := by rw [w64 (by omega) (by omega)]; omega
    have e4 : wrap64 (((ck s % 16 : Nat) : Int) + 1) = ((ck s % 16 + 1 : Nat) : Int) := by rw [w64 (by omega) (by omega)]; omega
    have z1 := hexd_size (n := ck s / 16) (by omega)
    have z2 := hexd_size (n := ck s % 16) (by omega)
    unfold hexd HEX at z1 z2
    have z3 : (⟨#[36]⟩ : ByteArray).size = 1 := rfl
    have z4 : (⟨#[42]⟩ : ByteArray).size = 1 := rfl
    simp only [h, if_true, e1, e2, e3, e4, Int.toNat_natCast]
    rw [if_neg (by omega), if_pos (by omega), if_pos (by rw [ByteArray.size_append]; omega), if_pos (by omega), if_pos (by omega), if_pos (by omega), if_pos (by simp only [ByteArray.size_append]; omega), if_pos (by omega), if_pos (by omega), if_pos (by omega), if_pos (by simp only [ByteArray.size_append]; omega)]
    rfl
  · simp only [if_neg h]
    rw [if_pos (by omega)]

theorem toList_iff (s t : ByteArray) : s.toList = t.toList ↔ s = t := by
  constructor
  · intro h
    rw [ByteArray.toList_eq, ByteArray.toList_eq] at h
    exact ByteArray.ext (Array.toList_inj.1 h)
  · intro h; rw [h]

def mid (s : ByteArray) : ByteArray := s.extract 1 (s.size - 3)

theorem mid_size {s : ByteArray} (h : 4 ≤ s.size) : (mid s).size = s.size - 4 := by
  unfold mid
  rw [ByteArray.size_extract]
  omega

theorem frame_size {s : ByteArray} {c : Nat} (hc : c < 256) : (frame s c).size = s.size + 4 := by
  have z1 := hexd_size (n := c / 16) (by omega)
  have z2 := hexd_size (n := c % 16) (by omega)
  have z3 : (⟨#[36]⟩ : ByteArray).size = 1 := rfl
  have z4 : (⟨#[42]⟩ : ByteArray).size = 1 := rfl
  unfold frame
  simp only [ByteArray.size_append]
  omega

theorem vFrame_size (s : ByteArray) : (vBody s = true ∧ (vFrame s).size = s.size + 4 ∧ 1 ≤ s.size ∧ s.size ≤ 40) ∨ (vBody s = false ∧ vFrame s = (⟨#[]⟩ : ByteArray)) := by
  unfold vFrame
  by_cases h : vBody s = true
  · rw [if_pos h]
    have hc := ck_lt h
    have hb := ((vBody_iff s).1 h).2
    exact Or.inl ⟨h, frame_size (by omega), hb⟩
  · rw [if_neg h]
    exact Or.inr ⟨by simpa using h, rfl⟩

theorem isF_size {s : ByteArray} (h4 : 4 ≤ s.size) (h : vFrame (mid s) = s) : 5 ≤ s.size ∧ vBody (mid s) = true ∧ s.size ≤ 44 := by
  have hm := mid_size h4
  rcases vFrame_size (mid s) with ⟨hb, hz, h1, h2⟩ | ⟨_, hz⟩
  · exact ⟨by omega, hb, by omega⟩
  · rw [h] at hz
    rw [hz] at h4
    exact absurd h4 (by decide)

open Classical in
noncomputable def vRead (s : ByteArray) : ByteArray × Bool := if 5 ≤ s.size ∧ vFrame (mid s) = s then (mid s, true) else ((⟨#[]⟩ : ByteArray), false)

theorem impl_ReadFrame_eq (s : ByteArray) (hs : s.size ≤ 1048576) {k : Nat} (hk : 1048577 ≤ k) : impl_ReadFrame.f k s = some (vRead s) := by
  unfold impl_ReadFrame.f vRead
  by_cases h : (s.size : Int) < 4
  · rw [if_pos h, if_neg (by omega)]
  · have e : wrap64 ((s.size : Int) - 3) = ((s.size - 3 : Nat) : Int) := by rw [w64 (by omega) (by omega)]; omega
    have hm := mid_size (s := s) (by omega)
    have em : s.extract 1 (s.size - 3) = mid s := rfl
    rw [if_neg h, e, if_pos (by omega), if_pos (by omega), Int.toNat_natCast, em, impl_FrameBody_eq (mid s) (by omega) hk, Option.bind_some]
    by_cases h2 : vFrame (mid s) = s
    · have h5 := isF_size (by omega) h2
      rw [if_pos ((toList_iff _ _).2 h2.symm), if_pos ⟨h5.1, h2⟩]
    · rw [if_neg (fun e => h2 ((toList_iff _ _).1 e).symm), if_neg (fun e => h2 e.2)]

theorem spec_ReadFrame_eq (s : ByteArray) (hs : s.size ≤ 1048576) {k : Nat} (hk : 1048577 ≤ k) : spec_ReadFrame.f k s = some (vRead s) := by
  unfold spec_ReadFrame.f vRead
  by_cases h : (s.size : Int) < 5
  · rw [if_pos h, if_neg (by omega)]
  · have e : wrap64 ((s.size : Int) - 3) = ((s.size - 3 : Nat) : Int) := by rw [w64 (by omega) (by omega)]; omega
    have hm := mid_size (s := s) (by omega)
    have em : s.extract 1 (s.size - 3) = mid s := rfl
    rw [if_neg h, e, if_pos (by omega), if_pos (by omega), Int.toNat_natCast, em, spec_FrameBody_eq (mid s) (by omega) hk, spec_isBody_eq (mid s) (by omega) hk, Option.bind_some, Option.bind_some]
    by_cases h2 : vFrame (mid s) = s
    · have h5 := isF_size (by omega) h2
      rw [if_pos h5.2.1, if_pos ((toList_iff _ _).2 h2), if_pos ⟨h5.1, h2⟩]
    · rw [if_neg (c := 5 ≤ s.size ∧ vFrame (mid s) = s) (fun e => h2 e.2)]
      by_cases h3 : vBody (mid s) = true
      · rw [if_pos h3, if_neg (fun e => h2 ((toList_iff _ _).1 e))]
      · rw [if_neg h3]

theorem hexd_bt {n : Nat} (h : n < 16) : bt (hexd n) 0 = bt HEX n := by
  unfold hexd
  have e : HEX.size = 16 := rfl
  rw [bt_extract (by omega) (by omega) (by omega)]
  simp

theorem frame_hi (s : ByteArray) {c : Nat} (hc : c < 256) : bt (frame s c) ((s.size : Int) + 2) = bt HEX ((c / 16 : Nat) : Int) := by
  have z1 := hexd_size (n := c / 16) (by omega)
  have z2 := hexd_size (n := c % 16) (by omega)
  have z3 : (⟨#[36]⟩ : ByteArray).size = 1 := rfl
  have z4 : (⟨#[42]⟩ : ByteArray).size = 1 := rfl
  unfold frame
  rw [bt_left (by omega) (by simp only [ByteArray.size_append]; omega), bt_right (by simp only [ByteArray.size_append]; omega) (by simp only [ByteArray.size_append]; omega)]
  have e : (s.size : Int) + 2 - ((((⟨#[36]⟩ : ByteArray) ++ s) ++ (⟨#[42]⟩ : ByteArray)).size : Int) = 0 := by simp only [ByteArray.size_append]; omega
  rw [e, hexd_bt (by omega)]

theorem frame_lo (s : ByteArray) {c : Nat} (hc : c < 256) : bt (frame s c) ((s.size : Int) + 3) = bt HEX ((c % 16 : Nat) : Int) := by
  have z1 := hexd_size (n := c / 16) (by omega)
  have z2 := hexd_size (n := c % 16) (by omega)
  have z3 : (⟨#[36]⟩ : ByteArray).size = 1 := rfl
  have z4 : (⟨#[42]⟩ : ByteArray).size = 1 := rfl
  unfold frame
  rw [bt_right (by simp only [ByteArray.size_append]; omega) (by simp only [ByteArray.size_append]; omega)]
  have e : (s.size : Int) + 3 - (((((⟨#[36]⟩ : ByteArray) ++ s) ++ (⟨#[42]⟩ : ByteArray)) ++ hexd (c / 16)).size : Int) = 0 := by simp only [ByteArray.size_append]; omega
  rw [e, hexd_bt (by omega)]

theorem hex_val {n : Nat} (h : n < 16) : bt HEX (n : Int) = if n < 10 then (48 + n : Int) else 55 + n := by
  have e : n = 0 ∨ n = 1 ∨ n = 2 ∨ n = 3 ∨ n = 4 ∨ n = 5 ∨ n = 6 ∨ n = 7 ∨ n = 8 ∨ n = 9 ∨ n = 10 ∨ n = 11 ∨ n = 12 ∨ n = 13 ∨ n = 14 ∨ n = 15 := by omega
  rcases e with rfl | rfl | rfl | rfl | rfl | rfl | rfl | rfl | rfl | rfl | rfl | rfl | rfl | rfl | rfl | rfl <;> rfl

def B10 : Nat → Int
  | 0 => 9
  | j + 1 => 10 * B10 j + 9

theorem str1 (x : Int) : (strOfNums [x]).size = 1 := rfl

theorem decimal_t (j : Nat) : ∀ (k : Nat) (n : Int), 0 ≤ n → n ≤ B10 j → n ≤ 1000000000 → j < 10 → j < k → Tells (fun s => s.size ≤ j + 1) (spec_decimal.f k n) := by
  induction j with
  | zero =>
    intro k n h0 h1 _ _ hk
    obtain ⟨k, rfl⟩ : ∃ m, k = m + 1 := ⟨k - 1, by omega⟩
    simp only [spec_decimal.f]
    have h2 : n ≤ 9 := h1
    rw [if_pos (by omega)]
    exact Tells.some (by rw [str1]; omega)
  | succ j ih =>
    intro k n h0 h1 h2 h3 hk
    obtain ⟨k, rfl⟩ : ∃ m, k = m + 1 := ⟨k - 1, by omega⟩
    have h4 : n ≤ 10 * B10 j + 9 := h1
    simp only [spec_decimal.f]
    refine Tells.ite (fun _ => Tells.some (by rw [str1]; omega)) (fun hn => ?_)
    rw [tdivp h0, w64 (by omega) (by omega)]
    refine (ih k (n / 10) (by omega) (by omega) (by omega) (by omega) (by omega)).bind (fun s hs => ?_)
    rw [Option.bind_some, str1, if_pos (by omega)]
    exact Tells.some (by rw [ByteArray.size_append, str1]; omega)

theorem digits_loop (many : Int) (h1 : many ≤ 10) (d : Nat) : ∀ (k : Nat) (s : ByteArray), many ≤ (s.size : Int) + d → s.size ≤ 20 → d < k → Tells (fun s => s.size ≤ 20) (spec_digits.l0 k many s) := by
  induction d with
  | zero =>
    intro k s h0 h2 hk
    obtain ⟨k, rfl⟩ : ∃ m, k = m + 1 := ⟨k - 1, by omega⟩
    simp only [spec_digits.l0]
    rw [if_neg (by omega)]
    exact Tells.some h2
  | succ d ih =>
    intro k s h0 h2 hk
    obtain ⟨k, rfl⟩ : ∃ m, k = m + 1 := ⟨k - 1, by omega⟩
    simp only [spec_digits.l0]
    refine Tells.ite (fun h => ?_) (fun _ => Tells.some h2)
    have z : (⟨#[48]⟩ : ByteArray).size = 1 := rfl
    have e : ((⟨#[48]⟩ : ByteArray) ++ s).size = 1 + s.size := by rw [ByteArray.size_append, z]
    rw [if_pos (by omega)]
    exact ih k _ (by omega) (by omega) (by omega)

theorem digits_t {k : Nat} (hk : 20 < k) {n many : Int} (h0 : 0 ≤ n) (h1 : n ≤ 99999) (h2 : many ≤ 10) : Tells (fun s => s.size ≤ 20) (spec_digits.f k n many) := by
  unfold spec_digits.f
  refine (decimal_t 4 k n h0 (by have e : B10 4 = 99999 := by decide
                                 omega) (by omega) (by omega) (by omega)).bind (fun s hs => ?_)
  exact digits_loop many h2 10 k s (by omega) (by omega) (by omega)

theorem formatFix_t {k : Nat} (hk : 20 < k) {y m d s n : Int} (hy : 0 ≤ y ∧ y ≤ 9999) (hm : 0 ≤ m ∧ m ≤ 99) (hd : 0 ≤ d ∧ d ≤ 99) (hs : 0 ≤ s ∧ s ≤ 86399) (hn : 0 ≤ n ∧ n ≤ 9999) : Tells (fun t => t.size ≤ 200) (spec_formatFix.f k y m d s n) := by
  unfold spec_formatFix.f
  have e0 : mn s 86399 = s := by unfold mn; rw [if_neg (by omega)]
  have z4 : (⟨#[70, 73, 88, 44]⟩ : ByteArray).size = 4 := rfl
  have z1 : (⟨#[44]⟩ : ByteArray).size = 1 := rfl
  rw [e0, tdivp hs.1, tdivp hs.1, tmodp hs.1, w64 (n := s / 3600) (by omega) (by omega), w64 (n := s / 60) (by omega) (by omega), tmodp (a := s / 60) (by omega), w64 (n := s % 60 + s) (by omega) (by omega), w64 (n := s % 60 + s - s) (by omega) (by omega)]
  refine (digits_t hk (by omega) (by omega) (by omega)).bind (fun a ha => ?_)
  refine (digits_t hk (by omega) (by omega) (by omega)).bind (fun b hb => ?_)
  rw [if_pos (by omega)]
  refine (digits_t hk (by omega) (by omega) (by omega)).bind (fun c hc => ?_)
  rw [if_pos (by simp only [ByteArray.size_append]; omega), if_pos (by simp only [ByteArray.size_append]; omega), if_pos (by simp only [ByteArray.size_append, z4]; omega)]
  refine (digits_t hk (by omega) (by omega) (by omega)).bind (fun e he => ?_)
  rw [if_pos (by simp only [ByteArray.size_append, z4, z1]; omega), if_pos (by simp only [ByteArray.size_append, z4, z1]; omega)]
  refine (digits_t hk (by omega) (by omega) (by omega)).bind (fun f hf => ?_)
  rw [if_pos (by simp only [ByteArray.size_append, z4, z1]; omega), if_pos (by simp only [ByteArray.size_append, z4, z1]; omega)]
  refine (digits_t hk (by omega) (by omega) (by omega)).bind (fun g hg => ?_)
  rw [if_pos (by simp only [ByteArray.size_append, z4, z1]; omega), if_pos (by simp only [ByteArray.size_append, z4, z1]; omega)]
  refine (decimal_t 4 k n hn.1 (by have e : B10 4 = 99999 := by decide
                                   omega) (by omega) (by omega) (by omega)).bind (fun h hh => ?_)
  rw [if_pos (by simp only [ByteArray.size_append, z4, z1]; omega)]
  exact Tells.some (by simp only [ByteArray.size_append, z4, z1]; omega)

theorem someBody_t {bs : List Int} (hb : Bytes bs) {k : Nat} (hk : 20 < k) {p : Int} (hp : 0 ≤ p) (hp2 : p ≤ 800000) : Tells (fun r => r.1.size ≤ 200 ∧ p ≤ r.2 ∧ r.2 ≤ p + 6) (spec_someBody.f k bs p) := by
  unfold spec_someBody.f
  refine (pick_t hb (by omega) hp (by omega) (by omega)).bind2 ?_
  rintro a q ⟨rfl, _, _⟩
  dsimp only
  refine Tells.ite (fun _ => ?_) (fun _ => ?_)
  · refine (pick_t hb (by omega) (by omega) (by omega) (by omega)).bind2 ?_
    rintro y q ⟨rfl, y0, y1⟩
    dsimp only at y0 y1 ⊢
    refine (pick_t hb (by omega) (by omega) (by omega) (by omega)).bind2 ?_
    rintro m q ⟨rfl, m0, m1⟩
    dsimp only at m0 m1 ⊢
    refine (pick_t hb (by omega) (by omega) (by omega) (by omega)).bind2 ?_
    rintro d q ⟨rfl, d0, d1⟩
    dsimp only at d0 d1 ⊢
    refine (pick_t hb (by omega) (by omega) (by omega) (by omega)).bind2 ?_
    rintro s q ⟨rfl, s0, s1⟩
    dsimp only at s0 s1 ⊢
    refine (pick_t hb (by omega) (by omega) (by omega) (by omega)).bind2 ?_
    rintro n q ⟨rfl, n0, n1⟩
    dsimp only at n0 n1 ⊢
    rw [w64 (n := 2000 + y) (by omega) (by omega), w64 (n := 1 + m) (by omega) (by omega), w64 (n := 1 + d) (by omega) (by omega), w64 (n := 345 * s) (by omega) (by omega)]
    refine (formatFix_t hk (by omega) (by omega) (by omega) (by omega) (by omega)).bind (fun t ht => ?_)
    exact Tells.some ⟨ht, by dsimp only; omega, by dsimp only; omega⟩
  · refine (of_t hb (by omega) (by omega) (by omega) (by simp)).bind2 ?_
    rintro b q ⟨rfl, hm⟩
    dsimp only at hm
    have hz : b.size ≤ 200 := by
      revert b
      decide
    exact Tells.some ⟨hz, by dsimp only; omega, by dsimp only; omega⟩

theorem mutate_t {bs : List Int} (hb : Bytes bs) {k : Nat} (hk : 0 < k) {p : Int} (hp : 0 ≤ p) (hp2 : p ≤ 800000) {a : ByteArray} (ha : a.size ≤ 4000) : Tells (fun r => r.1.size ≤ a.size + 10) (spec_mutate.f k bs p a) := by
  unfold spec_mutate.f
  rw [w64 (n := (a.size : Int) + 1) (by omega) (by omega)]
  refine (pick_t hb hk hp (by omega) (by omega)).bind2 ?_
  rintro v q ⟨rfl, v0, v1⟩
  dsimp only at v0 v1 ⊢
  refine (pick_t hb hk (by omega) (by omega) (by omega)).bind2 ?_
  rintro u q ⟨rfl, _, _⟩
  dsimp only
  refine Tells.ite (fun _ => ?_) (fun _ => Tells.ite (fun _ => ?_) (fun _ => Tells.ite (fun _ => ?_) (fun _ => ?_)))
  · refine Tells.ite (fun hlt => ?_) (fun _ => Tells.some (by dsimp only; omega))
    rw [if_pos v0, if_pos (by omega)]
    refine (of_t hb hk (by omega) (by omega) (by simp)).bind2 ?_
    rintro b q ⟨rfl, hm⟩
    dsimp only at hm ⊢
    have hz : b.size ≤ 2 := by
      clear hlt
      revert b
      decide
    have e1 : (a.extract 0 v.toNat).size ≤ a.size := by rw [ByteArray.size_extract]; omega
    rw [if_pos (by omega), w64 (n := v + 1) (by omega) (by omega), if_pos (by omega), if_pos (by omega)]
    have e2 : (a.extract 0 v.toNat).size = v.toNat := by rw [ByteArray.size_extract]; omega
    have e3 : (a.extract (v + 1).toNat a.size).size = a.size - (v + 1).toNat := by rw [ByteArray.size_extract]; omega
    rw [if_pos (by rw [ByteArray.size_append]; omega)]
    exact Tells.some (by dsimp only; rw [ByteArray.size_append, ByteArray.size_append]; omega)
  · rw [if_pos v0, if_pos (by omega)]
    have e1 : (a.extract 0 v.toNat).size ≤ a.size := by rw [ByteArray.size_extract]; omega
    exact Tells.some (by dsimp only; omega)
  · refine (of_t hb hk (by omega) (by omega) (by simp)).bind2 ?_
    rintro b q ⟨rfl, hm⟩
    dsimp only at hm ⊢
    have hz : b.size ≤ 2 := by
      revert b
      decide
    rw [if_pos (by omega)]
    exact Tells.some (by dsimp only; rw [ByteArray.size_append]; omega)
  · exact Tells.some (by dsimp only; omega)

theorem vFrame_le (s : ByteArray) : (vFrame s).size ≤ 44 := by
  rcases vFrame_size s with ⟨_, h, _, h2⟩ | ⟨_, h⟩
  · omega
  · rw [h]; decide

theorem DrawReadFrame_t {c : List Int} (hc : ∀ x, x ∈ c → 0 ≤ x ∧ x ≤ 255) {k : Nat} (hk : 1048577 ≤ k) : Tells (fun s => s.size ≤ 200) (spec_DrawReadFrame.f k c) := by
  unfold spec_DrawReadFrame.f
  refine (newReader_t hc).bind2 ?_
  rintro bs p ⟨rfl, (hb : Bytes bs)⟩
  dsimp only
  refine (someBody_t hb (by omega) (by omega) (by omega)).bind2 ?_
  rintro a q ⟨h, q0, q1⟩
  dsimp only at h q0 q1 ⊢
  rw [spec_FrameBody_eq a (by omega) hk, Option.bind_some]
  have hf := vFrame_le a
  refine (pick_t hb (by omega) (by omega) (by omega) (by omega)).bind2 ?_
  rintro u q ⟨rfl, _, _⟩
  dsimp only
  refine Tells.ite (fun _ => ?_) (fun _ => Tells.some (by omega))
  refine (mutate_t hb (by omega) (by omega) (by omega) (by omega)).bind2 ?_
  rintro s q hs
  dsimp only at hs
  exact Tells.some (by dsimp only; omega)

theorem X_same {s t : ByteArray} (d : Nat) : ∀ i j : Int, (∀ a : Int, 0 ≤ a → a < d → bt s (i + a) = bt t (j + a)) → X s d i = X t d j := by
  induction d with
  | zero => intro i j _; rfl
  | succ d ih =>
    intro i j h
    have h0 := h 0 (by omega) (by omega)
    rw [Int.add_zero, Int.add_zero] at h0
    rw [X, X, h0, ih (i + 1) (j + 1) (fun a a0 a1 => by
      have := h (a + 1) (by omega) (by omega)
      rwa [show i + (a + 1) = i + 1 + a by omega, show j + (a + 1) = j + 1 + a by omega] at this)]

theorem str_size (xs : List Int) : (strOfNums xs).size = xs.length := by
  unfold strOfNums
  simp [ByteArray.size]

theorem str_bt {xs : List Int} {i : Int} (h0 : 0 ≤ i) (h1 : i < (xs.length : Int)) (h2 : 0 ≤ rd xs i ∧ rd xs i ≤ 255) : bt (strOfNums xs) i = rd xs i := by
  obtain ⟨n, rfl⟩ := Int.eq_ofNat_of_zero_le h0
  have hn : n < xs.length := by omega
  rw [bt_nat _ n (by rw [str_size]; omega)]
  have e : rd xs (n : Int) = xs[n] := by
    unfold rd
    rw [List.getD_eq_getElem?_getD, Int.toNat_natCast, List.getElem?_eq_getElem hn]
    rfl
  rw [e] at h2 ⊢
  have e2 : (strOfNums xs)[n]'(by rw [str_size]; omega) = UInt8.ofNat (xs[n]).toNat := by
    unfold strOfNums
    rw [ByteArray.getElem_eq_getElem_data]
    simp
  rw [e2, UInt8.toNat_ofNat']
  omega

theorem vFrame_body {s : ByteArray} (h : vBody s = true) : vFrame s = frame s (ck s) := if_pos h

theorem vRead_yes {s : ByteArray} (h : (vRead s).2 = true) : 5 ≤ s.size ∧ vFrame (mid s) = s ∧ vRead s = (mid s, true) ∧ vBody (mid s) = true := by
  by_cases hc : 5 ≤ s.size ∧ vFrame (mid s) = s
  · have e : vRead s = (mid s, true) := if_pos hc
    exact ⟨hc.1, hc.2, e, (isF_size (by omega) hc.2).2.1⟩
  · have e : vRead s = ((⟨#[]⟩ : ByteArray), false) := if_neg hc
    rw [e] at h
    exact absurd h (by decide)

theorem X_ne {s t : ByteArray} {p : Int} (hp : bt s p ≠ bt t p) (d : Nat) : ∀ i : Int, i ≤ p → p < i + d → (∀ j : Int, i ≤ j → j < i + d → j ≠ p → bt s j = bt t j) → X s d i ≠ X t d i := by
  induction d with
  | zero => intro i h0 h1; omega
  | succ d ih =>
    intro i h0 h1 h
    rw [X, X]
    by_cases e : i = p
    · subst e
      have hr : X s d (i + 1) = X t d (i + 1) := X_same d _ _ (fun a a0 a1 => h (i + 1 + a) (by omega) (by omega) (by omega))
      rw [hr]
      intro hx
      have hs := bt_range s i
      have ht := bt_range t i
      have hx2 : (bt s i).toNat = (bt t i).toNat := by
        have h2 : ((bt s i).toNat ^^^ X t d (i + 1)) ^^^ X t d (i + 1) = ((bt t i).toNat ^^^ X t d (i + 1)) ^^^ X t d (i + 1) := by rw [hx]
        rwa [Nat.xor_assoc, Nat.xor_assoc, Nat.xor_self, Nat.xor_zero, Nat.xor_zero] at h2
      omega
    · have hr := h i (by omega) (by omega) e
      rw [hr]
      intro hx
      have h2 : (bt t i).toNat ^^^ ((bt t i).toNat ^^^ X s d (i + 1)) = (bt t i).toNat ^^^ ((bt t i).toNat ^^^ X t d (i + 1)) := by rw [hx]
      rw [← Nat.xor_assoc, ← Nat.xor_assoc, Nat.xor_self, Nat.zero_xor, Nat.zero_xor] at h2
      exact ih (i + 1) (by omega) (by omega) (fun j a b c => h j (by omega) (by omega) c) h2

theorem hex_inj {a b : Nat} (ha : a < 16) (hb : b < 16) (h : bt HEX (a : Int) = bt HEX (b : Int)) : a = b := by
  rw [hex_val ha, hex_val hb] at h
  by_cases h1 : a < 10
  · rw [if_pos h1] at h
    by_cases h2 : b < 10
    · rw [if_pos h2] at h; omega
    · rw [if_neg h2] at h; omega
  · rw [if_neg h1] at h
    by_cases h2 : b < 10
    · rw [if_pos h2] at h; omega
    · rw [if_neg h2] at h; omega

theorem wrong_byte {s u : ByteArray} (hs : (vRead s).2 = true) (hz : u.size = s.size) {p : Int} (h1 : 1 ≤ p) (h2 : p < (s.size : Int) - 3) (hne : bt u p ≠ bt s p) (hsame : ∀ j : Int, 0 ≤ j → j < (s.size : Int) → j ≠ p → bt u j = bt s j) : (vRead u).2 = false := by
  rw [Bool.eq_false_iff]
  intro hu
  obtain ⟨s5, sf, _, sb⟩ := vRead_yes hs
  obtain ⟨u5, uf, _, ub⟩ := vRead_yes hu
  have sc := ck_lt sb
  have uc := ck_lt ub
  have sm := mid_size (s := s) (by omega)
  have um := mid_size (s := u) (by omega)
  have hX : ck (mid u) ≠ ck (mid s) := by
    unfold ck
    rw [um, sm, hz]
    have hbt : ∀ (w : ByteArray), w.size = s.size → ∀ j : Int, 0 ≤ j → j < (s.size : Int) - 4 → bt (mid w) j = bt w (1 + j) := by
      intro w hw j j0 j1
      unfold mid
      exact bt_extract j0 (by omega) (by omega)
    refine X_ne (p := p - 1) ?_ _ 0 (by omega) (by omega) (fun j j0 j1 j2 => ?_)
    · rw [hbt u hz _ (by omega) (by omega), hbt s rfl _ (by omega) (by omega), show 1 + (p - 1) = p by omega]
      exact hne
    · rw [hbt u hz _ (by omega) (by omega), hbt s rfl _ (by omega) (by omega)]
      exact hsame _ (by omega) (by omega) (by omega)
  have shi := frame_hi (mid s) (c := ck (mid s)) (by omega)
  have slo := frame_lo (mid s) (c := ck (mid s)) (by omega)
  have uhi := frame_hi (mid u) (c := ck (mid u)) (by omega)
  have ulo := frame_lo (mid u) (c := ck (mid u)) (by omega)
  rw [← vFrame_body sb, sf] at shi slo
  rw [← vFrame_body ub, uf] at uhi ulo
  have e : ((mid u).size : Int) = (mid s).size := by omega
  rw [e, hsame _ (by omega) (by omega) (by omega)] at uhi ulo
  have a := hex_inj (a := ck (mid u) / 16) (b := ck (mid s) / 16) (by omega) (by omega) (uhi.symm.trans shi)
  have b := hex_inj (a := ck (mid u) % 16) (b := ck (mid s) % 16) (by omega) (by omega) (ulo.symm.trans slo)
  omega

theorem turned_bytes {s : ByteArray} {p c : Int} (h0 : 0 ≤ p) (h1 : p < (s.size : Int)) (hc : 0 ≤ c ∧ c ≤ 255) :
    ((s.extract 0 p.toNat ++ strOfNums [c]) ++ s.extract (p + 1).toNat s.size).size = s.size ∧
    bt ((s.extract 0 p.toNat ++ strOfNums [c]) ++ s.extract (p + 1).toNat s.size) p = c ∧
    ∀ j : Int, 0 ≤ j → j < (s.size : Int) → j ≠ p → bt ((s.extract 0 p.toNat ++ strOfNums [c]) ++ s.extract (p + 1).toNat s.size) j = bt s j := by
  have e1 : (s.extract 0 p.toNat).size = p.toNat := by rw [ByteArray.size_extract]; omega
  have e2 : (s.extract (p + 1).toNat s.size).size = s.size - (p + 1).toNat := by rw [ByteArray.size_extract]; omega
  have e3 : (s.extract 0 p.toNat ++ strOfNums [c]).size = p.toNat + 1 := by rw [ByteArray.size_append, e1, str1]
  have hr : rd [c] 0 = c := rfl
  refine ⟨by rw [ByteArray.size_append]; omega, ?_, fun j j0 j1 j2 => ?_⟩
  · rw [bt_left h0 (by omega), bt_right (by omega) (by rw [str1]; omega), show p - ((s.extract 0 p.toNat).size : Int) = 0 by omega, str_bt (by omega) (by simp) (by rw [hr]; exact hc), hr]
  · by_cases e : j < p
    · rw [bt_left j0 (by omega), bt_left j0 (by omega), bt_extract j0 (by omega) (by omega)]
      congr 1
      omega
    · rw [bt_right (by omega) (by omega), bt_extract (by omega) (by omega) (by omega)]
      congr 1
      omega

theorem FnReadFrameWrong : laws_FnReadFrameWrong.Pure := by
  intro l _ _ hw
  refine ⟨1999999 + 1, Tells.yes ?_⟩
  unfold laws_FnReadFrameWrong.f
  refine Tells.ite (fun _ => Tells.some rfl) (fun hl => ?_)
  refine (DrawReadFrame_t (wf8 hw) (by omega)).bind (fun s hs => ?_)
  rw [impl_ReadFrame_eq s (by omega) (by omega), Option.bind_some, spec_ReadFrame_eq s (by omega) (by omega), Option.bind_some, if_pos rfl, if_neg (by simp)]
  cases hy : (vRead s).2 with
  | false =>
    simp only [laws_FnReadFrameWrong.j0]
    rw [if_pos (by decide), if_pos trivial]
    exact Tells.some rfl
  | true =>
    obtain ⟨h5, hf, he, hb⟩ := vRead_yes hy
    have hm := mid_size (s := s) (by omega)
    have hbz := ((vBody_iff _).1 hb).2
    simp only [laws_FnReadFrameWrong.j0]
    rw [if_neg (by decide), he]
    dsimp only
    have hmod0 := Int.emod_nonneg (l.length : Int) (b := ((mid s).size : Int)) (by omega)
    have hmod1 := Int.emod_lt_of_pos (l.length : Int) (b := ((mid s).size : Int)) (by omega)
    generalize hq : (l.length : Int) % ((mid s).size : Int) = q at hmod0 hmod1
    have ep : wrap64 (1 + q) = 1 + q := w64 (by omega) (by omega)
    have ep2 : wrap64 (1 + q + 1) = 1 + q + 1 := w64 (by omega) (by omega)
    have e1 : (s.extract 0 (1 + q).toNat).size = (1 + q).toNat := by rw [ByteArray.size_extract]; omega
    have e2 : (s.extract (1 + q + 1).toNat s.size).size = s.size - (1 + q + 1).toNat := by rw [ByteArray.size_extract]; omega
    rw [if_neg (by omega), ep, ep2, if_pos (by omega), if_pos (by omega)]
    refine Tells.ite (fun h97 => ?_) (fun h97 => ?_)
    · obtain ⟨t1, t2, t3⟩ := turned_bytes (s := s) (p := 1 + q) (c := 98) (by omega) (by omega) (by omega)
      have hno := wrong_byte hy t1 (p := 1 + q) (by omega) (by omega) (by omega) t3
      rw [if_pos (by omega), Option.bind_some, if_pos (by rw [str1]; omega), if_pos (by omega), if_pos (by omega), if_pos (by rw [ByteArray.size_append, str1]; omega), impl_ReadFrame_eq _ (by omega) (by omega), Option.bind_some, hno]
      exact Tells.some rfl
    · obtain ⟨t1, t2, t3⟩ := turned_bytes (s := s) (p := 1 + q) (c := 97) (by omega) (by omega) (by omega)
      have hno := wrong_byte hy t1 (p := 1 + q) (by omega) (by omega) (by omega) t3
      rw [if_pos (by omega), Option.bind_some, if_pos (by rw [str1]; omega), if_pos (by omega), if_pos (by omega), if_pos (by rw [ByteArray.size_append, str1]; omega), impl_ReadFrame_eq _ (by omega) (by omega), Option.bind_some, hno]
      exact Tells.some rfl

end Go.Proofs.Ytmbfilhehclffaa.Pure
