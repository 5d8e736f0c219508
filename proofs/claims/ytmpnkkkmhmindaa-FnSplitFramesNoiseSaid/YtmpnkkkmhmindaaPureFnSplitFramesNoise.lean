/- Proved here, over numbers and lists alone: the law FnSplitFramesNoise answers true at every input (Noise is left out. SplitFrames with bytes in front that are no $ is the same.) Conditions: none beyond the sizes that the row itself gives. -/
import Derived.Test.YtmpnkkkmhmindaaHFnSplitFramesNoisex6
namespace Go.Proofs.Ytmpnkkkmhmindaa.Pure
open Go.RowKit Go.Proofs.Ytmpnkkkmhmindaa.HFnSplitFramesNoise Go.Proofs.YtmpnkkkmhmindaaW.PrintWords Go.Proofs.YtmpnkkkmhmindaaW.PrintLast

theorem w64 {n : Int} (h0 : -9223372036854775808 ≤ n) (h1 : n ≤ 9223372036854775807) : wrap64 n = n := by unfold wrap64; omega

theorem tmodp {a : Int} (h : 0 ≤ a) (b : Int) : Int.tmod a b = a % b := Int.tmod_eq_emod_of_nonneg h

theorem tdivp {a : Int} (h : 0 ≤ a) (b : Int) : Int.tdiv a b = a / b := Int.tdiv_eq_ediv_of_nonneg h

theorem within_eq (n lo hi : Int) : impl_within.f n lo hi = some (decide (lo ≤ n ∧ n ≤ hi)) := by
  unfold impl_within.f
  by_cases h : lo ≤ n
  · rw [if_pos h]; simp [h]
  · rw [if_neg h]; simp [h]

theorem inRange_eq (n lo hi : Int) : spec_inRange.f n lo hi = some (decide (lo ≤ n ∧ n ≤ hi)) := by
  unfold spec_inRange.f
  by_cases h : lo ≤ n
  · rw [if_pos h]; simp [h]
  · rw [if_neg h]; simp [h]

theorem ite_dec {α : Type} {p : Prop} [Decidable p] {a b : α} : (if decide p = true then a else b) = if p then a else b := by
  by_cases h : p <;> simp [h]

theorem rd_mem (l : List Int) (i : Int) (h0 : 0 ≤ i) (h1 : i < (l.length : Int)) : rd l i ∈ l := by
  unfold rd
  have h : i.toNat < l.length := by omega
  rw [List.getD_eq_getElem?_getD, List.getElem?_eq_getElem h]
  exact List.getElem_mem h

theorem xor_nat (a b : Nat) (ha : a < 4611686018427387904) (hb : b < 4611686018427387904) : Go.bits .xor .i64 a b = ((a ^^^ b : Nat) : Int) ∧ a ^^^ b < 4611686018427387904 := by
  have hx : a ^^^ b < 2 ^ 62 := Nat.xor_lt_two_pow (by simpa using ha) (by simpa using hb)
  have hx' : a ^^^ b < 4611686018427387904 := by simpa using hx
  have e1 : IntKind.i64.bits = 64 := rfl
  have ha' : a % 2 ^ IntKind.i64.bits = a := Nat.mod_eq_of_lt (by rw [e1]; omega)
  have hb' : b % 2 ^ IntKind.i64.bits = b := Nat.mod_eq_of_lt (by rw [e1]; omega)
  refine ⟨?_, hx'⟩
  simp only [Go.bits, BitVec.ofInt_natCast, BitVec.toNat_xor, BitVec.toNat_ofNat, ha', hb']
  rw [IntKind.wrap_i64]
  omega

theorem xor_pos {x y : Int} (h0 : 0 ≤ x) (h1 : x < 4611686018427387904) (h2 : 0 ≤ y) (h3 : y < 4611686018427387904) : 0 ≤ Go.bits .xor .i64 x y := by
  obtain ⟨a, rfl⟩ := Int.eq_ofNat_of_zero_le h0
  obtain ⟨b, rfl⟩ := Int.eq_ofNat_of_zero_le h2
  rw [(xor_nat a b (by omega) (by omega)).1]
  omega

def Bytes (bs : List Int) : Prop := (∀ x, x ∈ bs → 0 ≤ x ∧ x ≤ 255) ∧ bs.length ≤ 2000

theorem newReader_eq (c : List Int) (h : ∀ x, x ∈ c → 0 ≤ x ∧ x ≤ 255) : ∃ bs, Bytes bs ∧ spec_newReader.f c = some (bs, 0) := by
  unfold spec_newReader.f
  by_cases hl : (c.length : Int) > 2000
  · refine ⟨c.take 2000, ⟨fun x hx => h x (List.mem_of_mem_take hx), by rw [List.length_take]; omega⟩, ?_⟩
    rw [if_pos hl, if_pos (by omega)]
  · exact ⟨c, ⟨h, by omega⟩, by rw [if_neg hl]⟩

theorem pick_eq {bs : List Int} (hb : Bytes bs) {k : Nat} (hk : 0 < k) {p n : Int} (hp : 0 ≤ p) (hp2 : p ≤ 1000000) (hn : 1 ≤ n) :
    ∃ v, spec_reader_pick.f k bs p n = some (v, p + 1) ∧ 0 ≤ v ∧ v < n := by
  obtain ⟨k, rfl⟩ : ∃ m, k = m + 1 := ⟨k - 1, by omega⟩
  obtain ⟨hb, hl⟩ := hb
  unfold spec_reader_pick.f
  rw [if_neg (by omega), w64 (n := p + 1) (by omega) (by omega)]
  simp only [spec_reader_pick.j0]
  have e1 : wrap64 (p + 1 - 1) = p := by unfold wrap64; omega
  rw [e1]
  have hn0 : ¬ n = 0 := by omega
  by_cases h0 : (bs.length : Int) = 0
  · rw [if_pos (by simpa using h0)]
    exact ⟨0, rfl, by omega, by omega⟩
  · rw [if_neg (by simpa using h0)]
    by_cases h1 : p < (bs.length : Int)
    · have hr := hb _ (rd_mem bs p hp h1)
      rw [if_pos h1, if_pos hp, if_neg hn0, w64 (n := rd bs p) (by omega) (by omega), tmodp hr.1]
      exact ⟨_, rfl, Int.emod_nonneg _ hn0, Int.emod_lt_of_pos _ (by omega)⟩
    · rw [if_neg h1, if_neg h0]
      have hL : (0 : Int) < bs.length := by omega
      have e7 : wrap64 (wrap64 (p * 7) + 3) = p * 7 + 3 := by unfold wrap64; omega
      rw [e7, tmodp hp, tmodp (a := p * 7 + 3) (by omega), tdivp hp]
      have a0 := Int.emod_nonneg p h0
      have a1 := Int.emod_lt_of_pos p hL
      have b0 := Int.emod_nonneg (p * 7 + 3) h0
      have b1 := Int.emod_lt_of_pos (p * 7 + 3) hL
      have hra := hb _ (rd_mem bs _ a0 a1)
      have hrb := hb _ (rd_mem bs _ b0 b1)
      have hd0 : 0 ≤ p / (bs.length : Int) := Int.ediv_nonneg hp (by omega)
      have hd1 : p / (bs.length : Int) ≤ p := Int.ediv_le_self _ hp
      rw [if_pos a0, if_pos a1, if_pos b0, if_pos b1, if_neg hn0]
      generalize rd bs (p % (bs.length : Int)) = ra at hra
      generalize rd bs ((p * 7 + 3) % (bs.length : Int)) = rb at hrb
      generalize p / (bs.length : Int) = q at hd0 hd1
      have ex : wrap64 (wrap64 (wrap64 (wrap64 (wrap64 ra * 131) + wrap64 (wrap64 rb * 1117)) + wrap64 (p * 29)) + wrap64 (wrap64 q * 53)) = ra * 131 + rb * 1117 + p * 29 + q * 53 := by
        unfold wrap64; omega
      rw [ex]
      generalize hx : ra * 131 + rb * 1117 + p * 29 + q * 53 = x
      have hx0 : 0 ≤ x := by omega
      have hx1 : x < 1000000000 := by omega
      rw [tdivp hx0, w64 (n := x / 64) (by omega) (by omega)]
      have hz := xor_pos hx0 (by omega) (y := x / 64) (by omega) (by omega)
      rw [tmodp hz]
      exact ⟨_, rfl, Int.emod_nonneg _ hn0, Int.emod_lt_of_pos _ (by omega)⟩

theorem one_eq {bs : List Int} (hb : Bytes bs) {k : Nat} (hk : 0 < k) {p : Int} (hp : 0 ≤ p) (hp2 : p ≤ 1000000) (l : List Int) (hl : 1 ≤ (l.length : Int)) :
    ∃ v, spec_reader_one.f k bs p l = some (v, p + 1) ∧ v ∈ l := by
  obtain ⟨v, hv, h0, h1⟩ := pick_eq hb hk hp hp2 hl
  unfold spec_reader_one.f
  rw [hv, Option.bind_some, if_pos h0, if_pos h1]
  exact ⟨_, rfl, rd_mem _ _ h0 h1⟩

theorem of_eq {bs : List Int} (hb : Bytes bs) {k : Nat} (hk : 0 < k) {p : Int} (hp : 0 ≤ p) (hp2 : p ≤ 1000000) (l : List ByteArray) (hl : 1 ≤ (l.length : Int)) :
    ∃ v, spec_reader_of.f k bs p l = some (v, p + 1) ∧ v ∈ l := by
  obtain ⟨v, hv, h0, h1⟩ := pick_eq hb hk hp hp2 hl
  unfold spec_reader_of.f
  rw [hv, Option.bind_some, if_pos h0, if_pos h1]
  refine ⟨_, rfl, ?_⟩
  unfold rdOf
  have h : v.toNat < l.length := by omega
  rw [List.getD_eq_getElem?_getD, List.getElem?_eq_getElem h]
  exact List.getElem_mem h

def Tells {α : Type} (Q : α → Prop) (o : Option α) : Prop := ∃ r, o = some r ∧ Q r

theorem Tells.some {α : Type} {Q : α → Prop} {a : α} (h : Q a) : Tells Q (some a) := ⟨a, rfl, h⟩

theorem Tells.bind {α β : Type} {R : α → Prop} {Q : β → Prop} {o : Option α} {f : α → Option β} (h : Tells R o) (g : ∀ a, R a → Tells Q (f a)) : Tells Q (o.bind f) := by
  obtain ⟨a, rfl, ha⟩ := h
  exact g a ha

theorem Tells.bind2 {α β γ : Type} {R : α × β → Prop} {Q : γ → Prop} {o : Option (α × β)} {f : α × β → Option γ} (h : Tells R o) (g : ∀ a b, R (a, b) → Tells Q (f (a, b))) : Tells Q (o.bind f) := by
  obtain ⟨⟨a, b⟩, rfl, ha⟩ := h
  exact g a b ha

theorem Tells.ite {α : Type} {Q : α → Prop} {c : Prop} [Decidable c] {a b : Option α} (h : c → Tells Q a) (g : ¬ c → Tells Q b) : Tells Q (if c then a else b) := by
  by_cases e : c
  · rw [if_pos e]; exact h e
  · rw [if_neg e]; exact g e

theorem Tells.mono {α : Type} {Q R : α → Prop} {o : Option α} (h : Tells Q o) (g : ∀ a, Q a → R a) : Tells R o := by
  obtain ⟨a, ha, hq⟩ := h
  exact ⟨a, ha, g a hq⟩

theorem Tells.yes {o : Option Bool} (h : Tells (fun b => b = true) o) : o = Option.some true := by
  obtain ⟨a, ha, rfl⟩ := h
  exact ha

theorem Tells.eq {α : Type} {Q : α → Prop} {o : Option α} {a : α} (e : o = Option.some a) (h : Q a) : Tells Q o := ⟨a, e, h⟩

theorem pick_t {bs : List Int} (hb : Bytes bs) {k : Nat} (hk : 0 < k) {p n : Int} (hp : 0 ≤ p) (hp2 : p ≤ 1000000) (hn : 1 ≤ n) :
    Tells (fun r => r.2 = p + 1 ∧ 0 ≤ r.1 ∧ r.1 < n) (spec_reader_pick.f k bs p n) := by
  obtain ⟨v, hv, h0, h1⟩ := pick_eq hb hk hp hp2 hn
  exact ⟨_, hv, rfl, h0, h1⟩

theorem one_t {bs : List Int} (hb : Bytes bs) {k : Nat} (hk : 0 < k) {p : Int} (hp : 0 ≤ p) (hp2 : p ≤ 1000000) {l : List Int} (hl : 1 ≤ l.length) :
    Tells (fun r => r.2 = p + 1 ∧ r.1 ∈ l) (spec_reader_one.f k bs p l) := by
  obtain ⟨v, hv, h0⟩ := one_eq hb hk hp hp2 l (by omega)
  exact ⟨_, hv, rfl, h0⟩

theorem of_t {bs : List Int} (hb : Bytes bs) {k : Nat} (hk : 0 < k) {p : Int} (hp : 0 ≤ p) (hp2 : p ≤ 1000000) {l : List ByteArray} (hl : 1 ≤ l.length) :
    Tells (fun r => r.2 = p + 1 ∧ r.1 ∈ l) (spec_reader_of.f k bs p l) := by
  obtain ⟨v, hv, h0⟩ := of_eq hb hk hp hp2 l (by omega)
  exact ⟨_, hv, rfl, h0⟩

theorem newReader_t {c : List Int} (h : ∀ x, x ∈ c → 0 ≤ x ∧ x ≤ 255) : Tells (fun r => r.2 = 0 ∧ Bytes r.1) (spec_newReader.f c) := by
  obtain ⟨bs, hb, e⟩ := newReader_eq c h
  exact ⟨_, e, rfl, hb⟩

theorem wf8 {l : List Int} (h : ∀ x ∈ l, (Lit.int .u8 x).wf = true) : ∀ x, x ∈ l → 0 ≤ x ∧ x ≤ 255 := by
  intro x hx
  have := h x hx
  simp [Lit.wf, IntKind.min, IntKind.max, IntKind.signed, IntKind.bits] at this
  omega

theorem bt_range (s : ByteArray) (i : Int) : 0 ≤ bt s i ∧ bt s i ≤ 255 := by
  unfold bt
  split
  · rename_i h
    have := (s[i.toNat]'h).toNat_lt
    omega
  · omega

theorem bt_nat (s : ByteArray) (i : Nat) (h : i < s.size) : bt s (i : Int) = ((s[i]'h).toNat : Int) := by
  unfold bt
  simp [h]

theorem bt_left {a b : ByteArray} {i : Int} (h0 : 0 ≤ i) (h1 : i < (a.size : Int)) : bt (a ++ b) i = bt a i := by
  obtain ⟨n, rfl⟩ := Int.eq_ofNat_of_zero_le h0
  have hn : n < a.size := by omega
  rw [bt_nat _ _ (by rw [ByteArray.size_append]; omega), bt_nat _ _ hn, ByteArray.getElem_append_left hn]

theorem bt_right {a b : ByteArray} {i : Int} (h0 : (a.size : Int) ≤ i) (h1 : i < (a.size : Int) + (b.size : Int)) : bt (a ++ b) i = bt b (i - a.size) := by
  obtain ⟨n, rfl⟩ := Int.eq_ofNat_of_zero_le (by omega : 0 ≤ i)
  have hn : a.size ≤ n := by omega
  have e : ((n : Int) - (a.size : Int)) = ((n - a.size : Nat) : Int) := by omega
  rw [e, bt_nat _ _ (by rw [ByteArray.size_append]; omega), bt_nat _ _ (by omega), ByteArray.getElem_append_right hn]

def okb (c : Int) : Bool := decide ((32 ≤ c ∧ c ≤ 126) ∧ c ≠ 36 ∧ c ≠ 42)

def allFrom (s : ByteArray) : Nat → Int → Bool
  | 0, _ => true
  | d + 1, i => okb (bt s i) && allFrom s d (i + 1)

def X (s : ByteArray) : Nat → Int → Nat
  | 0, _ => 0
  | d + 1, i => (bt s i).toNat ^^^ X s d (i + 1)

def vBody (s : ByteArray) : Bool := allFrom s s.size 0 && decide (1 ≤ (s.size : Int) ∧ (s.size : Int) ≤ 40)

def ck (s : ByteArray) : Nat := X s s.size 0

theorem allFrom_iff (s : ByteArray) (d : Nat) : ∀ i : Int, allFrom s d i = true ↔ ∀ j : Int, i ≤ j → j < i + d → okb (bt s j) = true := by
  induction d with
  | zero => intro i; simp [allFrom]; intro j h0 h1; omega
  | succ d ih =>
    intro i
    rw [allFrom, Bool.and_eq_true, ih]
    constructor
    · intro ⟨h0, h1⟩ j hj0 hj1
      by_cases e : j = i
      · rw [e]; exact h0
      · exact h1 j (by omega) (by omega)
    · intro h
      exact ⟨h i (by omega) (by omega), fun j h0 h1 => h j (by omega) (by omega)⟩

theorem vBody_iff (s : ByteArray) : vBody s = true ↔ (∀ j : Int, 0 ≤ j → j < (s.size : Int) → okb (bt s j) = true) ∧ 1 ≤ s.size ∧ s.size ≤ 40 := by
  unfold vBody
  rw [Bool.and_eq_true, allFrom_iff]
  simp only [Int.zero_add, decide_eq_true_eq]
  constructor
  · intro ⟨h0, h1⟩; exact ⟨h0, by omega, by omega⟩
  · intro ⟨h0, h1⟩; exact ⟨h0, by omega, by omega⟩

theorem bt_lt8 (s : ByteArray) (i : Int) : (bt s i).toNat < 2 ^ 8 := by
  have := bt_range s i
  omega

theorem xor_step {acc : Nat} (ha : acc < 2 ^ 8) (s : ByteArray) (i : Int) : Go.bits .xor .i64 (acc : Int) (wrap64 (bt s i)) = ((acc ^^^ (bt s i).toNat : Nat) : Int) ∧ acc ^^^ (bt s i).toNat < 2 ^ 8 := by
  have h := bt_range s i
  have hb := bt_lt8 s i
  refine ⟨?_, Nat.xor_lt_two_pow ha hb⟩
  rw [w64 (by omega) (by omega)]
  obtain ⟨b, e⟩ := Int.eq_ofNat_of_zero_le h.1
  rw [e] at h hb ⊢
  rw [(xor_nat acc b (by omega) (by omega)).1]
  rfl

theorem checksum_loop (s : ByteArray) (hs : s.size ≤ 1048576) (d : Nat) : ∀ (k : Nat) (acc : Nat) (i : Int), 0 ≤ i → i + d = (s.size : Int) → d < k → acc < 2 ^ 8 → spec_checksum.l0 k s (acc : Int) i = some ((acc ^^^ X s d i : Nat) : Int) := by
  induction d with
  | zero =>
    intro k acc i h0 h1 hk ha
    obtain ⟨k, rfl⟩ : ∃ m, k = m + 1 := ⟨k - 1, by omega⟩
    simp only [spec_checksum.l0]
    rw [if_neg (by omega)]
    simp [X]
  | succ d ih =>
    intro k acc i h0 h1 hk ha
    obtain ⟨k, rfl⟩ : ∃ m, k = m + 1 := ⟨k - 1, by omega⟩
    simp only [spec_checksum.l0]
    have hx := xor_step ha s i
    rw [if_pos (by omega), if_pos h0, hx.1, w64 (n := i + 1) (by omega) (by omega), ih k _ (i + 1) (by omega) (by omega) (by omega) hx.2, X, Nat.xor_assoc]

theorem spec_checksum_eq (s : ByteArray) (hs : s.size ≤ 1048576) {k : Nat} (hk : 1048577 ≤ k) : spec_checksum.f k s = some ((ck s : Nat) : Int) := by
  unfold spec_checksum.f
  have := checksum_loop s hs s.size k 0 0 (by omega) (by omega) (by omega) (by decide)
  rw [Nat.zero_xor] at this
  exact this

theorem isBody_loop (s : ByteArray) (hs : s.size ≤ 1048576) (d : Nat) : ∀ (k : Nat) (i : Int), 0 ≤ i → i + d = (s.size : Int) → d < k → spec_isBody.l0 k s i = some (allFrom s d i && decide (1 ≤ (s.size : Int) ∧ (s.size : Int) ≤ 40)) := by
  induction d with
  | zero =>
    intro k i h0 h1 hk
    obtain ⟨k, rfl⟩ : ∃ m, k = m + 1 := ⟨k - 1, by omega⟩
    simp only [spec_isBody.l0]
    rw [if_neg (by omega), inRange_eq, Option.bind_some]
    simp [allFrom]
  | succ d ih =>
    intro k i h0 h1 hk
    obtain ⟨k, rfl⟩ : ∃ m, k = m + 1 := ⟨k - 1, by omega⟩
    have hb := bt_range s i
    simp only [spec_isBody.l0]
    rw [if_pos (by omega), if_pos h0, w64 (n := bt s i) (by omega) (by omega), inRange_eq, Option.bind_some, ite_dec, w64 (n := i + 1) (by omega) (by omega), ih k (i + 1) (by omega) (by omega) (by omega), allFrom]
    by_cases h2 : 32 ≤ bt s i ∧ bt s i ≤ 126
    · rw [if_pos h2]
      by_cases h3 : bt s i = 36
      · rw [if_pos h3]; simp [okb, h3]
      · rw [if_neg h3]
        by_cases h4 : bt s i = 42
        · rw [if_pos h4]; simp [okb, h4]
        · rw [if_neg h4]; simp [okb, h2, h3, h4]
    · rw [if_neg h2]; simp [okb, h2]

theorem spec_isBody_eq (s : ByteArray) (hs : s.size ≤ 1048576) {k : Nat} (hk : 1048577 ≤ k) : spec_isBody.f k s = some (vBody s) := by
  unfold spec_isBody.f
  exact isBody_loop s hs s.size k 0 (by omega) (by omega) (by omega)

def vCk (s : ByteArray) : Int := if vBody s = true then (ck s : Int) else -1

theorem ChecksumOf_loop (s : ByteArray) (hs : s.size ≤ 1048576) (d : Nat) : ∀ (k : Nat) (acc : Nat) (i : Int), 0 ≤ i → i + d = (s.size : Int) → d < k → acc < 2 ^ 8 → impl_ChecksumOf.l0 k s (acc : Int) (s.size : Int) i = some (if allFrom s d i = true then ((acc ^^^ X s d i : Nat) : Int) else -1) := by
  induction d with
  | zero =>
    intro k acc i h0 h1 hk ha
    obtain ⟨k, rfl⟩ : ∃ m, k = m + 1 := ⟨k - 1, by omega⟩
    simp only [impl_ChecksumOf.l0]
    rw [if_neg (by omega)]
    simp [X, allFrom]
  | succ d ih =>
    intro k acc i h0 h1 hk ha
    obtain ⟨k, rfl⟩ : ∃ m, k = m + 1 := ⟨k - 1, by omega⟩
    simp only [impl_ChecksumOf.l0]
    have hx := xor_step ha s i
    rw [if_pos (by omega), if_pos h0, if_pos (by omega), hx.1, w64 (n := i + 1) (by omega) (by omega), ih k _ (i + 1) (by omega) (by omega) (by omega) hx.2, X, Nat.xor_assoc, allFrom]
    by_cases h1 : bt s i < 32
    · rw [if_pos h1, if_neg]; simp [okb]; omega
    · rw [if_neg h1]
      by_cases h2 : bt s i > 126
      · rw [if_pos h2, if_neg]; simp [okb]; omega
      · rw [if_neg h2]
        by_cases h3 : bt s i = 36
        · rw [if_pos h3]; simp [okb, h3]
        · rw [if_neg h3]
          by_cases h4 : bt s i = 42
          · rw [if_pos h4]; simp [okb, h4]
          · have e : okb (bt s i) = true := by unfold okb; rw [decide_eq_true_eq]; omega
            rw [if_neg h4, e, Bool.true_and]

theorem impl_ChecksumOf_eq (s : ByteArray) (hs : s.size ≤ 1048576) {k : Nat} (hk : 1048577 ≤ k) : impl_ChecksumOf.f k s = some (vCk s) := by
  unfold impl_ChecksumOf.f vCk vBody
  rw [within_eq, Option.bind_some, ite_dec]
  have h := ChecksumOf_loop s hs s.size k 0 0 (by omega) (by omega) (by omega) (by decide)
  rw [Nat.zero_xor] at h
  by_cases h2 : 1 ≤ (s.size : Int) ∧ (s.size : Int) ≤ 40
  · rw [if_pos h2]
    refine h.trans ?_
    simp [h2, ck]
  · rw [if_neg h2, if_neg]
    simp [h2]

def HEX : ByteArray := ⟨#[48, 49, 50, 51, 52, 53, 54, 55, 56, 57, 65, 66, 67, 68, 69, 70]⟩

def hexd (n : Nat) : ByteArray := HEX.extract n (n + 1)

def frame (s : ByteArray) (c : Nat) : ByteArray := ((((⟨#[36]⟩ : ByteArray) ++ s) ++ (⟨#[42]⟩ : ByteArray)) ++ hexd (c / 16)) ++ hexd (c % 16)

def vFrame (s : ByteArray) : ByteArray := if vBody s = true then frame s (ck s) else (⟨#[]⟩ : ByteArray)

theorem hexd_size {n : Nat} (h : n < 16) : (hexd n).size = 1 := by
  unfold hexd
  rw [ByteArray.size_extract]
  have e : HEX.size = 16 := rfl
  omega

theorem body_lt (s : ByteArray) (d : Nat) : ∀ i, allFrom s d i = true → X s d i < 2 ^ 7 := by
  induction d with
  | zero => intro i _; simp [X]
  | succ d ih =>
    intro i h
    rw [allFrom, Bool.and_eq_true] at h
    rw [X]
    have h1 := h.1
    unfold okb at h1
    rw [decide_eq_true_eq] at h1
    exact Nat.xor_lt_two_pow (by omega) (ih _ h.2)

theorem ck_lt {s : ByteArray} (h : vBody s = true) : ck s < 128 := by
  unfold vBody at h
  rw [Bool.and_eq_true] at h
  exact body_lt s s.size 0 h.1

theorem spec_hexDigit_eq {n : Nat} (h : n < 16) : spec_hexDigit.f (n : Int) = some (hexd n) := by
  unfold spec_hexDigit.f
  have e : wrap64 ((n : Int) + 1) = ((n + 1 : Nat) : Int) := by unfold wrap64; omega
  rw [e, if_pos (by omega), if_pos (by omega), if_pos (by omega)]
  rfl

theorem spec_FrameBody_eq (s : ByteArray) (hs : s.size ≤ 1048576) {k : Nat} (hk : 1048577 ≤ k) : spec_FrameBody.f k s = some (vFrame s) := by
  unfold spec_FrameBody.f vFrame
  rw [spec_isBody_eq s hs hk, Option.bind_some]
  by_cases h : vBody s = true
  · have hc := ck_lt h
    have e1 : wrap64 (Int.tdiv (ck s : Int) 16) = ((ck s / 16 : Nat) : Int) := by rw [tdivp (by omega), w64 (by omega) (by omega)]; omega
    have e2 : Int.tmod (ck s : Int) 16 = ((ck s % 16 : Nat) : Int) := by rw [tmodp (by omega)]; omega
    have z1 := hexd_size (n := ck s / 16) (by omega)
    have z2 := hexd_size (n := ck s % 16) (by omega)
    have z3 : (⟨#[36]⟩ : ByteArray).size = 1 := rfl
    have z4 : (⟨#[42]⟩ : ByteArray).size = 1 := rfl
    rw [if_pos h, if_pos h, spec_checksum_eq s hs hk, Option.bind_some, e1, e2, spec_hexDigit_eq (by omega), Option.bind_some, spec_hexDigit_eq (by omega), Option.bind_some]
    rw [if_pos (by omega), if_pos (by rw [ByteArray.size_append]; omega), if_pos (by simp only [ByteArray.size_append]; omega), if_pos (by simp only [ByteArray.size_append]; omega)]
    rfl
  · rw [if_neg h, if_neg h]

theorem impl_FrameBody_eq (s : ByteArray) (hs : s.size ≤ 1048576) {k : Nat} (hk : 1048577 ≤ k) : impl_FrameBody.f k s = some (vFrame s) := by
  unfold impl_FrameBody.f vFrame
  rw [impl_ChecksumOf_eq s hs hk, Option.bind_some]
  unfold vCk
  by_cases h : vBody s = true
  · have hc := ck_lt h
    have e1 : wrap64 (Int.tdiv (ck s : Int) 16) = ((ck s / 16 : Nat) : Int) := by rw [tdivp (by omega), w64 (by omega) (by omega)]; omega
    have e2 : Int.tmod (ck s : Int) 16 = ((ck s % 16 : Nat) : Int) := by rw [tmodp (by omega)]; omega
    have e3 : wrap64 (((ck s / 16 : Nat) : Int) + 1) = ((ck s / 16 + 1 : Nat) : Int) := by rw [w64 (by omega) (by omega)]; omega
    have e4 : wrap64 (((ck s % 16 : Nat) : Int) + 1) = ((ck s % 16 + 1 : Nat) : Int) := by rw [w64 (by omega) (by omega)]; omega
    have z1 := hexd_size (n := ck s / 16) (by omega)
    have z2 := hexd_size (n := ck s % 16) (by omega)
    unfold hexd HEX at z1 z2
    have z3 : (⟨#[36]⟩ : ByteArray).size = 1 := rfl
    have z4 : (⟨#[42]⟩ : ByteArray).size = 1 := rfl
    simp only [h, if_true, e1, e2, e3, e4, Int.toNat_natCast]
    rw [if_neg (by omega), if_pos (by omega), if_pos (by rw [ByteArray.size_append]; omega), if_pos (by omega), if_pos (by omega), if_pos (by omega), if_pos (by simp only [ByteArray.size_append]; omega), if_pos (by omega), if_pos (by omega), if_pos (by omega), if_pos (by simp only [ByteArray.size_append]; omega)]
    rfl
  · simp only [if_neg h]
    rw [if_pos (by omega)]

theorem toList_iff (s t : ByteArray) : s.toList = t.toList ↔ s = t := by
  constructor
  · intro h
    rw [ByteArray.toList_eq, ByteArray.toList_eq] at h
    exact ByteArray.ext (Array.toList_inj.1 h)
  · intro h; rw [h]

def mid (s : ByteArray) : ByteArray := s.extract 1 (s.size - 3)

theorem mid_size {s : ByteArray} (h : 4 ≤ s.size) : (mid s).size = s.size - 4 := by
  unfold mid
  rw [ByteArray.size_extract]
  omega

theorem frame_size {s : ByteArray} {c : Nat} (hc : c < 256) : (frame s c).size = s.size + 4 := by
  have z1 := hexd_size (n := c / 16) (by omega)
  have z2 := hexd_size (n := c % 16) (by omega)
  have z3 : (⟨#[36]⟩ : ByteArray).size = 1 := rfl
  have z4 : (⟨#[42]⟩ : ByteArray).size = 1 := rfl
  unfold frame
  simp only [ByteArray.size_append]
  omega

theorem vFrame_size (s : ByteArray) : (vBody s = true ∧ (vFrame s).size = s.size + 4 ∧ 1 ≤ s.size ∧ s.size ≤ 40) ∨ (vBody s = false ∧ vFrame s = (⟨#[]⟩ : ByteArray)) := by
  unfold vFrame
  by_cases h : vBody s = true
  · rw [if_pos h]
    have hc := ck_lt h
    have hb := ((vBody_iff s).1 h).2
    exact Or.inl ⟨h, frame_size (by omega), hb⟩
  · rw [if_neg h]
    exact Or.inr ⟨by simpa using h, rfl⟩

theorem isF_size {s : ByteArray} (h4 : 4 ≤ s.size) (h : vFrame (mid s) = s) : 5 ≤ s.size ∧ vBody (mid s) = true ∧ s.size ≤ 44 := by
  have hm := mid_size h4
  rcases vFrame_size (mid s) with ⟨hb, hz, h1, h2⟩ | ⟨_, hz⟩
  · exact ⟨by omega, hb, by omega⟩
  · rw [h] at hz
    rw [hz] at h4
    exact absurd h4 (by decide)

open Classical in
noncomputable def vRead (s : ByteArray) : ByteArray × Bool := if 5 ≤ s.size ∧ vFrame (mid s) = s then (mid s, true) else ((⟨#[]⟩ : ByteArray), false)

theorem impl_ReadFrame_eq (s : ByteArray) (hs : s.size ≤ 1048576) {k : Nat} (hk : 1048577 ≤ k) : impl_ReadFrame.f k s = some (vRead s) := by
  unfold impl_ReadFrame.f vRead
  by_cases h : (s.size : Int) < 4
  · rw [if_pos h, if_neg (by omega)]
  · have e : wrap64 ((s.size : Int) - 3) = ((s.size - 3 : Nat) : Int) := by rw [w64 (by omega) (by omega)]; omega
    have hm := mid_size (s := s) (by omega)
    have em : s.extract 1 (s.size - 3) = mid s := rfl
    rw [if_neg h, e, if_pos (by omega), if_pos (by omega), Int.toNat_natCast, em, impl_FrameBody_eq (mid s) (by omega) hk, Option.bind_some]
    by_cases h2 : vFrame (mid s) = s
    · have h5 := isF_size (by omega) h2
      rw [if_pos ((toList_iff _ _).2 h2.symm), if_pos ⟨h5.1, h2⟩]
    · rw [if_neg (fun e => h2 ((toList_iff _ _).1 e).symm), if_neg (fun e => h2 e.2)]

theorem spec_ReadFrame_eq (s : ByteArray) (hs : s.size ≤ 1048576) {k : Nat} (hk : 1048577 ≤ k) : spec_ReadFrame.f k s = some (vRead s) := by
  unfold spec_ReadFrame.f vRead
  by_cases h : (s.size : Int) < 5
  · rw [if_pos h, if_neg (by omega)]
  · have e : wrap64 ((s.size : Int) - 3) = ((s.size - 3 : Nat) : Int) := by rw [w64 (by omega) (by omega)]; omega
    have hm := mid_size (s := s) (by omega)
    have em : s.extract 1 (s.size - 3) = mid s := rfl
    rw [if_neg h, e, if_pos (by omega), if_pos (by omega), Int.toNat_natCast, em, spec_FrameBody_eq (mid s) (by omega) hk, spec_isBody_eq (mid s) (by omega) hk, Option.bind_some, Option.bind_some]
    by_cases h2 : vFrame (mid s) = s
    · have h5 := isF_size (by omega) h2
      rw [if_pos h5.2.1, if_pos ((toList_iff _ _).2 h2), if_pos ⟨h5.1, h2⟩]
    · rw [if_neg (c := 5 ≤ s.size ∧ vFrame (mid s) = s) (fun e => h2 e.2)]
      by_cases h3 : vBody (mid s) = true
      · rw [if_pos h3, if_neg (fun e => h2 ((toList_iff _ _).1 e))]
      · rw [if_neg h3]

def B10 : Nat → Int
  | 0 => 9
  | j + 1 => 10 * B10 j + 9

theorem str1 (x : Int) : (strOfNums [x]).size = 1 := rfl

theorem decimal_t (j : Nat) : ∀ (k : Nat) (n : Int), 0 ≤ n → n ≤ B10 j → n ≤ 1000000000 → j < 10 → j < k → Tells (fun s => s.size ≤ j + 1) (spec_decimal.f k n) := by
  induction j with
  | zero =>
    intro k n h0 h1 _ _ hk
    obtain ⟨k, rfl⟩ : ∃ m, k = m + 1 := ⟨k - 1, by omega⟩
    simp only [spec_decimal.f]
    have h2 : n ≤ 9 := h1
    rw [if_pos (by omega)]
    exact Tells.some (by rw [str1]; omega)
  | succ j ih =>
    intro k n h0 h1 h2 h3 hk
    obtain ⟨k, rfl⟩ : ∃ m, k = m + 1 := ⟨k - 1, by omega⟩
    have h4 : n ≤ 10 * B10 j + 9 := h1
    simp only [spec_decimal.f]
    refine Tells.ite (fun _ => Tells.some (by rw [str1]; omega)) (fun hn => ?_)
    rw [tdivp h0, w64 (by omega) (by omega)]
    refine (ih k (n / 10) (by omega) (by omega) (by omega) (by omega) (by omega)).bind (fun s hs => ?_)
    rw [Option.bind_some, str1, if_pos (by omega)]
    exact Tells.some (by rw [ByteArray.size_append, str1]; omega)

theorem digits_loop (many : Int) (h1 : many ≤ 10) (d : Nat) : ∀ (k : Nat) (s : ByteArray), many ≤ (s.size : Int) + d → s.size ≤ 20 → d < k → Tells (fun s => s.size ≤ 20) (spec_digits.l0 k many s) := by
  induction d with
  | zero =>
    intro k s h0 h2 hk
    obtain ⟨k, rfl⟩ : ∃ m, k = m + 1 := ⟨k - 1, by omega⟩
    simp only [spec_digits.l0]
    rw [if_neg (by omega)]
    exact Tells.some h2
  | succ d ih =>
    intro k s h0 h2 hk
    obtain ⟨k, rfl⟩ : ∃ m, k = m + 1 := ⟨k - 1, by omega⟩
    simp only [spec_digits.l0]
    refine Tells.ite (fun h => ?_) (fun _ => Tells.some h2)
    have z : (⟨#[48]⟩ : ByteArray).size = 1 := rfl
    have e : ((⟨#[48]⟩ : ByteArray) ++ s).size = 1 + s.size := by rw [ByteArray.size_append, z]
    rw [if_pos (by omega)]
    exact ih k _ (by omega) (by omega) (by omega)

theorem digits_t {k : Nat} (hk : 20 < k) {n many : Int} (h0 : 0 ≤ n) (h1 : n ≤ 99999) (h2 : many ≤ 10) : Tells (fun s => s.size ≤ 20) (spec_digits.f k n many) := by
  unfold spec_digits.f
  refine (decimal_t 4 k n h0 (by have e : B10 4 = 99999 := by decide
                                 omega) (by omega) (by omega) (by omega)).bind (fun s hs => ?_)
  exact digits_loop many h2 10 k s (by omega) (by omega) (by omega)

theorem formatFix_t {k : Nat} (hk : 20 < k) {y m d s n : Int} (hy : 0 ≤ y ∧ y ≤ 9999) (hm : 0 ≤ m ∧ m ≤ 99) (hd : 0 ≤ d ∧ d ≤ 99) (hs : 0 ≤ s ∧ s ≤ 86399) (hn : 0 ≤ n ∧ n ≤ 9999) : Tells (fun t => t.size ≤ 200) (spec_formatFix.f k y m d s n) := by
  unfold spec_formatFix.f
  have e0 : mn s 86399 = s := by unfold mn; rw [if_neg (by omega)]
  have z4 : (⟨#[70, 73, 88, 44]⟩ : ByteArray).size = 4 := rfl
  have z1 : (⟨#[44]⟩ : ByteArray).size = 1 := rfl
  rw [e0, tdivp hs.1, tdivp hs.1, tmodp hs.1, w64 (n := s / 3600) (by omega) (by omega), w64 (n := s / 60) (by omega) (by omega), tmodp (a := s / 60) (by omega), w64 (n := s % 60 + s) (by omega) (by omega), w64 (n := s % 60 + s - s) (by omega) (by omega)]
  refine (digits_t hk (by omega) (by omega) (by omega)).bind (fun a ha => ?_)
  refine (digits_t hk (by omega) (by omega) (by omega)).bind (fun b hb => ?_)
  rw [if_pos (by omega)]
  refine (digits_t hk (by omega) (by omega) (by omega)).bind (fun c hc => ?_)
  rw [if_pos (by simp only [ByteArray.size_append]; omega), if_pos (by simp only [ByteArray.size_append]; omega), if_pos (by simp only [ByteArray.size_append, z4]; omega)]
  refine (digits_t hk (by omega) (by omega) (by omega)).bind (fun e he => ?_)
  rw [if_pos (by simp only [ByteArray.size_append, z4, z1]; omega), if_pos (by simp only [ByteArray.size_append, z4, z1]; omega)]
  refine (digits_t hk (by omega) (by omega) (by omega)).bind (fun f hf => ?_)
  rw [if_pos (by simp only [ByteArray.size_append, z4, z1]; omega), if_pos (by simp only [ByteArray.size_append, z4, z1]; omega)]
  refine (digits_t hk (by omega) (by omega) (by omega)).bind (fun g hg => ?_)
  rw [if_pos (by simp only [ByteArray.size_append, z4, z1]; omega), if_pos (by simp only [ByteArray.size_append, z4, z1]; omega)]
  refine (decimal_t 4 k n hn.1 (by have e : B10 4 = 99999 := by decide
                                   omega) (by omega) (by omega) (by omega)).bind (fun h hh => ?_)
  rw [if_pos (by simp only [ByteArray.size_append, z4, z1]; omega)]
  exact Tells.some (by simp only [ByteArray.size_append, z4, z1]; omega)

theorem someBody_t {bs : List Int} (hb : Bytes bs) {k : Nat} (hk : 20 < k) {p : Int} (hp : 0 ≤ p) (hp2 : p ≤ 800000) : Tells (fun r => r.1.size ≤ 200 ∧ p ≤ r.2 ∧ r.2 ≤ p + 6) (spec_someBody.f k bs p) := by
  unfold spec_someBody.f
  refine (pick_t hb (by omega) hp (by omega) (by omega)).bind2 ?_
  rintro a q ⟨rfl, _, _⟩
  dsimp only
  refine Tells.ite (fun _ => ?_) (fun _ => ?_)
  · refine (pick_t hb (by omega) (by omega) (by omega) (by omega)).bind2 ?_
    rintro y q ⟨rfl, y0, y1⟩
    dsimp only at y0 y1 ⊢
    refine (pick_t hb (by omega) (by omega) (by omega) (by omega)).bind2 ?_
    rintro m q ⟨rfl, m0, m1⟩
    dsimp only at m0 m1 ⊢
    refine (pick_t hb (by omega) (by omega) (by omega) (by omega)).bind2 ?_
    rintro d q ⟨rfl, d0, d1⟩
    dsimp only at d0 d1 ⊢
    refine (pick_t hb (by omega) (by omega) (by omega) (by omega)).bind2 ?_
    rintro s q ⟨rfl, s0, s1⟩
    dsimp only at s0 s1 ⊢
    refine (pick_t hb (by omega) (by omega) (by omega) (by omega)).bind2 ?_
    rintro n q ⟨rfl, n0, n1⟩
    dsimp only at n0 n1 ⊢
    rw [w64 (n := 2000 + y) (by omega) (by omega), w64 (n := 1 + m) (by omega) (by omega), w64 (n := 1 + d) (by omega) (by omega), w64 (n := 345 * s) (by omega) (by omega)]
    refine (formatFix_t hk (by omega) (by omega) (by omega) (by omega) (by omega)).bind (fun t ht => ?_)
    exact Tells.some ⟨ht, by dsimp only; omega, by dsimp only; omega⟩
  · refine (of_t hb (by omega) (by omega) (by omega) (by simp)).bind2 ?_
    rintro b q ⟨rfl, hm⟩
    dsimp only at hm
    have hz : b.size ≤ 200 := by
      revert b
      decide
    exact Tells.some ⟨hz, by dsimp only; omega, by dsimp only; omega⟩

theorem mutate_t {bs : List Int} (hb : Bytes bs) {k : Nat} (hk : 0 < k) {p : Int} (hp : 0 ≤ p) (hp2 : p ≤ 800000) {a : ByteArray} (ha : a.size ≤ 4000) : Tells (fun r => r.1.size ≤ a.size + 10) (spec_mutate.f k bs p a) := by
  unfold spec_mutate.f
  rw [w64 (n := (a.size : Int) + 1) (by omega) (by omega)]
  refine (pick_t hb hk hp (by omega) (by omega)).bind2 ?_
  rintro v q ⟨rfl, v0, v1⟩
  dsimp only at v0 v1 ⊢
  refine (pick_t hb hk (by omega) (by omega) (by omega)).bind2 ?_
  rintro u q ⟨rfl, _, _⟩
  dsimp only
  refine Tells.ite (fun _ => ?_) (fun _ => Tells.ite (fun _ => ?_) (fun _ => Tells.ite (fun _ => ?_) (fun _ => ?_)))
  · refine Tells.ite (fun hlt => ?_) (fun _ => Tells.some (by dsimp only; omega))
    rw [if_pos v0, if_pos (by omega)]
    refine (of_t hb hk (by omega) (by omega) (by simp)).bind2 ?_
    rintro b q ⟨rfl, hm⟩
    dsimp only at hm ⊢
    have hz : b.size ≤ 2 := by
      clear hlt
      revert b
      decide
    have e1 : (a.extract 0 v.toNat).size ≤ a.size := by rw [ByteArray.size_extract]; omega
    rw [if_pos (by omega), w64 (n := v + 1) (by omega) (by omega), if_pos (by omega), if_pos (by omega)]
    have e2 : (a.extract 0 v.toNat).size = v.toNat := by rw [ByteArray.size_extract]; omega
    have e3 : (a.extract (v + 1).toNat a.size).size = a.size - (v + 1).toNat := by rw [ByteArray.size_extract]; omega
    rw [if_pos (by rw [ByteArray.size_append]; omega)]
    exact Tells.some (by dsimp only; rw [ByteArray.size_append, ByteArray.size_append]; omega)
  · rw [if_pos v0, if_pos (by omega)]
    have e1 : (a.extract 0 v.toNat).size ≤ a.size := by rw [ByteArray.size_extract]; omega
    exact Tells.some (by dsimp only; omega)
  · refine (of_t hb hk (by omega) (by omega) (by simp)).bind2 ?_
    rintro b q ⟨rfl, hm⟩
    dsimp only at hm ⊢
    have hz : b.size ≤ 2 := by
      revert b
      decide
    rw [if_pos (by omega)]
    exact Tells.some (by dsimp only; rw [ByteArray.size_append]; omega)
  · exact Tells.some (by dsimp only; omega)

theorem vFrame_le (s : ByteArray) : (vFrame s).size ≤ 44 := by
  rcases vFrame_size s with ⟨_, h, _, h2⟩ | ⟨_, h⟩
  · omega
  · rw [h]; decide

def nst (s : ByteArray) : Nat → Int → Int
  | 0, _ => s.size
  | d + 1, i => if bt s i = 42 then i else nst s d (i + 1)

theorem nst_bd (s : ByteArray) (d : Nat) : ∀ i : Int, 0 ≤ i → i + d = (s.size : Int) → i ≤ nst s d i ∧ nst s d i ≤ s.size := by
  induction d with
  | zero => intro i h0 h1; rw [nst]; omega
  | succ d ih =>
    intro i h0 h1
    have := ih (i + 1) (by omega) (by omega)
    rw [nst]
    split <;> omega

theorem star_loop (s : ByteArray) (hs : s.size ≤ 1048576) (d : Nat) : ∀ (k : Nat) (i : Int), 0 ≤ i → i + d = (s.size : Int) → d < k → spec_star.l0 k s i = some (nst s d i) := by
  induction d with
  | zero =>
    intro k i h0 h1 hk
    obtain ⟨k, rfl⟩ : ∃ m, k = m + 1 := ⟨k - 1, by omega⟩
    simp only [spec_star.l0]
    rw [if_neg (by omega)]
    rfl
  | succ d ih =>
    intro k i h0 h1 hk
    obtain ⟨k, rfl⟩ : ∃ m, k = m + 1 := ⟨k - 1, by omega⟩
    simp only [spec_star.l0]
    rw [if_pos (by omega), if_pos h0, w64 (n := i + 1) (by omega) (by omega), ih k (i + 1) (by omega) (by omega) (by omega), nst]
    split <;> rfl

theorem drop_bytes (s : ByteArray) (a : Nat) : (s.extract a s.size).data.toList = s.data.toList.drop a := by
  rw [ByteArray.data_extract, Array.toList_extract, List.extract]
  have : s.size = s.data.toList.length := by rw [Array.length_toList]; rfl
  rw [List.take_of_length_le (by rw [List.length_drop]; omega)]

theorem index_nst (s : ByteArray) (d : Nat) : ∀ i : Nat, i + d = s.size → Go.Lib.indexByte (s.data.toList.drop i) 42 = if nst s d i = s.size then -1 else nst s d i - i := by
  have hlen : s.data.toList.length = s.size := by rw [Array.length_toList]; rfl
  induction d with
  | zero =>
    intro i h
    rw [List.drop_of_length_le (by omega), nst, if_pos rfl]
    rfl
  | succ d ih =>
    intro i h
    have hi : i < s.data.toList.length := by omega
    have hb := nst_bd s d (i + 1) (by omega) (by omega)
    have hr := ih (i + 1) (by omega)
    have e1 : ((i + 1 : Nat) : Int) = (i : Int) + 1 := by omega
    rw [e1] at hr
    rw [List.drop_eq_getElem_cons hi, Go.Lib.indexByte, nst, hr]
    have hbt : bt s (i : Int) = ((s.data.toList[i]'hi).toNat : Int) := by
      rw [bt_nat s i (by omega)]
      rfl
    by_cases h42 : bt s (i : Int) = 42
    · have : (s.data.toList[i]'hi == 42) = true := by
        rw [beq_iff_eq]
        refine UInt8.toNat_inj.1 ?_
        rw [hbt] at h42
        have : (42 : UInt8).toNat = 42 := rfl
        omega
      rw [this, if_pos rfl, if_pos h42, if_neg (by omega)]
      omega
    · have : (s.data.toList[i]'hi == 42) = false := by
        rw [beq_eq_false_iff_ne]
        intro e
        rw [hbt, e] at h42
        exact h42 rfl
      rw [this, if_neg (by decide), if_neg h42]
      by_cases hn : nst s d (i + 1) = s.size
      · rw [if_pos hn, if_pos hn, if_pos (by decide)]
      · rw [if_neg hn, if_neg hn, if_neg (by rw [beq_iff_eq]; omega)]
        omega

def st (s : ByteArray) (i : Int) : Int := nst s (s.size - i.toNat) i

def piece (s : ByteArray) (i : Int) : ByteArray := s.extract i.toNat (st s i + 3).toNat

noncomputable def hit (s : ByteArray) (i : Int) : Bool := decide (bt s i = 36 ∧ st s i + 3 ≤ (s.size : Int)) && (vRead (piece s i)).2

noncomputable def SF (s : ByteArray) : Nat → Int → Int → List ByteArray
  | 0, _, _ => []
  | f + 1, i, m => if i < (s.size : Int) ∧ 0 < m then (if hit s i = true then (vRead (piece s i)).1 :: SF s f (st s i + 3) (m - 1) else SF s f (i + 1) m) else []

theorem st_bd {s : ByteArray} {i : Int} (h0 : 0 ≤ i) (h1 : i ≤ (s.size : Int)) : i ≤ st s i ∧ st s i ≤ s.size := nst_bd s _ i h0 (by omega)

theorem index_eq {s : ByteArray} {i : Int} (h0 : 0 ≤ i) (h1 : i ≤ (s.size : Int)) : strings_IndexByte.f (s.extract i.toNat s.size) 42 = some (if st s i = s.size then -1 else st s i - i) := by
  unfold strings_IndexByte.f stringslite_IndexByte.f
  rw [Option.bind_some]
  have h := index_nst s (s.size - i.toNat) i.toNat (by omega)
  have e : ((i.toNat : Nat) : Int) = i := by omega
  rw [e] at h
  rw [drop_bytes]
  exact congrArg some h

theorem piece_size {s : ByteArray} (h : s.size ≤ 400) (i : Int) : (piece s i).size ≤ 400 := by
  unfold piece
  rw [ByteArray.size_extract]
  omega

theorem impl_split_loop (s : ByteArray) (hs : s.size ≤ 400) (f : Nat) : ∀ (k : Nat) (out : List ByteArray) (i : Int), 0 ≤ i → i ≤ (s.size : Int) → (s.size : Int) ≤ i + f → (out.length : Int) ≤ 8 → 1048600 + 3 * f ≤ k → impl_SplitFrames.l0 k s out i = some (out ++ SF s f i (8 - out.length)) := by
  have stop : ∀ (k : Nat) (out : List ByteArray) (i : Int), 3 ≤ k → ¬ (i < (s.size : Int) ∧ (out.length : Int) < 8) → impl_SplitFrames.l0 k s out i = some out := by
    intro k out i hk hno
    obtain ⟨k, rfl⟩ : ∃ m, k = m + 1 + 1 := ⟨k - 2, by omega⟩
    rw [impl_SplitFrames.l0]
    by_cases h : i < (s.size : Int)
    · rw [if_pos h, decide_eq_false (fun e => hno ⟨h, e⟩), impl_SplitFrames.j1]
      rfl
    · rw [if_neg h, impl_SplitFrames.j1]
      rfl
  induction f with
  | zero =>
    intro k out i h0 h1 h2 h3 hk
    rw [stop k out i (by omega) (by omega), SF, List.append_nil]
  | succ f ih =>
    intro k out i h0 h1 h2 h3 hk
    by_cases hgo : i < (s.size : Int) ∧ (out.length : Int) < 8
    · have hb := st_bd h0 h1
      obtain ⟨k, rfl⟩ : ∃ m, k = m + 1 + 1 + 1 := ⟨k - 3, by omega⟩
      have skip : ∀ x, impl_SplitFrames.j2 (k + 1) s out i x true = impl_SplitFrames.l0 k s out (i + 1) := by
        intro x
        rw [impl_SplitFrames.j2, if_pos rfl, w64 (by omega) (by omega)]
      have hskip := ih k out (i + 1) (by omega) (by omega) (by omega) h3 (by omega)
      rw [impl_SplitFrames.l0, if_pos hgo.1, decide_eq_true hgo.2, impl_SplitFrames.j1, if_pos rfl, if_pos h0, if_pos h1, index_eq h0 h1, Option.bind_some, if_pos hgo.1, skip, SF, if_pos (c := i < (s.size : Int) ∧ 0 < 8 - (out.length : Int)) (by omega)]
      by_cases hd : bt s i = 36
      · rw [if_pos hd]
        by_cases hst : st s i = s.size
        · have hh : ¬ hit s i = true := by
            unfold hit
            rw [Bool.and_eq_true, decide_eq_true_eq]
            intro e
            omega
          rw [if_pos hst, if_pos (by decide), hskip, if_neg hh]
        · rw [if_neg hst, if_neg (by omega), w64 (n := i + (st s i - i)) (by omega) (by omega), w64 (n := i + (st s i - i) + 3) (by omega) (by omega), show i + (st s i - i) + 3 = st s i + 3 by omega]
          by_cases hend : st s i + 3 > (s.size : Int)
          · have hh : ¬ hit s i = true := by
              unfold hit
              rw [Bool.and_eq_true, decide_eq_true_eq]
              intro e
              omega
            rw [decide_eq_true hend, skip, hskip, if_neg hh]
          · have hp := piece_size hs i
            rw [decide_eq_false hend, impl_SplitFrames.j2, if_neg (by decide), if_pos h0, w64 (n := i + (st s i - i)) (by omega) (by omega), w64 (n := i + (st s i - i) + 3) (by omega) (by omega), show i + (st s i - i) + 3 = st s i + 3 by omega, if_pos (by omega), if_pos (by omega), show s.extract i.toNat (st s i + 3).toNat = piece s i from rfl, impl_ReadFrame_eq _ (by omega) (by omega), Option.bind_some]
            by_cases hr : (vRead (piece s i)).2 = true
            · have hh : hit s i = true := by
                unfold hit
                rw [Bool.and_eq_true, decide_eq_true_eq]
                exact ⟨⟨hd, by omega⟩, hr⟩
              have hlen : ((out ++ [(vRead (piece s i)).1]).length : Int) = out.length + 1 := by simp
              have hi := ih k (out ++ [(vRead (piece s i)).1]) (st s i + 3) (by omega) (by omega) (by omega) (by omega) (by omega)
              rw [if_pos hr, if_pos (by omega), w64 (n := st s i - i + 2) (by omega) (by omega), w64 (n := i + (st s i - i + 2)) (by omega) (by omega), w64 (n := i + (st s i - i + 2) + 1) (by omega) (by omega), show i + (st s i - i + 2) + 1 = st s i + 3 by omega, hi, if_pos hh, hlen, List.append_assoc, show (8 : Int) - (out.length + 1) = 8 - out.length - 1 by omega]
              rfl
            · have hh : ¬ hit s i = true := by
                unfold hit
                rw [Bool.and_eq_true]
                exact fun e => hr e.2
              rw [if_neg hr, w64 (n := i + 1) (by omega) (by omega), hskip, if_neg hh]
      · have hh : ¬ hit s i = true := by
          unfold hit
          rw [Bool.and_eq_true, decide_eq_true_eq]
          exact fun e => hd e.1.1
        rw [if_neg hd, hskip, if_neg hh]
    · rw [stop k out i (by omega) hgo, SF, if_neg (by omega), List.append_nil]

theorem spec_split_loop (s : ByteArray) (hs : s.size ≤ 400) (f : Nat) : ∀ (k : Nat) (out : List ByteArray) (i : Int), 0 ≤ i → i ≤ (s.size : Int) → (s.size : Int) ≤ i + f → (out.length : Int) ≤ 8 → 1048600 + 3 * f ≤ k → spec_SplitFrames.l0 k s out i = some (out ++ SF s f i (8 - out.length)) := by
  have stop : ∀ (k : Nat) (out : List ByteArray) (i : Int), 3 ≤ k → ¬ (i < (s.size : Int) ∧ (out.length : Int) < 8) → spec_SplitFrames.l0 k s out i = some out := by
    intro k out i hk hno
    obtain ⟨k, rfl⟩ : ∃ m, k = m + 1 + 1 := ⟨k - 2, by omega⟩
    rw [spec_SplitFrames.l0]
    by_cases h : i < (s.size : Int)
    · rw [if_pos h, decide_eq_false (fun e => hno ⟨h, e⟩), spec_SplitFrames.j1]
      rfl
    · rw [if_neg h, spec_SplitFrames.j1]
      rfl
  induction f with
  | zero =>
    intro k out i h0 h1 h2 h3 hk
    rw [stop k out i (by omega) (by omega), SF, List.append_nil]
  | succ f ih =>
    intro k out i h0 h1 h2 h3 hk
    by_cases hgo : i < (s.size : Int) ∧ (out.length : Int) < 8
    · have hb := st_bd h0 h1
      obtain ⟨k, rfl⟩ : ∃ m, k = m + 1 + 1 + 1 := ⟨k - 3, by omega⟩
      have skip : ∀ x, spec_SplitFrames.j2 (k + 1) s out i x true = spec_SplitFrames.l0 k s out (i + 1) := by
        intro x
        rw [spec_SplitFrames.j2, if_pos rfl, w64 (by omega) (by omega)]
      have hskip := ih k out (i + 1) (by omega) (by omega) (by omega) h3 (by omega)
      have hstar : spec_star.f (k + 1) s i = some (st s i) := by
        unfold spec_star.f st
        exact star_loop s (by omega) _ _ i h0 (by omega) (by omega)
      rw [spec_SplitFrames.l0, if_pos hgo.1, decide_eq_true hgo.2, spec_SplitFrames.j1, if_pos rfl, hstar, Option.bind_some, if_pos h0, if_pos hgo.1, w64 (n := st s i + 3) (by omega) (by omega), SF, if_pos (c := i < (s.size : Int) ∧ 0 < 8 - (out.length : Int)) (by omega)]
      by_cases hd : bt s i = 36
      · rw [if_pos hd]
        by_cases hend : st s i + 3 > (s.size : Int)
        · have hh : ¬ hit s i = true := by
            unfold hit
            rw [Bool.and_eq_true, decide_eq_true_eq]
            intro e
            omega
          rw [decide_eq_true hend, skip, hskip, if_neg hh]
        · have hp := piece_size hs i
          rw [decide_eq_false hend, spec_SplitFrames.j2, if_neg (by decide), if_pos h0, if_pos (by omega), if_pos (by omega), show s.extract i.toNat (st s i + 3).toNat = piece s i from rfl, spec_ReadFrame_eq _ (by omega) (by omega), Option.bind_some]
          by_cases hr : (vRead (piece s i)).2 = true
          · have hh : hit s i = true := by
              unfold hit
              rw [Bool.and_eq_true, decide_eq_true_eq]
              exact ⟨⟨hd, by omega⟩, hr⟩
            have hlen : ((out ++ [(vRead (piece s i)).1]).length : Int) = out.length + 1 := by simp
            have hi := ih k (out ++ [(vRead (piece s i)).1]) (st s i + 3) (by omega) (by omega) (by omega) (by omega) (by omega)
            rw [if_pos hr, if_pos (by omega), hi, if_pos hh, hlen, List.append_assoc, show (8 : Int) - (out.length + 1) = 8 - out.length - 1 by omega]
            rfl
          · have hh : ¬ hit s i = true := by
              unfold hit
              rw [Bool.and_eq_true]
              exact fun e => hr e.2
            rw [if_neg hr, w64 (n := i + 1) (by omega) (by omega), hskip, if_neg hh]
      · have hh : ¬ hit s i = true := by
          unfold hit
          rw [Bool.and_eq_true, decide_eq_true_eq]
          exact fun e => hd e.1.1
        rw [if_neg hd, skip, hskip, if_neg hh]
    · rw [stop k out i (by omega) hgo, SF, if_neg (by omega), List.append_nil]

noncomputable def vSF (s : ByteArray) : List ByteArray := if s.size ≤ 300 then SF s s.size 0 8 else []

theorem impl_SplitFrames_eq (s : ByteArray) {k : Nat} (hk : 1050000 ≤ k) : impl_SplitFrames.f k s = some (vSF s) := by
  unfold impl_SplitFrames.f vSF
  rw [Option.bind_some]
  by_cases h : (s.size : Int) > 300
  · rw [if_pos h, if_neg (by omega)]
  · rw [if_neg h, if_pos (by omega)]
    exact impl_split_loop s (by omega) s.size k [] 0 (by omega) (by omega) (by omega) (by decide) (by omega)

theorem spec_SplitFrames_eq (s : ByteArray) {k : Nat} (hk : 1050000 ≤ k) : spec_SplitFrames.f k s = some (vSF s) := by
  unfold spec_SplitFrames.f vSF
  by_cases h : (s.size : Int) > 300
  · rw [if_pos h, if_neg (by omega)]
  · rw [if_neg h, if_pos (by omega)]
    exact spec_split_loop s (by omega) s.size k [] 0 (by omega) (by omega) (by omega) (by decide) (by omega)

theorem eqTexts_loop (x : List ByteArray) (hx : x.length ≤ 1000) (d : Nat) : ∀ (k : Nat) (i : Int), 0 ≤ i → i + d = (x.length : Int) → d < k → laws_equalTexts.l0 k x x i = some true := by
  induction d with
  | zero =>
    intro k i h0 h1 hk
    obtain ⟨k, rfl⟩ : ∃ m, k = m + 1 := ⟨k - 1, by omega⟩
    rw [laws_equalTexts.l0, if_neg (by omega)]
  | succ d ih =>
    intro k i h0 h1 hk
    obtain ⟨k, rfl⟩ : ∃ m, k = m + 1 := ⟨k - 1, by omega⟩
    rw [laws_equalTexts.l0, if_pos (by omega), if_pos h0, if_pos (by omega), if_pos rfl, w64 (n := i + 1) (by omega) (by omega)]
    exact ih k (i + 1) (by omega) (by omega) (by omega)

theorem equalTexts_eq {x : List ByteArray} (hx : x.length ≤ 1000) {k : Nat} (hk : 1001 ≤ k) : laws_equalTexts.f k x x = some true := by
  unfold laws_equalTexts.f
  rw [if_pos rfl]
  exact eqTexts_loop x hx x.length k 0 (by omega) (by omega) (by omega)

theorem SF_len (s : ByteArray) (f : Nat) : ∀ (i m : Int), 0 ≤ m → ((SF s f i m).length : Int) ≤ m := by
  induction f with
  | zero => intro i m h; rw [SF]; simpa using h
  | succ f ih =>
    intro i m h
    rw [SF]
    by_cases hg : i < (s.size : Int) ∧ 0 < m
    · rw [if_pos hg]
      by_cases hh : hit s i = true
      · have := ih (st s i + 3) (m - 1) (by omega)
        rw [if_pos hh, List.length_cons]
        omega
      · rw [if_neg hh]
        exact ih _ _ h
    · rw [if_neg hg]
      simpa using h

theorem vSF_len (s : ByteArray) : ((vSF s).length : Int) ≤ 8 := by
  unfold vSF
  split
  · exact SF_len s _ 0 8 (by omega)
  · decide

theorem drawSplit_loop {bs : List Int} (hb : Bytes bs) (d : Nat) : ∀ (k : Nat) (x : ByteArray) (n p : Int), n ≤ d → x.size + 50 * d ≤ 400 → 1048600 + d < k → 0 ≤ p → p + 10 * d ≤ 700000 → Tells (fun s => s.size ≤ 420) (spec_DrawSplitFrames.l0 k x n bs p) := by
  induction d with
  | zero =>
    intro k x n p h0 h1 hk h2 h3
    obtain ⟨k, rfl⟩ : ∃ m, k = m + 1 := ⟨k - 1, by omega⟩
    rw [spec_DrawSplitFrames.l0, if_neg (by omega)]
    refine (pick_t hb (by omega) h2 (by omega) (by omega)).bind2 ?_
    rintro a q ⟨rfl, _, _⟩
    dsimp only
    refine Tells.ite (fun _ => ?_) (fun _ => Tells.some (by omega))
    refine (mutate_t hb (by omega) (by omega) (by omega) (by omega)).bind2 ?_
    rintro u q hu
    dsimp only at hu
    exact Tells.some (by dsimp only; omega)
  | succ d ih =>
    intro k x n p h0 h1 hk h2 h3
    obtain ⟨k, rfl⟩ : ∃ m, k = m + 1 := ⟨k - 1, by omega⟩
    rw [spec_DrawSplitFrames.l0]
    refine Tells.ite (fun hn => ?_) (fun _ => ?_)
    · refine (someBody_t hb (by omega) h2 (by omega)).bind2 ?_
      rintro b q ⟨hz, q0, q1⟩
      dsimp only at hz q0 q1 ⊢
      have hf := vFrame_le b
      rw [spec_FrameBody_eq b (by omega) (by omega), Option.bind_some]
      refine (pick_t hb (by omega) (by omega) (by omega) (by omega)).bind2 ?_
      rintro a r ⟨rfl, _, _⟩
      dsimp only
      rw [w64 (n := n - 1) (by omega) (by omega)]
      refine Tells.ite (fun _ => ?_) (fun _ => ?_)
      · refine (of_t hb (by omega) (by omega) (by omega) (by simp)).bind2 ?_
        rintro c r ⟨rfl, hm⟩
        dsimp only at hm ⊢
        have hz2 : c.size ≤ 10 := by
          revert c
          decide
        rw [if_pos (by omega)]
        exact ih k _ _ _ (by omega) (by rw [ByteArray.size_append]; omega) (by omega) (by omega) (by omega)
      · rw [if_pos (by omega)]
        exact ih k _ _ _ (by omega) (by rw [ByteArray.size_append]; omega) (by omega) (by omega) (by omega)
    · refine (pick_t hb (by omega) h2 (by omega) (by omega)).bind2 ?_
      rintro a q ⟨rfl, _, _⟩
      dsimp only
      refine Tells.ite (fun _ => ?_) (fun _ => Tells.some (by omega))
      refine (mutate_t hb (by omega) (by omega) (by omega) (by omega)).bind2 ?_
      rintro u q hu
      dsimp only at hu
      exact Tells.some (by dsimp only; omega)

theorem DrawSplitFrames_t {c : List Int} (hc : ∀ x, x ∈ c → 0 ≤ x ∧ x ≤ 255) {k : Nat} (hk : 1048700 ≤ k) : Tells (fun s => s.size ≤ 420) (spec_DrawSplitFrames.f k c) := by
  unfold spec_DrawSplitFrames.f
  refine (newReader_t hc).bind2 ?_
  rintro bs p ⟨rfl, (hb : Bytes bs)⟩
  dsimp only
  refine (one_t hb (by omega) (by omega) (by omega) (by simp)).bind2 ?_
  rintro n q ⟨rfl, hm⟩
  dsimp only at hm ⊢
  simp only [List.mem_cons, List.not_mem_nil, or_false] at hm
  have e : (⟨#[]⟩ : ByteArray).size = 0 := rfl
  exact drawSplit_loop hb 6 k _ n _ (by omega) (by omega) (by omega) (by omega) (by omega)

theorem nst_shift (a s : ByteArray) (d : Nat) : ∀ i : Int, 0 ≤ i → i + d = (s.size : Int) → nst (a ++ s) d (a.size + i) = a.size + nst s d i := by
  induction d with
  | zero =>
    intro i _ _
    rw [nst, nst, ByteArray.size_append]
    omega
  | succ d ih =>
    intro i h0 h1
    have e : bt (a ++ s) ((a.size : Int) + i) = bt s i := by
      rw [bt_right (by omega) (by omega)]
      congr 1
      omega
    rw [nst, nst, e, show (a.size : Int) + i + 1 = a.size + (i + 1) by omega, ih (i + 1) (by omega) (by omega)]
    split <;> rfl

theorem st_shift (a s : ByteArray) {i : Int} (h0 : 0 ≤ i) (h1 : i ≤ (s.size : Int)) : st (a ++ s) (a.size + i) = a.size + st s i := by
  unfold st
  rw [← nst_shift a s (s.size - i.toNat) i h0 (by omega)]
  congr 1
  rw [ByteArray.size_append]
  omega

theorem piece_shift (a s : ByteArray) {i : Int} (h0 : 0 ≤ i) (h1 : i ≤ (s.size : Int)) : piece (a ++ s) (a.size + i) = piece s i := by
  have hst := st_bd h0 h1
  unfold piece
  rw [st_shift a s h0 h1, show ((a.size : Int) + i).toNat = a.size + i.toNat by omega, show ((a.size : Int) + st s i + 3).toNat = a.size + (st s i + 3).toNat by omega, ByteArray.extract_append_size_add]

theorem hit_shift (a s : ByteArray) {i : Int} (h0 : 0 ≤ i) (h1 : i < (s.size : Int)) : hit (a ++ s) (a.size + i) = hit s i := by
  have e : bt (a ++ s) ((a.size : Int) + i) = bt s i := by
    rw [bt_right (by omega) (by omega)]
    congr 1
    omega
  have e2 : ((a.size : Int) + st s i + 3 ≤ ((a ++ s).size : Int)) ↔ (st s i + 3 ≤ (s.size : Int)) := by
    rw [ByteArray.size_append]
    omega
  unfold hit
  rw [piece_shift a s h0 (by omega), st_shift a s h0 (by omega), e]
  simp only [e2]

theorem SF_shift (a s : ByteArray) (f : Nat) : ∀ (i m : Int), 0 ≤ i → SF (a ++ s) f (a.size + i) m = SF s f i m := by
  induction f with
  | zero => intro i m _; rw [SF, SF]
  | succ f ih =>
    intro i m h0
    have hz : (a ++ s).size = a.size + s.size := ByteArray.size_append
    rw [SF, SF]
    by_cases hg : i < (s.size : Int) ∧ 0 < m
    · have hst := st_bd (s := s) h0 (by omega)
      rw [if_pos (by omega), if_pos hg, hit_shift a s h0 hg.1, piece_shift a s h0 (by omega), st_shift a s h0 (by omega), show (a.size : Int) + st s i + 3 = a.size + (st s i + 3) by omega, show (a.size : Int) + i + 1 = a.size + (i + 1) by omega, ih (st s i + 3) (m - 1) (by omega), ih (i + 1) m (by omega)]
    · rw [if_neg (by omega), if_neg hg]

theorem vSF_small {s : ByteArray} (h : s.size ≤ 300) : vSF s = SF s s.size 0 8 := if_pos h

def Ns : ByteArray := ⟨#[120, 49, 42, 65]⟩

theorem noise_eq {s : ByteArray} (h : s.size + 4 ≤ 300) : vSF (Ns ++ s) = vSF s := by
  have hN : Ns.size = 4 := rfl
  have hz : (Ns ++ s).size = 4 + s.size := by rw [ByteArray.size_append, hN]
  have skip : ∀ (f : Nat) (i : Int), 0 ≤ i → i < 4 → SF (Ns ++ s) (f + 1) i 8 = SF (Ns ++ s) f (i + 1) 8 := by
    intro f i h0 h1
    have hne : ¬ bt (Ns ++ s) i = 36 := by
      rw [bt_left h0 (by omega)]
      have e : i = 0 ∨ i = 1 ∨ i = 2 ∨ i = 3 := by omega
      rcases e with rfl | rfl | rfl | rfl <;> decide
    have hh : ¬ hit (Ns ++ s) i = true := by
      unfold hit
      rw [Bool.and_eq_true, decide_eq_true_eq]
      exact fun e => hne e.1.1
    rw [SF, if_pos (by omega), if_neg hh]
  have e1 := SF_shift Ns s s.size 0 8 (by omega)
  rw [hN] at e1
  rw [vSF_small (by omega), vSF_small (s := s) (by omega), hz, show 4 + s.size = s.size + 1 + 1 + 1 + 1 by omega, skip _ 0 (by omega) (by omega), skip _ (0 + 1) (by omega) (by omega), skip _ (0 + 1 + 1) (by omega) (by omega), skip _ (0 + 1 + 1 + 1) (by omega) (by omega), ← e1]
  rfl

theorem FnSplitFramesNoise : laws_FnSplitFramesNoise.Pure := by
  intro l _ _ hw
  refine ⟨1999999 + 1, Tells.yes ?_⟩
  unfold laws_FnSplitFramesNoise.f
  refine Tells.ite (fun _ => Tells.some rfl) (fun hl => ?_)
  refine (DrawSplitFrames_t (wf8 hw) (by omega)).bind (fun s hs => ?_)
  have hlen := vSF_len s
  rw [impl_SplitFrames_eq s (by omega), Option.bind_some, spec_SplitFrames_eq s (by omega), Option.bind_some, equalTexts_eq (by omega) (by omega), Option.bind_some, if_pos rfl, w64 (n := (s.size : Int) + 4) (by omega) (by omega)]
  have hT : laws_FnSplitFramesNoise.j0 (1999999 + 1) s (vSF s) true = some true := by
    rw [laws_FnSplitFramesNoise.j0, if_pos rfl, spec_SplitFrames_eq s (by omega), Option.bind_some, equalTexts_eq (by omega) (by omega), Option.bind_some]
  by_cases h4 : (s.size : Int) + 4 > 300
  · rw [decide_eq_true h4]
    exact Tells.eq hT rfl
  · rw [decide_eq_false h4]
    have e0 : (⟨#[120, 49, 42, 65]⟩ : ByteArray) = Ns := rfl
    rw [laws_FnSplitFramesNoise.j0, if_neg (by decide), e0, if_pos (by omega), impl_SplitFrames_eq _ (by omega), Option.bind_some, noise_eq (by omega), equalTexts_eq (by omega) (by omega), Option.bind_some]
    exact Tells.some rfl

end Go.Proofs.Ytmpnkkkmhmindaa.Pure
