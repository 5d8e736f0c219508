/- Proved here, over numbers and lists alone: the law FnExactSplitFrames answers true at every input (the program's SplitFrames returns what the reference's returns, for all arguments.) Conditions: none beyond the sizes that the row itself gives. -/
import Derived.Test.YtciajbjjmgkbiaaHFnExactSplitFramesx4
namespace Go.Proofs.Ytciajbjjmgkbiaa.Pure
open Go.RowKit Go.Proofs.Ytciajbjjmgkbiaa.HFnExactSplitFrames Go.Proofs.YtciajbjjmgkbiaaW.PrintWords Go.Proofs.YtciajbjjmgkbiaaW.PrintLast

theorem w64 {n : Int} (h0 : -9223372036854775808 ≤ n) (h1 : n ≤ 9223372036854775807) : wrap64 n = n := by unfold wrap64; omega

theorem tmodp {a : Int} (h : 0 ≤ a) (b : Int) : Int.tmod a b = a % b := Int.tmod_eq_emod_of_nonneg h

theorem tdivp {a : Int} (h : 0 ≤ a) (b : Int) : Int.tdiv a b = a / b := Int.tdiv_eq_ediv_of_nonneg h

theorem within_eq (n lo hi : Int) : impl_within.f n lo hi = some (decide (lo ≤ n ∧ n ≤ hi)) := by
  unfold impl_within.f
  by_cases h : lo ≤ n
  · rw [if_pos h]; simp [h]
  · rw [if_neg h]; simp [h]

theorem inRange_eq (n lo hi : Int) : spec_inRange.f n lo hi = some (decide (lo ≤ n ∧ n ≤ hi)) := by
  unfold spec_inRange.f
  by_cases h : lo ≤ n
  · rw [if_pos h]; simp [h]
  · rw [if_neg h]; simp [h]

theorem ite_dec {α : Type} {p : Prop} [Decidable p] {a b : α} : (if decide p = true then a else b) = if p then a else b := by
  by_cases h : p <;> simp [h]

theorem xor_nat (a b : Nat) (ha : a < 4611686018427387904) (hb : b < 4611686018427387904) : Go.bits .xor .i64 a b = ((a ^^^ b : Nat) : Int) ∧ a ^^^ b < 4611686018427387904 := by
  have hx : a ^^^ b < 2 ^ 62 := Nat.xor_lt_two_pow (by simpa using ha) (by simpa using hb)
  have hx' : a ^^^ b < 4611686018427387904 := by simpa using hx
  have e1 : IntKind.i64.bits = 64 := rfl
  have ha' : a % 2 ^ IntKind.i64.bits = a := Nat.mod_eq_of_lt (by rw [e1]; omega)
  have hb' : b % 2 ^ IntKind.i64.bits = b := Nat.mod_eq_of_lt (by rw [e1]; omega)
  refine ⟨?_, hx'⟩
  simp only [Go.bits, BitVec.ofInt_natCast, BitVec.toNat_xor, BitVec.toNat_ofNat, ha', hb']
  rw [IntKind.wrap_i64]
  omega

theorem bt_range (s : ByteArray) (i : Int) : 0 ≤ bt s i ∧ bt s i ≤ 255 := by
  unfold bt
  split
  · rename_i h
    have := (s[i.toNat]'h).toNat_lt
    omega
  · omega

theorem bt_nat (s : ByteArray) (i : Nat) (h : i < s.size) : bt s (i : Int) = ((s[i]'h).toNat : Int) := by
  unfold bt
  simp [h]

def okb (c : Int) : Bool := decide ((32 ≤ c ∧ c ≤ 126) ∧ c ≠ 36 ∧ c ≠ 42)

def allFrom (s : ByteArray) : Nat → Int → Bool
  | 0, _ => true
  | d + 1, i => okb (bt s i) && allFrom s d (i + 1)

def X (s : ByteArray) : Nat → Int → Nat
  | 0, _ => 0
  | d + 1, i => (bt s i).toNat ^^^ X s d (i + 1)

def vBody (s : ByteArray) : Bool := allFrom s s.size 0 && decide (1 ≤ (s.size : Int) ∧ (s.size : Int) ≤ 40)

def ck (s : ByteArray) : Nat := X s s.size 0

theorem allFrom_iff (s : ByteArray) (d : Nat) : ∀ i : Int, allFrom s d i = true ↔ ∀ j : Int, i ≤ j → j < i + d → okb (bt s j) = true := by
  induction d with
  | zero => intro i; simp [allFrom]; intro j h0 h1; omega
  | succ d ih =>
    intro i
    rw [allFrom, Bool.and_eq_true, ih]
    constructor
    · intro ⟨h0, h1⟩ j hj0 hj1
      by_cases e : j = i
      · rw [e]; exact h0
      · exact h1 j (by omega) (by omega)
    · intro h
      exact ⟨h i (by omega) (by omega), fun j h0 h1 => h j (by omega) (by omega)⟩

theorem vBody_iff (s : ByteArray) : vBody s = true ↔ (∀ j : Int, 0 ≤ j → j < (s.size : Int) → okb (bt s j) = true) ∧ 1 ≤ s.size ∧ s.size ≤ 40 := by
  unfold vBody
  rw [Bool.and_eq_true, allFrom_iff]
  simp only [Int.zero_add, decide_eq_true_eq]
  constructor
  · intro ⟨h0, h1⟩; exact ⟨h0, by omega, by omega⟩
  · intro ⟨h0, h1⟩; exact ⟨h0, by omega, by omega⟩

theorem bt_lt8 (s : ByteArray) (i : Int) : (bt s i).toNat < 2 ^ 8 := by
  have := bt_range s i
  omega

theorem xor_step {acc : Nat} (ha : acc < 2 ^ 8) (s : ByteArray) (i : Int) : Go.bits .xor .i64 (acc : Int) (wrap64 (bt s i)) = ((acc ^^^ (bt s i).toNat : Nat) : Int) ∧ acc ^^^ (bt s i).toNat < 2 ^ 8 := by
  have h := bt_range s i
  have hb := bt_lt8 s i
  refine ⟨?_, Nat.xor_lt_two_pow ha hb⟩
  rw [w64 (by omega) (by omega)]
  obtain ⟨b, e⟩ := Int.eq_ofNat_of_zero_le h.1
  rw [e] at h hb ⊢
  rw [(xor_nat acc b (by omega) (by omega)).1]
  rfl

theorem checksum_loop (s : ByteArray) (hs : s.size ≤ 1048576) (d : Nat) : ∀ (k : Nat) (acc : Nat) (i : Int), 0 ≤ i → i + d = (s.size : Int) → d < k → acc < 2 ^ 8 → spec_checksum.l0 k s (acc : Int) i = some ((acc ^^^ X s d i : Nat) : Int) := by
  induction d with
  | zero =>
    intro k acc i h0 h1 hk ha
    obtain ⟨k, rfl⟩ : ∃ m, k = m + 1 := ⟨k - 1, by omega⟩
    simp only [spec_checksum.l0]
    rw [if_neg (by omega)]
    simp [X]
  | succ d ih =>
    intro k acc i h0 h1 hk ha
    obtain ⟨k, rfl⟩ : ∃ m, k = m + 1 := ⟨k - 1, by omega⟩
    simp only [spec_checksum.l0]
    have hx := xor_step ha s i
    rw [if_pos (by omega), if_pos h0, hx.1, w64 (n := i + 1) (by omega) (by omega), ih k _ (i + 1) (by omega) (by omega) (by omega) hx.2, X, Nat.xor_assoc]

theorem spec_checksum_eq (s : ByteArray) (hs : s.size ≤ 1048576) {k : Nat} (hk : 1048577 ≤ k) : spec_checksum.f k s = some ((ck s : Nat) : Int) := by
  unfold spec_checksum.f
  have := checksum_loop s hs s.size k 0 0 (by omega) (by omega) (by omega) (by decide)
  rw [Nat.zero_xor] at this
  exact this

theorem isBody_loop (s : ByteArray) (hs : s.size ≤ 1048576) (d : Nat) : ∀ (k : Nat) (i : Int), 0 ≤ i → i + d = (s.size : Int) → d < k → spec_isBody.l0 k s i = some (allFrom s d i && decide (1 ≤ (s.size : Int) ∧ (s.size : Int) ≤ 40)) := by
  induction d with
  | zero =>
    intro k i h0 h1 hk
    obtain ⟨k, rfl⟩ : ∃ m, k = m + 1 := ⟨k - 1, by omega⟩
    simp only [spec_isBody.l0]
    rw [if_neg (by omega), inRange_eq, Option.bind_some]
    simp [allFrom]
  | succ d ih =>
    intro k i h0 h1 hk
    obtain ⟨k, rfl⟩ : ∃ m, k = m + 1 := ⟨k - 1, by omega⟩
    have hb := bt_range s i
    simp only [spec_isBody.l0]
    rw [if_pos (by omega), if_pos h0, w64 (n := bt s i) (by omega) (by omega), inRange_eq, Option.bind_some, ite_dec, w64 (n := i + 1) (by omega) (by omega), ih k (i + 1) (by omega) (by omega) (by omega), allFrom]
    by_cases h2 : 32 ≤ bt s i ∧ bt s i ≤ 126
    · rw [if_pos h2]
      by_cases h3 : bt s i = 36
      · rw [if_pos h3]; simp [okb, h3]
      · rw [if_neg h3]
        by_cases h4 : bt s i = 42
        · rw [if_pos h4]; simp [okb, h4]
        · rw [if_neg h4]; simp [okb, h2, h3, h4]
    · rw [if_neg h2]; simp [okb, h2]

theorem spec_isBody_eq (s : ByteArray) (hs : s.size ≤ 1048576) {k : Nat} (hk : 1048577 ≤ k) : spec_isBody.f k s = some (vBody s) := by
  unfold spec_isBody.f
  exact isBody_loop s hs s.size k 0 (by omega) (by omega) (by omega)

def vCk (s : ByteArray) : Int := if vBody s = true then (ck s : Int) else -1

theorem ChecksumOf_loop (s : ByteArray) (hs : s.size ≤ 1048576) (d : Nat) : ∀ (k : Nat) (acc : Nat) (i : Int), 0 ≤ i → i + d = (s.size : Int) → d < k → acc < 2 ^ 8 → impl_ChecksumOf.l0 k s (acc : Int) (s.size : Int) i = some (if allFrom s d i = true then ((acc ^^^ X s d i : Nat) : Int) else -1) := by
  induction d with
  | zero =>
    intro k acc i h0 h1 hk ha
    obtain ⟨k, rfl⟩ : ∃ m, k = m + 1 := ⟨k - 1, by omega⟩
    simp only [impl_ChecksumOf.l0]
    rw [if_neg (by omega)]
    simp [X, allFrom]
  | succ d ih =>
    intro k acc i h0 h1 hk ha
    obtain ⟨k, rfl⟩ : ∃ m, k = m + 1 := ⟨k - 1, by omega⟩
    simp only [impl_ChecksumOf.l0]
    have hx := xor_step ha s i
    rw [if_pos (by omega), if_pos h0, if_pos (by omega), hx.1, w64 (n := i + 1) (by omega) (by omega), ih k _ (i + 1) (by omega) (by omega) (by omega) hx.2, X, Nat.xor_assoc, allFrom]
    by_cases h1 : bt s i < 32
    · rw [if_pos h1, if_neg]; simp [okb]; omega
    · rw [if_neg h1]
      by_cases h2 : bt s i > 126
      · rw [if_pos h2, if_neg]; simp [okb]; omega
      · rw [if_neg h2]
        by_cases h3 : bt s i = 36
        · rw [if_pos h3]; simp [okb, h3]
        · rw [if_neg h3]
          by_cases h4 : bt s i = 42
          · rw [if_pos h4]; simp [okb, h4]
          · have e : okb (bt s i) = true := by unfold okb; rw [decide_eq_true_eq]; omega
            rw [if_neg h4, e, Bool.true_and]

theorem impl_ChecksumOf_eq (s : ByteArray) (hs : s.size ≤ 1048576) {k : Nat} (hk : 1048577 ≤ k) : impl_ChecksumOf.f k s = some (vCk s) := by
  unfold impl_ChecksumOf.f vCk vBody
  rw [within_eq, Option.bind_some, ite_dec]
  have h := ChecksumOf_loop s hs s.size k 0 0 (by omega) (by omega) (by omega) (by decide)
  rw [Nat.zero_xor] at h
  by_cases h2 : 1 ≤ (s.size : Int) ∧ (s.size : Int) ≤ 40
  · rw [if_pos h2]
    refine h.trans ?_
    simp [h2, ck]
  · rw [if_neg h2, if_neg]
    simp [h2]

def HEX : ByteArray := ⟨#[48, 49, 50, 51, 52, 53, 54, 55, 56, 57, 65, 66, 67, 68, 69, 70]⟩

def hexd (n : Nat) : ByteArray := HEX.extract n (n + 1)

def frame (s : ByteArray) (c : Nat) : ByteArray := ((((⟨#[36]⟩ : ByteArray) ++ s) ++ (⟨#[42]⟩ : ByteArray)) ++ hexd (c / 16)) ++ hexd (c % 16)

def vFrame (s : ByteArray) : ByteArray := if vBody s = true then frame s (ck s) else (⟨#[]⟩ : ByteArray)

theorem hexd_size {n : Nat} (h : n < 16) : (hexd n).size = 1 := by
  unfold hexd
  rw [ByteArray.size_extract]
  have e : HEX.size = 16 := rfl
  omega

theorem body_lt (s : ByteArray) (d : Nat) : ∀ i, allFrom s d i = true → X s d i < 2 ^ 7 := by
  induction d with
  | zero => intro i _; simp [X]
  | succ d ih =>
    intro i h
    rw [allFrom, Bool.and_eq_true] at h
    rw [X]
    have h1 := h.1
    unfold okb at h1
    rw [decide_eq_true_eq] at h1
    exact Nat.xor_lt_two_pow (by omega) (ih _ h.2)

theorem ck_lt {s : ByteArray} (h : vBody s = true) : ck s < 128 := by
  unfold vBody at h
  rw [Bool.and_eq_true] at h
  exact body_lt s s.size 0 h.1

theorem spec_hexDigit_eq {n : Nat} (h : n < 16) : spec_hexDigit.f (n : Int) = some (hexd n) := by
  unfold spec_hexDigit.f
  have e : wrap64 ((n : Int) + 1) = ((n + 1 : Nat) : Int) := by unfold wrap64; omega
  rw [e, if_pos (by omega), if_pos (by omega), if_pos (by omega)]
  rfl

theorem spec_FrameBody_eq (s : ByteArray) (hs : s.size ≤ 1048576) {k : Nat} (hk : 1048577 ≤ k) : spec_FrameBody.f k s = some (vFrame s) := by
  unfold spec_FrameBody.f vFrame
  rw [spec_isBody_eq s hs hk, Option.bind_some]
  by_cases h : vBody s = true
  · have hc := ck_lt h
    have e1 : wrap64 (Int.tdiv (ck s : Int) 16) = ((ck s / 16 : Nat) : Int) := by rw [tdivp (by omega), w64 (by omega) (by omega)]; omega
    have e2 : Int.tmod (ck s : Int) 16 = ((ck s % 16 : Nat) : Int) := by rw [tmodp (by omega)]; omega
    have z1 := hexd_size (n := ck s / 16) (by omega)
    have z2 := hexd_size (n := ck s % 16) (by omega)
    have z3 : (⟨#[36]⟩ : ByteArray).size = 1 := rfl
    have z4 : (⟨#[42]⟩ : ByteArray).size = 1 := rfl
    rw [if_pos h, if_pos h, spec_checksum_eq s hs hk, Option.bind_some, e1, e2, spec_hexDigit_eq (by omega), Option.bind_some, spec_hexDigit_eq (by omega), Option.bind_some]
    rw [if_pos (by omega), if_pos (by rw [ByteArray.size_append]; omega), if_pos (by simp only [ByteArray.size_append]; omega), if_pos (by simp only [ByteArray.size_append]; omega)]
    rfl
  · rw [if_neg h, if_neg h]

theorem impl_FrameBody_eq (s : ByteArray) (hs : s.size ≤ 1048576) {k : Nat} (hk : 1048577 ≤ k) : impl_FrameBody.f k s = some (vFrame s) := by
  unfold impl_FrameBody.f vFrame
  rw [impl_ChecksumOf_eq s hs hk, Option.bind_some]
  unfold vCk
  by_cases h : vBody s = true
  · have hc := ck_lt h
    have e1 : wrap64 (Int.tdiv (ck s : Int) 16) = ((ck s / 16 : Nat) : Int) := by rw [tdivp (by omega), w64 (by omega) (by omega)]; omega
    have e2 : Int.tmod (ck s : Int) 16 = ((ck s % 16 : Nat) : Int) := by rw [tmodp (by omega)]; omega
    have e3 : wrap64 (((ck s / 16 : Nat) : Int) + 1) = ((ck s / 16 + 1 : Nat) : Int) := by rw [w64 (by omega) (by omega)]; omega
    have e4 : wrap64 (((ck s % 16 : Nat) : Int) + 1) = ((ck s % 16 + 1 : Nat) : Int) := by rw [w64 (by omega) (by omega)]; omega
    have z1 := hexd_size (n := ck s / 16) (by omega)
    have z2 := hexd_size (n := ck s % 16) (by omega)
    unfold hexd HEX at z1 z2
    have z3 : (⟨#[36]⟩ : ByteArray).size = 1 := rfl
    have z4 : (⟨#[42]⟩ : ByteArray).size = 1 := rfl
    simp only [h, if_true, e1, e2, e3, e4, Int.toNat_natCast]
    rw [if_neg (by omega), if_pos (by omega), if_pos (by rw [ByteArray.size_append]; omega), if_pos (by omega), if_pos (by omega), if_pos (by omega), if_pos (by simp only [ByteArray.size_append]; omega), if_pos (by omega), if_pos (by omega), if_pos (by omega), if_pos (by simp only [ByteArray.size_append]; omega)]
    rfl
  · simp only [if_neg h]
    rw [if_pos (by omega)]

theorem toList_iff (s t : ByteArray) : s.toList = t.toList ↔ s = t := by
  constructor
  · intro h
    rw [ByteArray.toList_eq, ByteArray.toList_eq] at h
    exact ByteArray.ext (Array.toList_inj.1 h)
  · intro h; rw [h]

def mid (s : ByteArray) : ByteArray := s.extract 1 (s.size - 3)

theorem mid_size {s : ByteArray} (h : 4 ≤ s.size) : (mid s).size = s.size - 4 := by
  unfold mid
  rw [ByteArray.size_extract]
  omega

theorem frame_size {s : ByteArray} {c : Nat} (hc : c < 256) : (frame s c).size = s.size + 4 := by
  have z1 := hexd_size (n := c / 16) (by omega)
  have z2 := hexd_size (n := c % 16) (by omega)
  have z3 : (⟨#[36]⟩ : ByteArray).size = 1 := rfl
  have z4 : (⟨#[42]⟩ : ByteArray).size = 1 := rfl
  unfold frame
  simp only [ByteArray.size_append]
  omega

theorem vFrame_size (s : ByteArray) : (vBody s = true ∧ (vFrame s).size = s.size + 4 ∧ 1 ≤ s.size ∧ s.size ≤ 40) ∨ (vBody s = false ∧ vFrame s = (⟨#[]⟩ : ByteArray)) := by
  unfold vFrame
  by_cases h : vBody s = true
  · rw [if_pos h]
    have hc := ck_lt h
    have hb := ((vBody_iff s).1 h).2
    exact Or.inl ⟨h, frame_size (by omega), hb⟩
  · rw [if_neg h]
    exact Or.inr ⟨by simpa using h, rfl⟩

theorem isF_size {s : ByteArray} (h4 : 4 ≤ s.size) (h : vFrame (mid s) = s) : 5 ≤ s.size ∧ vBody (mid s) = true ∧ s.size ≤ 44 := by
  have hm := mid_size h4
  rcases vFrame_size (mid s) with ⟨hb, hz, h1, h2⟩ | ⟨_, hz⟩
  · exact ⟨by omega, hb, by omega⟩
  · rw [h] at hz
    rw [hz] at h4
    exact absurd h4 (by decide)

open Classical in
noncomputable def vRead (s : ByteArray) : ByteArray × Bool := if 5 ≤ s.size ∧ vFrame (mid s) = s then (mid s, true) else ((⟨#[]⟩ : ByteArray), false)

theorem impl_ReadFrame_eq (s : ByteArray) (hs : s.size ≤ 1048576) {k : Nat} (hk : 1048577 ≤ k) : impl_ReadFrame.f k s = some (vRead s) := by
  unfold impl_ReadFrame.f vRead
  by_cases h : (s.size : Int) < 4
  · rw [if_pos h, if_neg (by omega)]
  · have e : wrap64 ((s.size : Int) - 3) = ((s.size - 3 : Nat) : Int) := by rw [w64 (by omega) (by omega)]; omega
    have hm := mid_size (s := s) (by omega)
    have em : s.extract 1 (s.size - 3) = mid s := rfl
    rw [if_neg h, e, if_pos (by omega), if_pos (by omega), Int.toNat_natCast, em, impl_FrameBody_eq (mid s) (by omega) hk, Option.bind_some]
    by_cases h2 : vFrame (mid s) = s
    · have h5 := isF_size (by omega) h2
      rw [if_pos ((toList_iff _ _).2 h2.symm), if_pos ⟨h5.1, h2⟩]
    · rw [if_neg (fun e => h2 ((toList_iff _ _).1 e).symm), if_neg (fun e => h2 e.2)]

theorem spec_ReadFrame_eq (s : ByteArray) (hs : s.size ≤ 1048576) {k : Nat} (hk : 1048577 ≤ k) : spec_ReadFrame.f k s = some (vRead s) := by
  unfold spec_ReadFrame.f vRead
  by_cases h : (s.size : Int) < 5
  · rw [if_pos h, if_neg (by omega)]
  · have e : wrap64 ((s.size : Int) - 3) = ((s.size - 3 : Nat) : Int) := by rw [w64 (by omega) (by omega)]; omega
    have hm := mid_size (s := s) (by omega)
    have em : s.extract 1 (s.size - 3) = mid s := rfl
    rw [if_neg h, e, if_pos (by omega), if_pos (by omega), Int.toNat_natCast, em, spec_FrameBody_eq (mid s) (by omega) hk, spec_isBody_eq (mid s) (by omega) hk, Option.bind_some, Option.bind_some]
    by_cases h2 : vFrame (mid s) = s
    · have h5 := isF_size (by omega) h2
      rw [if_pos h5.2.1, if_pos ((toList_iff _ _).2 h2), if_pos ⟨h5.1, h2⟩]
    · rw [if_neg (c := 5 ≤ s.size ∧ vFrame (mid s) = s) (fun e => h2 e.2)]
      by_cases h3 : vBody (mid s) = true
      · rw [if_pos h3, if_neg (fun e => h2 ((toList_iff _ _).1 e))]
      · rw [if_neg h3]

def nst (s : ByteArray) : Nat → Int → Int
  | 0, _ => s.size
  | d + 1, i => if bt s i = 42 then i else nst s d (i + 1)

theorem nst_bd (s : ByteArray) (d : Nat) : ∀ i : Int, 0 ≤ i → i + d = (s.size : Int) → i ≤ nst s d i ∧ nst s d i ≤ s.size := by
  induction d with
  | zero => intro i h0 h1; rw [nst]; omega
  | succ d ih =>
    intro i h0 h1
    have := ih (i + 1) (by omega) (by omega)
    rw [nst]
    split <;> omega

theorem star_loop (s : ByteArray) (hs : s.size ≤ 1048576) (d : Nat) : ∀ (k : Nat) (i : Int), 0 ≤ i → i + d = (s.size : Int) → d < k → spec_star.l0 k s i = some (nst s d i) := by
  induction d with
  | zero =>
    intro k i h0 h1 hk
    obtain ⟨k, rfl⟩ : ∃ m, k = m + 1 := ⟨k - 1, by omega⟩
    simp only [spec_star.l0]
    rw [if_neg (by omega)]
    rfl
  | succ d ih =>
    intro k i h0 h1 hk
    obtain ⟨k, rfl⟩ : ∃ m, k = m + 1 := ⟨k - 1, by omega⟩
    simp only [spec_star.l0]
    rw [if_pos (by omega), if_pos h0, w64 (n := i + 1) (by omega) (by omega), ih k (i + 1) (by omega) (by omega) (by omega), nst]
    split <;> rfl

theorem drop_bytes (s : ByteArray) (a : Nat) : (s.extract a s.size).data.toList = s.data.toList.drop a := by
  rw [ByteArray.data_extract, Array.toList_extract, List.extract]
  have : s.size = s.data.toList.length := by rw [Array.length_toList]; rfl
  rw [List.take_of_length_le (by rw [List.length_drop]; omega)]

theorem index_nst (s : ByteArray) (d : Nat) : ∀ i : Nat, i + d = s.size → Go.Lib.indexByte (s.data.toList.drop i) 42 = if nst s d i = s.size then -1 else nst s d i - i := by
  have hlen : s.data.toList.length = s.size := by rw [Array.length_toList]; rfl
  induction d with
  | zero =>
    intro i h
    rw [List.drop_of_length_le (by omega), nst, if_pos rfl]
    rfl
  | succ d ih =>
    intro i h
    have hi : i < s.data.toList.length := by omega
    have hb := nst_bd s d (i + 1) (by omega) (by omega)
    have hr := ih (i + 1) (by omega)
    have e1 : ((i + 1 : Nat) : Int) = (i : Int) + 1 := by omega
    rw [e1] at hr
    rw [List.drop_eq_getElem_cons hi, Go.Lib.indexByte, nst, hr]
    have hbt : bt s (i : Int) = ((s.data.toList[i]'hi).toNat : Int) := by
      rw [bt_nat s i (by omega)]
      rfl
    by_cases h42 : bt s (i : Int) = 42
    · have : (s.data.toList[i]'hi == 42) = true := by
        rw [beq_iff_eq]
        refine UInt8.toNat_inj.1 ?_
        rw [hbt] at h42
        have : (42 : UInt8).toNat = 42 := rfl
        omega
      rw [this, if_pos rfl, if_pos h42, if_neg (by omega)]
      omega
    · have : (s.data.toList[i]'hi == 42) = false := by
        rw [beq_eq_false_iff_ne]
        intro e
        rw [hbt, e] at h42
        exact h42 rfl
      rw [this, if_neg (by decide), if_neg h42]
      by_cases hn : nst s d (i + 1) = s.size
      · rw [if_pos hn, if_pos hn, if_pos (by decide)]
      · rw [if_neg hn, if_neg hn, if_neg (by rw [beq_iff_eq]; omega)]
        omega

def st (s : ByteArray) (i : Int) : Int := nst s (s.size - i.toNat) i

def piece (s : ByteArray) (i : Int) : ByteArray := s.extract i.toNat (st s i + 3).toNat

noncomputable def hit (s : ByteArray) (i : Int) : Bool := decide (bt s i = 36 ∧ st s i + 3 ≤ (s.size : Int)) && (vRead (piece s i)).2

noncomputable def SF (s : ByteArray) : Nat → Int → Int → List ByteArray
  | 0, _, _ => []
  | f + 1, i, m => if i < (s.size : Int) ∧ 0 < m then (if hit s i = true then (vRead (piece s i)).1 :: SF s f (st s i + 3) (m - 1) else SF s f (i + 1) m) else []

theorem st_bd {s : ByteArray} {i : Int} (h0 : 0 ≤ i) (h1 : i ≤ (s.size : Int)) : i ≤ st s i ∧ st s i ≤ s.size := nst_bd s _ i h0 (by omega)

theorem index_eq {s : ByteArray} {i : Int} (h0 : 0 ≤ i) (h1 : i ≤ (s.size : Int)) : strings_IndexByte.f (s.extract i.toNat s.size) 42 = some (if st s i = s.size then -1 else st s i - i) := by
  unfold strings_IndexByte.f stringslite_IndexByte.f
  rw [Option.bind_some]
  have h := index_nst s (s.size - i.toNat) i.toNat (by omega)
  have e : ((i.toNat : Nat) : Int) = i := by omega
  rw [e] at h
  rw [drop_bytes]
  exact congrArg some h

theorem piece_size {s : ByteArray} (h : s.size ≤ 400) (i : Int) : (piece s i).size ≤ 400 := by
  unfold piece
  rw [ByteArray.size_extract]
  omega

theorem impl_split_loop (s : ByteArray) (hs : s.size ≤ 400) (f : Nat) : ∀ (k : Nat) (out : List ByteArray) (i : Int), 0 ≤ i → i ≤ (s.size : Int) → (s.size : Int) ≤ i + f → (out.length : Int) ≤ 8 → 1048600 + 3 * f ≤ k → impl_SplitFrames.l0 k s out i = some (out ++ SF s f i (8 - out.length)) := by
  have stop : ∀ (k : Nat) (out : List ByteArray) (i : Int), 3 ≤ k → ¬ (i < (s.size : Int) ∧ (out.length : Int) < 8) → impl_SplitFrames.l0 k s out i = some out := by
    intro k out i hk hno
    obtain ⟨k, rfl⟩ : ∃ m, k = m + 1 + 1 := ⟨k - 2, by omega⟩
    rw [impl_SplitFrames.l0]
    by_cases h : i < (s.size : Int)
    · rw [if_pos h, decide_eq_false (fun e => hno ⟨h, e⟩), impl_SplitFrames.j1]
      rfl
    · rw [if_neg h, impl_SplitFrames.j1]
      rfl
  induction f with
  | zero =>
    intro k out i h0 h1 h2 h3 hk
    rw [stop k out i (by omega) (by omega), SF, List.append_nil]
  | succ f ih =>
    intro k out i h0 h1 h2 h3 hk
    by_cases hgo : i < (s.size : Int) ∧ (out.length : Int) < 8
    · have hb := st_bd h0 h1
      obtain ⟨k, rfl⟩ : ∃ m, k = m + 1 + 1 + 1 := ⟨k - 3, by omega⟩
      have skip : ∀ x, impl_SplitFrames.j2 (k + 1) s out i x true = impl_SplitFrames.l0 k s out (i + 1) := by
        intro x
        rw [impl_SplitFrames.j2, if_pos rfl, w64 (by omega) (by omega)]
      have hskip := ih k out (i + 1) (by omega) (by omega) (by omega) h3 (by omega)
      rw [impl_SplitFrames.l0, if_pos hgo.1, decide_eq_true hgo.2, impl_SplitFrames.j1, if_pos rfl, if_pos h0, if_pos h1, index_eq h0 h1, Option.bind_some, if_pos hgo.1, skip, SF, if_pos (c := i < (s.size : Int) ∧ 0 < 8 - (out.length : Int)) (by omega)]
      by_cases hd : bt s i = 36
      · rw [if_pos hd]
        by_cases hst : st s i = s.size
        · have hh : ¬ hit s i = true := by
            unfold hit
            rw [Bool.and_eq_true, decide_eq_true_eq]
            intro e
            omega
          rw [if_pos hst, if_pos (by decide), hskip, if_neg hh]
        · rw [if_neg hst, if_neg (by omega), w64 (n := i + (st s i - i)) (by omega) (by omega), w64 (n := i + (st s i - i) + 3) (by omega) (by omega), show i + (st s i - i) + 3 = st s i + 3 by omega]
          by_cases hend : st s i + 3 > (s.size : Int)
          · have hh : ¬ hit s i = true := by
              unfold hit
              rw [Bool.and_eq_true, decide_eq_true_eq]
              intro e
              omega
            rw [decide_eq_true hend, skip, hskip, if_neg hh]
          · have hp := piece_size hs i
            rw [decide_eq_false hend, impl_SplitFrames.j2, if_neg (by decide), if_pos h0, w64 (n := i + (st s i - i)) (by omega) (by omega), w64 (n := i + (st s i - i) + 3) (by omega) (by omega), show i + (st s i - i) + 3 = st s i + 3 by omega, if_pos (by omega), if_pos (by omega), show s.extract i.toNat (st s i + 3).toNat = piece s i from rfl, impl_ReadFrame_eq _ (by omega) (by omega), Option.bind_some]
            by_cases hr : (vRead (piece s i)).2 = true
            · have hh : hit s i = true := by
                unfold hit
                rw [Bool.and_eq_true, decide_eq_true_eq]
                exact ⟨⟨hd, by omega⟩, hr⟩
              have hlen : ((out ++ [(vRead (piece s i)).1]).length : Int) = out.length + 1 := by simp
              have hi := ih k (out ++ [(vRead (piece s i)).1]) (st s i + 3) (by omega) (by omega) (by omega) (by omega) (by omega)
              rw [if_pos hr, if_pos (by omega), w64 (n := st s i - i + 2) (by omega) (by omega), w64 (n := i + (st s i - i + 2)) (by omega) (by omega), w64 (n := i + (st s i - i + 2) + 1) (by omega) (by omega), show i + (st s i - i + 2) + 1 = st s i + 3 by omega, hi, if_pos hh, hlen, List.append_assoc, show (8 : Int) - (out.length + 1) = 8 - out.length - 1 by omega]
              rfl
            · have hh : ¬ hit s i = true := by
                unfold hit
                rw [Bool.and_eq_true]
                exact fun e => hr e.2
              rw [if_neg hr, w64 (n := i + 1) (by omega) (by omega), hskip, if_neg hh]
      · have hh : ¬ hit s i = true := by
          unfold hit
          rw [Bool.and_eq_true, decide_eq_true_eq]
          exact fun e => hd e.1.1
        rw [if_neg hd, hskip, if_neg hh]
    · rw [stop k out i (by omega) hgo, SF, if_neg (by omega), List.append_nil]

theorem spec_split_loop (s : ByteArray) (hs : s.size ≤ 400) (f : Nat) : ∀ (k : Nat) (out : List ByteArray) (i : Int), 0 ≤ i → i ≤ (s.size : Int) → (s.size : Int) ≤ i + f → (out.length : Int) ≤ 8 → 1048600 + 3 * f ≤ k → spec_SplitFrames.l0 k s out i = some (out ++ SF s f i (8 - out.length)) := by
  have stop : ∀ (k : Nat) (out : List ByteArray) (i : Int), 3 ≤ k → ¬ (i < (s.size : Int) ∧ (out.length : Int) < 8) → spec_SplitFrames.l0 k s out i = some out := by
    intro k out i hk hno
    obtain ⟨k, rfl⟩ : ∃ m, k = m + 1 + 1 := ⟨k - 2, by omega⟩
    rw [spec_SplitFrames.l0]
    by_cases h : i < (s.size : Int)
    · rw [if_pos h, decide_eq_false (fun e => hno ⟨h, e⟩), spec_SplitFrames.j1]
      rfl
    · rw [if_neg h, spec_SplitFrames.j1]
      rfl
  induction f with
  | zero =>
    intro k out i h0 h1 h2 h3 hk
    rw [stop k out i (by omega) (by omega), SF, List.append_nil]
  | succ f ih =>
    intro k out i h0 h1 h2 h3 hk
    by_cases hgo : i < (s.size : Int) ∧ (out.length : Int) < 8
    · have hb := st_bd h0 h1
      obtain ⟨k, rfl⟩ : ∃ m, k = m + 1 + 1 + 1 := ⟨k - 3, by omega⟩
      have skip : ∀ x, spec_SplitFrames.j2 (k + 1) s out i x true = spec_SplitFrames.l0 k s out (i + 1) := by
        intro x
        rw [spec_SplitFrames.j2, if_pos rfl, w64 (by omega) (by omega)]
      have hskip := ih k out (i + 1) (by omega) (by omega) (by omega) h3 (by omega)
      have hstar : spec_star.f (k + 1) s i = some (st s i) := by
        unfold spec_star.f st
        exact star_loop s (by omega) _ _ i h0 (by omega) (by omega)
      rw [spec_SplitFrames.l0, if_pos hgo.1, decide_eq_true hgo.2, spec_SplitFrames.j1, if_pos rfl, hstar, Option.bind_some, if_pos h0, if_pos hgo.1, w64 (n := st s i + 3) (by omega) (by omega), SF, if_pos (c := i < (s.size : Int) ∧ 0 < 8 - (out.length : Int)) (by omega)]
      by_cases hd : bt s i = 36
      · rw [if_pos hd]
        by_cases hend : st s i + 3 > (s.size : Int)
        · have hh : ¬ hit s i = true := by
            unfold hit
            rw [Bool.and_eq_true, decide_eq_true_eq]
            intro e
            omega
          rw [decide_eq_true hend, skip, hskip, if_neg hh]
        · have hp := piece_size hs i
          rw [decide_eq_false hend, spec_SplitFrames.j2, if_neg (by decide), if_pos h0, if_pos (by omega), if_pos (by omega), show s.extract i.toNat (st s i + 3).toNat = piece s i from rfl, spec_ReadFrame_eq _ (by omega) (by omega), Option.bind_some]
          by_cases hr : (vRead (piece s i)).2 = true
          · have hh : hit s i = true := by
              unfold hit
              rw [Bool.and_eq_true, decide_eq_true_eq]
              exact ⟨⟨hd, by omega⟩, hr⟩
            have hlen : ((out ++ [(vRead (piece s i)).1]).length : Int) = out.length + 1 := by simp
            have hi := ih k (out ++ [(vRead (piece s i)).1]) (st s i + 3) (by omega) (by omega) (by omega) (by omega) (by omega)
            rw [if_pos hr, if_pos (by omega), hi, if_pos hh, hlen, List.append_assoc, show (8 : Int) - (out.length + 1) = 8 - out.length - 1 by omega]
            rfl
          · have hh : ¬ hit s i = true := by
              unfold hit
              rw [Bool.and_eq_true]
              exact fun e => hr e.2
            rw [if_neg hr, w64 (n := i + 1) (by omega) (by omega), hskip, if_neg hh]
      · have hh : ¬ hit s i = true := by
          unfold hit
          rw [Bool.and_eq_true, decide_eq_true_eq]
          exact fun e => hd e.1.1
        rw [if_neg hd, skip, hskip, if_neg hh]
    · rw [stop k out i (by omega) hgo, SF, if_neg (by omega), List.append_nil]

noncomputable def vSF (s : ByteArray) : List ByteArray := if s.size ≤ 300 then SF s s.size 0 8 else []

theorem impl_SplitFrames_eq (s : ByteArray) {k : Nat} (hk : 1050000 ≤ k) : impl_SplitFrames.f k s = some (vSF s) := by
  unfold impl_SplitFrames.f vSF
  rw [Option.bind_some]
  by_cases h : (s.size : Int) > 300
  · rw [if_pos h, if_neg (by omega)]
  · rw [if_neg h, if_pos (by omega)]
    exact impl_split_loop s (by omega) s.size k [] 0 (by omega) (by omega) (by omega) (by decide) (by omega)

theorem spec_SplitFrames_eq (s : ByteArray) {k : Nat} (hk : 1050000 ≤ k) : spec_SplitFrames.f k s = some (vSF s) := by
  unfold spec_SplitFrames.f vSF
  by_cases h : (s.size : Int) > 300
  · rw [if_pos h, if_neg (by omega)]
  · rw [if_neg h, if_pos (by omega)]
    exact spec_split_loop s (by omega) s.size k [] 0 (by omega) (by omega) (by omega) (by decide) (by omega)

theorem SF_len (s : ByteArray) (f : Nat) : ∀ (i m : Int), 0 ≤ m → ((SF s f i m).length : Int) ≤ m := by
  induction f with
  | zero => intro i m h; rw [SF]; simpa using h
  | succ f ih =>
    intro i m h
    rw [SF]
    by_cases hg : i < (s.size : Int) ∧ 0 < m
    · rw [if_pos hg]
      by_cases hh : hit s i = true
      · have := ih (st s i + 3) (m - 1) (by omega)
        rw [if_pos hh, List.length_cons]
        omega
      · rw [if_neg hh]
        exact ih _ _ h
    · rw [if_neg hg]
      simpa using h

theorem vSF_len (s : ByteArray) : ((vSF s).length : Int) ≤ 8 := by
  unfold vSF
  split
  · exact SF_len s _ 0 8 (by omega)
  · decide

theorem eqStringS_loop (x : List ByteArray) (hx : x.length ≤ 1000) (d : Nat) : ∀ (k : Nat) (i : Int), 0 ≤ i → i + d = (x.length : Int) → d < k → laws_eqStringS.l0 k x x i = some true := by
  induction d with
  | zero =>
    intro k i h0 h1 hk
    obtain ⟨k, rfl⟩ : ∃ m, k = m + 1 := ⟨k - 1, by omega⟩
    rw [laws_eqStringS.l0, if_neg (by omega)]
  | succ d ih =>
    intro k i h0 h1 hk
    obtain ⟨k, rfl⟩ : ∃ m, k = m + 1 := ⟨k - 1, by omega⟩
    rw [laws_eqStringS.l0, if_pos (by omega), if_pos h0, if_pos (by omega), if_pos rfl, w64 (n := i + 1) (by omega) (by omega)]
    exact ih k (i + 1) (by omega) (by omega) (by omega)

theorem eqStringS_eq {x : List ByteArray} (hx : x.length ≤ 1000) {k : Nat} (hk : 1001 ≤ k) : laws_eqStringS.f k x x = some true := by
  unfold laws_eqStringS.f
  rw [if_pos rfl]
  exact eqStringS_loop x hx x.length k 0 (by omega) (by omega) (by omega)

def mt (n : Int) : ByteArray := (⟨#[109]⟩ : ByteArray) ++ (strOfNums [(wrap64 (48 + (Int.tmod n 10))) % 256] ++ (⟨#[]⟩ : ByteArray))

theorem markText_eq {n : Int} (h0 : 1 ≤ n) (h1 : n ≤ 9) {k : Nat} (hk : 10 ≤ k) : laws_markText.f k n = some (mt n) := by
  obtain ⟨k, rfl⟩ : ∃ m, k = m + 1 + 1 := ⟨k - 2, by omega⟩
  have z0 : (⟨#[]⟩ : ByteArray).size = 0 := rfl
  have z1 : ∀ v : Int, (strOfNums [v]).size = 1 := fun v => rfl
  unfold laws_markText.f
  rw [if_neg (by omega), laws_markText.l0, if_pos (by omega), Option.bind_some, if_pos (by rw [z1, z0]; omega), tdivp (by omega), w64 (by omega) (by omega), laws_markText.l0, if_neg (by omega), if_pos (by rw [ByteArray.size_append, z1, z0]; omega)]
  rfl

theorem rdOf_set {x : List ByteArray} {i j : Int} {v : ByteArray} (h0 : 0 ≤ i) (h1 : i < (x.length : Int)) (h2 : 0 ≤ j) : rdOf ByteArray.empty (x.set i.toNat v) j = if j = i then v else rdOf ByteArray.empty x j := by
  unfold rdOf
  rw [List.getD_eq_getElem?_getD, List.getD_eq_getElem?_getD]
  by_cases e : j = i
  · subst e
    rw [if_pos rfl, List.getElem?_set_self (by omega)]
    rfl
  · rw [if_neg e, List.getElem?_set_ne (by omega)]

theorem mark_loop (d : Nat) : ∀ (k : Nat) (x : List ByteArray) (i : Int), x.length ≤ 8 → 0 ≤ i → i + d = (x.length : Int) → 20 + d < k → (∀ j : Int, 0 ≤ j → j < i → rdOf ByteArray.empty x j = mt (j + 1)) → ∃ y : List ByteArray, laws_markStringS.l0 k x (i + 1) i = some ((x.length : Int) + 1, y) ∧ y.length = x.length ∧ ∀ j : Int, 0 ≤ j → j < (x.length : Int) → rdOf ByteArray.empty y j = mt (j + 1) := by
  induction d with
  | zero =>
    intro k x i hx h0 h1 hk hj
    obtain ⟨k, rfl⟩ : ∃ m, k = m + 1 := ⟨k - 1, by omega⟩
    have e : i = (x.length : Int) := by omega
    refine ⟨x, ?_, rfl, fun j a b => hj j a (by omega)⟩
    rw [laws_markStringS.l0, if_neg (by omega), e]
  | succ d ih =>
    intro k x i hx h0 h1 hk hj
    obtain ⟨k, rfl⟩ : ∃ m, k = m + 1 := ⟨k - 1, by omega⟩
    have hl : (x.set i.toNat (mt (i + 1))).length = x.length := List.length_set
    obtain ⟨y, y0, y1, y2⟩ := ih k (x.set i.toNat (mt (i + 1))) (i + 1) (by omega) (by omega) (by omega) (by omega) (fun j a b => by
      rw [rdOf_set h0 (by omega) a]
      by_cases e : j = i
      · rw [if_pos e, e]
      · rw [if_neg e]
        exact hj j a (by omega))
    rw [hl] at y0 y1 y2
    refine ⟨y, ?_, y1, y2⟩
    rw [laws_markStringS.l0, if_pos (by omega), markText_eq (by omega) (by omega) (by omega), Option.bind_some, if_pos h0, w64 (n := i + 1 + 1) (by omega) (by omega), w64 (n := i + 1) (by omega) (by omega)]
    exact y0

theorem held_loop (y : List ByteArray) (hy : y.length ≤ 8) (h : ∀ j : Int, 0 ≤ j → j < (y.length : Int) → rdOf ByteArray.empty y j = mt (j + 1)) (d : Nat) : ∀ (k : Nat) (i : Int), 0 ≤ i → i + d = (y.length : Int) → 20 + d < k → laws_heldStringS.l0 k y (i + 1) i = some ((y.length : Int) + 1) := by
  induction d with
  | zero =>
    intro k i h0 h1 hk
    obtain ⟨k, rfl⟩ : ∃ m, k = m + 1 := ⟨k - 1, by omega⟩
    have e : i = (y.length : Int) := by omega
    rw [laws_heldStringS.l0, if_neg (by omega), e]
  | succ d ih =>
    intro k i h0 h1 hk
    obtain ⟨k, rfl⟩ : ∃ m, k = m + 1 := ⟨k - 1, by omega⟩
    rw [laws_heldStringS.l0, if_pos (by omega), if_pos h0, markText_eq (by omega) (by omega) (by omega), Option.bind_some, h i h0 (by omega), if_pos rfl, w64 (n := i + 1 + 1) (by omega) (by omega), w64 (n := i + 1) (by omega) (by omega)]
    exact ih k (i + 1) (by omega) (by omega) (by omega)

theorem FnExactSplitFrames : laws_FnExactSplitFrames.Pure := by
  intro s _
  refine ⟨1050000, ?_⟩
  unfold laws_FnExactSplitFrames.f
  by_cases h : (s.size : Int) > 1048576
  · rw [if_pos h]
  · have hlen := vSF_len s
    obtain ⟨y, y0, y1, y2⟩ := mark_loop (vSF s).length 1050000 (vSF s) 0 (by omega) (by omega) (by omega) (by omega) (fun j a b => by omega)
    have hm : laws_markStringS.f 1050000 (vSF s) 1 = some (((vSF s).length : Int) + 1, y) := y0
    have hh : laws_heldStringS.f 1050000 y 1 = some ((y.length : Int) + 1) := held_loop y (by omega) (fun j a b => y2 j a (by omega)) y.length 1050000 0 (by omega) (by omega) (by omega)
    rw [y1] at hh
    rw [if_neg h, spec_SplitFrames_eq s (by omega), impl_SplitFrames_eq s (by omega)]
    simp only [Option.bind_some]
    rw [eqStringS_eq (by omega) (by omega), hm]
    simp only [Option.bind_some]
    rw [hh]
    simp only [Option.bind_some]
    have hn : ¬ (((vSF s).length : Int) + 1 < 0) := by omega
    simp only [hn, if_true, if_false]

end Go.Proofs.Ytciajbjjmgkbiaa.Pure
