/- Proved here, over numbers and lists alone: the law FnExactLeapsBefore answers true at every input (the program's LeapsBefore returns what the reference's returns, for all arguments.) Conditions: none beyond the sizes that the row itself gives. -/
import Derived.Test.YteojjkfaooobkaaHFnExactLeapsBeforex2
namespace Go.Proofs.Yteojjkfaooobkaa.Pure
open Go.RowKit Go.Proofs.Yteojjkfaooobkaa.HFnExactLeapsBefore Go.Proofs.YteojjkfaooobkaaW.PrintWords Go.Proofs.YteojjkfaooobkaaW.PrintLast

theorem w64 {n : Int} (h0 : -9223372036854775808 ≤ n) (h1 : n ≤ 9223372036854775807) : wrap64 n = n := by unfold wrap64; omega

theorem within_eq (n lo hi : Int) : impl_within.f n lo hi = some (decide (lo ≤ n ∧ n ≤ hi)) := by
  unfold impl_within.f
  by_cases h : lo ≤ n
  · rw [if_pos h]; simp [h]
  · rw [if_neg h]; simp [h]

theorem inRange_eq (n lo hi : Int) : spec_inRange.f n lo hi = some (decide (lo ≤ n ∧ n ≤ hi)) := by
  unfold spec_inRange.f
  by_cases h : lo ≤ n
  · rw [if_pos h]; simp [h]
  · rw [if_neg h]; simp [h]

theorem ite_dec {α : Type} {p : Prop} [Decidable p] {a b : α} : (if decide p = true then a else b) = if p then a else b := by
  by_cases h : p <;> simp [h]

theorem isTime_eq (t : Int) : impl_isTime.f t = some (decide (0 ≤ t ∧ t ≤ 3786479999)) := by
  unfold impl_isTime.f
  rw [within_eq, Option.bind_some]

theorem validTime_eq (t : Int) : spec_validTime.f t = some (decide (0 ≤ t ∧ t ≤ 3786479999)) := by
  unfold spec_validTime.f
  rw [inRange_eq, Option.bind_some]

theorem ints_loop (x : List Int) (hx : x.length ≤ 1048576) (d : Nat) : ∀ (k : Nat) (z : List Int) (i : Int), 0 ≤ i → i + d = (x.length : Int) → d < k → z.length = x.length → (∀ j : Nat, (j : Int) < i → z[j]? = x[j]?) → laws_toIntS.l0 k x z i = some x := by
  induction d with
  | zero =>
    intro k z i h0 h1 hk hz hj
    obtain ⟨k, rfl⟩ : ∃ m, k = m + 1 := ⟨k - 1, by omega⟩
    simp only [laws_toIntS.l0]
    rw [if_neg (by omega)]
    congr 1
    refine List.ext_getElem? (fun j => ?_)
    by_cases hlt : j < x.length
    · exact hj j (by omega)
    · rw [List.getElem?_eq_none (by omega), List.getElem?_eq_none (by omega)]
  | succ d ih =>
    intro k z i h0 h1 hk hz hj
    obtain ⟨k, rfl⟩ : ∃ m, k = m + 1 := ⟨k - 1, by omega⟩
    simp only [laws_toIntS.l0]
    rw [if_pos (by omega), if_pos h0, if_pos (by omega), w64 (n := i + 1) (by omega) (by omega)]
    refine ih k _ (i + 1) (by omega) (by omega) (by omega) (by rw [List.length_set]; exact hz) (fun j hlt => ?_)
    by_cases e : j = i.toNat
    · subst e
      rw [List.getElem?_set_self (by omega)]
      unfold rd
      rw [List.getD_eq_getElem?_getD, List.getElem?_eq_getElem (by omega)]
      rfl
    · rw [List.getElem?_set_ne (Ne.symm e)]
      exact hj j (by omega)

theorem toIntS_eq {x : List Int} (hx : x.length ≤ 1048576) {k : Nat} (hk : 1048577 ≤ k) : laws_toIntS.f k x = some x := by
  unfold laws_toIntS.f
  rw [if_pos (by omega), if_pos (by omega)]
  exact ints_loop x hx x.length k _ 0 (by omega) (by omega) (by omega) (by rw [List.length_replicate]; omega) (fun j hj => by omega)

theorem eqInts_loop (x : List Int) (hx : x.length ≤ 1048576) (d : Nat) : ∀ (k : Nat) (i : Int), 0 ≤ i → i + d = (x.length : Int) → d < k → laws_eqIntS.l0 k x x i = some true := by
  induction d with
  | zero =>
    intro k i h0 h1 hk
    obtain ⟨k, rfl⟩ : ∃ m, k = m + 1 := ⟨k - 1, by omega⟩
    simp only [laws_eqIntS.l0]
    rw [if_neg (by omega)]
  | succ d ih =>
    intro k i h0 h1 hk
    obtain ⟨k, rfl⟩ : ∃ m, k = m + 1 := ⟨k - 1, by omega⟩
    simp only [laws_eqIntS.l0]
    rw [if_pos (by omega), if_pos h0, if_pos (by omega), if_pos trivial, w64 (n := i + 1) (by omega) (by omega)]
    exact ih k (i + 1) (by omega) (by omega) (by omega)

theorem eqIntS_eq {x : List Int} (hx : x.length ≤ 1048576) {k : Nat} (hk : 1048577 ≤ k) : laws_eqIntS.f k x x = some true := by
  unfold laws_eqIntS.f
  rw [if_pos rfl]
  exact eqInts_loop x hx x.length k 0 (by omega) (by omega) (by omega)

def okAt (l : List Int) (i : Int) : Bool := decide ((1 ≤ rd l i ∧ rd l i ≤ 1893239999) ∧ (i > 0 → rd l (i - 1) + 604800 ≤ rd l i))

def leapsFrom (l : List Int) : Nat → Int → Bool
  | 0, _ => true
  | d + 1, i => okAt l i && leapsFrom l d (i + 1)

def vVL (l : List Int) : Bool := leapsFrom l l.length 0 && decide ((l.length : Int) ≤ 8)

theorem spec_leaps_loop (x : List Int) (hx : x.length ≤ 1048576) (d : Nat) : ∀ (k : Nat) (i : Int), 0 ≤ i → i + d = (x.length : Int) → d < k → (i > 0 → 1 ≤ rd x (i - 1) ∧ rd x (i - 1) ≤ 1893239999) → spec_validLeaps.l0 k x i = some (leapsFrom x d i && decide ((x.length : Int) ≤ 8)) := by
  induction d with
  | zero =>
    intro k i h0 h1 hk hp
    obtain ⟨k, rfl⟩ : ∃ m, k = m + 1 := ⟨k - 1, by omega⟩
    simp only [spec_validLeaps.l0]
    rw [if_neg (by omega)]
    simp [leapsFrom]
  | succ d ih =>
    intro k i h0 h1 hk hp
    obtain ⟨k, rfl⟩ : ∃ m, k = m + 1 := ⟨k - 1, by omega⟩
    simp only [spec_validLeaps.l0]
    rw [if_pos (by omega), if_pos h0, inRange_eq, Option.bind_some, ite_dec, w64 (n := i + 1) (by omega) (by omega), leapsFrom]
    by_cases h2 : 1 ≤ rd x i ∧ rd x i ≤ 1893239999
    · have hi := ih k (i + 1) (by omega) (by omega) (by omega) (fun _ => by rw [show i + 1 - 1 = i by omega]; exact h2)
      rw [if_pos h2, hi]
      by_cases h3 : i > 0
      · have hq := hp h3
        rw [if_pos h3, w64 (n := i - 1) (by omega) (by omega), if_pos (by omega), if_pos (by omega), w64 (by omega) (by omega)]
        by_cases h4 : rd x i < rd x (i - 1) + 604800
        · have e : okAt x i = false := by
            unfold okAt
            rw [decide_eq_false_iff_not]
            intro hh
            have := hh.2 h3
            omega
          rw [if_pos h4, e]
          rfl
        · have e : okAt x i = true := by
            unfold okAt
            rw [decide_eq_true_eq]
            exact ⟨h2, fun _ => by omega⟩
          rw [if_neg h4, e, Bool.true_and]
      · have e : okAt x i = true := by
          unfold okAt
          rw [decide_eq_true_eq]
          exact ⟨h2, fun hh => absurd hh h3⟩
        rw [if_neg h3, e, Bool.true_and]
    · have e : okAt x i = false := by
        unfold okAt
        rw [decide_eq_false_iff_not]
        exact fun hh => h2 hh.1
      rw [if_neg h2, e]
      rfl

theorem spec_validLeaps_eq {x : List Int} (hx : x.length ≤ 1048576) {k : Nat} (hk : 1048577 ≤ k) : spec_validLeaps.f k x = some (vVL x) := by
  unfold spec_validLeaps.f
  exact spec_leaps_loop x hx x.length k 0 (by omega) (by omega) (by omega) (fun h => by omega)

theorem impl_leaps_loop (x : List Int) (hx : x.length ≤ 1048576) (d : Nat) : ∀ (k : Nat) (i : Int), 0 ≤ i → i + d = (x.length : Int) → d < k → (i > 0 → 1 ≤ rd x (i - 1) ∧ rd x (i - 1) ≤ 1893239999) → impl_ValidLeaps.l0 k x x (x.length : Int) i = some (leapsFrom x d i && decide ((x.length : Int) ≤ 8)) := by
  induction d with
  | zero =>
    intro k i h0 h1 hk hp
    obtain ⟨k, rfl⟩ : ∃ m, k = m + 1 := ⟨k - 1, by omega⟩
    simp only [impl_ValidLeaps.l0]
    rw [if_neg (by omega)]
    simp [leapsFrom]
  | succ d ih =>
    intro k i h0 h1 hk hp
    obtain ⟨k, rfl⟩ : ∃ m, k = m + 1 := ⟨k - 1, by omega⟩
    simp only [impl_ValidLeaps.l0]
    rw [if_pos (by omega), if_pos h0, if_pos (by omega), within_eq, Option.bind_some, ite_dec, w64 (n := i + 1) (by omega) (by omega), leapsFrom]
    by_cases h2 : 1 ≤ rd x i ∧ rd x i ≤ 1893239999
    · have hi := ih k (i + 1) (by omega) (by omega) (by omega) (fun _ => by rw [show i + 1 - 1 = i by omega]; exact h2)
      rw [if_pos h2, hi]
      by_cases h3 : i > 0
      · have hq := hp h3
        rw [if_pos h3, w64 (n := i - 1) (by omega) (by omega), if_pos (by omega), if_pos (by omega), w64 (by omega) (by omega)]
        by_cases h4 : rd x i < rd x (i - 1) + 604800
        · have e : okAt x i = false := by
            unfold okAt
            rw [decide_eq_false_iff_not]
            intro hh
            have := hh.2 h3
            omega
          rw [if_pos h4, e]
          rfl
        · have e : okAt x i = true := by
            unfold okAt
            rw [decide_eq_true_eq]
            exact ⟨h2, fun _ => by omega⟩
          rw [if_neg h4, e, Bool.true_and]
      · have e : okAt x i = true := by
          unfold okAt
          rw [decide_eq_true_eq]
          exact ⟨h2, fun hh => absurd hh h3⟩
        rw [if_neg h3, e, Bool.true_and]
    · have e : okAt x i = false := by
        unfold okAt
        rw [decide_eq_false_iff_not]
        exact fun hh => h2 hh.1
      rw [if_neg h2, e]
      rfl

theorem impl_ValidLeaps_eq {x : List Int} (hx : x.length ≤ 1048576) {k : Nat} (hk : 1048577 ≤ k) : impl_ValidLeaps.f k x = some (vVL x) := by
  unfold impl_ValidLeaps.f
  exact impl_leaps_loop x hx x.length k 0 (by omega) (by omega) (by omega) (fun h => by omega)

theorem toInt_eq (b : Bool) : spec_toInt.f b = some (if b = true then 1 else 0) := by
  unfold spec_toInt.f
  cases b <;> rfl

theorem toInt_dec {p : Prop} [Decidable p] : (if decide p = true then (1 : Int) else 0) = if p then 1 else 0 := ite_dec

def cnt (l : List Int) (t : Int) : Nat → Int → Int
  | 0, _ => 0
  | d + 1, i => (if rd l i < t then 1 else 0) + cnt l t d (i + 1)

def vCnt (l : List Int) (t : Int) : Int := cnt l t l.length 0

theorem spec_cnt_loop (l : List Int) (hl : l.length ≤ 1048576) (t : Int) (d : Nat) : ∀ (k : Nat) (acc i : Int), 0 ≤ i → i + d = (l.length : Int) → d < k → 0 ≤ acc → acc ≤ i → spec_leapsBefore.l0 k l t acc i = some (acc + cnt l t d i) := by
  induction d with
  | zero =>
    intro k acc i h0 h1 hk h2 h3
    obtain ⟨k, rfl⟩ : ∃ m, k = m + 1 := ⟨k - 1, by omega⟩
    simp only [spec_leapsBefore.l0]
    rw [if_neg (by omega)]
    simp [cnt]
  | succ d ih =>
    intro k acc i h0 h1 hk h2 h3
    obtain ⟨k, rfl⟩ : ∃ m, k = m + 1 := ⟨k - 1, by omega⟩
    simp only [spec_leapsBefore.l0]
    rw [if_pos (by omega), if_pos h0, toInt_eq, Option.bind_some, toInt_dec, w64 (n := i + 1) (by omega) (by omega), cnt]
    by_cases h : rd l i < t
    · rw [if_pos h, w64 (by omega) (by omega), ih k (acc + 1) (i + 1) (by omega) (by omega) (by omega) (by omega) (by omega)]
      congr 1
      omega
    · rw [if_neg h, w64 (by omega) (by omega), ih k (acc + 0) (i + 1) (by omega) (by omega) (by omega) (by omega) (by omega)]
      congr 1
      omega

theorem spec_cnt_eq {l : List Int} (hl : l.length ≤ 1048576) (t : Int) {k : Nat} (hk : 1048577 ≤ k) : spec_leapsBefore.f k l t = some (vCnt l t) := by
  unfold spec_leapsBefore.f
  rw [spec_cnt_loop l hl t l.length k 0 0 (by omega) (by omega) (by omega) (by omega) (by omega), Int.zero_add]
  rfl

theorem impl_cnt_loop (l : List Int) (hl : l.length ≤ 1048576) (t : Int) (d : Nat) : ∀ (k : Nat) (acc i : Int), 0 ≤ i → i + d = (l.length : Int) → d < k → 0 ≤ acc → acc ≤ i → impl_leapsBefore.l0 k t acc l (l.length : Int) i = some (acc + cnt l t d i) := by
  induction d with
  | zero =>
    intro k acc i h0 h1 hk h2 h3
    obtain ⟨k, rfl⟩ : ∃ m, k = m + 1 := ⟨k - 1, by omega⟩
    simp only [impl_leapsBefore.l0]
    rw [if_neg (by omega)]
    simp [cnt]
  | succ d ih =>
    intro k acc i h0 h1 hk h2 h3
    obtain ⟨k, rfl⟩ : ∃ m, k = m + 1 := ⟨k - 1, by omega⟩
    simp only [impl_leapsBefore.l0]
    rw [if_pos (by omega), if_pos h0, if_pos (by omega), w64 (n := i + 1) (by omega) (by omega), cnt]
    by_cases h : rd l i < t
    · rw [if_pos h, if_pos h, w64 (by omega) (by omega), ih k (acc + 1) (i + 1) (by omega) (by omega) (by omega) (by omega) (by omega)]
      congr 1
      omega
    · rw [if_neg h, if_neg h, ih k acc (i + 1) (by omega) (by omega) (by omega) (by omega) (by omega)]
      congr 1
      omega

theorem impl_cnt_eq {l : List Int} (hl : l.length ≤ 1048576) (t : Int) {k : Nat} (hk : 1048577 ≤ k) : impl_leapsBefore.f k l t = some (vCnt l t) := by
  unfold impl_leapsBefore.f
  rw [impl_cnt_loop l hl t l.length k 0 0 (by omega) (by omega) (by omega) (by omega) (by omega), Int.zero_add]
  rfl

def vLB (l : List Int) (t : Int) : Int := if vVL l = true ∧ 0 ≤ t ∧ t ≤ 3786479999 then vCnt l t else -1

theorem spec_LeapsBefore_eq {l : List Int} (hl : l.length ≤ 1048576) (t : Int) {k : Nat} (hk : 1048577 ≤ k) : spec_LeapsBefore.f k l t = some (vLB l t) := by
  unfold spec_LeapsBefore.f vLB
  rw [spec_validLeaps_eq hl hk, Option.bind_some, validTime_eq, Option.bind_some, ite_dec, spec_cnt_eq hl t hk, Option.bind_some]
  by_cases h : vVL l = true
  · rw [if_pos h]
    by_cases h2 : 0 ≤ t ∧ t ≤ 3786479999
    · rw [if_pos h2, if_pos ⟨h, h2⟩]
    · rw [if_neg h2, if_neg (fun e => h2 e.2)]
  · rw [if_neg h, if_neg (fun e => h e.1)]

theorem impl_LeapsBefore_eq {l : List Int} (hl : l.length ≤ 1048576) (t : Int) {k : Nat} (hk : 1048577 ≤ k) : impl_LeapsBefore.f k l t = some (vLB l t) := by
  unfold impl_LeapsBefore.f vLB
  rw [impl_ValidLeaps_eq hl hk, Option.bind_some, isTime_eq, Option.bind_some, ite_dec, impl_cnt_eq hl t hk, Option.bind_some]
  by_cases h : vVL l = true
  · rw [if_pos h]
    by_cases h2 : 0 ≤ t ∧ t ≤ 3786479999
    · rw [if_pos h2, if_pos ⟨h, h2⟩]
    · rw [if_neg h2, if_neg (fun e => h2 e.2)]
  · rw [if_neg h, if_neg (fun e => h e.1)]

theorem FnExactLeapsBefore : laws_FnExactLeapsBefore.Pure := by
  intro l t _ _ _ _
  refine ⟨1048577, ?_⟩
  unfold laws_FnExactLeapsBefore.f
  by_cases h : (l.length : Int) > 1048576
  · rw [if_pos h]
  · have h' : l.length ≤ 1048576 := by omega
    rw [if_neg h, toIntS_eq h' (by omega)]
    simp only [Option.bind_some]
    rw [spec_LeapsBefore_eq h' t (by omega), impl_LeapsBefore_eq h' t (by omega), eqIntS_eq h' (by omega)]
    simp

end Go.Proofs.Yteojjkfaooobkaa.Pure
