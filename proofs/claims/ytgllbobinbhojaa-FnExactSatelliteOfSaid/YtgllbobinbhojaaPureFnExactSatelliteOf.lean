/- Proved here, over numbers and lists alone: the law FnExactSatelliteOf answers true at every input (the program's SatelliteOf returns what the reference's returns, for all arguments.) Conditions: none beyond the sizes that the row itself gives. -/
import Derived.Test.YtgllbobinbhojaaHFnExactSatelliteOfx3
namespace Go.Proofs.Ytgllbobinbhojaa.Pure
open Go.RowKit Go.Proofs.Ytgllbobinbhojaa.HFnExactSatelliteOf Go.Proofs.YtgllbobinbhojaaW.PrintWords Go.Proofs.YtgllbobinbhojaaW.PrintLast

theorem w64 {n : Int} (h0 : -9223372036854775808 ≤ n) (h1 : n ≤ 9223372036854775807) : wrap64 n = n := by unfold wrap64; omega

theorem within_eq (n lo hi : Int) : impl_within.f n lo hi = some (decide (lo ≤ n ∧ n ≤ hi)) := by
  unfold impl_within.f
  by_cases h : lo ≤ n
  · rw [if_pos h]; simp [h]
  · rw [if_neg h]; simp [h]

theorem inRange_eq (n lo hi : Int) : spec_inRange.f n lo hi = some (decide (lo ≤ n ∧ n ≤ hi)) := by
  unfold spec_inRange.f
  by_cases h : lo ≤ n
  · rw [if_pos h]; simp [h]
  · rw [if_neg h]; simp [h]

theorem ite_dec {α : Type} {p : Prop} [Decidable p] {a b : α} : (if decide p = true then a else b) = if p then a else b := by
  by_cases h : p <;> simp [h]

theorem ints_loop (x : List Int) (hx : x.length ≤ 1048576) (d : Nat) : ∀ (k : Nat) (z : List Int) (i : Int), 0 ≤ i → i + d = (x.length : Int) → d < k → z.length = x.length → (∀ j : Nat, (j : Int) < i → z[j]? = x[j]?) → laws_toIntS.l0 k x z i = some x := by
  induction d with
  | zero =>
    intro k z i h0 h1 hk hz hj
    obtain ⟨k, rfl⟩ : ∃ m, k = m + 1 := ⟨k - 1, by omega⟩
    simp only [laws_toIntS.l0]
    rw [if_neg (by omega)]
    congr 1
    refine List.ext_getElem? (fun j => ?_)
    by_cases hlt : j < x.length
    · exact hj j (by omega)
    · rw [List.getElem?_eq_none (by omega), List.getElem?_eq_none (by omega)]
  | succ d ih =>
    intro k z i h0 h1 hk hz hj
    obtain ⟨k, rfl⟩ : ∃ m, k = m + 1 := ⟨k - 1, by omega⟩
    simp only [laws_toIntS.l0]
    rw [if_pos (by omega), if_pos h0, if_pos (by omega), w64 (n := i + 1) (by omega) (by omega)]
    refine ih k _ (i + 1) (by omega) (by omega) (by omega) (by rw [List.length_set]; exact hz) (fun j hlt => ?_)
    by_cases e : j = i.toNat
    · subst e
      rw [List.getElem?_set_self (by omega)]
      unfold rd
      rw [List.getD_eq_getElem?_getD, List.getElem?_eq_getElem (by omega)]
      rfl
    · rw [List.getElem?_set_ne (Ne.symm e)]
      exact hj j (by omega)

theorem toIntS_eq {x : List Int} (hx : x.length ≤ 1048576) {k : Nat} (hk : 1048577 ≤ k) : laws_toIntS.f k x = some x := by
  unfold laws_toIntS.f
  rw [if_pos (by omega), if_pos (by omega)]
  exact ints_loop x hx x.length k _ 0 (by omega) (by omega) (by omega) (by rw [List.length_replicate]; omega) (fun j hj => by omega)

theorem eqInts_loop (x : List Int) (hx : x.length ≤ 1048576) (d : Nat) : ∀ (k : Nat) (i : Int), 0 ≤ i → i + d = (x.length : Int) → d < k → laws_eqIntS.l0 k x x i = some true := by
  induction d with
  | zero =>
    intro k i h0 h1 hk
    obtain ⟨k, rfl⟩ : ∃ m, k = m + 1 := ⟨k - 1, by omega⟩
    simp only [laws_eqIntS.l0]
    rw [if_neg (by omega)]
  | succ d ih =>
    intro k i h0 h1 hk
    obtain ⟨k, rfl⟩ : ∃ m, k = m + 1 := ⟨k - 1, by omega⟩
    simp only [laws_eqIntS.l0]
    rw [if_pos (by omega), if_pos h0, if_pos (by omega), if_pos trivial, w64 (n := i + 1) (by omega) (by omega)]
    exact ih k (i + 1) (by omega) (by omega) (by omega)

theorem eqIntS_eq {x : List Int} (hx : x.length ≤ 1048576) {k : Nat} (hk : 1048577 ≤ k) : laws_eqIntS.f k x x = some true := by
  unfold laws_eqIntS.f
  rw [if_pos rfl]
  exact eqInts_loop x hx x.length k 0 (by omega) (by omega) (by omega)

def okAt (l : List Int) (i : Int) : Bool := decide ((1 ≤ rd l i ∧ rd l i ≤ 1893239999) ∧ (i > 0 → rd l (i - 1) + 604800 ≤ rd l i))

def leapsFrom (l : List Int) : Nat → Int → Bool
  | 0, _ => true
  | d + 1, i => okAt l i && leapsFrom l d (i + 1)

def vVL (l : List Int) : Bool := leapsFrom l l.length 0 && decide ((l.length : Int) ≤ 8)

theorem spec_leaps_loop (x : List Int) (hx : x.length ≤ 1048576) (d : Nat) : ∀ (k : Nat) (i : Int), 0 ≤ i → i + d = (x.length : Int) → d < k → (i > 0 → 1 ≤ rd x (i - 1) ∧ rd x (i - 1) ≤ 1893239999) → spec_validLeaps.l0 k x i = some (leapsFrom x d i && decide ((x.length : Int) ≤ 8)) := by
  induction d with
  | zero =>
    intro k i h0 h1 hk hp
    obtain ⟨k, rfl⟩ : ∃ m, k = m + 1 := ⟨k - 1, by omega⟩
    simp only [spec_validLeaps.l0]
    rw [if_neg (by omega)]
    simp [leapsFrom]
  | succ d ih =>
    intro k i h0 h1 hk hp
    obtain ⟨k, rfl⟩ : ∃ m, k = m + 1 := ⟨k - 1, by omega⟩
    simp only [spec_validLeaps.l0]
    rw [if_pos (by omega), if_pos h0, inRange_eq, Option.bind_some, ite_dec, w64 (n := i + 1) (by omega) (by omega), leapsFrom]
    by_cases h2 : 1 ≤ rd x i ∧ rd x i ≤ 1893239999
    · have hi := ih k (i + 1) (by omega) (by omega) (by omega) (fun _ => by rw [show i + 1 - 1 = i by omega]; exact h2)
      rw [if_pos h2, hi]
      by_cases h3 : i > 0
      · have hq := hp h3
        rw [if_pos h3, w64 (n := i - 1) (by omega) (by omega), if_pos (by omega), if_pos (by omega), w64 (by omega) (by omega)]
        by_cases h4 : rd x i < rd x (i - 1) + 604800
        · have e : okAt x i = false := by
            unfold okAt
            rw [decide_eq_false_iff_not]
            intro hh
            have := hh.2 h3
            omega
          rw [if_pos h4, e]
          rfl
        · have e : okAt x i = true := by
            unfold okAt
            rw [decide_eq_true_eq]
            exact ⟨h2, fun _ => by omega⟩
          rw [if_neg h4, e, Bool.true_and]
      · have e : okAt x i = true := by
          unfold okAt
          rw [decide_eq_true_eq]
          exact ⟨h2, fun hh => absurd hh h3⟩
        rw [if_neg h3, e, Bool.true_and]
    · have e : okAt x i = false := by
        unfold okAt
        rw [decide_eq_false_iff_not]
        exact fun hh => h2 hh.1
      rw [if_neg h2, e]
      rfl

theorem spec_validLeaps_eq {x : List Int} (hx : x.length ≤ 1048576) {k : Nat} (hk : 1048577 ≤ k) : spec_validLeaps.f k x = some (vVL x) := by
  unfold spec_validLeaps.f
  exact spec_leaps_loop x hx x.length k 0 (by omega) (by omega) (by omega) (fun h => by omega)

theorem impl_leaps_loop (x : List Int) (hx : x.length ≤ 1048576) (d : Nat) : ∀ (k : Nat) (i : Int), 0 ≤ i → i + d = (x.length : Int) → d < k → (i > 0 → 1 ≤ rd x (i - 1) ∧ rd x (i - 1) ≤ 1893239999) → impl_ValidLeaps.l0 k x x (x.length : Int) i = some (leapsFrom x d i && decide ((x.length : Int) ≤ 8)) := by
  induction d with
  | zero =>
    intro k i h0 h1 hk hp
    obtain ⟨k, rfl⟩ : ∃ m, k = m + 1 := ⟨k - 1, by omega⟩
    simp only [impl_ValidLeaps.l0]
    rw [if_neg (by omega)]
    simp [leapsFrom]
  | succ d ih =>
    intro k i h0 h1 hk hp
    obtain ⟨k, rfl⟩ : ∃ m, k = m + 1 := ⟨k - 1, by omega⟩
    simp only [impl_ValidLeaps.l0]
    rw [if_pos (by omega), if_pos h0, if_pos (by omega), within_eq, Option.bind_some, ite_dec, w64 (n := i + 1) (by omega) (by omega), leapsFrom]
    by_cases h2 : 1 ≤ rd x i ∧ rd x i ≤ 1893239999
    · have hi := ih k (i + 1) (by omega) (by omega) (by omega) (fun _ => by rw [show i + 1 - 1 = i by omega]; exact h2)
      rw [if_pos h2, hi]
      by_cases h3 : i > 0
      · have hq := hp h3
        rw [if_pos h3, w64 (n := i - 1) (by omega) (by omega), if_pos (by omega), if_pos (by omega), w64 (by omega) (by omega)]
        by_cases h4 : rd x i < rd x (i - 1) + 604800
        · have e : okAt x i = false := by
            unfold okAt
            rw [decide_eq_false_iff_not]
            intro hh
            have := hh.2 h3
            omega
          rw [if_pos h4, e]
          rfl
        · have e : okAt x i = true := by
            unfold okAt
            rw [decide_eq_true_eq]
            exact ⟨h2, fun _ => by omega⟩
          rw [if_neg h4, e, Bool.true_and]
      · have e : okAt x i = true := by
          unfold okAt
          rw [decide_eq_true_eq]
          exact ⟨h2, fun hh => absurd hh h3⟩
        rw [if_neg h3, e, Bool.true_and]
    · have e : okAt x i = false := by
        unfold okAt
        rw [decide_eq_false_iff_not]
        exact fun hh => h2 hh.1
      rw [if_neg h2, e]
      rfl

theorem impl_ValidLeaps_eq {x : List Int} (hx : x.length ≤ 1048576) {k : Nat} (hk : 1048577 ≤ k) : impl_ValidLeaps.f k x = some (vVL x) := by
  unfold impl_ValidLeaps.f
  exact impl_leaps_loop x hx x.length k 0 (by omega) (by omega) (by omega) (fun h => by omega)

theorem toInt_eq (b : Bool) : spec_toInt.f b = some (if b = true then 1 else 0) := by
  unfold spec_toInt.f
  cases b <;> rfl

theorem toInt_dec {p : Prop} [Decidable p] : (if decide p = true then (1 : Int) else 0) = if p then 1 else 0 := ite_dec

def has (l : List Int) (t : Int) : Nat → Int → Bool
  | 0, _ => false
  | d + 1, i => decide (rd l i = t) || has l t d (i + 1)

def vIn (l : List Int) (t : Int) : Bool := has l t l.length 0

theorem inLeap_loop (l : List Int) (hl : l.length ≤ 1048576) (t : Int) (d : Nat) : ∀ (k : Nat) (i : Int), 0 ≤ i → i + d = (l.length : Int) → d < k → spec_inLeap.l0 k l t i = some (has l t d i) := by
  induction d with
  | zero =>
    intro k i h0 h1 hk
    obtain ⟨k, rfl⟩ : ∃ m, k = m + 1 := ⟨k - 1, by omega⟩
    simp only [spec_inLeap.l0]
    rw [if_neg (by omega)]
    rfl
  | succ d ih =>
    intro k i h0 h1 hk
    obtain ⟨k, rfl⟩ : ∃ m, k = m + 1 := ⟨k - 1, by omega⟩
    simp only [spec_inLeap.l0]
    rw [if_pos (by omega), if_pos h0, w64 (n := i + 1) (by omega) (by omega), ih k (i + 1) (by omega) (by omega) (by omega), has]
    by_cases h : rd l i = t
    · rw [if_pos h, decide_eq_true h]; rfl
    · rw [if_neg h, decide_eq_false h]; rfl

theorem inLeap_eq {l : List Int} (hl : l.length ≤ 1048576) (t : Int) {k : Nat} (hk : 1048577 ≤ k) : spec_inLeap.f k l t = some (vIn l t) := by
  unfold spec_inLeap.f
  exact inLeap_loop l hl t l.length k 0 (by omega) (by omega) (by omega)

theorem index_loop (l : List Int) (hl : l.length ≤ 1048576) (t : Int) (d : Nat) : ∀ (k : Nat) (i : Int), 0 ≤ i → i + d = (l.length : Int) → d < k → ∃ r, slices_Index_int_int.l0 k l t (l.length : Int) i = some r ∧ decide (r ≥ 0) = has l t d i := by
  induction d with
  | zero =>
    intro k i h0 h1 hk
    obtain ⟨k, rfl⟩ : ∃ m, k = m + 1 := ⟨k - 1, by omega⟩
    simp only [slices_Index_int_int.l0]
    rw [if_neg (by omega)]
    exact ⟨-1, rfl, rfl⟩
  | succ d ih =>
    intro k i h0 h1 hk
    obtain ⟨k, rfl⟩ : ∃ m, k = m + 1 := ⟨k - 1, by omega⟩
    simp only [slices_Index_int_int.l0]
    rw [if_pos (by omega), if_pos h0, if_pos (by omega), w64 (n := i + 1) (by omega) (by omega), has]
    by_cases h : t = rd l i
    · rw [if_pos h, decide_eq_true h.symm]
      exact ⟨i, rfl, by rw [decide_eq_true (by omega)]; rfl⟩
    · obtain ⟨r, hr, he⟩ := ih k (i + 1) (by omega) (by omega) (by omega)
      rw [if_neg h, decide_eq_false (fun e => h e.symm)]
      exact ⟨r, hr, by rw [he]; rfl⟩

theorem contains_eq {l : List Int} (hl : l.length ≤ 1048576) (t : Int) {k : Nat} (hk : 1048577 ≤ k) : slices_Contains_int_int.f k l t = some (vIn l t) := by
  unfold slices_Contains_int_int.f slices_Index_int_int.f
  obtain ⟨r, hr, he⟩ := index_loop l hl t l.length k 0 (by omega) (by omega) (by omega)
  rw [hr, Option.bind_some, he]
  rfl

def cnt (l : List Int) (t : Int) : Nat → Int → Int
  | 0, _ => 0
  | d + 1, i => (if rd l i < t then 1 else 0) + cnt l t d (i + 1)

def vCnt (l : List Int) (t : Int) : Int := cnt l t l.length 0

theorem cnt_bd (l : List Int) (t : Int) (d : Nat) : ∀ i, 0 ≤ cnt l t d i ∧ cnt l t d i ≤ d := by
  induction d with
  | zero => intro i; simp [cnt]
  | succ d ih =>
    intro i
    have := ih (i + 1)
    rw [cnt]
    split <;> omega

theorem spec_cnt_loop (l : List Int) (hl : l.length ≤ 1048576) (t : Int) (d : Nat) : ∀ (k : Nat) (acc i : Int), 0 ≤ i → i + d = (l.length : Int) → d < k → 0 ≤ acc → acc ≤ i → spec_leapsBefore.l0 k l t acc i = some (acc + cnt l t d i) := by
  induction d with
  | zero =>
    intro k acc i h0 h1 hk h2 h3
    obtain ⟨k, rfl⟩ : ∃ m, k = m + 1 := ⟨k - 1, by omega⟩
    simp only [spec_leapsBefore.l0]
    rw [if_neg (by omega)]
    simp [cnt]
  | succ d ih =>
    intro k acc i h0 h1 hk h2 h3
    obtain ⟨k, rfl⟩ : ∃ m, k = m + 1 := ⟨k - 1, by omega⟩
    simp only [spec_leapsBefore.l0]
    rw [if_pos (by omega), if_pos h0, toInt_eq, Option.bind_some, toInt_dec, w64 (n := i + 1) (by omega) (by omega), cnt]
    by_cases h : rd l i < t
    · rw [if_pos h, w64 (by omega) (by omega), ih k (acc + 1) (i + 1) (by omega) (by omega) (by omega) (by omega) (by omega)]
      congr 1
      omega
    · rw [if_neg h, w64 (by omega) (by omega), ih k (acc + 0) (i + 1) (by omega) (by omega) (by omega) (by omega) (by omega)]
      congr 1
      omega

theorem spec_cnt_eq {l : List Int} (hl : l.length ≤ 1048576) (t : Int) {k : Nat} (hk : 1048577 ≤ k) : spec_leapsBefore.f k l t = some (vCnt l t) := by
  unfold spec_leapsBefore.f
  rw [spec_cnt_loop l hl t l.length k 0 0 (by omega) (by omega) (by omega) (by omega) (by omega), Int.zero_add]
  rfl

theorem impl_cnt_loop (l : List Int) (hl : l.length ≤ 1048576) (t : Int) (d : Nat) : ∀ (k : Nat) (acc i : Int), 0 ≤ i → i + d = (l.length : Int) → d < k → 0 ≤ acc → acc ≤ i → impl_leapsBefore.l0 k t acc l (l.length : Int) i = some (acc + cnt l t d i) := by
  induction d with
  | zero =>
    intro k acc i h0 h1 hk h2 h3
    obtain ⟨k, rfl⟩ : ∃ m, k = m + 1 := ⟨k - 1, by omega⟩
    simp only [impl_leapsBefore.l0]
    rw [if_neg (by omega)]
    simp [cnt]
  | succ d ih =>
    intro k acc i h0 h1 hk h2 h3
    obtain ⟨k, rfl⟩ : ∃ m, k = m + 1 := ⟨k - 1, by omega⟩
    simp only [impl_leapsBefore.l0]
    rw [if_pos (by omega), if_pos h0, if_pos (by omega), w64 (n := i + 1) (by omega) (by omega), cnt]
    by_cases h : rd l i < t
    · rw [if_pos h, if_pos h, w64 (by omega) (by omega), ih k (acc + 1) (i + 1) (by omega) (by omega) (by omega) (by omega) (by omega)]
      congr 1
      omega
    · rw [if_neg h, if_neg h, ih k acc (i + 1) (by omega) (by omega) (by omega) (by omega) (by omega)]
      congr 1
      omega

theorem impl_cnt_eq {l : List Int} (hl : l.length ≤ 1048576) (t : Int) {k : Nat} (hk : 1048577 ≤ k) : impl_leapsBefore.f k l t = some (vCnt l t) := by
  unfold impl_leapsBefore.f
  rw [impl_cnt_loop l hl t l.length k 0 0 (by omega) (by omega) (by omega) (by omega) (by omega), Int.zero_add]
  rfl

def civ (l : List Int) (t : Int) : Int := t - vCnt l t - (if vIn l t = true then 1 else 0)

theorem vCnt_bd (l : List Int) (t : Int) : 0 ≤ vCnt l t ∧ vCnt l t ≤ l.length := cnt_bd l t l.length 0

theorem impl_civilOf_eq {l : List Int} (hl : l.length ≤ 1048576) {t : Int} (h0 : -10 ≤ t) (h1 : t ≤ 4000000000) {k : Nat} (hk : 1048577 ≤ k) : impl_civilOf.f k l t = some (civ l t) := by
  unfold impl_civilOf.f civ
  have hb := vCnt_bd l t
  rw [impl_cnt_eq hl t hk, Option.bind_some, contains_eq hl t hk, Option.bind_some, w64 (n := t - vCnt l t) (by omega) (by omega)]
  by_cases h : vIn l t = true
  · rw [if_pos h, if_pos h, w64 (by omega) (by omega)]
  · rw [if_neg h, if_neg h, Int.sub_zero]

def sat (l : List Int) (c : Int) : Nat → Int → Int
  | 0, t => t
  | d + 1, t => if civ l t < c then sat l c d (t + 1) else t

theorem vVL_len {l : List Int} (h : vVL l = true) : l.length ≤ 8 := by
  unfold vVL at h
  rw [Bool.and_eq_true, decide_eq_true_eq] at h
  omega

theorem civ_bd {l : List Int} (h : vVL l = true) (t : Int) : t - 9 ≤ civ l t ∧ civ l t ≤ t := by
  have h8 := vVL_len h
  have hb := vCnt_bd l t
  unfold civ
  split <;> omega

theorem impl_sat_loop {l : List Int} (hv : vVL l = true) {c : Int} (h0 : 0 ≤ c) (h1 : c ≤ 1893239999) (d : Nat) : ∀ (k : Nat) (t : Int), c ≤ t → t + d = c + 9 → 1048577 + d < k → impl_SatelliteOf.l0 k l c t = some (sat l c d t) := by
  have h8 := vVL_len hv
  induction d with
  | zero =>
    intro k t h2 h3 hk
    obtain ⟨k, rfl⟩ : ∃ m, k = m + 1 := ⟨k - 1, by omega⟩
    have hb := civ_bd hv t
    simp only [impl_SatelliteOf.l0]
    rw [impl_civilOf_eq (by omega) (by omega) (by omega) (by omega), Option.bind_some, if_neg (by omega)]
    rfl
  | succ d ih =>
    intro k t h2 h3 hk
    obtain ⟨k, rfl⟩ : ∃ m, k = m + 1 := ⟨k - 1, by omega⟩
    simp only [impl_SatelliteOf.l0]
    rw [impl_civilOf_eq (by omega) (by omega) (by omega) (by omega), Option.bind_some, w64 (n := t + 1) (by omega) (by omega), ih k (t + 1) (by omega) (by omega) (by omega), sat]
    split <;> rfl

theorem spec_sat_loop {l : List Int} (hv : vVL l = true) {c : Int} (h0 : 0 ≤ c) (h1 : c ≤ 1893239999) (d : Nat) : ∀ (k : Nat) (t : Int), c ≤ t → t + d = c + 9 → 1048577 + d < k → spec_SatelliteOf.l0 k l c t = some (sat l c d t) := by
  have h8 := vVL_len hv
  have step : ∀ (k : Nat) (t : Int), 1048577 ≤ k → 0 ≤ t → t ≤ 4000000000 → spec_SatelliteOf.l0 (k + 1) l c t = if civ l t < c then spec_SatelliteOf.l0 k l c (wrap64 (t + 1)) else some t := by
    intro k t hk ht ht2
    have hb := vCnt_bd l t
    simp only [spec_SatelliteOf.l0]
    rw [spec_cnt_eq (by omega) t hk, inLeap_eq (by omega) t hk]
    simp only [Option.bind_some, toInt_eq]
    rw [w64 (n := t - vCnt l t) (by omega) (by omega), w64 (by split <;> omega) (by split <;> omega)]
    rfl
  induction d with
  | zero =>
    intro k t h2 h3 hk
    obtain ⟨k, rfl⟩ : ∃ m, k = m + 1 := ⟨k - 1, by omega⟩
    have hb := civ_bd hv t
    rw [step k t (by omega) (by omega) (by omega), if_neg (by omega)]
    rfl
  | succ d ih =>
    intro k t h2 h3 hk
    obtain ⟨k, rfl⟩ : ∃ m, k = m + 1 := ⟨k - 1, by omega⟩
    rw [step k t (by omega) (by omega) (by omega), w64 (n := t + 1) (by omega) (by omega), ih k (t + 1) (by omega) (by omega) (by omega), sat]
    split <;> rfl

def vSat (l : List Int) (c : Int) : Int := if vVL l = true ∧ 0 ≤ c ∧ c ≤ 1893239999 then sat l c 9 c else -1

theorem impl_SatelliteOf_eq {l : List Int} (hl : l.length ≤ 1048576) (c : Int) {k : Nat} (hk : 1048600 ≤ k) : impl_SatelliteOf.f k l c = some (vSat l c) := by
  obtain ⟨k, rfl⟩ : ∃ m, k = m + 1 := ⟨k - 1, by omega⟩
  unfold impl_SatelliteOf.f vSat
  rw [impl_ValidLeaps_eq hl (by omega), Option.bind_some, within_eq, Option.bind_some]
  simp only [impl_SatelliteOf.j0]
  by_cases h : vVL l = true
  · rw [if_pos h]
    by_cases h2 : 0 ≤ c ∧ c ≤ 1893239999
    · rw [decide_eq_true h2, if_pos (c := vVL l = true ∧ _) ⟨h, h2⟩, if_neg (by decide)]
      exact impl_sat_loop h h2.1 h2.2 9 k c (by omega) (by omega) (by omega)
    · rw [decide_eq_false h2, if_neg (c := vVL l = true ∧ _) (fun e => h2 e.2)]; rfl
  · rw [if_neg h, if_neg (c := vVL l = true ∧ _) (fun e => h e.1)]; rfl

theorem spec_SatelliteOf_eq {l : List Int} (hl : l.length ≤ 1048576) (c : Int) {k : Nat} (hk : 1048600 ≤ k) : spec_SatelliteOf.f k l c = some (vSat l c) := by
  obtain ⟨k, rfl⟩ : ∃ m, k = m + 1 := ⟨k - 1, by omega⟩
  unfold spec_SatelliteOf.f vSat
  rw [spec_validLeaps_eq hl (by omega), Option.bind_some, inRange_eq, Option.bind_some]
  simp only [spec_SatelliteOf.j0]
  by_cases h : vVL l = true
  · rw [if_pos h]
    by_cases h2 : 0 ≤ c ∧ c ≤ 1893239999
    · rw [decide_eq_true h2, if_pos (c := vVL l = true ∧ _) ⟨h, h2⟩, if_neg (by decide)]
      exact spec_sat_loop h h2.1 h2.2 9 k c (by omega) (by omega) (by omega)
    · rw [decide_eq_false h2, if_neg (c := vVL l = true ∧ _) (fun e => h2 e.2)]; rfl
  · rw [if_neg h, if_neg (c := vVL l = true ∧ _) (fun e => h e.1)]; rfl

theorem FnExactSatelliteOf : laws_FnExactSatelliteOf.Pure := by
  intro l t _ _ _ _
  refine ⟨1048600, ?_⟩
  unfold laws_FnExactSatelliteOf.f
  by_cases h : (l.length : Int) > 1048576
  · rw [if_pos h]
  · have h' : l.length ≤ 1048576 := by omega
    rw [if_neg h, toIntS_eq h' (by omega)]
    simp only [Option.bind_some]
    rw [spec_SatelliteOf_eq h' t (by omega), impl_SatelliteOf_eq h' t (by omega), eqIntS_eq h' (by omega)]
    simp

end Go.Proofs.Ytgllbobinbhojaa.Pure
