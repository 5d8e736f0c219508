/- Proved here, over numbers and lists alone: the law FnTimeAt answers true at every input (Times can be sent short. TimeAt of ShortWeek and SecondOfWeek from the week on is the time.) Conditions: none beyond the sizes that the row itself gives. -/
import Derived.Test.YtgllbobinbhojaaPFnTimeAtx2
namespace Go.Proofs.Ytgllbobinbhojaa.Pure
open Go.RowKit Go.Proofs.Ytgllbobinbhojaa.PFnTimeAt Go.Proofs.YtgllbobinbhojaaW.PrintWords Go.Proofs.YtgllbobinbhojaaW.PrintLast

theorem w64 {n : Int} (h0 : -9223372036854775808 ≤ n) (h1 : n ≤ 9223372036854775807) : wrap64 n = n := by unfold wrap64; omega

theorem tmodp {a : Int} (h : 0 ≤ a) (b : Int) : Int.tmod a b = a % b := Int.tmod_eq_emod_of_nonneg h

theorem tdivp {a : Int} (h : 0 ≤ a) (b : Int) : Int.tdiv a b = a / b := Int.tdiv_eq_ediv_of_nonneg h

theorem within_eq (n lo hi : Int) : impl_within.f n lo hi = some (decide (lo ≤ n ∧ n ≤ hi)) := by
  unfold impl_within.f
  by_cases h : lo ≤ n
  · rw [if_pos h]; simp [h]
  · rw [if_neg h]; simp [h]

theorem inRange_eq (n lo hi : Int) : spec_inRange.f n lo hi = some (decide (lo ≤ n ∧ n ≤ hi)) := by
  unfold spec_inRange.f
  by_cases h : lo ≤ n
  · rw [if_pos h]; simp [h]
  · rw [if_neg h]; simp [h]

theorem ite_dec {α : Type} {p : Prop} [Decidable p] {a b : α} : (if decide p = true then a else b) = if p then a else b := by
  by_cases h : p <;> simp [h]

theorem rd_mem (l : List Int) (i : Int) (h0 : 0 ≤ i) (h1 : i < (l.length : Int)) : rd l i ∈ l := by
  unfold rd
  have h : i.toNat < l.length := by omega
  rw [List.getD_eq_getElem?_getD, List.getElem?_eq_getElem h]
  exact List.getElem_mem h

theorem xor_nat (a b : Nat) (ha : a < 4611686018427387904) (hb : b < 4611686018427387904) : Go.bits .xor .i64 a b = ((a ^^^ b : Nat) : Int) ∧ a ^^^ b < 4611686018427387904 := by
  have hx : a ^^^ b < 2 ^ 62 := Nat.xor_lt_two_pow (by simpa using ha) (by simpa using hb)
  have hx' : a ^^^ b < 4611686018427387904 := by simpa using hx
  have e1 : IntKind.i64.bits = 64 := rfl
  have ha' : a % 2 ^ IntKind.i64.bits = a := Nat.mod_eq_of_lt (by rw [e1]; omega)
  have hb' : b % 2 ^ IntKind.i64.bits = b := Nat.mod_eq_of_lt (by rw [e1]; omega)
  refine ⟨?_, hx'⟩
  simp only [Go.bits, BitVec.ofInt_natCast, BitVec.toNat_xor, BitVec.toNat_ofNat, ha', hb']
  rw [IntKind.wrap_i64]
  omega

theorem xor_pos {x y : Int} (h0 : 0 ≤ x) (h1 : x < 4611686018427387904) (h2 : 0 ≤ y) (h3 : y < 4611686018427387904) : 0 ≤ Go.bits .xor .i64 x y := by
  obtain ⟨a, rfl⟩ := Int.eq_ofNat_of_zero_le h0
  obtain ⟨b, rfl⟩ := Int.eq_ofNat_of_zero_le h2
  rw [(xor_nat a b (by omega) (by omega)).1]
  omega

def Bytes (bs : List Int) : Prop := (∀ x, x ∈ bs → 0 ≤ x ∧ x ≤ 255) ∧ bs.length ≤ 2000

theorem newReader_eq (c : List Int) (h : ∀ x, x ∈ c → 0 ≤ x ∧ x ≤ 255) : ∃ bs, Bytes bs ∧ spec_newReader.f c = some (bs, 0) := by
  unfold spec_newReader.f
  by_cases hl : (c.length : Int) > 2000
  · refine ⟨c.take 2000, ⟨fun x hx => h x (List.mem_of_mem_take hx), by rw [List.length_take]; omega⟩, ?_⟩
    rw [if_pos hl, if_pos (by omega)]
  · exact ⟨c, ⟨h, by omega⟩, by rw [if_neg hl]⟩

theorem pick_eq {bs : List Int} (hb : Bytes bs) {k : Nat} (hk : 0 < k) {p n : Int} (hp : 0 ≤ p) (hp2 : p ≤ 1000000) (hn : 1 ≤ n) :
    ∃ v, spec_reader_pick.f k bs p n = some (v, p + 1) ∧ 0 ≤ v ∧ v < n := by
  obtain ⟨k, rfl⟩ : ∃ m, k = m + 1 := ⟨k - 1, by omega⟩
  obtain ⟨hb, hl⟩ := hb
  unfold spec_reader_pick.f
  rw [if_neg (by omega), w64 (n := p + 1) (by omega) (by omega)]
  simp only [spec_reader_pick.j0]
  have e1 : wrap64 (p + 1 - 1) = p := by unfold wrap64; omega
  rw [e1]
  have hn0 : ¬ n = 0 := by omega
  by_cases h0 : (bs.length : Int) = 0
  · rw [if_pos (by simpa using h0)]
    exact ⟨0, rfl, by omega, by omega⟩
  · rw [if_neg (by simpa using h0)]
    by_cases h1 : p < (bs.length : Int)
    · have hr := hb _ (rd_mem bs p hp h1)
      rw [if_pos h1, if_pos hp, if_neg hn0, w64 (n := rd bs p) (by omega) (by omega), tmodp hr.1]
      exact ⟨_, rfl, Int.emod_nonneg _ hn0, Int.emod_lt_of_pos _ (by omega)⟩
    · rw [if_neg h1, if_neg h0]
      have hL : (0 : Int) < bs.length := by omega
      have e7 : wrap64 (wrap64 (p * 7) + 3) = p * 7 + 3 := by unfold wrap64; omega
      rw [e7, tmodp hp, tmodp (a := p * 7 + 3) (by omega), tdivp hp]
      have a0 := Int.emod_nonneg p h0
      have a1 := Int.emod_lt_of_pos p hL
      have b0 := Int.emod_nonneg (p * 7 + 3) h0
      have b1 := Int.emod_lt_of_pos (p * 7 + 3) hL
      have hra := hb _ (rd_mem bs _ a0 a1)
      have hrb := hb _ (rd_mem bs _ b0 b1)
      have hd0 : 0 ≤ p / (bs.length : Int) := Int.ediv_nonneg hp (by omega)
      have hd1 : p / (bs.length : Int) ≤ p := Int.ediv_le_self _ hp
      rw [if_pos a0, if_pos a1, if_pos b0, if_pos b1, if_neg hn0]
      generalize rd bs (p % (bs.length : Int)) = ra at hra
      generalize rd bs ((p * 7 + 3) % (bs.length : Int)) = rb at hrb
      generalize p / (bs.length : Int) = q at hd0 hd1
      have ex : wrap64 (wrap64 (wrap64 (wrap64 (wrap64 ra * 131) + wrap64 (wrap64 rb * 1117)) + wrap64 (p * 29)) + wrap64 (wrap64 q * 53)) = ra * 131 + rb * 1117 + p * 29 + q * 53 := by
        unfold wrap64; omega
      rw [ex]
      generalize hx : ra * 131 + rb * 1117 + p * 29 + q * 53 = x
      have hx0 : 0 ≤ x := by omega
      have hx1 : x < 1000000000 := by omega
      rw [tdivp hx0, w64 (n := x / 64) (by omega) (by omega)]
      have hz := xor_pos hx0 (by omega) (y := x / 64) (by omega) (by omega)
      rw [tmodp hz]
      exact ⟨_, rfl, Int.emod_nonneg _ hn0, Int.emod_lt_of_pos _ (by omega)⟩

theorem one_eq {bs : List Int} (hb : Bytes bs) {k : Nat} (hk : 0 < k) {p : Int} (hp : 0 ≤ p) (hp2 : p ≤ 1000000) (l : List Int) (hl : 1 ≤ (l.length : Int)) :
    ∃ v, spec_reader_one.f k bs p l = some (v, p + 1) ∧ v ∈ l := by
  obtain ⟨v, hv, h0, h1⟩ := pick_eq hb hk hp hp2 hl
  unfold spec_reader_one.f
  rw [hv, Option.bind_some, if_pos h0, if_pos h1]
  exact ⟨_, rfl, rd_mem _ _ h0 h1⟩

def Tells {α : Type} (Q : α → Prop) (o : Option α) : Prop := ∃ r, o = some r ∧ Q r

theorem Tells.some {α : Type} {Q : α → Prop} {a : α} (h : Q a) : Tells Q (some a) := ⟨a, rfl, h⟩

theorem Tells.bind {α β : Type} {R : α → Prop} {Q : β → Prop} {o : Option α} {f : α → Option β} (h : Tells R o) (g : ∀ a, R a → Tells Q (f a)) : Tells Q (o.bind f) := by
  obtain ⟨a, rfl, ha⟩ := h
  exact g a ha

theorem Tells.bind2 {α β γ : Type} {R : α × β → Prop} {Q : γ → Prop} {o : Option (α × β)} {f : α × β → Option γ} (h : Tells R o) (g : ∀ a b, R (a, b) → Tells Q (f (a, b))) : Tells Q (o.bind f) := by
  obtain ⟨⟨a, b⟩, rfl, ha⟩ := h
  exact g a b ha

theorem Tells.ite {α : Type} {Q : α → Prop} {c : Prop} [Decidable c] {a b : Option α} (h : c → Tells Q a) (g : ¬ c → Tells Q b) : Tells Q (if c then a else b) := by
  by_cases e : c
  · rw [if_pos e]; exact h e
  · rw [if_neg e]; exact g e

theorem Tells.mono {α : Type} {Q R : α → Prop} {o : Option α} (h : Tells Q o) (g : ∀ a, Q a → R a) : Tells R o := by
  obtain ⟨a, ha, hq⟩ := h
  exact ⟨a, ha, g a hq⟩

theorem Tells.yes {o : Option Bool} (h : Tells (fun b => b = true) o) : o = Option.some true := by
  obtain ⟨a, ha, rfl⟩ := h
  exact ha

theorem Tells.eq {α : Type} {Q : α → Prop} {o : Option α} {a : α} (e : o = Option.some a) (h : Q a) : Tells Q o := ⟨a, e, h⟩

theorem pick_t {bs : List Int} (hb : Bytes bs) {k : Nat} (hk : 0 < k) {p n : Int} (hp : 0 ≤ p) (hp2 : p ≤ 1000000) (hn : 1 ≤ n) :
    Tells (fun r => r.2 = p + 1 ∧ 0 ≤ r.1 ∧ r.1 < n) (spec_reader_pick.f k bs p n) := by
  obtain ⟨v, hv, h0, h1⟩ := pick_eq hb hk hp hp2 hn
  exact ⟨_, hv, rfl, h0, h1⟩

theorem one_t {bs : List Int} (hb : Bytes bs) {k : Nat} (hk : 0 < k) {p : Int} (hp : 0 ≤ p) (hp2 : p ≤ 1000000) {l : List Int} (hl : 1 ≤ l.length) :
    Tells (fun r => r.2 = p + 1 ∧ r.1 ∈ l) (spec_reader_one.f k bs p l) := by
  obtain ⟨v, hv, h0⟩ := one_eq hb hk hp hp2 l (by omega)
  exact ⟨_, hv, rfl, h0⟩

theorem newReader_t {c : List Int} (h : ∀ x, x ∈ c → 0 ≤ x ∧ x ≤ 255) : Tells (fun r => r.2 = 0 ∧ Bytes r.1) (spec_newReader.f c) := by
  obtain ⟨bs, hb, e⟩ := newReader_eq c h
  exact ⟨_, e, rfl, hb⟩

def vFW (s f : Int) : Int := if (0 ≤ s ∧ s ≤ 1023) ∧ 0 ≤ f ∧ f ≤ 6000 then f + (s - f % 1024 + 1024) % 1024 else -1

theorem fw_arith {s f : Int} (h : 0 ≤ s ∧ s ≤ 1023) (h2 : 0 ≤ f ∧ f ≤ 6000) : wrap64 (f + Int.tmod (wrap64 (wrap64 (s - Int.tmod f 1024) + 1024)) 1024) = f + (s - f % 1024 + 1024) % 1024 := by
  rw [tmodp h2.1, w64 (n := s - f % 1024) (by omega) (by omega), w64 (n := s - f % 1024 + 1024) (by omega) (by omega), tmodp (by omega), w64 (by omega) (by omega)]

theorem impl_FullWeek_eq (s f : Int) : impl_FullWeek.f s f = some (vFW s f) := by
  unfold impl_FullWeek.f vFW
  rw [within_eq, Option.bind_some, ite_dec, within_eq, Option.bind_some, ite_dec]
  by_cases h : 0 ≤ s ∧ s ≤ 1023
  · rw [if_pos h]
    by_cases h2 : 0 ≤ f ∧ f ≤ 6000
    · rw [if_pos h2, if_pos ⟨h, h2⟩, fw_arith h h2]
    · rw [if_neg h2, if_neg (fun e => h2 e.2)]
  · rw [if_neg h, if_neg (fun e => h e.1)]

theorem isTime_eq (t : Int) : impl_isTime.f t = some (decide (0 ≤ t ∧ t ≤ 3786479999)) := by
  unfold impl_isTime.f
  rw [within_eq, Option.bind_some]

theorem validTime_eq (t : Int) : spec_validTime.f t = some (decide (0 ≤ t ∧ t ≤ 3786479999)) := by
  unfold spec_validTime.f
  rw [inRange_eq, Option.bind_some]

def vWeek (t : Int) : Int := if 0 ≤ t ∧ t ≤ 3786479999 then t / 604800 else -1

def vSec (t : Int) : Int := if 0 ≤ t ∧ t ≤ 3786479999 then t % 604800 else -1

def vShort (t : Int) : Int := if 0 ≤ t ∧ t ≤ 3786479999 then t / 604800 % 1024 else -1

theorem impl_WeekOf_eq (t : Int) : impl_WeekOf.f t = some (vWeek t) := by
  unfold impl_WeekOf.f vWeek
  rw [isTime_eq, Option.bind_some, ite_dec]
  by_cases h : 0 ≤ t ∧ t ≤ 3786479999
  · rw [if_pos h, if_pos h, tdivp h.1, w64 (by omega) (by omega)]
  · rw [if_neg h, if_neg h]

theorem impl_SecondOfWeek_eq (t : Int) : impl_SecondOfWeek.f t = some (vSec t) := by
  unfold impl_SecondOfWeek.f vSec
  rw [isTime_eq, Option.bind_some, ite_dec]
  by_cases h : 0 ≤ t ∧ t ≤ 3786479999
  · rw [if_pos h, if_pos h, tmodp h.1]
  · rw [if_neg h, if_neg h]

theorem spec_ShortWeek_eq (t : Int) : spec_ShortWeek.f t = some (vShort t) := by
  unfold spec_ShortWeek.f vShort
  rw [validTime_eq, Option.bind_some, ite_dec]
  by_cases h : 0 ≤ t ∧ t ≤ 3786479999
  · rw [if_pos h, if_pos h, tdivp h.1, w64 (by omega) (by omega), tmodp (by omega)]
  · rw [if_neg h, if_neg h]

theorem impl_ShortWeek_eq (t : Int) : impl_ShortWeek.f t = some (vShort t) := by
  unfold impl_ShortWeek.f vShort
  rw [isTime_eq, Option.bind_some, ite_dec]
  by_cases h : 0 ≤ t ∧ t ≤ 3786479999
  · rw [if_pos h, if_pos h, tdivp h.1, w64 (by omega) (by omega), tmodp (by omega)]
  · rw [if_neg h, if_neg h]

def vTime (s n f : Int) : Int := if 0 ≤ vFW s f ∧ (0 ≤ n ∧ n ≤ 604799) ∧ vFW s f * 604800 + n ≤ 3786479999 then vFW s f * 604800 + n else -1

theorem vFW_bd (s f : Int) : -1 ≤ vFW s f ∧ vFW s f ≤ 7100 := by unfold vFW; split <;> omega

theorem impl_TimeAt_eq (s n f : Int) : impl_TimeAt.f s n f = some (vTime s n f) := by
  have hb := vFW_bd s f
  unfold impl_TimeAt.f vTime
  rw [impl_FullWeek_eq, Option.bind_some]
  generalize vFW s f = w at hb
  by_cases h : w < 0
  · rw [if_pos h, if_neg (by omega)]
  · rw [if_neg h, within_eq, Option.bind_some, ite_dec]
    by_cases h2 : 0 ≤ n ∧ n ≤ 604799
    · have e : wrap64 (wrap64 (w * 604800) + n) = w * 604800 + n := by
        rw [w64 (n := w * 604800) (by omega) (by omega), w64 (by omega) (by omega)]
      rw [if_pos h2, e, isTime_eq, Option.bind_some, ite_dec]
      by_cases h3 : 0 ≤ w * 604800 + n ∧ w * 604800 + n ≤ 3786479999
      · rw [if_pos h3, if_pos ⟨by omega, h2, h3.2⟩]
      · rw [if_neg h3, if_neg (by omega)]
    · rw [if_neg h2, if_neg (by omega)]

theorem wf8 {l : List Int} (h : ∀ x ∈ l, (Lit.int .u8 x).wf = true) : ∀ x, x ∈ l → 0 ≤ x ∧ x ≤ 255 := by
  intro x hx
  have := h x hx
  simp [Lit.wf, IntKind.min, IntKind.max, IntKind.signed, IntKind.bits] at this
  omega

theorem someTime_t {bs : List Int} (hb : Bytes bs) {k : Nat} (hk : 0 < k) {p : Int} (hp : 0 ≤ p) (hp2 : p ≤ 900000) : Tells (fun r => p ≤ r.2 ∧ r.2 ≤ p + 3) (spec_someTime.f k bs p) := by
  unfold spec_someTime.f
  refine (pick_t hb hk hp (by omega) (by omega)).bind2 ?_
  rintro a q ⟨rfl, h0, h1⟩
  dsimp only
  refine Tells.ite (fun _ => ?_) (fun _ => Tells.ite (fun _ => ?_) (fun _ => ?_))
  · refine (one_t hb hk (by omega) (by omega) (by simp)).bind2 ?_
    rintro b q ⟨rfl, _⟩
    exact Tells.some (by dsimp only; omega)
  · refine (pick_t hb hk (by omega) (by omega) (by omega)).bind2 ?_
    rintro b q ⟨rfl, _, _⟩
    exact Tells.some (by dsimp only; omega)
  · refine (pick_t hb hk (by omega) (by omega) (by omega)).bind2 ?_
    rintro b q ⟨rfl, _, _⟩
    dsimp only
    refine (pick_t hb hk (by omega) (by omega) (by omega)).bind2 ?_
    rintro b q ⟨rfl, _, _⟩
    exact Tells.some (by dsimp only; omega)

theorem anyTime_t {bs : List Int} (hb : Bytes bs) {k : Nat} (hk : 0 < k) {p : Int} (hp : 0 ≤ p) (hp2 : p ≤ 800000) : Tells (fun r => p ≤ r.2 ∧ r.2 ≤ p + 4) (spec_anyTime.f k bs p) := by
  unfold spec_anyTime.f
  refine (pick_t hb hk hp (by omega) (by omega)).bind2 ?_
  rintro a q ⟨rfl, h0, h1⟩
  dsimp only
  refine Tells.ite (fun _ => ?_) (fun _ => ?_)
  · refine (one_t hb hk (by omega) (by omega) (by simp)).bind2 ?_
    rintro b q ⟨rfl, _⟩
    exact Tells.some (by dsimp only; omega)
  · refine (someTime_t hb hk (by omega) (by omega)).bind2 ?_
    rintro b q ⟨h2, h3⟩
    dsimp only at h2 h3
    exact Tells.some (by dsimp only; omega)

theorem DrawShortWeek_t {c : List Int} (hc : ∀ x, x ∈ c → 0 ≤ x ∧ x ≤ 255) {k : Nat} (hk : 0 < k) : Tells (fun _ => True) (spec_DrawShortWeek.f k c) := by
  unfold spec_DrawShortWeek.f
  refine (newReader_t hc).bind2 ?_
  rintro bs p ⟨rfl, (hb : Bytes bs)⟩
  refine (anyTime_t hb hk (by omega) (by omega)).bind2 ?_
  rintro a q _
  exact Tells.some trivial

theorem FnTimeAt : laws_FnTimeAt.Pure := by
  intro l _ _ hw
  refine ⟨2000000, Tells.yes ?_⟩
  unfold laws_FnTimeAt.f
  refine Tells.ite (fun _ => Tells.some rfl) (fun hl => ?_)
  refine (DrawShortWeek_t (wf8 hw) (by omega)).bind (fun t _ => ?_)
  rw [impl_ShortWeek_eq, Option.bind_some, spec_ShortWeek_eq, Option.bind_some, if_pos rfl]
  have hT : laws_FnTimeAt.j0 2000000 t (vShort t) true = some true := by
    simp only [laws_FnTimeAt.j0, spec_ShortWeek_eq, Option.bind_some]
    simp
  refine Tells.ite (fun _ => Tells.eq hT rfl) (fun hn => ?_)
  rw [impl_WeekOf_eq, Option.bind_some]
  by_cases hc : vWeek t > 6000
  · rw [decide_eq_true hc]
    exact Tells.eq hT rfl
  · rw [decide_eq_false hc]
    have h : 0 ≤ t ∧ t ≤ 3786479999 := by
      unfold vShort at hn
      split at hn
      · assumption
      · omega
    have v0 : vWeek t = t / 604800 := if_pos h
    have v1 : vShort t = t / 604800 % 1024 := if_pos h
    have v2 : vSec t = t % 604800 := if_pos h
    rw [v0] at hc
    have e1 : wrap64 (t / 604800 - 1000) = t / 604800 - 1000 := w64 (by omega) (by omega)
    simp only [laws_FnTimeAt.j0, impl_WeekOf_eq, impl_SecondOfWeek_eq, impl_TimeAt_eq, Option.bind_some]
    rw [if_neg (by decide), v0, v1, v2, e1]
    have hw1 : vFW (t / 604800 % 1024) (t / 604800) = t / 604800 := by
      unfold vFW
      rw [if_pos (by omega)]
      omega
    have hw2 : vFW (t / 604800 % 1024) (mx 0 (t / 604800 - 1000)) = t / 604800 := by
      have hm : 0 ≤ mx 0 (t / 604800 - 1000) ∧ mx 0 (t / 604800 - 1000) ≤ 6000 ∧ t / 604800 - 1000 ≤ mx 0 (t / 604800 - 1000) ∧ mx 0 (t / 604800 - 1000) ≤ t / 604800 := by
        unfold mx
        split <;> omega
      generalize mx 0 (t / 604800 - 1000) = g at hm
      unfold vFW
      rw [if_pos (by omega)]
      omega
    have ht1 : vTime (t / 604800 % 1024) (t % 604800) (t / 604800) = t := by
      unfold vTime
      rw [hw1, if_pos (by omega)]
      omega
    have ht2 : vTime (t / 604800 % 1024) (t % 604800) (mx 0 (t / 604800 - 1000)) = t := by
      unfold vTime
      rw [hw2, if_pos (by omega)]
      omega
    rw [ht1, ht2, if_pos rfl]
    exact Tells.some (by simp)

end Go.Proofs.Ytgllbobinbhojaa.Pure
