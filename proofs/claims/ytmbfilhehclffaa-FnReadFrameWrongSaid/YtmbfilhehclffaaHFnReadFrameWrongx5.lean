/- Proved here: what the Go functions that the law reaches answer, for every input at which their Lean twins answer. Conditions: those that each theorem states. Written by a program of this session (mend.py), out of the text that the kit's print makes for the law. -/
import Derived.Test.YtmbfilhehclffaaHFnReadFrameWrongx0
import Derived.Test.YtmbfilhehclffaaHFnReadFrameWrongx3
import Derived.Test.YtmbfilhehclffaaHFnReadFrameWrongx4
namespace Go.Proofs.Ytmbfilhehclffaa.HFnReadFrameWrong
open Go.RowKit Go.Proofs.YtmbfilhehclffaaW.PrintWords Go.Proofs.YtmbfilhehclffaaW.PrintLast Go.Proofs.YtmbfilhehclffaaW.PrintMore
attribute [local go_sem] max2_int min2_int max_two min_two max_three min_three max_four min_four   -- for this text's walks alone
set_option linter.unusedVariables false
set_option linter.unusedSimpArgs false

/-! ### laws_FnReadFrameWrong: function 8 -/
def laws_FnReadFrameWrong.j0 : Nat → List Int → ByteArray → ByteArray → Bool → ByteArray → Bool → Bool → Option (Bool)
  | 0, _, _, _, _, _, _, _ => none
  | k + 1, x0, x3, x4, x5, x6, x7, x38 => if x38 = true then (if x4.toList = x6.toList then (some (x5 == x7)) else (some false)) else (if (x4.size : Int) = 0 then (none) else (if 0 ≤ (wrap64 (1 + ((x0.length : Int) % (x4.size : Int)))) then (if (wrap64 (1 + ((x0.length : Int) % (x4.size : Int)))) < (x3.size : Int) then (if (bt x3 (wrap64 (1 + ((x0.length : Int) % (x4.size : Int))))) = 97 then (if (wrap64 (1 + ((x0.length : Int) % (x4.size : Int)))) ≤ (x3.size : Int) then ((some (([98] : List Int) : List Int)).bind fun y184 => (if (x3.extract 0 ((wrap64 (1 + ((x0.length : Int) % (x4.size : Int)))) : Int).toNat).size + (strOfNums y184).size ≤ 9223372036854775807 then (if 0 ≤ (wrap64 ((wrap64 (1 + ((x0.length : Int) % (x4.size : Int)))) + 1)) then (if (wrap64 ((wrap64 (1 + ((x0.length : Int) % (x4.size : Int)))) + 1)) ≤ (x3.size : Int) then (if ((x3.extract 0 ((wrap64 (1 + ((x0.length : Int) % (x4.size : Int)))) : Int).toNat) ++ (strOfNums y184)).size + (x3.extract ((wrap64 ((wrap64 (1 + ((x0.length : Int) % (x4.size : Int)))) + 1)) : Int).toNat x3.size).size ≤ 9223372036854775807 then ((impl_ReadFrame.f k (((x3.extract 0 ((wrap64 (1 + ((x0.length : Int) % (x4.size : Int)))) : Int).toNat) ++ (strOfNums y184)) ++ (x3.extract ((wrap64 ((wrap64 (1 + ((x0.length : Int) % (x4.size : Int)))) + 1)) : Int).toNat x3.size))).bind fun bt187 => (some (!bt187.2))) else (none)) else (none)) else (none)) else (none))) else (none)) else (if (wrap64 (1 + ((x0.length : Int) % (x4.size : Int)))) ≤ (x3.size : Int) then ((some (([97] : List Int) : List Int)).bind fun y189 => (if (x3.extract 0 ((wrap64 (1 + ((x0.length : Int) % (x4.size : Int)))) : Int).toNat).size + (strOfNums y189).size ≤ 9223372036854775807 then (if 0 ≤ (wrap64 ((wrap64 (1 + ((x0.length : Int) % (x4.size : Int)))) + 1)) then (if (wrap64 ((wrap64 (1 + ((x0.length : Int) % (x4.size : Int)))) + 1)) ≤ (x3.size : Int) then (if ((x3.extract 0 ((wrap64 (1 + ((x0.length : Int) % (x4.size : Int)))) : Int).toNat) ++ (strOfNums y189)).size + (x3.extract ((wrap64 ((wrap64 (1 + ((x0.length : Int) % (x4.size : Int)))) + 1)) : Int).toNat x3.size).size ≤ 9223372036854775807 then ((impl_ReadFrame.f k (((x3.extract 0 ((wrap64 (1 + ((x0.length : Int) % (x4.size : Int)))) : Int).toNat) ++ (strOfNums y189)) ++ (x3.extract ((wrap64 ((wrap64 (1 + ((x0.length : Int) % (x4.size : Int)))) + 1)) : Int).toNat x3.size))).bind fun bt192 => (some (!bt192.2))) else (none)) else (none)) else (none)) else (none))) else (none))) else (none)) else (none)))
def laws_FnReadFrameWrong.f (k : Nat) (l0 : List Int) : Option (Bool) := if (l0.length : Int) > 1048576 then (some true) else ((spec_DrawReadFrame.f k l0).bind fun t179 => ((impl_ReadFrame.f k t179).bind fun bt180 => ((spec_ReadFrame.f k t179).bind fun bt182 => (if bt180.1.toList = bt182.1.toList then (if (bt180.2 != bt182.2) = true then (laws_FnReadFrameWrong.j0 k l0 t179 bt180.1 bt180.2 bt182.1 bt182.2 true) else (laws_FnReadFrameWrong.j0 k l0 t179 bt180.1 bt180.2 bt182.1 bt182.2 (!bt180.2))) else (laws_FnReadFrameWrong.j0 k l0 t179 bt180.1 bt180.2 bt182.1 bt182.2 true)))))
theorem laws_FnReadFrameWrong.mono_l : ∀ k, (∀ y0 y1 y2 y3 y4 y5 y6, LeO (laws_FnReadFrameWrong.j0 k y0 y1 y2 y3 y4 y5 y6) (laws_FnReadFrameWrong.j0 (k + 1) y0 y1 y2 y3 y4 y5 y6))
  | 0 => fun _ _ _ _ _ _ _ r h => by simp [laws_FnReadFrameWrong.j0] at h
  | k + 1 => by
    have ih0 := laws_FnReadFrameWrong.mono_l k
    · intro y0 y1 y2 y3 y4 y5 y6
      unfold laws_FnReadFrameWrong.j0
      repeat' first
      | (with_reducible exact ih0 _ _ _ _ _ _ _)
      | (with_reducible exact impl_ReadFrame.mono _ _)
      | (with_reducible exact spec_DrawReadFrame.mono _ _)
      | (with_reducible exact spec_ReadFrame.mono _ _)
      | (with_reducible exact LeO.refl _)
      | (with_reducible exact LeO.none _)
      | (with_reducible refine LeO.ite ?_ ?_)
      | (with_reducible refine LeO.bind ?_ (fun _ => ?_))
      | exact ih0 _ _ _ _ _ _ _
      | exact impl_ReadFrame.mono _ _
      | exact spec_DrawReadFrame.mono _ _
      | exact spec_ReadFrame.mono _ _
      | exact LeO.none _
      | refine LeO.ite ?_ ?_
      | refine LeO.bind ?_ (fun _ => ?_)
theorem laws_FnReadFrameWrong.mono : ∀ a0 k, LeO (laws_FnReadFrameWrong.f k a0) (laws_FnReadFrameWrong.f (k + 1) a0) := by
  intro a0 k
  have ih0 := laws_FnReadFrameWrong.mono_l k
  unfold laws_FnReadFrameWrong.f
  repeat' first
      | (with_reducible exact ih0 _ _ _ _ _ _ _)
      | (with_reducible exact impl_ReadFrame.mono _ _)
      | (with_reducible exact spec_DrawReadFrame.mono _ _)
      | (with_reducible exact spec_ReadFrame.mono _ _)
      | (with_reducible exact LeO.refl _)
      | (with_reducible exact LeO.none _)
      | (with_reducible refine LeO.ite ?_ ?_)
      | (with_reducible refine LeO.bind ?_ (fun _ => ?_))
      | exact ih0 _ _ _ _ _ _ _
      | exact impl_ReadFrame.mono _ _
      | exact spec_DrawReadFrame.mono _ _
      | exact spec_ReadFrame.mono _ _
      | exact LeO.none _
      | refine LeO.ite ?_ ?_
      | refine LeO.bind ?_ (fun _ => ?_)
def laws_FnReadFrameWrong.T12 : Bool × List (List Nat × List Nat) := (true, [([], []), ([], []), ([0, 1], [0, 1]), ([], []), ([3], [3]), ([4], [4]), ([2, 5], [2, 5]), ([], []), ([], []), ([8], [8]), ([7, 9], [7, 9]), ([6, 10], [6, 10]), ([11], [11]), ([12], [12]), ([13], [13]), ([13], [13]), ([14, 12, 0, 1, 2, 3, 4, 5, 6, 7, 8, 9, 10, 11, 12, 13, 14], [14]), ([15, 16, 0, 1, 2, 3, 4, 5, 6, 7, 8, 9, 10, 11, 12, 13, 14, 15, 16], [15])])
def laws_FnReadFrameWrong.B12 : List Nat := [0, 0, 3, 0, 8, 24, 63, 0, 0, 256, 896, 2047, 4095, 8191, 16383, 16383, 32767, 131071]
theorem laws_FnReadFrameWrong.tab12 : rtab .any (opsOf Try.f8 12) = laws_FnReadFrameWrong.T12 := by kernel_rfl
theorem laws_FnReadFrameWrong.bits12 : waitsOk laws_FnReadFrameWrong.T12.2 laws_FnReadFrameWrong.B12 = true := by kernel_rfl
set_option maxHeartbeats 8000000 in
set_option maxRecDepth 100000 in
theorem laws_FnReadFrameWrong.calls (k : Nat) (A0 : Option Addr) (c0 : Nat) (l0 : List Int) (r : Bool) (w : World) (hr0 : Kd.C (Kd.int .u8) w A0 l0.length l0) (hc0 : l0.length ≤ c0) (h : laws_FnReadFrameWrong.f k l0 = some r) :
    Calls Try.prog 8 #[.slice A0 l0.length c0] w fun e w' => e = .returned (.bool r) ∧ Below w.heap.size w w' := by
  have HR0 := Aside0.mk hr0
  have HC0 := Aside0.mk hc0
  clear hr0 hc0
  have HB := Aside0.mk (Below.refl w.heap.size w)
  have H : (if (l0.length : Int) > 1048576 then (some true) else ((spec_DrawReadFrame.f k l0).bind fun t179 => ((impl_ReadFrame.f k t179).bind fun bt180 => ((spec_ReadFrame.f k t179).bind fun bt182 => (if bt180.1.toList = bt182.1.toList then (if (bt180.2 != bt182.2) = true then (laws_FnReadFrameWrong.j0 k l0 t179 bt180.1 bt180.2 bt182.1 bt182.2 true) else (laws_FnReadFrameWrong.j0 k l0 t179 bt180.1 bt180.2 bt182.1 bt182.2 (!bt180.2))) else (laws_FnReadFrameWrong.j0 k l0 t179 bt180.1 bt180.2 bt182.1 bt182.2 true)))))) = some r := h
  clear h
  by_cases c2 : (l0.length : Int) > 1048576
  · rw [if_pos c2] at H
    have c2b0 : decide (1048576 < (l0.length : Int)) = true := decide_eq_true c2
    have c2b1 : decide (1048576 < l0.length) = true := decide_eq_true (by omega)
    clear c2
    obtain rfl := Option.some.inj H
    go_enter Try.func8, Try.ntmps8
    go_wp2
    go_ret
    exact ⟨by first | rfl | (simp [errW_none, errW_some] <;> rfl) | (simp [*, errW_none, errW_some] <;> rfl) | (refine congrArg (fun b_ => Ending.returned (Value.bool b_)) (decide_eq_decide.2 ?_); unfold wrap64; omega), by repeat (first | (with_reducible first | exact HB.out | apply below_alloc | apply pw_below_drewN | apply below_drew1) | exact HB.out)⟩
  · rw [if_neg c2] at H
    have c2b0 : decide (1048576 < (l0.length : Int)) = false := decide_eq_false c2
    have c2b1 : decide (1048576 < l0.length) = false := decide_eq_false (by omega)
    clear c2
    replace H := Option.bind_eq_some_iff.mp H
    obtain ⟨t179, A30, H⟩ := H
    replace H : ((impl_ReadFrame.f k t179).bind fun bt180 => ((spec_ReadFrame.f k t179).bind fun bt182 => (if bt180.1.toList = bt182.1.toList then (if (bt180.2 != bt182.2) = true then (laws_FnReadFrameWrong.j0 k l0 t179 bt180.1 bt180.2 bt182.1 bt182.2 true) else (laws_FnReadFrameWrong.j0 k l0 t179 bt180.1 bt180.2 bt182.1 bt182.2 (!bt180.2))) else (laws_FnReadFrameWrong.j0 k l0 t179 bt180.1 bt180.2 bt182.1 bt182.2 true)))) = some r := H
    have A3 := Aside0.mk A30
    clear A30
    replace H := Option.bind_eq_some_iff.mp H
    obtain ⟨⟨t180, t181⟩, A40, H⟩ := H
    replace H : ((spec_ReadFrame.f k t179).bind fun bt182 => (if t180.toList = bt182.1.toList then (if (t181 != bt182.2) = true then (laws_FnReadFrameWrong.j0 k l0 t179 t180 t181 bt182.1 bt182.2 true) else (laws_FnReadFrameWrong.j0 k l0 t179 t180 t181 bt182.1 bt182.2 (!t181))) else (laws_FnReadFrameWrong.j0 k l0 t179 t180 t181 bt182.1 bt182.2 true))) = some r := H
    have A4 := Aside0.mk A40
    clear A40
    replace H := Option.bind_eq_some_iff.mp H
    obtain ⟨⟨t182, t183⟩, A50, H⟩ := H
    replace H : (if t180.toList = t182.toList then (if (t181 != t183) = true then (laws_FnReadFrameWrong.j0 k l0 t179 t180 t181 t182 t183 true) else (laws_FnReadFrameWrong.j0 k l0 t179 t180 t181 t182 t183 (!t181))) else (laws_FnReadFrameWrong.j0 k l0 t179 t180 t181 t182 t183 true)) = some r := H
    have A5 := Aside0.mk A50
    clear A50
    have HC6 := Aside0.mk H
    clear H
    go_enter Try.func8, Try.ntmps8
    go_upto_region 6 with (first | ((with_reducible refine gate_callee (f := 15) rfl ?_); refine goesL_ (some 16) rfl rfl Try.func15 (by kernel_rfl) rfl #[.slice A0 l0.length c0] rfl (by (try simp only [List.map_toArray, List.map_cons, List.map_nil]); first | done | rfl | (simp only [List.length_drop, List.length_take]; rfl)) ?_; (with_reducible refine (spec_DrawReadFrame.calls k _ _ l0 t179 _ ?side1 ?side2 A3.out).mono ?_); (case side1 => repeat (first | exact HR0.out | (with_reducible refine Kd.C_alloc ?_ _) | (with_reducible refine Kd.C_drewN ?_ _) | (with_reducible refine Kd.C_drew ?_))); (case side2 => exact HC0.out); rintro e w7 ⟨rfl, hb⟩; refine ⟨_, rfl, ?_⟩; have n0_ := Aside0.mk (below_step (by repeat (first | (with_reducible first | exact HB.out | apply below_alloc | apply pw_below_drewN | apply below_drew1) | exact HB.out)) hb); clear HB; have HB := n0_; clear n0_; (try clear hb); (try clear hb2); (try clear hk); (try clear hi)) | ((with_reducible refine gate_callee (f := 16) rfl ?_); refine goesL_ (some 19) rfl rfl Try.func16 (by kernel_rfl) rfl #[.string t179] rfl (by (try simp only [List.map_toArray, List.map_cons, List.map_nil]); first | done | rfl | (simp only [List.length_drop, List.length_take]; rfl)) ?_; (with_reducible refine (impl_ReadFrame.calls k t179 t180 t181 _ A4.out).mono ?_); rintro e w' ⟨rfl, ⟨nd, rfl⟩⟩; refine ⟨_, rfl, ?_⟩) | ((with_reducible refine gate_callee (f := 17) rfl ?_); refine goesL_ (some 24) rfl rfl Try.func17 (by kernel_rfl) rfl #[.string t179] rfl (by (try simp only [List.map_toArray, List.map_cons, List.map_nil]); first | done | rfl | (simp only [List.length_drop, List.length_take]; rfl)) ?_; (with_reducible refine (spec_ReadFrame.calls k t179 t182 t183 _ A5.out).mono ?_); rintro e w' ⟨rfl, ⟨nd, rfl⟩⟩; refine ⟨_, rfl, ?_⟩))
    (try simp only [Act.put, List.setIfInBounds_toArray, List.set_cons_zero, List.set_cons_succ])
    go_cut [38] (fun v38 wc => ∃ (kq : Nat) (x38_5 : Bool), v38 = .bool x38_5 ∧ Aside0 (laws_FnReadFrameWrong.j0 kq l0 t179 t180 t181 t182 t183 x38_5 = some r) ∧ Aside0 (kq ≤ k) ∧ Aside0 (Below w.heap.size w wc))
    case first =>
      have H := HC6.out
      clear HC6
      by_cases c8 : t180.toList = t182.toList
      · rw [if_pos c8] at H
        have c8b0 : (t180.toList == t182.toList) = true := beq_iff_eq.mpr c8
        have c8b1 : (t180.toList != t182.toList) = false := bne_eq_false_iff_eq.mpr c8
        clear c8
        (first | rw [c8b0] | (simp only [i64_w, i32_w]; rw [c8b0]) | skip)
        by_cases c9 : (t181 != t183) = true
        · rw [if_pos c9] at H
          have c9b0 : (t181 != t183) = true := c9
          (try (have c9b1 : decide (t181 = t183) = false := by simpa using c9))
          (try (have c9b2 : (t181 == t183) = false := by simpa using c9))
          (try (have c9b3 : ¬ (t181 = t183) := by simpa using c9))
          clear c9
          have H' := Aside0.mk H
          clear H
          go_wp2
          go_meet
          case rel => exact ⟨_, (true), (by first | rfl | (simp; done) | (simp [*]; done)), H', ⟨by first | omega | exact Nat.le_refl _⟩, ⟨by repeat (first | (with_reducible first | exact HB.out | apply below_alloc | apply pw_below_drewN | apply below_drew1) | exact HB.out)⟩⟩
        · rw [if_neg c9] at H
          have c9b0 : (t181 != t183) = false := by simpa using c9
          (try (have c9b1 : decide (t181 = t183) = true := by simpa using c9))
          (try (have c9b2 : (t181 == t183) = true := by simpa using c9))
          clear c9
          have H' := Aside0.mk H
          clear H
          go_wp2
          go_meet
          case rel => exact ⟨_, (!t181), (by first | rfl | (simp; done) | (simp [*]; done)), H', ⟨by first | omega | exact Nat.le_refl _⟩, ⟨by repeat (first | (with_reducible first | exact HB.out | apply below_alloc | apply pw_below_drewN | apply below_drew1) | exact HB.out)⟩⟩
      · rw [if_neg c8] at H
        have c8b0 : (t180.toList == t182.toList) = false := beq_eq_false_iff_ne.mpr c8
        have c8b1 : (t180.toList != t182.toList) = true := bne_iff_ne.mpr c8
        (first | rw [c8b0] | (simp only [i64_w, i32_w]; rw [c8b0]) | skip)
        have H' := Aside0.mk H
        clear H
        go_wp2
        go_meet
        case rel => exact ⟨_, (true), (by first | rfl | (simp; done) | (simp [*]; done)), H', ⟨by first | omega | exact Nat.le_refl _⟩, ⟨by repeat (first | (with_reducible first | exact HB.out | apply below_alloc | apply pw_below_drewN | apply below_drew1) | exact HB.out)⟩⟩
    case rest =>
      clear HC6
      try clear c1
      try clear c2
      try clear c2b0
      try clear c2b1
      try clear p2
      try clear c8
      try clear c8b0
      try clear c8b1
      try clear c9
      try clear c9b0
      try clear c9b1
      try clear c9b2
      obtain ⟨kq, x38_5, rfl, HA, HJ5, HB⟩ := hcut
      cases kq with
      | zero => exact absurd HA.out (by simp [laws_FnReadFrameWrong.j0])
      | succ kj5 =>
        have H := HA.out
        clear HA
        simp only [laws_FnReadFrameWrong.j0] at H
        by_cases c10 : x38_5 = true
        · subst c10
          have H1 : (if t180.toList = t182.toList then (some (t181 == t183)) else (some false)) = some r := by rw [if_pos rfl] at H; exact H
          clear H
          have H := H1
          clear H1
          by_cases c11 : t180.toList = t182.toList
          · rw [if_pos c11] at H
            have c11b0 : (t180.toList == t182.toList) = true := beq_iff_eq.mpr c11
            have c11b1 : (t180.toList != t182.toList) = false := bne_eq_false_iff_eq.mpr c11
            clear c11
            obtain rfl := Option.some.inj H
            go_wp2
            go_ret
            exact ⟨by first | rfl | (simp [errW_none, errW_some] <;> rfl) | (simp [*, errW_none, errW_some] <;> rfl) | (refine congrArg (fun b_ => Ending.returned (Value.bool b_)) (decide_eq_decide.2 ?_); unfold wrap64; omega), by repeat (first | (with_reducible first | exact HB.out | apply below_alloc | apply pw_below_drewN | apply below_drew1) | exact HB.out)⟩
          · rw [if_neg c11] at H
            have c11b0 : (t180.toList == t182.toList) = false := beq_eq_false_iff_ne.mpr c11
            have c11b1 : (t180.toList != t182.toList) = true := bne_iff_ne.mpr c11
            obtain rfl := Option.some.inj H
            go_wp2
            go_ret
            exact ⟨by first | rfl | (simp [errW_none, errW_some] <;> rfl) | (simp [*, errW_none, errW_some] <;> rfl) | (refine congrArg (fun b_ => Ending.returned (Value.bool b_)) (decide_eq_decide.2 ?_); unfold wrap64; omega), by repeat (first | (with_reducible first | exact HB.out | apply below_alloc | apply pw_below_drewN | apply below_drew1) | exact HB.out)⟩
        · replace c10 := Bool.eq_false_iff.mpr c10
          subst c10
          have H1 : (if (t180.size : Int) = 0 then (none) else (if 0 ≤ (wrap64 (1 + ((l0.length : Int) % (t180.size : Int)))) then (if (wrap64 (1 + ((l0.length : Int) % (t180.size : Int)))) < (t179.size : Int) then (if (bt t179 (wrap64 (1 + ((l0.length : Int) % (t180.size : Int))))) = 97 then (if (wrap64 (1 + ((l0.length : Int) % (t180.size : Int)))) ≤ (t179.size : Int) then ((some (([98] : List Int) : List Int)).bind fun y184 => (if (t179.extract 0 ((wrap64 (1 + ((l0.length : Int) % (t180.size : Int)))) : Int).toNat).size + (strOfNums y184).size ≤ 9223372036854775807 then (if 0 ≤ (wrap64 ((wrap64 (1 + ((l0.length : Int) % (t180.size : Int)))) + 1)) then (if (wrap64 ((wrap64 (1 + ((l0.length : Int) % (t180.size : Int)))) + 1)) ≤ (t179.size : Int) then (if ((t179.extract 0 ((wrap64 (1 + ((l0.length : Int) % (t180.size : Int)))) : Int).toNat) ++ (strOfNums y184)).size + (t179.extract ((wrap64 ((wrap64 (1 + ((l0.length : Int) % (t180.size : Int)))) + 1)) : Int).toNat t179.size).size ≤ 9223372036854775807 then ((impl_ReadFrame.f kj5 (((t179.extract 0 ((wrap64 (1 + ((l0.length : Int) % (t180.size : Int)))) : Int).toNat) ++ (strOfNums y184)) ++ (t179.extract ((wrap64 ((wrap64 (1 + ((l0.length : Int) % (t180.size : Int)))) + 1)) : Int).toNat t179.size))).bind fun bt187 => (some (!bt187.2))) else (none)) else (none)) else (none)) else (none))) else (none)) else (if (wrap64 (1 + ((l0.length : Int) % (t180.size : Int)))) ≤ (t179.size : Int) then ((some (([97] : List Int) : List Int)).bind fun y189 => (if (t179.extract 0 ((wrap64 (1 + ((l0.length : Int) % (t180.size : Int)))) : Int).toNat).size + (strOfNums y189).size ≤ 9223372036854775807 then (if 0 ≤ (wrap64 ((wrap64 (1 + ((l0.length : Int) % (t180.size : Int)))) + 1)) then (if (wrap64 ((wrap64 (1 + ((l0.length : Int) % (t180.size : Int)))) + 1)) ≤ (t179.size : Int) then (if ((t179.extract 0 ((wrap64 (1 + ((l0.length : Int) % (t180.size : Int)))) : Int).toNat) ++ (strOfNums y189)).size + (t179.extract ((wrap64 ((wrap64 (1 + ((l0.length : Int) % (t180.size : Int)))) + 1)) : Int).toNat t179.size).size ≤ 9223372036854775807 then ((impl_ReadFrame.f kj5 (((t179.extract 0 ((wrap64 (1 + ((l0.length : Int) % (t180.size : Int)))) : Int).toNat) ++ (strOfNums y189)) ++ (t179.extract ((wrap64 ((wrap64 (1 + ((l0.length : Int) % (t180.size : Int)))) + 1)) : Int).toNat t179.size))).bind fun bt192 => (some (!bt192.2))) else (none)) else (none)) else (none)) else (none))) else (none))) else (none)) else (none))) = some r := by rw [if_neg (show ¬ (false = true) by decide)] at H; exact H
          clear H
          have H := H1
          clear H1
          by_cases c12 : (t180.size : Int) = 0
          · rw [if_pos c12] at H
            exact absurd H (by simp)
          · rw [if_neg c12] at H
            have c12b0 : ((t180.size : Int) == 0) = false := beq_eq_false_iff_ne.mpr c12
            have c12b1 : ((t180.size : Int) != 0) = true := bne_iff_ne.mpr c12
            obtain ⟨ji13, hji13⟩ : ∃ j_ : Int, (wrap64 (1 + ((l0.length : Int) % (t180.size : Int)))) = j_ := ⟨_, rfl⟩
            replace H : (if 0 ≤ (ji13) then (if (ji13) < (t179.size : Int) then (if (bt t179 (ji13)) = 97 then (if (ji13) ≤ (t179.size : Int) then ((some (([98] : List Int) : List Int)).bind fun y184 => (if (t179.extract 0 ((ji13) : Int).toNat).size + (strOfNums y184).size ≤ 9223372036854775807 then (if 0 ≤ (wrap64 ((ji13) + 1)) then (if (wrap64 ((ji13) + 1)) ≤ (t179.size : Int) then (if ((t179.extract 0 ((ji13) : Int).toNat) ++ (strOfNums y184)).size + (t179.extract ((wrap64 ((ji13) + 1)) : Int).toNat t179.size).size ≤ 9223372036854775807 then ((impl_ReadFrame.f kj5 (((t179.extract 0 ((ji13) : Int).toNat) ++ (strOfNums y184)) ++ (t179.extract ((wrap64 ((ji13) + 1)) : Int).toNat t179.size))).bind fun bt187 => (some (!bt187.2))) else (none)) else (none)) else (none)) else (none))) else (none)) else (if (ji13) ≤ (t179.size : Int) then ((some (([97] : List Int) : List Int)).bind fun y189 => (if (t179.extract 0 ((ji13) : Int).toNat).size + (strOfNums y189).size ≤ 9223372036854775807 then (if 0 ≤ (wrap64 ((ji13) + 1)) then (if (wrap64 ((ji13) + 1)) ≤ (t179.size : Int) then (if ((t179.extract 0 ((ji13) : Int).toNat) ++ (strOfNums y189)).size + (t179.extract ((wrap64 ((ji13) + 1)) : Int).toNat t179.size).size ≤ 9223372036854775807 then ((impl_ReadFrame.f kj5 (((t179.extract 0 ((ji13) : Int).toNat) ++ (strOfNums y189)) ++ (t179.extract ((wrap64 ((ji13) + 1)) : Int).toNat t179.size))).bind fun bt192 => (some (!bt192.2))) else (none)) else (none)) else (none)) else (none))) else (none))) else (none)) else (none)) = some r := by first | (rw [hji13] at H; exact H) | (simp only [hji13] at H ⊢; exact H)
            have hji13w : (IntKind.i64.wrap (1 + ((l0.length : Int) % (t180.size : Int)))) = ji13 := (i64_w _).trans hji13
            by_cases c14 : 0 ≤ (ji13)
            · rw [if_pos c14] at H
              have c14b0 : decide (0 ≤ (ji13)) = true := decide_eq_true c14
              clear c14
              by_cases c15 : (ji13) < (t179.size : Int)
              · rw [if_pos c15] at H
                have c15b0 : decide ((ji13) < (t179.size : Int)) = true := decide_eq_true c15
                clear c15
                by_cases c17 : (bt t179 (ji13)) = 97
                · rw [if_pos c17] at H
                  have c17b0 : ((bt t179 (ji13)) == 97) = true := beq_iff_eq.mpr c17
                  have c17b1 : ((bt t179 (ji13)) != 97) = false := bne_eq_false_iff_eq.mpr c17
                  clear c17
                  have c18b0 := eq_true (of_decide_eq_true (by first | (with_reducible assumption) | assumption) : 0 ≤ (ji13))
                  by_cases c19 : (ji13) ≤ (t179.size : Int)
                  · rw [if_pos c19] at H
                    have c19b0 := eq_true c19
                    have c19b1 : decide ((ji13) ≤ (t179.size : Int)) = true := decide_eq_true c19
                    clear c19
                    obtain ⟨y184, hy184⟩ : ∃ y_ : List Int, y_ = (([98] : List Int)) := ⟨_, rfl⟩
                    replace H : (if (t179.extract 0 ((ji13) : Int).toNat).size + (strOfNums y184).size ≤ 9223372036854775807 then (if 0 ≤ (wrap64 ((ji13) + 1)) then (if (wrap64 ((ji13) + 1)) ≤ (t179.size : Int) then (if ((t179.extract 0 ((ji13) : Int).toNat) ++ (strOfNums y184)).size + (t179.extract ((wrap64 ((ji13) + 1)) : Int).toNat t179.size).size ≤ 9223372036854775807 then ((impl_ReadFrame.f kj5 (((t179.extract 0 ((ji13) : Int).toNat) ++ (strOfNums y184)) ++ (t179.extract ((wrap64 ((ji13) + 1)) : Int).toNat t179.size))).bind fun bt187 => (some (!bt187.2))) else (none)) else (none)) else (none)) else (none)) = some r := by first | (rw [hy184]; with_reducible exact H) | (have H2_ := (Option.bind_some _ _).symm.trans H; rw [hy184]; with_reducible exact H2_) | (have H2_ := (Option.bind_some _ _).symm.trans H; with_reducible exact H2_) | with_reducible exact H | (rw [hy184]; exact H) | exact H
                    have Ny184 := Aside0.mk hy184
                    clear hy184
                    by_cases c20 : (t179.extract 0 ((ji13) : Int).toNat).size + (strOfNums y184).size ≤ 9223372036854775807
                    · rw [if_pos c20] at H
                      have c20b0 := eq_true c20
                      have c20b1 : decide ((t179.extract 0 ((ji13) : Int).toNat).size + (strOfNums y184).size ≤ 9223372036854775807) = true := decide_eq_true c20
                      try have c20b2 : (9223372036854775807 < (t179.extract 0 ((ji13) : Int).toNat).size + (strOfNums y184).size) = False := eq_false (Nat.not_lt.2 c20)
                      have c20b4 : (9223372036854775807 < ji13.toNat + (strOfNums y184).size) = False := eq_false (by have hz := c20; simp only [ByteArray.size_append, ByteArray.size_extract] at hz; have h8 := of_eq_true c19b0; omega)
                      try (have c20b3 := c20; simp only [ByteArray.size_append', ByteArray.size_mk', List.size_toArray, List.length_cons, List.length_nil, Nat.reduceAdd, Nat.zero_add] at c20b3; replace c20b3 := eq_false (Nat.not_lt.2 c20b3))
                      obtain ⟨ji21, hji21⟩ : ∃ j_ : Int, (wrap64 ((ji13) + 1)) = j_ := ⟨_, rfl⟩
                      replace H : (if 0 ≤ (ji21) then (if (ji21) ≤ (t179.size : Int) then (if ((t179.extract 0 ((ji13) : Int).toNat) ++ (strOfNums y184)).size + (t179.extract ((ji21) : Int).toNat t179.size).size ≤ 9223372036854775807 then ((impl_ReadFrame.f kj5 (((t179.extract 0 ((ji13) : Int).toNat) ++ (strOfNums y184)) ++ (t179.extract ((ji21) : Int).toNat t179.size))).bind fun bt187 => (some (!bt187.2))) else (none)) else (none)) else (none)) = some r := by first | (rw [hji21] at H; exact H) | (simp only [hji21] at H ⊢; exact H)
                      have hji21w : (IntKind.i64.wrap ((ji13) + 1)) = ji21 := (i64_w _).trans hji21
                      by_cases c22 : 0 ≤ (ji21)
                      · rw [if_pos c22] at H
                        have c22b0 := eq_true c22
                        have c22b1 : decide (0 ≤ (ji21)) = true := decide_eq_true c22
                        clear c22
                        by_cases c23 : (ji21) ≤ (t179.size : Int)
                        · rw [if_pos c23] at H
                          have c23b0 := eq_true c23
                          have c23b1 : decide ((ji21) ≤ (t179.size : Int)) = true := decide_eq_true c23
                          clear c23
                          by_cases c24 : ((t179.extract 0 ((ji13) : Int).toNat) ++ (strOfNums y184)).size + (t179.extract ((ji21) : Int).toNat t179.size).size ≤ 9223372036854775807
                          · rw [if_pos c24] at H
                            have c24b0 := eq_true c24
                            have c24b1 : decide (((t179.extract 0 ((ji13) : Int).toNat) ++ (strOfNums y184)).size + (t179.extract ((ji21) : Int).toNat t179.size).size ≤ 9223372036854775807) = true := decide_eq_true c24
                            try have c24b2 : (9223372036854775807 < ((t179.extract 0 ((ji13) : Int).toNat) ++ (strOfNums y184)).size + (t179.extract ((ji21) : Int).toNat t179.size).size) = False := eq_false (Nat.not_lt.2 c24)
                            have c24b4 : (9223372036854775807 < ji13.toNat + (strOfNums y184).size + (t179.size - ji21.toNat)) = False := eq_false (by have hz := c24; simp only [ByteArray.size_append, ByteArray.size_extract] at hz; have h8 := of_eq_true c19b0; omega)
                            try (have c24b3 := c24; simp only [ByteArray.size_append', ByteArray.size_mk', List.size_toArray, List.length_cons, List.length_nil, Nat.reduceAdd, Nat.zero_add] at c24b3; replace c24b3 := eq_false (Nat.not_lt.2 c24b3))
                            replace H := Option.bind_eq_some_iff.mp H
                            obtain ⟨⟨t187, t188⟩, A250, H⟩ := H
                            replace H : (some (!t188)) = some r := H
                            have A25 := Aside0.mk A250
                            clear A250
                            obtain rfl := Option.some.inj H
                            have p16 : 0 ≤ ((ji13) : Int) := of_decide_eq_true (by first | (with_reducible assumption) | assumption)
                            have q16 : (ji13) < (t179.size : Int) := of_decide_eq_true (by first | (with_reducible assumption) | assumption)
                            have hx16 := bt_at t179 (ji13)
                            replace p16 := eq_true p16
                            replace q16 := eq_true q16
                            try go_wp2
                            have n0_ := Aside0.mk (below_drew1 HB.out)
                            clear HB
                            have HB := n0_
                            clear n0_
                            refine start_ (n := 18) (S := fun w' => True) (ds := []) #[false, false, false, false, false, false, false, false, false, false, false, false, false, false, false, false, false, false] (by kernel_rfl) rfl rfl trivial (fun hHeld => ?_); refine with_tabW laws_FnReadFrameWrong.tab12 laws_FnReadFrameWrong.bits12 (fun HT_ HW_ => ?_)
                            generalize wc.drew = w26 at HB hHeld ⊢
                            refine pure_ (i := 0) (N := some 59) (v := ?_) (a' := ?_) #[true, false, false, false, false, false, false, false, false, false, false, false, false, false, false, false, false, false] rfl rfl (any_of HT_.out (by kernel_rfl)) (fun _ _ _ h => h) (Or.inl ⟨by rfl, ?_⟩) ?_ ?_
                            rotate_left
                            · intro w'
                              go_simp
                              with_reducible rfl
                            rotate_left
                            · simp only [Act.put, List.setIfInBounds_toArray, List.set_cons_zero, List.set_cons_succ, i64_w, i32_w]
                              rfl
                            refine pure_ (i := 1) (N := some 60) (v := ?_) (a' := ?_) #[true, true, false, false, false, false, false, false, false, false, false, false, false, false, false, false, false, false] rfl rfl (any_of HT_.out (by kernel_rfl)) (fun _ _ _ h => h) (Or.inl ⟨by rfl, ?_⟩) ?_ ?_
                            rotate_left
                            · intro w'
                              go_simp
                              with_reducible rfl
                            rotate_left
                            · simp only [Act.put, List.setIfInBounds_toArray, List.set_cons_zero, List.set_cons_succ, i64_w, i32_w]
                              rfl
                            refine pure_ (i := 2) (N := some 61) (v := ?_) (a' := ?_) #[true, true, true, false, false, false, false, false, false, false, false, false, false, false, false, false, false, false] rfl rfl (any_of HT_.out (by kernel_rfl)) (fun _ _ _ h => h) (Or.inl ⟨by rfl, ?_⟩) ?_ ?_
                            rotate_left
                            · intro w'
                              go_simp
                              with_reducible rfl
                            rotate_left
                            · simp only [Act.put, List.setIfInBounds_toArray, List.set_cons_zero, List.set_cons_succ, i64_w, i32_w]
                              rfl
                            refine pure_ (i := 3) (N := some 62) (v := ?_) (a' := ?_) #[true, true, true, true, false, false, false, false, false, false, false, false, false, false, false, false, false, false] rfl rfl (any_of HT_.out (by kernel_rfl)) (fun _ _ _ h => h) (Or.inl ⟨by rfl, ?_⟩) ?_ ?_
                            rotate_left
                            · intro w'
                              go_simp
                              with_reducible rfl
                            rotate_left
                            · simp only [Act.put, List.setIfInBounds_toArray, List.set_cons_zero, List.set_cons_succ, i64_w, i32_w]
                              rfl
                            refine pure_ (i := 7) (N := some 66) (v := ?_) (a' := ?_) #[true, true, true, true, false, false, false, true, false, false, false, false, false, false, false, false, false, false] rfl rfl (any_of HT_.out (by kernel_rfl)) (fun _ _ _ h => h) (Or.inl ⟨by rfl, ?_⟩) ?_ ?_
                            rotate_left
                            · intro w'
                              go_simp
                              with_reducible rfl
                            rotate_left
                            · simp only [Act.put, List.setIfInBounds_toArray, List.set_cons_zero, List.set_cons_succ, i64_w, i32_w]
                              rfl
                            refine pure_ (i := 8) (N := some 67) (v := ?_) (a' := ?_) #[true, true, true, true, false, false, false, true, true, false, false, false, false, false, false, false, false, false] rfl rfl (any_of HT_.out (by kernel_rfl)) (fun _ _ _ h => h) (Or.inl ⟨by rfl, ?_⟩) ?_ ?_
                            rotate_left
                            · intro w'
                              go_simp
                              with_reducible rfl
                            rotate_left
                            · simp only [Act.put, List.setIfInBounds_toArray, List.set_cons_zero, List.set_cons_succ, i64_w, i32_w]
                              rfl
                            refine pure_ (i := 9) (N := some 68) (v := ?_) (a' := ?_) #[true, true, true, true, false, false, false, true, true, true, false, false, false, false, false, false, false, false] rfl rfl (any_of HT_.out (by kernel_rfl)) (fun _ _ _ h => h) (Or.inl ⟨by rfl, ?_⟩) ?_ ?_
                            rotate_left
                            · intro w'
                              go_simp
                              with_reducible rfl
                            rotate_left
                            · simp only [Act.put, List.setIfInBounds_toArray, List.set_cons_zero, List.set_cons_succ, i64_w, i32_w]
                              rfl
                            refine pure_ (i := 10) (N := some 69) (v := ?_) (a' := ?_) #[true, true, true, true, false, false, false, true, true, true, true, false, false, false, false, false, false, false] rfl rfl (any_of HT_.out (by kernel_rfl)) (fun _ _ _ h => h) (Or.inl ⟨by rfl, ?_⟩) ?_ ?_
                            rotate_left
                            · intro w'
                              go_simp
                              with_reducible rfl
                            rotate_left
                            · simp only [Act.put, List.setIfInBounds_toArray, List.set_cons_zero, List.set_cons_succ, i64_w, i32_w]
                              rfl
                            refine one_ (i := 4) (N := some 63) #[true, true, true, true, true, false, false, true, true, true, true, false, false, false, false, false, false, false] rfl rfl (one_of HT_.out (by kernel_rfl)) (by decide) (fun K hK => ?_)
                            refine Kd.R_lit_step (Kd.int .u8) _ 5 ?hg (N := 63) ?hd (xs := ([98] : List Int)) (inner := [.int .u8 98]) (ok := fun _ => True) (okp := fun _ => True) ?hr ?hp (fun _ hk => hk) trivial (Below.refl _ _) (Nat.le_refl _) (by simp) ?_; (case hd => rfl); (case hg => rfl); (case hr => first | (go_simp; done) | (go_simp; rfl)); (case hp => exact (Reps.one (show Kd.M (Kd.int .u8) _ _ _ 98 [.int .u8 98] from rfl) (Reps.none _ _)))
                            intro v185 w27 ho28 hb hg_ hnew_
                            clear hg_ hnew_
                            (first | rw [← Ny184.out] at ho28 | (simp only [Int.reduceToNat] at ho28; rw [← Ny184.out] at ho28))
                            have n0_ := Aside0.mk (Kd.R_lower ho28 (below_size (by repeat (first | (with_reducible first | exact HB.out | apply below_alloc | apply pw_below_drewN | apply below_drew1) | exact HB.out))))
                            have n1_ := Aside0.mk (below_step (by repeat (first | (with_reducible first | exact HB.out | apply below_alloc | apply pw_below_drewN | apply below_drew1) | exact HB.out)) hb)
                            clear HB
                            have HO186 := n0_
                            have HB := n1_
                            clear n0_ n1_
                            clear hb ho28
                            refine hK.out _ _ trivial (fun hHeld => ?_)
                            clear hK K
                            refine norm_ (a' := ?_) ?_ ?_
                            rotate_left
                            · show Act.put _ (some 63) _ = _
                              simp only [Act.put, List.setIfInBounds_toArray, List.set_cons_zero, List.set_cons_succ, i64_w, i32_w]
                              rfl
                            refine one_ (i := 5) (N := some 64) #[true, true, true, true, true, true, false, true, true, true, true, false, false, false, false, false, false, false] rfl rfl (one_of HT_.out (by kernel_rfl)) (by decide) (fun K hK => ?_)
                            have hcv29 := own_string (P := Try.prog) Try.underlying22 Try.underlying5 Try.underlying9 (Kd.own_of_R HO186.out)
                            refine value_ (w1 := ?_) (v := ?_) (by rfl) rfl ?_ ?_
                            rotate_left 2
                            · go_simp
                              constructor
                              · rfl
                              · rfl
                            clear hcv29
                            refine hK.out _ _ trivial (fun hHeld => ?_)
                            clear hK K
                            refine norm_ (a' := ?_) ?_ ?_
                            rotate_left
                            · show Act.put _ (some 64) _ = _
                              simp only [Act.put, List.setIfInBounds_toArray, List.set_cons_zero, List.set_cons_succ, i64_w, i32_w]
                              rfl
                            refine pure_ (i := 6) (N := some 65) (v := ?_) (a' := ?_) #[true, true, true, true, true, true, true, true, true, true, true, false, false, false, false, false, false, false] rfl rfl (any_of HT_.out (by kernel_rfl)) (fun _ _ _ h => h) (Or.inl ⟨by rfl, ?_⟩) ?_ ?_
                            rotate_left
                            · intro w'
                              go_simp
                              with_reducible rfl
                            rotate_left
                            · simp only [Act.put, List.setIfInBounds_toArray, List.set_cons_zero, List.set_cons_succ, i64_w, i32_w]
                              rfl
                            refine pure_ (i := 11) (N := some 70) (v := ?_) (a' := ?_) #[true, true, true, true, true, true, true, true, true, true, true, true, false, false, false, false, false, false] rfl rfl (any_of HT_.out (by kernel_rfl)) (fun _ _ _ h => h) (Or.inl ⟨by rfl, ?_⟩) ?_ ?_
                            rotate_left
                            · intro w'
                              go_simp
                              with_reducible rfl
                            rotate_left
                            · simp only [Act.put, List.setIfInBounds_toArray, List.set_cons_zero, List.set_cons_succ, i64_w, i32_w]
                              rfl
                            refine one_ (i := 12) (N := some 71) #[true, true, true, true, true, true, true, true, true, true, true, true, true, false, false, false, false, false] rfl rfl (one_of HT_.out (by kernel_rfl)) (by decide) (fun K hK => ?_)
                            refine goes_ Try.func16 (by kernel_rfl) rfl #[.string (((t179.extract 0 ((ji13) : Int).toNat) ++ (strOfNums y184)) ++ (t179.extract ((ji21) : Int).toNat t179.size))] (by rfl) rfl rfl (by (try simp only [List.map_toArray, List.map_cons, List.map_nil]); first | done | (simp only [hji13, hji21]; rfl) | rfl | (simp only [List.length_drop, List.length_take]; rfl)) ?_
                            with_reducible refine (impl_ReadFrame.calls kj5 (((t179.extract 0 ((ji13) : Int).toNat) ++ (strOfNums y184)) ++ (t179.extract ((ji21) : Int).toNat t179.size)) t187 t188 _ A25.out).mono ?_
                            rintro e w' ⟨rfl, ⟨nd, rfl⟩⟩
                            refine ⟨_, rfl, ?_⟩
                            refine hK.out _ _ trivial (fun hHeld => ?_)
                            clear hK K
                            refine norm_ (a' := ?_) ?_ ?_
                            rotate_left
                            · show Act.put _ (some 71) _ = _
                              simp only [Act.put, List.setIfInBounds_toArray, List.set_cons_zero, List.set_cons_succ, i64_w, i32_w]
                              rfl
                            refine pure_ (i := 13) (N := some 58) (v := ?_) (a' := ?_) #[true, true, true, true, true, true, true, true, true, true, true, true, true, true, false, false, false, false] rfl rfl (any_of HT_.out (by kernel_rfl)) (fun _ _ _ h => h) (Or.inl ⟨by rfl, ?_⟩) ?_ ?_
                            rotate_left
                            · intro w'
                              go_simp
                              with_reducible rfl
                            rotate_left
                            · simp only [Act.put, List.setIfInBounds_toArray, List.set_cons_zero, List.set_cons_succ, i64_w, i32_w]
                              rfl
                            refine pure_ (i := 14) (N := some 72) (v := ?_) (a' := ?_) #[true, true, true, true, true, true, true, true, true, true, true, true, true, true, true, false, false, false] rfl rfl (any_of HT_.out (by kernel_rfl)) (fun _ _ _ h => h) (Or.inl ⟨by rfl, ?_⟩) ?_ ?_
                            rotate_left
                            · intro w'
                              go_simp
                              with_reducible rfl
                            rotate_left
                            · simp only [Act.put, List.setIfInBounds_toArray, List.set_cons_zero, List.set_cons_succ, i64_w, i32_w]
                              rfl
                            refine pure_ (i := 15) (N := some 73) (v := ?_) (a' := ?_) #[true, true, true, true, true, true, true, true, true, true, true, true, true, true, true, true, false, false] rfl rfl (any_of HT_.out (by kernel_rfl)) (fun _ _ _ h => h) (Or.inl ⟨by rfl, ?_⟩) ?_ ?_
                            rotate_left
                            · intro w'
                              go_simp
                              with_reducible rfl
                            rotate_left
                            · simp only [Act.put, List.setIfInBounds_toArray, List.set_cons_zero, List.set_cons_succ, i64_w, i32_w]
                              rfl
                            refine pure_ (i := 16) (N := some 10) (v := ?_) (a' := ?_) #[true, true, true, true, true, true, true, true, true, true, true, true, true, true, true, true, true, false] rfl rfl (any_of HT_.out (by kernel_rfl)) (fun _ _ _ h => h) (Or.inl ⟨by rfl, ?_⟩) ?_ ?_
                            rotate_left
                            · intro w'
                              go_simp
                              with_reducible rfl
                            rotate_left
                            · simp only [Act.put, List.setIfInBounds_toArray, List.set_cons_zero, List.set_cons_succ, i64_w, i32_w]
                              rfl
                            refine pure_ (i := 17) (N := some 11) (v := ?_) (a' := ?_) #[true, true, true, true, true, true, true, true, true, true, true, true, true, true, true, true, true, true] rfl rfl (any_of HT_.out (by kernel_rfl)) (fun _ _ _ h => h) (Or.inl ⟨by rfl, ?_⟩) ?_ ?_
                            rotate_left
                            · intro w'
                              go_simp
                              with_reducible rfl
                            rotate_left
                            · simp only [Act.put, List.setIfInBounds_toArray, List.set_cons_zero, List.set_cons_succ, i64_w, i32_w]
                              rfl
                            refine done_ (done_of HT_.out (by kernel_rfl)) ?_
                            try go_wp2
                            go_ret
                            exact ⟨by first | rfl | (simp [errW_none, errW_some] <;> rfl) | (simp only [← hji13, ← hji21]; first | rfl | (simp [errW_none, errW_some] <;> rfl)) | (simp [*, errW_none, errW_some] <;> rfl) | (refine congrArg (fun b_ => Ending.returned (Value.bool b_)) (decide_eq_decide.2 ?_); unfold wrap64; omega), by repeat (first | (with_reducible first | exact HB.out | apply below_alloc | apply pw_below_drewN | apply below_drew1) | exact HB.out)⟩
                          · rw [if_neg c24] at H
                            exact absurd H (by simp)
                        · rw [if_neg c23] at H
                          exact absurd H (by simp)
                      · rw [if_neg c22] at H
                        exact absurd H (by simp)
                    · rw [if_neg c20] at H
                      exact absurd H (by simp)
                  · rw [if_neg c19] at H
                    exact absurd H (by simp)
                · rw [if_neg c17] at H
                  have c17b0 : ((bt t179 (ji13)) == 97) = false := beq_eq_false_iff_ne.mpr c17
                  have c17b1 : ((bt t179 (ji13)) != 97) = true := bne_iff_ne.mpr c17
                  have c30b0 := eq_true (of_decide_eq_true (by first | (with_reducible assumption) | assumption) : 0 ≤ (ji13))
                  by_cases c31 : (ji13) ≤ (t179.size : Int)
                  · rw [if_pos c31] at H
                    have c31b0 := eq_true c31
                    have c31b1 : decide ((ji13) ≤ (t179.size : Int)) = true := decide_eq_true c31
                    clear c31
                    obtain ⟨y189, hy189⟩ : ∃ y_ : List Int, y_ = (([97] : List Int)) := ⟨_, rfl⟩
                    replace H : (if (t179.extract 0 ((ji13) : Int).toNat).size + (strOfNums y189).size ≤ 9223372036854775807 then (if 0 ≤ (wrap64 ((ji13) + 1)) then (if (wrap64 ((ji13) + 1)) ≤ (t179.size : Int) then (if ((t179.extract 0 ((ji13) : Int).toNat) ++ (strOfNums y189)).size + (t179.extract ((wrap64 ((ji13) + 1)) : Int).toNat t179.size).size ≤ 9223372036854775807 then ((impl_ReadFrame.f kj5 (((t179.extract 0 ((ji13) : Int).toNat) ++ (strOfNums y189)) ++ (t179.extract ((wrap64 ((ji13) + 1)) : Int).toNat t179.size))).bind fun bt192 => (some (!bt192.2))) else (none)) else (none)) else (none)) else (none)) = some r := by first | (rw [hy189]; with_reducible exact H) | (have H2_ := (Option.bind_some _ _).symm.trans H; rw [hy189]; with_reducible exact H2_) | (have H2_ := (Option.bind_some _ _).symm.trans H; with_reducible exact H2_) | with_reducible exact H | (rw [hy189]; exact H) | exact H
                    have Ny189 := Aside0.mk hy189
                    clear hy189
                    by_cases c32 : (t179.extract 0 ((ji13) : Int).toNat).size + (strOfNums y189).size ≤ 9223372036854775807
                    · rw [if_pos c32] at H
                      have c32b0 := eq_true c32
                      have c32b1 : decide ((t179.extract 0 ((ji13) : Int).toNat).size + (strOfNums y189).size ≤ 9223372036854775807) = true := decide_eq_true c32
                      try have c32b2 : (9223372036854775807 < (t179.extract 0 ((ji13) : Int).toNat).size + (strOfNums y189).size) = False := eq_false (Nat.not_lt.2 c32)
                      have c32b4 : (9223372036854775807 < ji13.toNat + (strOfNums y189).size) = False := eq_false (by have hz := c32; simp only [ByteArray.size_append, ByteArray.size_extract] at hz; have h8 := of_eq_true c31b0; omega)
                      try (have c32b3 := c32; simp only [ByteArray.size_append', ByteArray.size_mk', List.size_toArray, List.length_cons, List.length_nil, Nat.reduceAdd, Nat.zero_add] at c32b3; replace c32b3 := eq_false (Nat.not_lt.2 c32b3))
                      obtain ⟨ji33, hji33⟩ : ∃ j_ : Int, (wrap64 ((ji13) + 1)) = j_ := ⟨_, rfl⟩
                      replace H : (if 0 ≤ (ji33) then (if (ji33) ≤ (t179.size : Int) then (if ((t179.extract 0 ((ji13) : Int).toNat) ++ (strOfNums y189)).size + (t179.extract ((ji33) : Int).toNat t179.size).size ≤ 9223372036854775807 then ((impl_ReadFrame.f kj5 (((t179.extract 0 ((ji13) : Int).toNat) ++ (strOfNums y189)) ++ (t179.extract ((ji33) : Int).toNat t179.size))).bind fun bt192 => (some (!bt192.2))) else (none)) else (none)) else (none)) = some r := by first | (rw [hji33] at H; exact H) | (simp only [hji33] at H ⊢; exact H)
                      have hji33w : (IntKind.i64.wrap ((ji13) + 1)) = ji33 := (i64_w _).trans hji33
                      by_cases c34 : 0 ≤ (ji33)
                      · rw [if_pos c34] at H
                        have c34b0 := eq_true c34
                        have c34b1 : decide (0 ≤ (ji33)) = true := decide_eq_true c34
                        clear c34
                        by_cases c35 : (ji33) ≤ (t179.size : Int)
                        · rw [if_pos c35] at H
                          have c35b0 := eq_true c35
                          have c35b1 : decide ((ji33) ≤ (t179.size : Int)) = true := decide_eq_true c35
                          clear c35
                          by_cases c36 : ((t179.extract 0 ((ji13) : Int).toNat) ++ (strOfNums y189)).size + (t179.extract ((ji33) : Int).toNat t179.size).size ≤ 9223372036854775807
                          · rw [if_pos c36] at H
                            have c36b0 := eq_true c36
                            have c36b1 : decide (((t179.extract 0 ((ji13) : Int).toNat) ++ (strOfNums y189)).size + (t179.extract ((ji33) : Int).toNat t179.size).size ≤ 9223372036854775807) = true := decide_eq_true c36
                            try have c36b2 : (9223372036854775807 < ((t179.extract 0 ((ji13) : Int).toNat) ++ (strOfNums y189)).size + (t179.extract ((ji33) : Int).toNat t179.size).size) = False := eq_false (Nat.not_lt.2 c36)
                            have c36b4 : (9223372036854775807 < ji13.toNat + (strOfNums y189).size + (t179.size - ji33.toNat)) = False := eq_false (by have hz := c36; simp only [ByteArray.size_append, ByteArray.size_extract] at hz; have h8 := of_eq_true c31b0; omega)
                            try (have c36b3 := c36; simp only [ByteArray.size_append', ByteArray.size_mk', List.size_toArray, List.length_cons, List.length_nil, Nat.reduceAdd, Nat.zero_add] at c36b3; replace c36b3 := eq_false (Nat.not_lt.2 c36b3))
                            replace H := Option.bind_eq_some_iff.mp H
                            obtain ⟨⟨t192, t193⟩, A370, H⟩ := H
                            replace H : (some (!t193)) = some r := H
                            have A37 := Aside0.mk A370
                            clear A370
                            obtain rfl := Option.some.inj H
                            have p16 : 0 ≤ ((ji13) : Int) := of_decide_eq_true (by first | (with_reducible assumption) | assumption)
                            have q16 : (ji13) < (t179.size : Int) := of_decide_eq_true (by first | (with_reducible assumption) | assumption)
                            have hx16 := bt_at t179 (ji13)
                            replace p16 := eq_true p16
                            replace q16 := eq_true q16
                            try go_wp2
                            have n0_ := Aside0.mk (below_drew1 HB.out)
                            clear HB
                            have HB := n0_
                            clear n0_
                            refine start_ (n := 18) (S := fun w' => True) (ds := []) #[false, false, false, false, false, false, false, false, false, false, false, false, false, false, false, false, false, false] (by kernel_rfl) rfl rfl trivial (fun hHeld => ?_); refine with_tabW laws_FnReadFrameWrong.tab12 laws_FnReadFrameWrong.bits12 (fun HT_ HW_ => ?_)
                            generalize wc.drew = w38 at HB hHeld ⊢
                            refine pure_ (i := 0) (N := some 59) (v := ?_) (a' := ?_) #[true, false, false, false, false, false, false, false, false, false, false, false, false, false, false, false, false, false] rfl rfl (any_of HT_.out (by kernel_rfl)) (fun _ _ _ h => h) (Or.inl ⟨by rfl, ?_⟩) ?_ ?_
                            rotate_left
                            · intro w'
                              go_simp
                              with_reducible rfl
                            rotate_left
                            · simp only [Act.put, List.setIfInBounds_toArray, List.set_cons_zero, List.set_cons_succ, i64_w, i32_w]
                              rfl
                            refine pure_ (i := 1) (N := some 60) (v := ?_) (a' := ?_) #[true, true, false, false, false, false, false, false, false, false, false, false, false, false, false, false, false, false] rfl rfl (any_of HT_.out (by kernel_rfl)) (fun _ _ _ h => h) (Or.inl ⟨by rfl, ?_⟩) ?_ ?_
                            rotate_left
                            · intro w'
                              go_simp
                              with_reducible rfl
                            rotate_left
                            · simp only [Act.put, List.setIfInBounds_toArray, List.set_cons_zero, List.set_cons_succ, i64_w, i32_w]
                              rfl
                            refine pure_ (i := 2) (N := some 61) (v := ?_) (a' := ?_) #[true, true, true, false, false, false, false, false, false, false, false, false, false, false, false, false, false, false] rfl rfl (any_of HT_.out (by kernel_rfl)) (fun _ _ _ h => h) (Or.inl ⟨by rfl, ?_⟩) ?_ ?_
                            rotate_left
                            · intro w'
                              go_simp
                              with_reducible rfl
                            rotate_left
                            · simp only [Act.put, List.setIfInBounds_toArray, List.set_cons_zero, List.set_cons_succ, i64_w, i32_w]
                              rfl
                            refine pure_ (i := 3) (N := some 62) (v := ?_) (a' := ?_) #[true, true, true, true, false, false, false, false, false, false, false, false, false, false, false, false, false, false] rfl rfl (any_of HT_.out (by kernel_rfl)) (fun _ _ _ h => h) (Or.inl ⟨by rfl, ?_⟩) ?_ ?_
                            rotate_left
                            · intro w'
                              go_simp
                              with_reducible rfl
                            rotate_left
                            · simp only [Act.put, List.setIfInBounds_toArray, List.set_cons_zero, List.set_cons_succ, i64_w, i32_w]
                              rfl
                            refine pure_ (i := 7) (N := some 66) (v := ?_) (a' := ?_) #[true, true, true, true, false, false, false, true, false, false, false, false, false, false, false, false, false, false] rfl rfl (any_of HT_.out (by kernel_rfl)) (fun _ _ _ h => h) (Or.inl ⟨by rfl, ?_⟩) ?_ ?_
                            rotate_left
                            · intro w'
                              go_simp
                              with_reducible rfl
                            rotate_left
                            · simp only [Act.put, List.setIfInBounds_toArray, List.set_cons_zero, List.set_cons_succ, i64_w, i32_w]
                              rfl
                            refine pure_ (i := 8) (N := some 67) (v := ?_) (a' := ?_) #[true, true, true, true, false, false, false, true, true, false, false, false, false, false, false, false, false, false] rfl rfl (any_of HT_.out (by kernel_rfl)) (fun _ _ _ h => h) (Or.inl ⟨by rfl, ?_⟩) ?_ ?_
                            rotate_left
                            · intro w'
                              go_simp
                              with_reducible rfl
                            rotate_left
                            · simp only [Act.put, List.setIfInBounds_toArray, List.set_cons_zero, List.set_cons_succ, i64_w, i32_w]
                              rfl
                            refine pure_ (i := 9) (N := some 68) (v := ?_) (a' := ?_) #[true, true, true, true, false, false, false, true, true, true, false, false, false, false, false, false, false, false] rfl rfl (any_of HT_.out (by kernel_rfl)) (fun _ _ _ h => h) (Or.inl ⟨by rfl, ?_⟩) ?_ ?_
                            rotate_left
                            · intro w'
                              go_simp
                              with_reducible rfl
                            rotate_left
                            · simp only [Act.put, List.setIfInBounds_toArray, List.set_cons_zero, List.set_cons_succ, i64_w, i32_w]
                              rfl
                            refine pure_ (i := 10) (N := some 69) (v := ?_) (a' := ?_) #[true, true, true, true, false, false, false, true, true, true, true, false, false, false, false, false, false, false] rfl rfl (any_of HT_.out (by kernel_rfl)) (fun _ _ _ h => h) (Or.inl ⟨by rfl, ?_⟩) ?_ ?_
                            rotate_left
                            · intro w'
                              go_simp
                              with_reducible rfl
                            rotate_left
                            · simp only [Act.put, List.setIfInBounds_toArray, List.set_cons_zero, List.set_cons_succ, i64_w, i32_w]
                              rfl
                            refine one_ (i := 4) (N := some 63) #[true, true, true, true, true, false, false, true, true, true, true, false, false, false, false, false, false, false] rfl rfl (one_of HT_.out (by kernel_rfl)) (by decide) (fun K hK => ?_)
                            refine Kd.R_lit_step (Kd.int .u8) _ 5 ?hg (N := 63) ?hd (xs := ([97] : List Int)) (inner := [.int .u8 97]) (ok := fun _ => True) (okp := fun _ => True) ?hr ?hp (fun _ hk => hk) trivial (Below.refl _ _) (Nat.le_refl _) (by simp) ?_; (case hd => rfl); (case hg => rfl); (case hr => first | (go_simp; done) | (go_simp; rfl)); (case hp => exact (Reps.one (show Kd.M (Kd.int .u8) _ _ _ 97 [.int .u8 97] from rfl) (Reps.none _ _)))
                            intro v190 w39 ho40 hb hg_ hnew_
                            clear hg_ hnew_
                            (first | rw [← Ny189.out] at ho40 | (simp only [Int.reduceToNat] at ho40; rw [← Ny189.out] at ho40))
                            have n0_ := Aside0.mk (Kd.R_lower ho40 (below_size (by repeat (first | (with_reducible first | exact HB.out | apply below_alloc | apply pw_below_drewN | apply below_drew1) | exact HB.out))))
                            have n1_ := Aside0.mk (below_step (by repeat (first | (with_reducible first | exact HB.out | apply below_alloc | apply pw_below_drewN | apply below_drew1) | exact HB.out)) hb)
                            clear HB
                            have HO191 := n0_
                            have HB := n1_
                            clear n0_ n1_
                            clear hb ho40
                            refine hK.out _ _ trivial (fun hHeld => ?_)
                            clear hK K
                            refine norm_ (a' := ?_) ?_ ?_
                            rotate_left
                            · show Act.put _ (some 63) _ = _
                              simp only [Act.put, List.setIfInBounds_toArray, List.set_cons_zero, List.set_cons_succ, i64_w, i32_w]
                              rfl
                            refine one_ (i := 5) (N := some 64) #[true, true, true, true, true, true, false, true, true, true, true, false, false, false, false, false, false, false] rfl rfl (one_of HT_.out (by kernel_rfl)) (by decide) (fun K hK => ?_)
                            have hcv41 := own_string (P := Try.prog) Try.underlying22 Try.underlying5 Try.underlying9 (Kd.own_of_R HO191.out)
                            refine value_ (w1 := ?_) (v := ?_) (by rfl) rfl ?_ ?_
                            rotate_left 2
                            · go_simp
                              constructor
                              · rfl
                              · rfl
                            clear hcv41
                            refine hK.out _ _ trivial (fun hHeld => ?_)
                            clear hK K
                            refine norm_ (a' := ?_) ?_ ?_
                            rotate_left
                            · show Act.put _ (some 64) _ = _
                              simp only [Act.put, List.setIfInBounds_toArray, List.set_cons_zero, List.set_cons_succ, i64_w, i32_w]
                              rfl
                            refine pure_ (i := 6) (N := some 65) (v := ?_) (a' := ?_) #[true, true, true, true, true, true, true, true, true, true, true, false, false, false, false, false, false, false] rfl rfl (any_of HT_.out (by kernel_rfl)) (fun _ _ _ h => h) (Or.inl ⟨by rfl, ?_⟩) ?_ ?_
                            rotate_left
                            · intro w'
                              go_simp
                              with_reducible rfl
                            rotate_left
                            · simp only [Act.put, List.setIfInBounds_toArray, List.set_cons_zero, List.set_cons_succ, i64_w, i32_w]
                              rfl
                            refine pure_ (i := 11) (N := some 70) (v := ?_) (a' := ?_) #[true, true, true, true, true, true, true, true, true, true, true, true, false, false, false, false, false, false] rfl rfl (any_of HT_.out (by kernel_rfl)) (fun _ _ _ h => h) (Or.inl ⟨by rfl, ?_⟩) ?_ ?_
                            rotate_left
                            · intro w'
                              go_simp
                              with_reducible rfl
                            rotate_left
                            · simp only [Act.put, List.setIfInBounds_toArray, List.set_cons_zero, List.set_cons_succ, i64_w, i32_w]
                              rfl
                            refine one_ (i := 12) (N := some 71) #[true, true, true, true, true, true, true, true, true, true, true, true, true, false, false, false, false, false] rfl rfl (one_of HT_.out (by kernel_rfl)) (by decide) (fun K hK => ?_)
                            refine goes_ Try.func16 (by kernel_rfl) rfl #[.string (((t179.extract 0 ((ji13) : Int).toNat) ++ (strOfNums y189)) ++ (t179.extract ((ji33) : Int).toNat t179.size))] (by rfl) rfl rfl (by (try simp only [List.map_toArray, List.map_cons, List.map_nil]); first | done | (simp only [hji13, hji33]; rfl) | rfl | (simp only [List.length_drop, List.length_take]; rfl)) ?_
                            with_reducible refine (impl_ReadFrame.calls kj5 (((t179.extract 0 ((ji13) : Int).toNat) ++ (strOfNums y189)) ++ (t179.extract ((ji33) : Int).toNat t179.size)) t192 t193 _ A37.out).mono ?_
                            rintro e w' ⟨rfl, ⟨nd, rfl⟩⟩
                            refine ⟨_, rfl, ?_⟩
                            refine hK.out _ _ trivial (fun hHeld => ?_)
                            clear hK K
                            refine norm_ (a' := ?_) ?_ ?_
                            rotate_left
                            · show Act.put _ (some 71) _ = _
                              simp only [Act.put, List.setIfInBounds_toArray, List.set_cons_zero, List.set_cons_succ, i64_w, i32_w]
                              rfl
                            refine pure_ (i := 13) (N := some 58) (v := ?_) (a' := ?_) #[true, true, true, true, true, true, true, true, true, true, true, true, true, true, false, false, false, false] rfl rfl (any_of HT_.out (by kernel_rfl)) (fun _ _ _ h => h) (Or.inl ⟨by rfl, ?_⟩) ?_ ?_
                            rotate_left
                            · intro w'
                              go_simp
                              with_reducible rfl
                            rotate_left
                            · simp only [Act.put, List.setIfInBounds_toArray, List.set_cons_zero, List.set_cons_succ, i64_w, i32_w]
                              rfl
                            refine pure_ (i := 14) (N := some 72) (v := ?_) (a' := ?_) #[true, true, true, true, true, true, true, true, true, true, true, true, true, true, true, false, false, false] rfl rfl (any_of HT_.out (by kernel_rfl)) (fun _ _ _ h => h) (Or.inl ⟨by rfl, ?_⟩) ?_ ?_
                            rotate_left
                            · intro w'
                              go_simp
                              with_reducible rfl
                            rotate_left
                            · simp only [Act.put, List.setIfInBounds_toArray, List.set_cons_zero, List.set_cons_succ, i64_w, i32_w]
                              rfl
                            refine pure_ (i := 15) (N := some 73) (v := ?_) (a' := ?_) #[true, true, true, true, true, true, true, true, true, true, true, true, true, true, true, true, false, false] rfl rfl (any_of HT_.out (by kernel_rfl)) (fun _ _ _ h => h) (Or.inl ⟨by rfl, ?_⟩) ?_ ?_
                            rotate_left
                            · intro w'
                              go_simp
                              with_reducible rfl
                            rotate_left
                            · simp only [Act.put, List.setIfInBounds_toArray, List.set_cons_zero, List.set_cons_succ, i64_w, i32_w]
                              rfl
                            refine pure_ (i := 16) (N := some 10) (v := ?_) (a' := ?_) #[true, true, true, true, true, true, true, true, true, true, true, true, true, true, true, true, true, false] rfl rfl (any_of HT_.out (by kernel_rfl)) (fun _ _ _ h => h) (Or.inl ⟨by rfl, ?_⟩) ?_ ?_
                            rotate_left
                            · intro w'
                              go_simp
                              with_reducible rfl
                            rotate_left
                            · simp only [Act.put, List.setIfInBounds_toArray, List.set_cons_zero, List.set_cons_succ, i64_w, i32_w]
                              rfl
                            refine pure_ (i := 17) (N := some 11) (v := ?_) (a' := ?_) #[true, true, true, true, true, true, true, true, true, true, true, true, true, true, true, true, true, true] rfl rfl (any_of HT_.out (by kernel_rfl)) (fun _ _ _ h => h) (Or.inl ⟨by rfl, ?_⟩) ?_ ?_
                            rotate_left
                            · intro w'
                              go_simp
                              with_reducible rfl
                            rotate_left
                            · simp only [Act.put, List.setIfInBounds_toArray, List.set_cons_zero, List.set_cons_succ, i64_w, i32_w]
                              rfl
                            refine done_ (done_of HT_.out (by kernel_rfl)) ?_
                            try go_wp2
                            go_ret
                            exact ⟨by first | rfl | (simp [errW_none, errW_some] <;> rfl) | (simp only [← hji13, ← hji33]; first | rfl | (simp [errW_none, errW_some] <;> rfl)) | (simp [*, errW_none, errW_some] <;> rfl) | (refine congrArg (fun b_ => Ending.returned (Value.bool b_)) (decide_eq_decide.2 ?_); unfold wrap64; omega), by repeat (first | (with_reducible first | exact HB.out | apply below_alloc | apply pw_below_drewN | apply below_drew1) | exact HB.out)⟩
                          · rw [if_neg c36] at H
                            exact absurd H (by simp)
                        · rw [if_neg c35] at H
                          exact absurd H (by simp)
                      · rw [if_neg c34] at H
                        exact absurd H (by simp)
                    · rw [if_neg c32] at H
                      exact absurd H (by simp)
                  · rw [if_neg c31] at H
                    exact absurd H (by simp)
              · rw [if_neg c15] at H
                exact absurd H (by simp)
            · rw [if_neg c14] at H
              exact absurd H (by simp)

/-- THE ONE PURE STATEMENT of laws_FnReadFrameWrong: yours. -/
def laws_FnReadFrameWrong.Pure : Prop := ∀ (l0 : List Int), l0.length ≤ maxLen → l0.length * 1 ≤ 140737488351232 → (∀ x ∈ l0, (Lit.int .u8 x).wf = true) → ∃ k, laws_FnReadFrameWrong.f k l0 = some true
theorem laws_FnReadFrameWrong.walk (P : laws_FnReadFrameWrong.Pure) (a0 : Option Addr) (len0 cap0 : Nat) (z0 : List Int) (w : World) (w0 : (a0 = none ∧ len0 = 0 ∧ cap0 = 0 ∧ z0 = []) ∨ ∃ x, a0 = some x ∧ len0 ≤ cap0 ∧ cap0 ≤ maxLen ∧ z0.length = cap0 ∧ (∀ i, i < z0.length → w.cell? (x.add i) = some (.int .u8 (z0.getD i 0))) ∧ ∀ n ∈ z0, (Lit.int .u8 n).wf = true) (y0 : len0 * 1 ≤ 140737488351232) :
    Calls Try.prog 8 #[.slice a0 len0 cap0] w fun e w' => e = .returned (.bool true) ∧ Below w.heap.size w w' := by
  obtain ⟨l0, rfl, hr0, hm0, hw0, hc0⟩ := ReadsInt.ofRowC w0
  obtain ⟨k, h⟩ := P l0 hm0 y0 hw0
  refine (laws_FnReadFrameWrong.calls k _ _ l0 true w (Kd.C_of_reads (d := (0 : Int)) (h1 := fun _ => rfl) hr0) hc0 h).mono ?_
  rintro e w' ⟨rfl, hd⟩
  exact ⟨rfl, hd⟩

end Go.Proofs.Ytmbfilhehclffaa.HFnReadFrameWrong
