/- Proved here: what the Go functions that the law reaches answer, for every input at which their Lean twins answer. Conditions: those that each theorem states. Written by a program of this session (mend.py), out of the text that the kit's print makes for the law. -/
import Derived.Test.YtmbfilhehclffaaHFnReadFrameWrongx0
import Derived.Test.YtmbfilhehclffaaHFnReadFrameWrongx1
import Derived.Test.YtmbfilhehclffaaHFnReadFrameWrongx3
namespace Go.Proofs.Ytmbfilhehclffaa.HFnReadFrameWrong
open Go.RowKit Go.Proofs.YtmbfilhehclffaaW.PrintWords Go.Proofs.YtmbfilhehclffaaW.PrintLast Go.Proofs.YtmbfilhehclffaaW.PrintMore
attribute [local go_sem] max2_int min2_int max_two min_two max_three min_three max_four min_four   -- for this text's walks alone
set_option linter.unusedVariables false
set_option linter.unusedSimpArgs false

/-! ### impl_FrameBody: function 18 -/
def impl_FrameBody.f (k : Nat) (a0 : ByteArray) : Option (ByteArray) := (impl_ChecksumOf.f k a0).bind fun t175 => (if t175 < 0 then (some (⟨#[]⟩ : ByteArray)) else (if 1 + a0.size ≤ 9223372036854775807 then (if ((⟨#[36]⟩ : ByteArray) ++ a0).size + 1 ≤ 9223372036854775807 then (if 0 ≤ (wrap64 (Int.tdiv t175 16)) then (if (wrap64 (Int.tdiv t175 16)) ≤ (wrap64 ((wrap64 (Int.tdiv t175 16)) + 1)) then (if (wrap64 ((wrap64 (Int.tdiv t175 16)) + 1)) ≤ 16 then (if (((⟨#[36]⟩ : ByteArray) ++ a0) ++ (⟨#[42]⟩ : ByteArray)).size + ((⟨#[48, 49, 50, 51, 52, 53, 54, 55, 56, 57, 65, 66, 67, 68, 69, 70]⟩ : ByteArray).extract ((wrap64 (Int.tdiv t175 16)) : Int).toNat ((wrap64 ((wrap64 (Int.tdiv t175 16)) + 1)) : Int).toNat).size ≤ 9223372036854775807 then (if 0 ≤ (Int.tmod t175 16) then (if (Int.tmod t175 16) ≤ (wrap64 ((Int.tmod t175 16) + 1)) then (if (wrap64 ((Int.tmod t175 16) + 1)) ≤ 16 then (if ((((⟨#[36]⟩ : ByteArray) ++ a0) ++ (⟨#[42]⟩ : ByteArray)) ++ ((⟨#[48, 49, 50, 51, 52, 53, 54, 55, 56, 57, 65, 66, 67, 68, 69, 70]⟩ : ByteArray).extract ((wrap64 (Int.tdiv t175 16)) : Int).toNat ((wrap64 ((wrap64 (Int.tdiv t175 16)) + 1)) : Int).toNat)).size + ((⟨#[48, 49, 50, 51, 52, 53, 54, 55, 56, 57, 65, 66, 67, 68, 69, 70]⟩ : ByteArray).extract ((Int.tmod t175 16) : Int).toNat ((wrap64 ((Int.tmod t175 16) + 1)) : Int).toNat).size ≤ 9223372036854775807 then (some (((((⟨#[36]⟩ : ByteArray) ++ a0) ++ (⟨#[42]⟩ : ByteArray)) ++ ((⟨#[48, 49, 50, 51, 52, 53, 54, 55, 56, 57, 65, 66, 67, 68, 69, 70]⟩ : ByteArray).extract ((wrap64 (Int.tdiv t175 16)) : Int).toNat ((wrap64 ((wrap64 (Int.tdiv t175 16)) + 1)) : Int).toNat)) ++ ((⟨#[48, 49, 50, 51, 52, 53, 54, 55, 56, 57, 65, 66, 67, 68, 69, 70]⟩ : ByteArray).extract ((Int.tmod t175 16) : Int).toNat ((wrap64 ((Int.tmod t175 16) + 1)) : Int).toNat))) else (none)) else (none)) else (none)) else (none)) else (none)) else (none)) else (none)) else (none)) else (none)) else (none)))
theorem impl_FrameBody.mono : ∀ a0 k, LeO (impl_FrameBody.f k a0) (impl_FrameBody.f (k + 1) a0) := by
  intro a0 k
  unfold impl_FrameBody.f
  repeat' first
      | (with_reducible exact impl_ChecksumOf.mono _ _)
      | (with_reducible exact LeO.refl _)
      | (with_reducible exact LeO.none _)
      | (with_reducible refine LeO.ite ?_ ?_)
      | (with_reducible refine LeO.bind ?_ (fun _ => ?_))
      | exact impl_ChecksumOf.mono _ _
      | exact LeO.none _
      | refine LeO.ite ?_ ?_
      | refine LeO.bind ?_ (fun _ => ?_)
set_option maxHeartbeats 8000000 in
set_option maxRecDepth 100000 in
theorem impl_FrameBody.calls (k : Nat) (a0 : ByteArray) (r : ByteArray) (w : World) (h : impl_FrameBody.f k a0 = some r) :
    Calls Try.prog 18 #[.string a0] w fun e w' => e = .returned (.string r) ∧ Drawn0 w w' := by
  have H : ((impl_ChecksumOf.f k a0).bind fun t175 => (if t175 < 0 then (some (⟨#[]⟩ : ByteArray)) else (if 1 + a0.size ≤ 9223372036854775807 then (if ((⟨#[36]⟩ : ByteArray) ++ a0).size + 1 ≤ 9223372036854775807 then (if 0 ≤ (wrap64 (Int.tdiv t175 16)) then (if (wrap64 (Int.tdiv t175 16)) ≤ (wrap64 ((wrap64 (Int.tdiv t175 16)) + 1)) then (if (wrap64 ((wrap64 (Int.tdiv t175 16)) + 1)) ≤ 16 then (if (((⟨#[36]⟩ : ByteArray) ++ a0) ++ (⟨#[42]⟩ : ByteArray)).size + ((⟨#[48, 49, 50, 51, 52, 53, 54, 55, 56, 57, 65, 66, 67, 68, 69, 70]⟩ : ByteArray).extract ((wrap64 (Int.tdiv t175 16)) : Int).toNat ((wrap64 ((wrap64 (Int.tdiv t175 16)) + 1)) : Int).toNat).size ≤ 9223372036854775807 then (if 0 ≤ (Int.tmod t175 16) then (if (Int.tmod t175 16) ≤ (wrap64 ((Int.tmod t175 16) + 1)) then (if (wrap64 ((Int.tmod t175 16) + 1)) ≤ 16 then (if ((((⟨#[36]⟩ : ByteArray) ++ a0) ++ (⟨#[42]⟩ : ByteArray)) ++ ((⟨#[48, 49, 50, 51, 52, 53, 54, 55, 56, 57, 65, 66, 67, 68, 69, 70]⟩ : ByteArray).extract ((wrap64 (Int.tdiv t175 16)) : Int).toNat ((wrap64 ((wrap64 (Int.tdiv t175 16)) + 1)) : Int).toNat)).size + ((⟨#[48, 49, 50, 51, 52, 53, 54, 55, 56, 57, 65, 66, 67, 68, 69, 70]⟩ : ByteArray).extract ((Int.tmod t175 16) : Int).toNat ((wrap64 ((Int.tmod t175 16) + 1)) : Int).toNat).size ≤ 9223372036854775807 then (some (((((⟨#[36]⟩ : ByteArray) ++ a0) ++ (⟨#[42]⟩ : ByteArray)) ++ ((⟨#[48, 49, 50, 51, 52, 53, 54, 55, 56, 57, 65, 66, 67, 68, 69, 70]⟩ : ByteArray).extract ((wrap64 (Int.tdiv t175 16)) : Int).toNat ((wrap64 ((wrap64 (Int.tdiv t175 16)) + 1)) : Int).toNat)) ++ ((⟨#[48, 49, 50, 51, 52, 53, 54, 55, 56, 57, 65, 66, 67, 68, 69, 70]⟩ : ByteArray).extract ((Int.tmod t175 16) : Int).toNat ((wrap64 ((Int.tmod t175 16) + 1)) : Int).toNat))) else (none)) else (none)) else (none)) else (none)) else (none)) else (none)) else (none)) else (none)) else (none)) else (none)))) = some r := h
  clear h
  replace H := Option.bind_eq_some_iff.mp H
  obtain ⟨t175, A20, H⟩ := H
  replace H : (if t175 < 0 then (some (⟨#[]⟩ : ByteArray)) else (if 1 + a0.size ≤ 9223372036854775807 then (if ((⟨#[36]⟩ : ByteArray) ++ a0).size + 1 ≤ 9223372036854775807 then (if 0 ≤ (wrap64 (Int.tdiv t175 16)) then (if (wrap64 (Int.tdiv t175 16)) ≤ (wrap64 ((wrap64 (Int.tdiv t175 16)) + 1)) then (if (wrap64 ((wrap64 (Int.tdiv t175 16)) + 1)) ≤ 16 then (if (((⟨#[36]⟩ : ByteArray) ++ a0) ++ (⟨#[42]⟩ : ByteArray)).size + ((⟨#[48, 49, 50, 51, 52, 53, 54, 55, 56, 57, 65, 66, 67, 68, 69, 70]⟩ : ByteArray).extract ((wrap64 (Int.tdiv t175 16)) : Int).toNat ((wrap64 ((wrap64 (Int.tdiv t175 16)) + 1)) : Int).toNat).size ≤ 9223372036854775807 then (if 0 ≤ (Int.tmod t175 16) then (if (Int.tmod t175 16) ≤ (wrap64 ((Int.tmod t175 16) + 1)) then (if (wrap64 ((Int.tmod t175 16) + 1)) ≤ 16 then (if ((((⟨#[36]⟩ : ByteArray) ++ a0) ++ (⟨#[42]⟩ : ByteArray)) ++ ((⟨#[48, 49, 50, 51, 52, 53, 54, 55, 56, 57, 65, 66, 67, 68, 69, 70]⟩ : ByteArray).extract ((wrap64 (Int.tdiv t175 16)) : Int).toNat ((wrap64 ((wrap64 (Int.tdiv t175 16)) + 1)) : Int).toNat)).size + ((⟨#[48, 49, 50, 51, 52, 53, 54, 55, 56, 57, 65, 66, 67, 68, 69, 70]⟩ : ByteArray).extract ((Int.tmod t175 16) : Int).toNat ((wrap64 ((Int.tmod t175 16) + 1)) : Int).toNat).size ≤ 9223372036854775807 then (some (((((⟨#[36]⟩ : ByteArray) ++ a0) ++ (⟨#[42]⟩ : ByteArray)) ++ ((⟨#[48, 49, 50, 51, 52, 53, 54, 55, 56, 57, 65, 66, 67, 68, 69, 70]⟩ : ByteArray).extract ((wrap64 (Int.tdiv t175 16)) : Int).toNat ((wrap64 ((wrap64 (Int.tdiv t175 16)) + 1)) : Int).toNat)) ++ ((⟨#[48, 49, 50, 51, 52, 53, 54, 55, 56, 57, 65, 66, 67, 68, 69, 70]⟩ : ByteArray).extract ((Int.tmod t175 16) : Int).toNat ((wrap64 ((Int.tmod t175 16) + 1)) : Int).toNat))) else (none)) else (none)) else (none)) else (none)) else (none)) else (none)) else (none)) else (none)) else (none)) else (none))) = some r := H
  have A2 := Aside0.mk A20
  clear A20
  by_cases c3 : t175 < 0
  · rw [if_pos c3] at H
    have c3b0 : decide (t175 < 0) = true := decide_eq_true c3
    clear c3
    obtain rfl := Option.some.inj H
    go_enter Try.func18, Try.ntmps18
    go_wp2_with (first | (go_at_call 19; (with_reducible refine (impl_ChecksumOf.calls k a0 t175 _ A2.out).mono ?_); rintro e w' ⟨rfl, ⟨nd, rfl⟩⟩; (try first | exact ⟨rfl, _, World.drewN_drewN _ _ _⟩ | exact ⟨rfl, _, Eq.trans (World.drewN_drewN _ _ _) (congrArg (World.drewN _) (Nat.add_assoc _ _ _))⟩)))
    repeat (go_quiet (first | (go_at_call 19; (with_reducible refine (impl_ChecksumOf.calls k a0 t175 _ A2.out).mono ?_); rintro e w' ⟨rfl, ⟨nd, rfl⟩⟩; (try first | exact ⟨rfl, _, World.drewN_drewN _ _ _⟩ | exact ⟨rfl, _, Eq.trans (World.drewN_drewN _ _ _) (congrArg (World.drewN _) (Nat.add_assoc _ _ _))⟩))); try go_wp2_with (first | (go_at_call 19; (with_reducible refine (impl_ChecksumOf.calls k a0 t175 _ A2.out).mono ?_); rintro e w' ⟨rfl, ⟨nd, rfl⟩⟩; (try first | exact ⟨rfl, _, World.drewN_drewN _ _ _⟩ | exact ⟨rfl, _, Eq.trans (World.drewN_drewN _ _ _) (congrArg (World.drewN _) (Nat.add_assoc _ _ _))⟩))))
    go_ret
    exact ⟨by first | rfl | (simp; done) | (simp [*]; done), by repeat (first | exact Drawn0.refl _ | apply Drawn0.step)⟩
  · rw [if_neg c3] at H
    have c3b0 : decide (t175 < 0) = false := decide_eq_false c3
    clear c3
    by_cases c4 : 1 + a0.size ≤ 9223372036854775807
    · rw [if_pos c4] at H
      have c4b0 := eq_true c4
      have c4b1 : decide (1 + a0.size ≤ 9223372036854775807) = true := decide_eq_true c4
      try have c4b2 : (9223372036854775807 < 1 + a0.size) = False := eq_false (Nat.not_lt.2 c4)
      try (have c4b3 := c4; simp only [ByteArray.size_append', ByteArray.size_mk', List.size_toArray, List.length_cons, List.length_nil, Nat.reduceAdd, Nat.zero_add] at c4b3; replace c4b3 := eq_false (Nat.not_lt.2 c4b3))
      by_cases c5 : ((⟨#[36]⟩ : ByteArray) ++ a0).size + 1 ≤ 9223372036854775807
      · rw [if_pos c5] at H
        have c5b0 := eq_true c5
        have c5b1 : decide (((⟨#[36]⟩ : ByteArray) ++ a0).size + 1 ≤ 9223372036854775807) = true := decide_eq_true c5
        try have c5b2 : (9223372036854775807 < ((⟨#[36]⟩ : ByteArray) ++ a0).size + 1) = False := eq_false (Nat.not_lt.2 c5)
        try (have c5b3 := c5; simp only [ByteArray.size_append', ByteArray.size_mk', List.size_toArray, List.length_cons, List.length_nil, Nat.reduceAdd, Nat.zero_add] at c5b3; replace c5b3 := eq_false (Nat.not_lt.2 c5b3))
        obtain ⟨ji6, hji6⟩ : ∃ j_ : Int, (wrap64 (Int.tdiv t175 16)) = j_ := ⟨_, rfl⟩
        replace H : (if 0 ≤ (ji6) then (if (ji6) ≤ (wrap64 ((ji6) + 1)) then (if (wrap64 ((ji6) + 1)) ≤ 16 then (if (((⟨#[36]⟩ : ByteArray) ++ a0) ++ (⟨#[42]⟩ : ByteArray)).size + ((⟨#[48, 49, 50, 51, 52, 53, 54, 55, 56, 57, 65, 66, 67, 68, 69, 70]⟩ : ByteArray).extract ((ji6) : Int).toNat ((wrap64 ((ji6) + 1)) : Int).toNat).size ≤ 9223372036854775807 then (if 0 ≤ (Int.tmod t175 16) then (if (Int.tmod t175 16) ≤ (wrap64 ((Int.tmod t175 16) + 1)) then (if (wrap64 ((Int.tmod t175 16) + 1)) ≤ 16 then (if ((((⟨#[36]⟩ : ByteArray) ++ a0) ++ (⟨#[42]⟩ : ByteArray)) ++ ((⟨#[48, 49, 50, 51, 52, 53, 54, 55, 56, 57, 65, 66, 67, 68, 69, 70]⟩ : ByteArray).extract ((ji6) : Int).toNat ((wrap64 ((ji6) + 1)) : Int).toNat)).size + ((⟨#[48, 49, 50, 51, 52, 53, 54, 55, 56, 57, 65, 66, 67, 68, 69, 70]⟩ : ByteArray).extract ((Int.tmod t175 16) : Int).toNat ((wrap64 ((Int.tmod t175 16) + 1)) : Int).toNat).size ≤ 9223372036854775807 then (some (((((⟨#[36]⟩ : ByteArray) ++ a0) ++ (⟨#[42]⟩ : ByteArray)) ++ ((⟨#[48, 49, 50, 51, 52, 53, 54, 55, 56, 57, 65, 66, 67, 68, 69, 70]⟩ : ByteArray).extract ((ji6) : Int).toNat ((wrap64 ((ji6) + 1)) : Int).toNat)) ++ ((⟨#[48, 49, 50, 51, 52, 53, 54, 55, 56, 57, 65, 66, 67, 68, 69, 70]⟩ : ByteArray).extract ((Int.tmod t175 16) : Int).toNat ((wrap64 ((Int.tmod t175 16) + 1)) : Int).toNat))) else (none)) else (none)) else (none)) else (none)) else (none)) else (none)) else (none)) else (none)) = some r := by first | (rw [hji6] at H; exact H) | (simp only [hji6] at H ⊢; exact H)
        (try rw [hji6] at A2)
        have hji6w : (IntKind.i64.wrap (Int.tdiv t175 16)) = ji6 := (i64_w _).trans hji6
        by_cases c7 : 0 ≤ (ji6)
        · rw [if_pos c7] at H
          have c7b0 := eq_true c7
          have c7b1 : decide (0 ≤ (ji6)) = true := decide_eq_true c7
          clear c7
          by_cases c8 : (ji6) ≤ (wrap64 ((ji6) + 1))
          · rw [if_pos c8] at H
            have c8b0 := eq_true c8
            have c8b1 : decide ((ji6) ≤ (wrap64 ((ji6) + 1))) = true := decide_eq_true c8
            by_cases c9 : (wrap64 ((ji6) + 1)) ≤ 16
            · rw [if_pos c9] at H
              have c9b0 := eq_true c9
              have c9b1 : decide ((wrap64 ((ji6) + 1)) ≤ 16) = true := decide_eq_true c9
              by_cases c10 : (((⟨#[36]⟩ : ByteArray) ++ a0) ++ (⟨#[42]⟩ : ByteArray)).size + ((⟨#[48, 49, 50, 51, 52, 53, 54, 55, 56, 57, 65, 66, 67, 68, 69, 70]⟩ : ByteArray).extract ((ji6) : Int).toNat ((wrap64 ((ji6) + 1)) : Int).toNat).size ≤ 9223372036854775807
              · rw [if_pos c10] at H
                have c10b0 := eq_true c10
                have c10b1 : decide ((((⟨#[36]⟩ : ByteArray) ++ a0) ++ (⟨#[42]⟩ : ByteArray)).size + ((⟨#[48, 49, 50, 51, 52, 53, 54, 55, 56, 57, 65, 66, 67, 68, 69, 70]⟩ : ByteArray).extract ((ji6) : Int).toNat ((wrap64 ((ji6) + 1)) : Int).toNat).size ≤ 9223372036854775807) = true := decide_eq_true c10
                try have c10b2 : (9223372036854775807 < (((⟨#[36]⟩ : ByteArray) ++ a0) ++ (⟨#[42]⟩ : ByteArray)).size + ((⟨#[48, 49, 50, 51, 52, 53, 54, 55, 56, 57, 65, 66, 67, 68, 69, 70]⟩ : ByteArray).extract ((ji6) : Int).toNat ((wrap64 ((ji6) + 1)) : Int).toNat).size) = False := eq_false (Nat.not_lt.2 c10)
                try (have c10b3 := c10; simp only [ByteArray.size_append', ByteArray.size_mk', List.size_toArray, List.length_cons, List.length_nil, Nat.reduceAdd, Nat.zero_add] at c10b3; replace c10b3 := eq_false (Nat.not_lt.2 c10b3))
                obtain ⟨ji11, hji11⟩ : ∃ j_ : Int, (Int.tmod t175 16) = j_ := ⟨_, rfl⟩
                replace H : (if 0 ≤ (ji11) then (if (ji11) ≤ (wrap64 ((ji11) + 1)) then (if (wrap64 ((ji11) + 1)) ≤ 16 then (if ((((⟨#[36]⟩ : ByteArray) ++ a0) ++ (⟨#[42]⟩ : ByteArray)) ++ ((⟨#[48, 49, 50, 51, 52, 53, 54, 55, 56, 57, 65, 66, 67, 68, 69, 70]⟩ : ByteArray).extract ((ji6) : Int).toNat ((wrap64 ((ji6) + 1)) : Int).toNat)).size + ((⟨#[48, 49, 50, 51, 52, 53, 54, 55, 56, 57, 65, 66, 67, 68, 69, 70]⟩ : ByteArray).extract ((ji11) : Int).toNat ((wrap64 ((ji11) + 1)) : Int).toNat).size ≤ 9223372036854775807 then (some (((((⟨#[36]⟩ : ByteArray) ++ a0) ++ (⟨#[42]⟩ : ByteArray)) ++ ((⟨#[48, 49, 50, 51, 52, 53, 54, 55, 56, 57, 65, 66, 67, 68, 69, 70]⟩ : ByteArray).extract ((ji6) : Int).toNat ((wrap64 ((ji6) + 1)) : Int).toNat)) ++ ((⟨#[48, 49, 50, 51, 52, 53, 54, 55, 56, 57, 65, 66, 67, 68, 69, 70]⟩ : ByteArray).extract ((ji11) : Int).toNat ((wrap64 ((ji11) + 1)) : Int).toNat))) else (none)) else (none)) else (none)) else (none)) = some r := by first | (rw [hji11] at H; exact H) | (simp only [hji11] at H ⊢; exact H)
                (try rw [hji11] at A2)
                by_cases c12 : 0 ≤ (ji11)
                · rw [if_pos c12] at H
                  have c12b0 := eq_true c12
                  have c12b1 : decide (0 ≤ (ji11)) = true := decide_eq_true c12
                  clear c12
                  by_cases c13 : (ji11) ≤ (wrap64 ((ji11) + 1))
                  · rw [if_pos c13] at H
                    have c13b0 := eq_true c13
                    have c13b1 : decide ((ji11) ≤ (wrap64 ((ji11) + 1))) = true := decide_eq_true c13
                    by_cases c14 : (wrap64 ((ji11) + 1)) ≤ 16
                    · rw [if_pos c14] at H
                      have c14b0 := eq_true c14
                      have c14b1 : decide ((wrap64 ((ji11) + 1)) ≤ 16) = true := decide_eq_true c14
                      by_cases c15 : ((((⟨#[36]⟩ : ByteArray) ++ a0) ++ (⟨#[42]⟩ : ByteArray)) ++ ((⟨#[48, 49, 50, 51, 52, 53, 54, 55, 56, 57, 65, 66, 67, 68, 69, 70]⟩ : ByteArray).extract ((ji6) : Int).toNat ((wrap64 ((ji6) + 1)) : Int).toNat)).size + ((⟨#[48, 49, 50, 51, 52, 53, 54, 55, 56, 57, 65, 66, 67, 68, 69, 70]⟩ : ByteArray).extract ((ji11) : Int).toNat ((wrap64 ((ji11) + 1)) : Int).toNat).size ≤ 9223372036854775807
                      · rw [if_pos c15] at H
                        have c15b0 := eq_true c15
                        have c15b1 : decide (((((⟨#[36]⟩ : ByteArray) ++ a0) ++ (⟨#[42]⟩ : ByteArray)) ++ ((⟨#[48, 49, 50, 51, 52, 53, 54, 55, 56, 57, 65, 66, 67, 68, 69, 70]⟩ : ByteArray).extract ((ji6) : Int).toNat ((wrap64 ((ji6) + 1)) : Int).toNat)).size + ((⟨#[48, 49, 50, 51, 52, 53, 54, 55, 56, 57, 65, 66, 67, 68, 69, 70]⟩ : ByteArray).extract ((ji11) : Int).toNat ((wrap64 ((ji11) + 1)) : Int).toNat).size ≤ 9223372036854775807) = true := decide_eq_true c15
                        try have c15b2 : (9223372036854775807 < ((((⟨#[36]⟩ : ByteArray) ++ a0) ++ (⟨#[42]⟩ : ByteArray)) ++ ((⟨#[48, 49, 50, 51, 52, 53, 54, 55, 56, 57, 65, 66, 67, 68, 69, 70]⟩ : ByteArray).extract ((ji6) : Int).toNat ((wrap64 ((ji6) + 1)) : Int).toNat)).size + ((⟨#[48, 49, 50, 51, 52, 53, 54, 55, 56, 57, 65, 66, 67, 68, 69, 70]⟩ : ByteArray).extract ((ji11) : Int).toNat ((wrap64 ((ji11) + 1)) : Int).toNat).size) = False := eq_false (Nat.not_lt.2 c15)
                        try (have c15b3 := c15; simp only [ByteArray.size_append', ByteArray.size_mk', List.size_toArray, List.length_cons, List.length_nil, Nat.reduceAdd, Nat.zero_add] at c15b3; replace c15b3 := eq_false (Nat.not_lt.2 c15b3))
                        obtain rfl := Option.some.inj H
                        go_enter Try.func18, Try.ntmps18
                        go_wp2_with (first | (go_at_call 19; (with_reducible refine (impl_ChecksumOf.calls k a0 t175 _ A2.out).mono ?_); rintro e w' ⟨rfl, ⟨nd, rfl⟩⟩; (try first | exact ⟨rfl, _, World.drewN_drewN _ _ _⟩ | exact ⟨rfl, _, Eq.trans (World.drewN_drewN _ _ _) (congrArg (World.drewN _) (Nat.add_assoc _ _ _))⟩)))
                        repeat (go_quiet (first | (go_at_call 19; (with_reducible refine (impl_ChecksumOf.calls k a0 t175 _ A2.out).mono ?_); rintro e w' ⟨rfl, ⟨nd, rfl⟩⟩; (try first | exact ⟨rfl, _, World.drewN_drewN _ _ _⟩ | exact ⟨rfl, _, Eq.trans (World.drewN_drewN _ _ _) (congrArg (World.drewN _) (Nat.add_assoc _ _ _))⟩))); try go_wp2_with (first | (go_at_call 19; (with_reducible refine (impl_ChecksumOf.calls k a0 t175 _ A2.out).mono ?_); rintro e w' ⟨rfl, ⟨nd, rfl⟩⟩; (try first | exact ⟨rfl, _, World.drewN_drewN _ _ _⟩ | exact ⟨rfl, _, Eq.trans (World.drewN_drewN _ _ _) (congrArg (World.drewN _) (Nat.add_assoc _ _ _))⟩))))
                        go_ret
                        exact ⟨by first | rfl | (simp; done) | (simp only [← hji6, ← hji11] <;> (first | rfl | simp)) | (simp [*]; done), by repeat (first | exact Drawn0.refl _ | apply Drawn0.step)⟩
                      · rw [if_neg c15] at H
                        exact absurd H (by simp)
                    · rw [if_neg c14] at H
                      exact absurd H (by simp)
                  · rw [if_neg c13] at H
                    exact absurd H (by simp)
                · rw [if_neg c12] at H
                  exact absurd H (by simp)
              · rw [if_neg c10] at H
                exact absurd H (by simp)
            · rw [if_neg c9] at H
              exact absurd H (by simp)
          · rw [if_neg c8] at H
            exact absurd H (by simp)
        · rw [if_neg c7] at H
          exact absurd H (by simp)
      · rw [if_neg c5] at H
        exact absurd H (by simp)
    · rw [if_neg c4] at H
      exact absurd H (by simp)

/-! ### impl_ReadFrame: function 16 -/
def impl_ReadFrame.f (k : Nat) (a0 : ByteArray) : Option (ByteArray × Bool) := if (a0.size : Int) < 4 then (some ((⟨#[]⟩ : ByteArray), false)) else (if 1 ≤ (wrap64 ((a0.size : Int) - 3)) then (if (wrap64 ((a0.size : Int) - 3)) ≤ (a0.size : Int) then ((impl_FrameBody.f k (a0.extract 1 ((wrap64 ((a0.size : Int) - 3)) : Int).toNat)).bind fun t176 => (if a0.toList = t176.toList then (some (a0.extract 1 ((wrap64 ((a0.size : Int) - 3)) : Int).toNat, true)) else (some ((⟨#[]⟩ : ByteArray), false)))) else (none)) else (none))
theorem impl_ReadFrame.mono : ∀ a0 k, LeO (impl_ReadFrame.f k a0) (impl_ReadFrame.f (k + 1) a0) := by
  intro a0 k
  unfold impl_ReadFrame.f
  repeat' first
      | (with_reducible exact impl_FrameBody.mono _ _)
      | (with_reducible exact LeO.refl _)
      | (with_reducible exact LeO.none _)
      | (with_reducible refine LeO.ite ?_ ?_)
      | (with_reducible refine LeO.bind ?_ (fun _ => ?_))
      | exact impl_FrameBody.mono _ _
      | exact LeO.none _
      | refine LeO.ite ?_ ?_
      | refine LeO.bind ?_ (fun _ => ?_)
set_option maxHeartbeats 8000000 in
set_option maxRecDepth 100000 in
theorem impl_ReadFrame.calls (k : Nat) (a0 : ByteArray) (r1 : ByteArray) (r2 : Bool) (w : World) (h : impl_ReadFrame.f k a0 = some (r1, r2)) :
    Calls Try.prog 16 #[.string a0] w fun e w' => e = .returned (.tuple #[.string r1, .bool r2]) ∧ Drawn0 w w' := by
  have H : (if (a0.size : Int) < 4 then (some ((⟨#[]⟩ : ByteArray), false)) else (if 1 ≤ (wrap64 ((a0.size : Int) - 3)) then (if (wrap64 ((a0.size : Int) - 3)) ≤ (a0.size : Int) then ((impl_FrameBody.f k (a0.extract 1 ((wrap64 ((a0.size : Int) - 3)) : Int).toNat)).bind fun t176 => (if a0.toList = t176.toList then (some (a0.extract 1 ((wrap64 ((a0.size : Int) - 3)) : Int).toNat, true)) else (some ((⟨#[]⟩ : ByteArray), false)))) else (none)) else (none))) = some (r1, r2) := h
  clear h
  by_cases c2 : (a0.size : Int) < 4
  · rw [if_pos c2] at H
    have c2b0 : decide ((a0.size : Int) < 4) = true := decide_eq_true c2
    have c2b1 : decide (a0.size < 4) = true := decide_eq_true (by omega)
    clear c2
    simp only [Option.some.injEq, Prod.mk.injEq] at H
    obtain ⟨rfl, rfl⟩ := H
    go_enter Try.func16, Try.ntmps16
    go_wp2
    go_ret2
    exact ⟨by first | rfl | (simp; done) | (simp [*]; done), by repeat (first | exact Drawn0.refl _ | apply Drawn0.step)⟩
  · rw [if_neg c2] at H
    have c2b0 : decide ((a0.size : Int) < 4) = false := decide_eq_false c2
    have c2b1 : decide (a0.size < 4) = false := decide_eq_false (by omega)
    clear c2
    by_cases c3 : 1 ≤ (wrap64 ((a0.size : Int) - 3))
    · rw [if_pos c3] at H
      have c3b0 := eq_true c3
      have c3b1 : decide (1 ≤ (wrap64 ((a0.size : Int) - 3))) = true := decide_eq_true c3
      clear c3
      by_cases c4 : (wrap64 ((a0.size : Int) - 3)) ≤ (a0.size : Int)
      · rw [if_pos c4] at H
        have c4b0 := eq_true c4
        have c4b1 : decide ((wrap64 ((a0.size : Int) - 3)) ≤ (a0.size : Int)) = true := decide_eq_true c4
        clear c4
        replace H := Option.bind_eq_some_iff.mp H
        obtain ⟨t176, A50, H⟩ := H
        replace H : (if a0.toList = t176.toList then (some (a0.extract 1 ((wrap64 ((a0.size : Int) - 3)) : Int).toNat, true)) else (some ((⟨#[]⟩ : ByteArray), false))) = some (r1, r2) := H
        have A5 := Aside0.mk A50
        clear A50
        by_cases c6 : a0.toList = t176.toList
        · rw [if_pos c6] at H
          have c6b0 : (a0.toList == t176.toList) = true := beq_iff_eq.mpr c6
          have c6b1 : (a0.toList != t176.toList) = false := bne_eq_false_iff_eq.mpr c6
          clear c6
          have c7b0 := eq_true (of_decide_eq_true (by first | (with_reducible assumption) | assumption) : 1 ≤ (wrap64 ((a0.size : Int) - 3)))
          have c8b0 := eq_true (of_decide_eq_true (by first | (with_reducible assumption) | assumption) : (wrap64 ((a0.size : Int) - 3)) ≤ (a0.size : Int))
          simp only [Option.some.injEq, Prod.mk.injEq] at H
          obtain ⟨rfl, rfl⟩ := H
          go_enter Try.func16, Try.ntmps16
          go_wp2_with (first | (go_at_call 18; (with_reducible refine (impl_FrameBody.calls k (a0.extract 1 ((wrap64 ((a0.size : Int) - 3)) : Int).toNat) t176 _ A5.out).mono ?_); rintro e w' ⟨rfl, ⟨nd, rfl⟩⟩))
          go_ret2
          exact ⟨by first | rfl | (simp; done) | (simp [*]; done), by repeat (first | exact Drawn0.refl _ | apply Drawn0.step)⟩
        · rw [if_neg c6] at H
          have c6b0 : (a0.toList == t176.toList) = false := beq_eq_false_iff_ne.mpr c6
          have c6b1 : (a0.toList != t176.toList) = true := bne_iff_ne.mpr c6
          simp only [Option.some.injEq, Prod.mk.injEq] at H
          obtain ⟨rfl, rfl⟩ := H
          go_enter Try.func16, Try.ntmps16
          go_wp2_with (first | (go_at_call 18; (with_reducible refine (impl_FrameBody.calls k (a0.extract 1 ((wrap64 ((a0.size : Int) - 3)) : Int).toNat) t176 _ A5.out).mono ?_); rintro e w' ⟨rfl, ⟨nd, rfl⟩⟩))
          go_ret2
          exact ⟨by first | rfl | (simp; done) | (simp [*]; done), by repeat (first | exact Drawn0.refl _ | apply Drawn0.step)⟩
      · rw [if_neg c4] at H
        exact absurd H (by simp)
    · rw [if_neg c3] at H
      exact absurd H (by simp)

/-! ### spec_ReadFrame: function 17 -/
def spec_ReadFrame.f (k : Nat) (a0 : ByteArray) : Option (ByteArray × Bool) := if (a0.size : Int) < 5 then (some ((⟨#[]⟩ : ByteArray), false)) else (if 1 ≤ (wrap64 ((a0.size : Int) - 3)) then (if (wrap64 ((a0.size : Int) - 3)) ≤ (a0.size : Int) then ((spec_isBody.f k (a0.extract 1 ((wrap64 ((a0.size : Int) - 3)) : Int).toNat)).bind fun t177 => (if t177 = true then ((spec_FrameBody.f k (a0.extract 1 ((wrap64 ((a0.size : Int) - 3)) : Int).toNat)).bind fun t178 => (if t178.toList = a0.toList then (some (a0.extract 1 ((wrap64 ((a0.size : Int) - 3)) : Int).toNat, true)) else (some ((⟨#[]⟩ : ByteArray), false)))) else (some ((⟨#[]⟩ : ByteArray), false)))) else (none)) else (none))
theorem spec_ReadFrame.mono : ∀ a0 k, LeO (spec_ReadFrame.f k a0) (spec_ReadFrame.f (k + 1) a0) := by
  intro a0 k
  unfold spec_ReadFrame.f
  repeat' first
      | (with_reducible exact spec_FrameBody.mono _ _)
      | (with_reducible exact spec_isBody.mono _ _)
      | (with_reducible exact LeO.refl _)
      | (with_reducible exact LeO.none _)
      | (with_reducible refine LeO.ite ?_ ?_)
      | (with_reducible refine LeO.bind ?_ (fun _ => ?_))
      | exact spec_FrameBody.mono _ _
      | exact spec_isBody.mono _ _
      | exact LeO.none _
      | refine LeO.ite ?_ ?_
      | refine LeO.bind ?_ (fun _ => ?_)
set_option maxHeartbeats 8000000 in
set_option maxRecDepth 100000 in
theorem spec_ReadFrame.calls (k : Nat) (a0 : ByteArray) (r1 : ByteArray) (r2 : Bool) (w : World) (h : spec_ReadFrame.f k a0 = some (r1, r2)) :
    Calls Try.prog 17 #[.string a0] w fun e w' => e = .returned (.tuple #[.string r1, .bool r2]) ∧ Drawn0 w w' := by
  have H : (if (a0.size : Int) < 5 then (some ((⟨#[]⟩ : ByteArray), false)) else (if 1 ≤ (wrap64 ((a0.size : Int) - 3)) then (if (wrap64 ((a0.size : Int) - 3)) ≤ (a0.size : Int) then ((spec_isBody.f k (a0.extract 1 ((wrap64 ((a0.size : Int) - 3)) : Int).toNat)).bind fun t177 => (if t177 = true then ((spec_FrameBody.f k (a0.extract 1 ((wrap64 ((a0.size : Int) - 3)) : Int).toNat)).bind fun t178 => (if t178.toList = a0.toList then (some (a0.extract 1 ((wrap64 ((a0.size : Int) - 3)) : Int).toNat, true)) else (some ((⟨#[]⟩ : ByteArray), false)))) else (some ((⟨#[]⟩ : ByteArray), false)))) else (none)) else (none))) = some (r1, r2) := h
  clear h
  by_cases c2 : (a0.size : Int) < 5
  · rw [if_pos c2] at H
    have c2b0 : decide ((a0.size : Int) < 5) = true := decide_eq_true c2
    have c2b1 : decide (a0.size < 5) = true := decide_eq_true (by omega)
    clear c2
    simp only [Option.some.injEq, Prod.mk.injEq] at H
    obtain ⟨rfl, rfl⟩ := H
    go_enter Try.func17, Try.ntmps17
    go_wp2
    go_ret2
    exact ⟨by first | rfl | (simp; done) | (simp [*]; done), by repeat (first | exact Drawn0.refl _ | apply Drawn0.step)⟩
  · rw [if_neg c2] at H
    have c2b0 : decide ((a0.size : Int) < 5) = false := decide_eq_false c2
    have c2b1 : decide (a0.size < 5) = false := decide_eq_false (by omega)
    clear c2
    by_cases c3 : 1 ≤ (wrap64 ((a0.size : Int) - 3))
    · rw [if_pos c3] at H
      have c3b0 := eq_true c3
      have c3b1 : decide (1 ≤ (wrap64 ((a0.size : Int) - 3))) = true := decide_eq_true c3
      clear c3
      by_cases c4 : (wrap64 ((a0.size : Int) - 3)) ≤ (a0.size : Int)
      · rw [if_pos c4] at H
        have c4b0 := eq_true c4
        have c4b1 : decide ((wrap64 ((a0.size : Int) - 3)) ≤ (a0.size : Int)) = true := decide_eq_true c4
        clear c4
        replace H := Option.bind_eq_some_iff.mp H
        obtain ⟨t177, A50, H⟩ := H
        replace H : (if t177 = true then ((spec_FrameBody.f k (a0.extract 1 ((wrap64 ((a0.size : Int) - 3)) : Int).toNat)).bind fun t178 => (if t178.toList = a0.toList then (some (a0.extract 1 ((wrap64 ((a0.size : Int) - 3)) : Int).toNat, true)) else (some ((⟨#[]⟩ : ByteArray), false)))) else (some ((⟨#[]⟩ : ByteArray), false))) = some (r1, r2) := H
        have A5 := Aside0.mk A50
        clear A50
        by_cases c6 : t177 = true
        · subst c6
          have H1 : ((spec_FrameBody.f k (a0.extract 1 ((wrap64 ((a0.size : Int) - 3)) : Int).toNat)).bind fun t178 => (if t178.toList = a0.toList then (some (a0.extract 1 ((wrap64 ((a0.size : Int) - 3)) : Int).toNat, true)) else (some ((⟨#[]⟩ : ByteArray), false)))) = some (r1, r2) := by rw [if_pos rfl] at H; exact H
          clear H
          have H := H1
          clear H1
          replace H := Option.bind_eq_some_iff.mp H
          obtain ⟨t178, A70, H⟩ := H
          replace H : (if t178.toList = a0.toList then (some (a0.extract 1 ((wrap64 ((a0.size : Int) - 3)) : Int).toNat, true)) else (some ((⟨#[]⟩ : ByteArray), false))) = some (r1, r2) := H
          have A7 := Aside0.mk A70
          clear A70
          by_cases c8 : t178.toList = a0.toList
          · rw [if_pos c8] at H
            have c8b0 : (t178.toList == a0.toList) = true := beq_iff_eq.mpr c8
            have c8b1 : (t178.toList != a0.toList) = false := bne_eq_false_iff_eq.mpr c8
            clear c8
            simp only [Option.some.injEq, Prod.mk.injEq] at H
            obtain ⟨rfl, rfl⟩ := H
            go_enter Try.func17, Try.ntmps17
            go_wp2_with (first | ((with_reducible refine gate_callee (f := 30) rfl ?_); refine goesL_ (some 14) rfl rfl Try.func30 (by kernel_rfl) rfl #[.string (a0.extract 1 ((wrap64 ((a0.size : Int) - 3)) : Int).toNat)] rfl (by (try simp only [List.map_toArray, List.map_cons, List.map_nil]); first | done | rfl | (simp only [List.length_drop, List.length_take]; rfl)) ?_; (with_reducible refine (spec_isBody.calls k (a0.extract 1 ((wrap64 ((a0.size : Int) - 3)) : Int).toNat) true _ A5.out).mono ?_); rintro e w' ⟨rfl, ⟨nd, rfl⟩⟩; refine ⟨_, rfl, ?_⟩) | (go_at_call 26; (with_reducible refine (spec_FrameBody.calls k (a0.extract 1 ((wrap64 ((a0.size : Int) - 3)) : Int).toNat) t178 _ A7.out).mono ?_); rintro e w' ⟨rfl, ⟨nd, rfl⟩⟩))
            go_ret2
            exact ⟨by first | rfl | (simp; done) | (simp [*]; done), by repeat (first | exact Drawn0.refl _ | apply Drawn0.step)⟩
          · rw [if_neg c8] at H
            have c8b0 : (t178.toList == a0.toList) = false := beq_eq_false_iff_ne.mpr c8
            have c8b1 : (t178.toList != a0.toList) = true := bne_iff_ne.mpr c8
            simp only [Option.some.injEq, Prod.mk.injEq] at H
            obtain ⟨rfl, rfl⟩ := H
            go_enter Try.func17, Try.ntmps17
            go_wp2_with (first | ((with_reducible refine gate_callee (f := 30) rfl ?_); refine goesL_ (some 14) rfl rfl Try.func30 (by kernel_rfl) rfl #[.string (a0.extract 1 ((wrap64 ((a0.size : Int) - 3)) : Int).toNat)] rfl (by (try simp only [List.map_toArray, List.map_cons, List.map_nil]); first | done | rfl | (simp only [List.length_drop, List.length_take]; rfl)) ?_; (with_reducible refine (spec_isBody.calls k (a0.extract 1 ((wrap64 ((a0.size : Int) - 3)) : Int).toNat) true _ A5.out).mono ?_); rintro e w' ⟨rfl, ⟨nd, rfl⟩⟩; refine ⟨_, rfl, ?_⟩) | (go_at_call 26; (with_reducible refine (spec_FrameBody.calls k (a0.extract 1 ((wrap64 ((a0.size : Int) - 3)) : Int).toNat) t178 _ A7.out).mono ?_); rintro e w' ⟨rfl, ⟨nd, rfl⟩⟩))
            go_ret2
            exact ⟨by first | rfl | (simp; done) | (simp [*]; done), by repeat (first | exact Drawn0.refl _ | apply Drawn0.step)⟩
        · replace c6 := Bool.eq_false_iff.mpr c6
          subst c6
          have H1 : (some ((⟨#[]⟩ : ByteArray), false)) = some (r1, r2) := by rw [if_neg (show ¬ (false = true) by decide)] at H; exact H
          clear H
          have H := H1
          clear H1
          simp only [Option.some.injEq, Prod.mk.injEq] at H
          obtain ⟨rfl, rfl⟩ := H
          go_enter Try.func17, Try.ntmps17
          go_wp2_with (first | ((with_reducible refine gate_callee (f := 30) rfl ?_); refine goesL_ (some 14) rfl rfl Try.func30 (by kernel_rfl) rfl #[.string (a0.extract 1 ((wrap64 ((a0.size : Int) - 3)) : Int).toNat)] rfl (by (try simp only [List.map_toArray, List.map_cons, List.map_nil]); first | done | rfl | (simp only [List.length_drop, List.length_take]; rfl)) ?_; (with_reducible refine (spec_isBody.calls k (a0.extract 1 ((wrap64 ((a0.size : Int) - 3)) : Int).toNat) false _ A5.out).mono ?_); rintro e w' ⟨rfl, ⟨nd, rfl⟩⟩; refine ⟨_, rfl, ?_⟩))
          go_ret2
          exact ⟨by first | rfl | (simp; done) | (simp [*]; done), by repeat (first | exact Drawn0.refl _ | apply Drawn0.step)⟩
      · rw [if_neg c4] at H
        exact absurd H (by simp)
    · rw [if_neg c3] at H
      exact absurd H (by simp)

end Go.Proofs.Ytmbfilhehclffaa.HFnReadFrameWrong
