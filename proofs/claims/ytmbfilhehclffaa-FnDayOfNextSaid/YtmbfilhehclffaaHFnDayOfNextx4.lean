/- Proved here: what the Go functions that the law reaches answer, for every input at which their Lean twins answer. Conditions: those that each theorem states. Written by a program of this session (mend.py), out of the text that the kit's print makes for the law. -/
import Derived.Test.YtmbfilhehclffaaHFnDayOfNextx0
import Derived.Test.YtmbfilhehclffaaHFnDayOfNextx1
import Derived.Test.YtmbfilhehclffaaHFnDayOfNextx2
import Derived.Test.YtmbfilhehclffaaHFnDayOfNextx3
namespace Go.Proofs.Ytmbfilhehclffaa.HFnDayOfNext
open Go.RowKit Go.Proofs.YtmbfilhehclffaaW.PrintWords Go.Proofs.YtmbfilhehclffaaW.PrintLast Go.Proofs.YtmbfilhehclffaaW.PrintMore
attribute [local go_sem] max2_int min2_int max_two min_two max_three min_three max_four min_four   -- for this text's walks alone
set_option linter.unusedVariables false
set_option linter.unusedSimpArgs false

/-! ### laws_FnDayOfNext: function 4 -/
def laws_FnDayOfNext.j0 : Nat → Int → Bool → Int → Int → Int → Option (Bool)
  | 0, _, _, _, _, _ => none
  | k + 1, x4, x24, x194000, x194001, x194002 => if x24 = true then ((spec_DayOf.f k x194000 x194001 x194002).bind fun t196 => (some (x4 == t196))) else ((impl_MonthDays.f k x194000 x194001).bind fun t198 => (if x194002 = t198 then (if x194001 = 12 then ((impl_DayOf.f k (wrap64 (x194000 + 1)) 1 1).bind fun t199 => (some (t199 == (wrap64 (x4 + 1))))) else ((impl_DayOf.f k x194000 (wrap64 (x194001 + 1)) 1).bind fun t200 => (some (t200 == (wrap64 (x4 + 1)))))) else ((impl_DayOf.f k x194000 x194001 (wrap64 (x194002 + 1))).bind fun t201 => (some (t201 == (wrap64 (x4 + 1)))))))
def laws_FnDayOfNext.f (k : Nat) (l0 : List Int) : Option (Bool) := if (l0.length : Int) > 1048576 then (some true) else ((spec_DrawDayOf.f k l0).bind fun bt190 => ((impl_DayOf.f k bt190.1 bt190.2.1 bt190.2.2).bind fun t194 => ((spec_DayOf.f k bt190.1 bt190.2.1 bt190.2.2).bind fun t195 => (if t194 = t195 then (if t194 < 0 then (laws_FnDayOfNext.j0 k t194 true bt190.1 bt190.2.1 bt190.2.2) else (laws_FnDayOfNext.j0 k t194 (t194 == 43829) bt190.1 bt190.2.1 bt190.2.2)) else (laws_FnDayOfNext.j0 k t194 true bt190.1 bt190.2.1 bt190.2.2)))))
theorem laws_FnDayOfNext.mono_l : ∀ k, (∀ y0 y1 y2 y3 y4, LeO (laws_FnDayOfNext.j0 k y0 y1 y2 y3 y4) (laws_FnDayOfNext.j0 (k + 1) y0 y1 y2 y3 y4))
  | 0 => fun _ _ _ _ _ r h => by simp [laws_FnDayOfNext.j0] at h
  | k + 1 => by
    have ih0 := laws_FnDayOfNext.mono_l k
    · intro y0 y1 y2 y3 y4
      unfold laws_FnDayOfNext.j0
      repeat' first
      | (with_reducible exact ih0 _ _ _ _ _)
      | (with_reducible exact impl_DayOf.mono _ _ _ _)
      | (with_reducible exact impl_MonthDays.mono _ _ _)
      | (with_reducible exact spec_DayOf.mono _ _ _ _)
      | (with_reducible exact spec_DrawDayOf.mono _ _)
      | (with_reducible exact LeO.refl _)
      | (with_reducible exact LeO.none _)
      | (with_reducible refine LeO.ite ?_ ?_)
      | (with_reducible refine LeO.bind ?_ (fun _ => ?_))
      | exact ih0 _ _ _ _ _
      | exact impl_DayOf.mono _ _ _ _
      | exact impl_MonthDays.mono _ _ _
      | exact spec_DayOf.mono _ _ _ _
      | exact spec_DrawDayOf.mono _ _
      | exact LeO.none _
      | refine LeO.ite ?_ ?_
      | refine LeO.bind ?_ (fun _ => ?_)
theorem laws_FnDayOfNext.mono : ∀ a0 k, LeO (laws_FnDayOfNext.f k a0) (laws_FnDayOfNext.f (k + 1) a0) := by
  intro a0 k
  have ih0 := laws_FnDayOfNext.mono_l k
  unfold laws_FnDayOfNext.f
  repeat' first
      | (with_reducible exact ih0 _ _ _ _ _)
      | (with_reducible exact impl_DayOf.mono _ _ _ _)
      | (with_reducible exact impl_MonthDays.mono _ _ _)
      | (with_reducible exact spec_DayOf.mono _ _ _ _)
      | (with_reducible exact spec_DrawDayOf.mono _ _)
      | (with_reducible exact LeO.refl _)
      | (with_reducible exact LeO.none _)
      | (with_reducible refine LeO.ite ?_ ?_)
      | (with_reducible refine LeO.bind ?_ (fun _ => ?_))
      | exact ih0 _ _ _ _ _
      | exact impl_DayOf.mono _ _ _ _
      | exact impl_MonthDays.mono _ _ _
      | exact spec_DayOf.mono _ _ _ _
      | exact spec_DrawDayOf.mono _ _
      | exact LeO.none _
      | refine LeO.ite ?_ ?_
      | refine LeO.bind ?_ (fun _ => ?_)
set_option maxHeartbeats 8000000 in
set_option maxRecDepth 100000 in
theorem laws_FnDayOfNext.calls (k : Nat) (A0 : Option Addr) (c0 : Nat) (l0 : List Int) (r : Bool) (w : World) (hr0 : Kd.C (Kd.int .u8) w A0 l0.length l0) (hc0 : l0.length ≤ c0) (h : laws_FnDayOfNext.f k l0 = some r) :
    Calls Try.prog 4 #[.slice A0 l0.length c0] w fun e w' => e = .returned (.bool r) ∧ Below w.heap.size w w' := by
  have hu24 := Try.underlying24
  have HR0 := Aside0.mk hr0
  have HC0 := Aside0.mk hc0
  clear hr0 hc0
  have HB := Aside0.mk (Below.refl w.heap.size w)
  have H : (if (l0.length : Int) > 1048576 then (some true) else ((spec_DrawDayOf.f k l0).bind fun bt190 => ((impl_DayOf.f k bt190.1 bt190.2.1 bt190.2.2).bind fun t194 => ((spec_DayOf.f k bt190.1 bt190.2.1 bt190.2.2).bind fun t195 => (if t194 = t195 then (if t194 < 0 then (laws_FnDayOfNext.j0 k t194 true bt190.1 bt190.2.1 bt190.2.2) else (laws_FnDayOfNext.j0 k t194 (t194 == 43829) bt190.1 bt190.2.1 bt190.2.2)) else (laws_FnDayOfNext.j0 k t194 true bt190.1 bt190.2.1 bt190.2.2)))))) = some r := h
  clear h
  by_cases c2 : (l0.length : Int) > 1048576
  · rw [if_pos c2] at H
    have c2b0 : decide (1048576 < (l0.length : Int)) = true := decide_eq_true c2
    have c2b1 : decide (1048576 < l0.length) = true := decide_eq_true (by omega)
    clear c2
    obtain rfl := Option.some.inj H
    go_enter Try.func4, Try.ntmps4
    go_wp2
    repeat (go_quiet (fail); try go_wp2)
    go_ret
    exact ⟨by first | rfl | (simp [errW_none, errW_some] <;> rfl) | (simp [*, errW_none, errW_some] <;> rfl) | (refine congrArg (fun b_ => Ending.returned (Value.bool b_)) (decide_eq_decide.2 ?_); unfold wrap64; omega), by repeat (first | (with_reducible first | exact HB.out | apply below_alloc | apply pw_below_drewN | apply below_drew1) | exact HB.out)⟩
  · rw [if_neg c2] at H
    have c2b0 : decide (1048576 < (l0.length : Int)) = false := decide_eq_false c2
    have c2b1 : decide (1048576 < l0.length) = false := decide_eq_false (by omega)
    clear c2
    replace H := Option.bind_eq_some_iff.mp H
    obtain ⟨⟨t190, t191, t192⟩, A30, H⟩ := H
    replace H : ((impl_DayOf.f k t190 t191 t192).bind fun t194 => ((spec_DayOf.f k t190 t191 t192).bind fun t195 => (if t194 = t195 then (if t194 < 0 then (laws_FnDayOfNext.j0 k t194 true t190 t191 t192) else (laws_FnDayOfNext.j0 k t194 (t194 == 43829) t190 t191 t192)) else (laws_FnDayOfNext.j0 k t194 true t190 t191 t192)))) = some r := H
    have A3 := Aside0.mk A30
    clear A30
    replace H := Option.bind_eq_some_iff.mp H
    obtain ⟨t194, A40, H⟩ := H
    replace H : ((spec_DayOf.f k t190 t191 t192).bind fun t195 => (if t194 = t195 then (if t194 < 0 then (laws_FnDayOfNext.j0 k t194 true t190 t191 t192) else (laws_FnDayOfNext.j0 k t194 (t194 == 43829) t190 t191 t192)) else (laws_FnDayOfNext.j0 k t194 true t190 t191 t192))) = some r := H
    have A4 := Aside0.mk A40
    clear A40
    have HC5 := Aside0.mk H
    clear H
    go_enter Try.func4, Try.ntmps4
    go_upto_region 5 with (first | (go_at_call 9; (with_reducible refine (spec_DrawDayOf.calls k _ _ l0 t190 t191 t192 _ ?side1 ?side2 A3.out).mono ?_); (case side1 => repeat (first | exact HR0.out | (with_reducible refine Kd.C_alloc ?_ _) | (with_reducible refine Kd.C_drewN ?_ _) | (with_reducible refine Kd.C_drew ?_))); (case side2 => exact HC0.out); rintro e w6 ⟨rfl, hb⟩; have n0_ := Aside0.mk (below_step (by repeat (first | (with_reducible first | exact HB.out | apply below_alloc | apply pw_below_drewN | apply below_drew1) | exact HB.out)) hb); clear HB; have HB := n0_; clear n0_; (try clear hb); (try clear hb2); (try clear hk); (try clear hi)) | ((with_reducible refine gate_dst (N := 3) rfl ?_); refine box_event ?hg (N := 3) ?hd (cs := #[.int .i64 0, .int .i64 0, .int .i64 0]) (t := 24) ?hr ?_; (case hd => rfl); (case hg => rfl); (case hr => first | (go_simp; done) | (go_simp; rfl)); intro gb193 hg w7 hbox hb; have n0_ := Aside0.mk (below_step (by repeat (first | (with_reducible first | exact HB.out | apply below_alloc | apply pw_below_drewN | apply below_drew1) | exact HB.out)) hb); have n1_ := Aside0.mk (hbox); have n2_ := Aside0.mk ((by rw [hg]; exact (below_size (by repeat (first | (with_reducible first | exact HB.out | apply below_alloc | apply pw_below_drewN | apply below_drew1) | exact HB.out))) : w.heap.size ≤ gb193)); have n3_ := Aside0.mk ((by rw [hg]; exact (below_size (by repeat (first | (with_reducible first | exact HB.out | apply below_alloc | apply pw_below_drewN | apply below_drew1) | exact HB.out))) : w.heap.size ≤ gb193)); clear HB; have HB := n0_; have BK193 := n1_; have GW193 := n2_; have GE193 := n3_; clear n0_ n1_ n2_ n3_; clear hb hbox hg; have hcz8_0 : w7.cell? ⟨gb193, 0, none⟩ = some (.int .i64 0) := (blk_cell BK193.out 0).trans rfl; have hcz8_1 : w7.cell? ⟨gb193, 1, none⟩ = some (.int .i64 0) := (blk_cell BK193.out 1).trans rfl; have hcz8_2 : w7.cell? ⟨gb193, 2, none⟩ = some (.int .i64 0) := (blk_cell BK193.out 2).trans rfl; have hfz8_0 := blk_frozen BK193.out 0; have hfz8_1 := blk_frozen BK193.out 1; have hfz8_2 := blk_frozen BK193.out 2) | (go_at_call 10; (with_reducible refine (impl_DayOf.calls k t190 t191 t192 t194 _ A4.out).mono ?_); rintro e w9 ⟨rfl, hb⟩; have n0_ := Aside0.mk (blk_below (g := gb193) (o := .cells #[.int .i64 t190, .int .i64 t191, .int .i64 t192] 24 (0, 0)) (by (with_reducible repeat (first | refine blk_drewN ?_ _ | refine blk_drew ?_ | refine blk_alloc ?_ _)); refine blk_put (cs := #[.int .i64 t190, .int .i64 t191, .int .i64 0]) ?_ 2 _ rfl; (with_reducible repeat (first | refine blk_drewN ?_ _ | refine blk_drew ?_ | refine blk_alloc ?_ _)); refine blk_put (cs := #[.int .i64 t190, .int .i64 0, .int .i64 0]) ?_ 1 _ rfl; (with_reducible repeat (first | refine blk_drewN ?_ _ | refine blk_drew ?_ | refine blk_alloc ?_ _)); refine blk_put (cs := #[.int .i64 0, .int .i64 0, .int .i64 0]) ?_ 0 _ rfl; (with_reducible repeat (first | refine blk_drewN ?_ _ | refine blk_drew ?_ | refine blk_alloc ?_ _)); exact BK193.out) hb); have n1_ := Aside0.mk (below_step (by repeat (first | (with_reducible first | exact HB.out | apply below_alloc | apply pw_below_drewN | apply below_drew1 | refine below_set ?_ GE193.out) | exact HB.out)) hb); clear BK193; clear HB; have BK193 := n0_; have HB := n1_; clear n0_ n1_; (try clear hb); (try clear hb2); (try clear hk); (try clear hi)))
    repeat (go_quiet (first | (go_at_call 9; (with_reducible refine (spec_DrawDayOf.calls k _ _ l0 t190 t191 t192 _ ?side1 ?side2 A3.out).mono ?_); (case side1 => repeat (first | exact HR0.out | (with_reducible refine Kd.C_alloc ?_ _) | (with_reducible refine Kd.C_drewN ?_ _) | (with_reducible refine Kd.C_drew ?_))); (case side2 => exact HC0.out); rintro e w6 ⟨rfl, hb⟩; have n0_ := Aside0.mk (below_step (by repeat (first | (with_reducible first | exact HB.out | apply below_alloc | apply pw_below_drewN | apply below_drew1) | exact HB.out)) hb); clear HB; have HB := n0_; clear n0_; (try clear hb); (try clear hb2); (try clear hk); (try clear hi)) | ((with_reducible refine gate_dst (N := 3) rfl ?_); refine box_event ?hg (N := 3) ?hd (cs := #[.int .i64 0, .int .i64 0, .int .i64 0]) (t := 24) ?hr ?_; (case hd => rfl); (case hg => rfl); (case hr => first | (go_simp; done) | (go_simp; rfl)); intro gb193 hg w7 hbox hb; have n0_ := Aside0.mk (below_step (by repeat (first | (with_reducible first | exact HB.out | apply below_alloc | apply pw_below_drewN | apply below_drew1) | exact HB.out)) hb); have n1_ := Aside0.mk (hbox); have n2_ := Aside0.mk ((by rw [hg]; exact (below_size (by repeat (first | (with_reducible first | exact HB.out | apply below_alloc | apply pw_below_drewN | apply below_drew1) | exact HB.out))) : w.heap.size ≤ gb193)); have n3_ := Aside0.mk ((by rw [hg]; exact (below_size (by repeat (first | (with_reducible first | exact HB.out | apply below_alloc | apply pw_below_drewN | apply below_drew1) | exact HB.out))) : w.heap.size ≤ gb193)); clear HB; have HB := n0_; have BK193 := n1_; have GW193 := n2_; have GE193 := n3_; clear n0_ n1_ n2_ n3_; clear hb hbox hg; have hcz8_0 : w7.cell? ⟨gb193, 0, none⟩ = some (.int .i64 0) := (blk_cell BK193.out 0).trans rfl; have hcz8_1 : w7.cell? ⟨gb193, 1, none⟩ = some (.int .i64 0) := (blk_cell BK193.out 1).trans rfl; have hcz8_2 : w7.cell? ⟨gb193, 2, none⟩ = some (.int .i64 0) := (blk_cell BK193.out 2).trans rfl; have hfz8_0 := blk_frozen BK193.out 0; have hfz8_1 := blk_frozen BK193.out 1; have hfz8_2 := blk_frozen BK193.out 2) | (go_at_call 10; (with_reducible refine (impl_DayOf.calls k t190 t191 t192 t194 _ A4.out).mono ?_); rintro e w9 ⟨rfl, hb⟩; have n0_ := Aside0.mk (blk_below (g := gb193) (o := .cells #[.int .i64 t190, .int .i64 t191, .int .i64 t192] 24 (0, 0)) (by (with_reducible repeat (first | refine blk_drewN ?_ _ | refine blk_drew ?_ | refine blk_alloc ?_ _)); refine blk_put (cs := #[.int .i64 t190, .int .i64 t191, .int .i64 0]) ?_ 2 _ rfl; (with_reducible repeat (first | refine blk_drewN ?_ _ | refine blk_drew ?_ | refine blk_alloc ?_ _)); refine blk_put (cs := #[.int .i64 t190, .int .i64 0, .int .i64 0]) ?_ 1 _ rfl; (with_reducible repeat (first | refine blk_drewN ?_ _ | refine blk_drew ?_ | refine blk_alloc ?_ _)); refine blk_put (cs := #[.int .i64 0, .int .i64 0, .int .i64 0]) ?_ 0 _ rfl; (with_reducible repeat (first | refine blk_drewN ?_ _ | refine blk_drew ?_ | refine blk_alloc ?_ _)); exact BK193.out) hb); have n1_ := Aside0.mk (below_step (by repeat (first | (with_reducible first | exact HB.out | apply below_alloc | apply pw_below_drewN | apply below_drew1 | refine below_set ?_ GE193.out) | exact HB.out)) hb); clear BK193; clear HB; have BK193 := n0_; have HB := n1_; clear n0_ n1_; (try clear hb); (try clear hb2); (try clear hk); (try clear hi))); go_upto_region 5 with (first | (go_at_call 9; (with_reducible refine (spec_DrawDayOf.calls k _ _ l0 t190 t191 t192 _ ?side1 ?side2 A3.out).mono ?_); (case side1 => repeat (first | exact HR0.out | (with_reducible refine Kd.C_alloc ?_ _) | (with_reducible refine Kd.C_drewN ?_ _) | (with_reducible refine Kd.C_drew ?_))); (case side2 => exact HC0.out); rintro e w6 ⟨rfl, hb⟩; have n0_ := Aside0.mk (below_step (by repeat (first | (with_reducible first | exact HB.out | apply below_alloc | apply pw_below_drewN | apply below_drew1) | exact HB.out)) hb); clear HB; have HB := n0_; clear n0_; (try clear hb); (try clear hb2); (try clear hk); (try clear hi)) | ((with_reducible refine gate_dst (N := 3) rfl ?_); refine box_event ?hg (N := 3) ?hd (cs := #[.int .i64 0, .int .i64 0, .int .i64 0]) (t := 24) ?hr ?_; (case hd => rfl); (case hg => rfl); (case hr => first | (go_simp; done) | (go_simp; rfl)); intro gb193 hg w7 hbox hb; have n0_ := Aside0.mk (below_step (by repeat (first | (with_reducible first | exact HB.out | apply below_alloc | apply pw_below_drewN | apply below_drew1) | exact HB.out)) hb); have n1_ := Aside0.mk (hbox); have n2_ := Aside0.mk ((by rw [hg]; exact (below_size (by repeat (first | (with_reducible first | exact HB.out | apply below_alloc | apply pw_below_drewN | apply below_drew1) | exact HB.out))) : w.heap.size ≤ gb193)); have n3_ := Aside0.mk ((by rw [hg]; exact (below_size (by repeat (first | (with_reducible first | exact HB.out | apply below_alloc | apply pw_below_drewN | apply below_drew1) | exact HB.out))) : w.heap.size ≤ gb193)); clear HB; have HB := n0_; have BK193 := n1_; have GW193 := n2_; have GE193 := n3_; clear n0_ n1_ n2_ n3_; clear hb hbox hg; have hcz8_0 : w7.cell? ⟨gb193, 0, none⟩ = some (.int .i64 0) := (blk_cell BK193.out 0).trans rfl; have hcz8_1 : w7.cell? ⟨gb193, 1, none⟩ = some (.int .i64 0) := (blk_cell BK193.out 1).trans rfl; have hcz8_2 : w7.cell? ⟨gb193, 2, none⟩ = some (.int .i64 0) := (blk_cell BK193.out 2).trans rfl; have hfz8_0 := blk_frozen BK193.out 0; have hfz8_1 := blk_frozen BK193.out 1; have hfz8_2 := blk_frozen BK193.out 2) | (go_at_call 10; (with_reducible refine (impl_DayOf.calls k t190 t191 t192 t194 _ A4.out).mono ?_); rintro e w9 ⟨rfl, hb⟩; have n0_ := Aside0.mk (blk_below (g := gb193) (o := .cells #[.int .i64 t190, .int .i64 t191, .int .i64 t192] 24 (0, 0)) (by (with_reducible repeat (first | refine blk_drewN ?_ _ | refine blk_drew ?_ | refine blk_alloc ?_ _)); refine blk_put (cs := #[.int .i64 t190, .int .i64 t191, .int .i64 0]) ?_ 2 _ rfl; (with_reducible repeat (first | refine blk_drewN ?_ _ | refine blk_drew ?_ | refine blk_alloc ?_ _)); refine blk_put (cs := #[.int .i64 t190, .int .i64 0, .int .i64 0]) ?_ 1 _ rfl; (with_reducible repeat (first | refine blk_drewN ?_ _ | refine blk_drew ?_ | refine blk_alloc ?_ _)); refine blk_put (cs := #[.int .i64 0, .int .i64 0, .int .i64 0]) ?_ 0 _ rfl; (with_reducible repeat (first | refine blk_drewN ?_ _ | refine blk_drew ?_ | refine blk_alloc ?_ _)); exact BK193.out) hb); have n1_ := Aside0.mk (below_step (by repeat (first | (with_reducible first | exact HB.out | apply below_alloc | apply pw_below_drewN | apply below_drew1 | refine below_set ?_ GE193.out) | exact HB.out)) hb); clear BK193; clear HB; have BK193 := n0_; have HB := n1_; clear n0_ n1_; (try clear hb); (try clear hb2); (try clear hk); (try clear hi))))
    (try simp only [Act.put, List.setIfInBounds_toArray, List.set_cons_zero, List.set_cons_succ])
    go_cut [24] (fun v24 wc => ∃ (kq : Nat) (x24_4 : Bool), v24 = .bool x24_4 ∧ Aside0 (laws_FnDayOfNext.j0 kq t194 x24_4 t190 t191 t192 = some r) ∧ Aside0 (kq ≤ k) ∧ Aside0 (wc.heap[gb193]? = some (.cells #[.int .i64 t190, .int .i64 t191, .int .i64 t192] 24 (0, 0))) ∧ Aside0 (Below w.heap.size w wc))
    case first =>
      have H := HC5.out
      clear HC5
      replace H := Option.bind_eq_some_iff.mp H
      obtain ⟨t195, A100, H⟩ := H
      replace H : (if t194 = t195 then (if t194 < 0 then (laws_FnDayOfNext.j0 k t194 true t190 t191 t192) else (laws_FnDayOfNext.j0 k t194 (t194 == 43829) t190 t191 t192)) else (laws_FnDayOfNext.j0 k t194 true t190 t191 t192)) = some r := H
      have A10 := Aside0.mk A100
      clear A100
      by_cases c11 : t194 = t195
      · rw [if_pos c11] at H
        have c11b0 : (t194 == t195) = true := beq_iff_eq.mpr c11
        have c11b1 : (t194 != t195) = false := bne_eq_false_iff_eq.mpr c11
        clear c11
        (first | rw [c11b0] | (simp only [i64_w, i32_w]; rw [c11b0]) | skip)
        by_cases c12 : t194 < 0
        · rw [if_pos c12] at H
          have c12b0 : decide (t194 < 0) = true := decide_eq_true c12
          clear c12
          have H' := Aside0.mk H
          clear H
          have hcz13_0 : w9.cell? ⟨gb193, 0, none⟩ = some (.int .i64 t190) := (blk_cell BK193.out 0).trans rfl
          have hcz13_1 : w9.cell? ⟨gb193, 1, none⟩ = some (.int .i64 t191) := (blk_cell BK193.out 1).trans rfl
          have hcz13_2 : w9.cell? ⟨gb193, 2, none⟩ = some (.int .i64 t192) := (blk_cell BK193.out 2).trans rfl
          have hfz13_0 := blk_frozen BK193.out 0
          have hfz13_1 := blk_frozen BK193.out 1
          have hfz13_2 := blk_frozen BK193.out 2
          go_wp2_with (first | (go_at_call 11; (with_reducible refine (spec_DayOf.calls k t190 t191 t192 t195 _ A10.out).mono ?_); rintro e w14 ⟨rfl, hb⟩; have n0_ := Aside0.mk (blk_below (g := gb193) (o := .cells #[.int .i64 t190, .int .i64 t191, .int .i64 t192] 24 (0, 0)) (by (with_reducible repeat (first | refine blk_drewN ?_ _ | refine blk_drew ?_ | refine blk_alloc ?_ _)); exact BK193.out) hb); have n1_ := Aside0.mk (below_step (by repeat (first | (with_reducible first | exact HB.out | apply below_alloc | apply pw_below_drewN | apply below_drew1 | refine below_set ?_ GE193.out) | exact HB.out)) hb); clear BK193; clear HB; have BK193 := n0_; have HB := n1_; clear n0_ n1_; (try clear hb); (try clear hb2); (try clear hk); (try clear hi)))
          repeat (go_quiet (first | (go_at_call 11; (with_reducible refine (spec_DayOf.calls k t190 t191 t192 t195 _ A10.out).mono ?_); rintro e w14 ⟨rfl, hb⟩; have n0_ := Aside0.mk (blk_below (g := gb193) (o := .cells #[.int .i64 t190, .int .i64 t191, .int .i64 t192] 24 (0, 0)) (by (with_reducible repeat (first | refine blk_drewN ?_ _ | refine blk_drew ?_ | refine blk_alloc ?_ _)); exact BK193.out) hb); have n1_ := Aside0.mk (below_step (by repeat (first | (with_reducible first | exact HB.out | apply below_alloc | apply pw_below_drewN | apply below_drew1 | refine below_set ?_ GE193.out) | exact HB.out)) hb); clear BK193; clear HB; have BK193 := n0_; have HB := n1_; clear n0_ n1_; (try clear hb); (try clear hb2); (try clear hk); (try clear hi))); try go_wp2_with (first | (go_at_call 11; (with_reducible refine (spec_DayOf.calls k t190 t191 t192 t195 _ A10.out).mono ?_); rintro e w14 ⟨rfl, hb⟩; have n0_ := Aside0.mk (blk_below (g := gb193) (o := .cells #[.int .i64 t190, .int .i64 t191, .int .i64 t192] 24 (0, 0)) (by (with_reducible repeat (first | refine blk_drewN ?_ _ | refine blk_drew ?_ | refine blk_alloc ?_ _)); exact BK193.out) hb); have n1_ := Aside0.mk (below_step (by repeat (first | (with_reducible first | exact HB.out | apply below_alloc | apply pw_below_drewN | apply below_drew1 | refine below_set ?_ GE193.out) | exact HB.out)) hb); clear BK193; clear HB; have BK193 := n0_; have HB := n1_; clear n0_ n1_; (try clear hb); (try clear hb2); (try clear hk); (try clear hi))))
          go_meet
          case rel => exact ⟨_, (true), (by first | rfl | (simp; done) | (simp [*]; done)), H', ⟨by first | omega | exact Nat.le_refl _⟩, ⟨by (with_reducible repeat (first | refine blk_drewN ?_ _ | refine blk_drew ?_ | refine blk_alloc ?_ _)); exact BK193.out⟩, ⟨by repeat (first | (with_reducible first | exact HB.out | apply below_alloc | apply pw_below_drewN | apply below_drew1 | refine below_set ?_ GE193.out) | exact HB.out)⟩⟩
        · rw [if_neg c12] at H
          have c12b0 : decide (t194 < 0) = false := decide_eq_false c12
          clear c12
          have H' := Aside0.mk H
          clear H
          have hcz15_0 : w9.cell? ⟨gb193, 0, none⟩ = some (.int .i64 t190) := (blk_cell BK193.out 0).trans rfl
          have hcz15_1 : w9.cell? ⟨gb193, 1, none⟩ = some (.int .i64 t191) := (blk_cell BK193.out 1).trans rfl
          have hcz15_2 : w9.cell? ⟨gb193, 2, none⟩ = some (.int .i64 t192) := (blk_cell BK193.out 2).trans rfl
          have hfz15_0 := blk_frozen BK193.out 0
          have hfz15_1 := blk_frozen BK193.out 1
          have hfz15_2 := blk_frozen BK193.out 2
          go_wp2_with (first | (go_at_call 11; (with_reducible refine (spec_DayOf.calls k t190 t191 t192 t195 _ A10.out).mono ?_); rintro e w16 ⟨rfl, hb⟩; have n0_ := Aside0.mk (blk_below (g := gb193) (o := .cells #[.int .i64 t190, .int .i64 t191, .int .i64 t192] 24 (0, 0)) (by (with_reducible repeat (first | refine blk_drewN ?_ _ | refine blk_drew ?_ | refine blk_alloc ?_ _)); exact BK193.out) hb); have n1_ := Aside0.mk (below_step (by repeat (first | (with_reducible first | exact HB.out | apply below_alloc | apply pw_below_drewN | apply below_drew1 | refine below_set ?_ GE193.out) | exact HB.out)) hb); clear BK193; clear HB; have BK193 := n0_; have HB := n1_; clear n0_ n1_; (try clear hb); (try clear hb2); (try clear hk); (try clear hi)))
          repeat (go_quiet (first | (go_at_call 11; (with_reducible refine (spec_DayOf.calls k t190 t191 t192 t195 _ A10.out).mono ?_); rintro e w16 ⟨rfl, hb⟩; have n0_ := Aside0.mk (blk_below (g := gb193) (o := .cells #[.int .i64 t190, .int .i64 t191, .int .i64 t192] 24 (0, 0)) (by (with_reducible repeat (first | refine blk_drewN ?_ _ | refine blk_drew ?_ | refine blk_alloc ?_ _)); exact BK193.out) hb); have n1_ := Aside0.mk (below_step (by repeat (first | (with_reducible first | exact HB.out | apply below_alloc | apply pw_below_drewN | apply below_drew1 | refine below_set ?_ GE193.out) | exact HB.out)) hb); clear BK193; clear HB; have BK193 := n0_; have HB := n1_; clear n0_ n1_; (try clear hb); (try clear hb2); (try clear hk); (try clear hi))); try go_wp2_with (first | (go_at_call 11; (with_reducible refine (spec_DayOf.calls k t190 t191 t192 t195 _ A10.out).mono ?_); rintro e w16 ⟨rfl, hb⟩; have n0_ := Aside0.mk (blk_below (g := gb193) (o := .cells #[.int .i64 t190, .int .i64 t191, .int .i64 t192] 24 (0, 0)) (by (with_reducible repeat (first | refine blk_drewN ?_ _ | refine blk_drew ?_ | refine blk_alloc ?_ _)); exact BK193.out) hb); have n1_ := Aside0.mk (below_step (by repeat (first | (with_reducible first | exact HB.out | apply below_alloc | apply pw_below_drewN | apply below_drew1 | refine below_set ?_ GE193.out) | exact HB.out)) hb); clear BK193; clear HB; have BK193 := n0_; have HB := n1_; clear n0_ n1_; (try clear hb); (try clear hb2); (try clear hk); (try clear hi))))
          go_meet
          case rel => exact ⟨_, ((t194 == 43829)), (by first | rfl | (simp; done) | (simp [*]; done)), H', ⟨by first | omega | exact Nat.le_refl _⟩, ⟨by (with_reducible repeat (first | refine blk_drewN ?_ _ | refine blk_drew ?_ | refine blk_alloc ?_ _)); exact BK193.out⟩, ⟨by repeat (first | (with_reducible first | exact HB.out | apply below_alloc | apply pw_below_drewN | apply below_drew1 | refine below_set ?_ GE193.out) | exact HB.out)⟩⟩
      · rw [if_neg c11] at H
        have c11b0 : (t194 == t195) = false := beq_eq_false_iff_ne.mpr c11
        have c11b1 : (t194 != t195) = true := bne_iff_ne.mpr c11
        (first | rw [c11b0] | (simp only [i64_w, i32_w]; rw [c11b0]) | skip)
        have H' := Aside0.mk H
        clear H
        have hcz17_0 : w9.cell? ⟨gb193, 0, none⟩ = some (.int .i64 t190) := (blk_cell BK193.out 0).trans rfl
        have hcz17_1 : w9.cell? ⟨gb193, 1, none⟩ = some (.int .i64 t191) := (blk_cell BK193.out 1).trans rfl
        have hcz17_2 : w9.cell? ⟨gb193, 2, none⟩ = some (.int .i64 t192) := (blk_cell BK193.out 2).trans rfl
        have hfz17_0 := blk_frozen BK193.out 0
        have hfz17_1 := blk_frozen BK193.out 1
        have hfz17_2 := blk_frozen BK193.out 2
        go_wp2_with (first | (go_at_call 11; (with_reducible refine (spec_DayOf.calls k t190 t191 t192 t195 _ A10.out).mono ?_); rintro e w18 ⟨rfl, hb⟩; have n0_ := Aside0.mk (blk_below (g := gb193) (o := .cells #[.int .i64 t190, .int .i64 t191, .int .i64 t192] 24 (0, 0)) (by (with_reducible repeat (first | refine blk_drewN ?_ _ | refine blk_drew ?_ | refine blk_alloc ?_ _)); exact BK193.out) hb); have n1_ := Aside0.mk (below_step (by repeat (first | (with_reducible first | exact HB.out | apply below_alloc | apply pw_below_drewN | apply below_drew1 | refine below_set ?_ GE193.out) | exact HB.out)) hb); clear BK193; clear HB; have BK193 := n0_; have HB := n1_; clear n0_ n1_; (try clear hb); (try clear hb2); (try clear hk); (try clear hi)))
        repeat (go_quiet (first | (go_at_call 11; (with_reducible refine (spec_DayOf.calls k t190 t191 t192 t195 _ A10.out).mono ?_); rintro e w18 ⟨rfl, hb⟩; have n0_ := Aside0.mk (blk_below (g := gb193) (o := .cells #[.int .i64 t190, .int .i64 t191, .int .i64 t192] 24 (0, 0)) (by (with_reducible repeat (first | refine blk_drewN ?_ _ | refine blk_drew ?_ | refine blk_alloc ?_ _)); exact BK193.out) hb); have n1_ := Aside0.mk (below_step (by repeat (first | (with_reducible first | exact HB.out | apply below_alloc | apply pw_below_drewN | apply below_drew1 | refine below_set ?_ GE193.out) | exact HB.out)) hb); clear BK193; clear HB; have BK193 := n0_; have HB := n1_; clear n0_ n1_; (try clear hb); (try clear hb2); (try clear hk); (try clear hi))); try go_wp2_with (first | (go_at_call 11; (with_reducible refine (spec_DayOf.calls k t190 t191 t192 t195 _ A10.out).mono ?_); rintro e w18 ⟨rfl, hb⟩; have n0_ := Aside0.mk (blk_below (g := gb193) (o := .cells #[.int .i64 t190, .int .i64 t191, .int .i64 t192] 24 (0, 0)) (by (with_reducible repeat (first | refine blk_drewN ?_ _ | refine blk_drew ?_ | refine blk_alloc ?_ _)); exact BK193.out) hb); have n1_ := Aside0.mk (below_step (by repeat (first | (with_reducible first | exact HB.out | apply below_alloc | apply pw_below_drewN | apply below_drew1 | refine below_set ?_ GE193.out) | exact HB.out)) hb); clear BK193; clear HB; have BK193 := n0_; have HB := n1_; clear n0_ n1_; (try clear hb); (try clear hb2); (try clear hk); (try clear hi))))
        go_meet
        case rel => exact ⟨_, (true), (by first | rfl | (simp; done) | (simp [*]; done)), H', ⟨by first | omega | exact Nat.le_refl _⟩, ⟨by (with_reducible repeat (first | refine blk_drewN ?_ _ | refine blk_drew ?_ | refine blk_alloc ?_ _)); exact BK193.out⟩, ⟨by repeat (first | (with_reducible first | exact HB.out | apply below_alloc | apply pw_below_drewN | apply below_drew1 | refine below_set ?_ GE193.out) | exact HB.out)⟩⟩
    case rest =>
      clear HC5
      try clear c1
      try clear c2
      try clear c2b0
      try clear c2b1
      try clear p2
      try clear c4
      try clear c11
      try clear c11b0
      try clear c11b1
      try clear c12
      try clear c12b0
      try clear hcz13_0
      try clear hcz13_1
      try clear hcz13_2
      try clear hcz15_0
      try clear hcz15_1
      try clear hcz15_2
      try clear hcz17_0
      try clear hcz17_1
      try clear hcz17_2
      try clear hcz8_0
      try clear hcz8_1
      try clear hcz8_2
      try clear hfz13_0
      try clear hfz13_1
      try clear hfz13_2
      try clear hfz15_0
      try clear hfz15_1
      try clear hfz15_2
      try clear hfz17_0
      try clear hfz17_1
      try clear hfz17_2
      try clear hfz8_0
      try clear hfz8_1
      try clear hfz8_2
      obtain ⟨kq, x24_4, rfl, HA, HJ4, BK193, HB⟩ := hcut
      cases kq with
      | zero => exact absurd HA.out (by simp [laws_FnDayOfNext.j0])
      | succ kj4 =>
        have H := HA.out
        clear HA
        simp only [laws_FnDayOfNext.j0] at H
        by_cases c19 : x24_4 = true
        · subst c19
          have H1 : ((spec_DayOf.f kj4 t190 t191 t192).bind fun t196 => (some (t194 == t196))) = some r := by rw [if_pos rfl] at H; exact H
          clear H
          have H := H1
          clear H1
          replace H := Option.bind_eq_some_iff.mp H
          obtain ⟨t196, A200, H⟩ := H
          replace H : (some (t194 == t196)) = some r := H
          have A20 := Aside0.mk A200
          clear A200
          obtain rfl := Option.some.inj H
          have hcz21_0 : wc.cell? ⟨gb193, 0, none⟩ = some (.int .i64 t190) := (blk_cell BK193.out 0).trans rfl
          have hcz21_1 : wc.cell? ⟨gb193, 1, none⟩ = some (.int .i64 t191) := (blk_cell BK193.out 1).trans rfl
          have hcz21_2 : wc.cell? ⟨gb193, 2, none⟩ = some (.int .i64 t192) := (blk_cell BK193.out 2).trans rfl
          have hfz21_0 := blk_frozen BK193.out 0
          have hfz21_1 := blk_frozen BK193.out 1
          have hfz21_2 := blk_frozen BK193.out 2
          go_wp2_with (first | (go_at_call 11; (with_reducible refine (spec_DayOf.calls kj4 t190 t191 t192 t196 _ A20.out).mono ?_); rintro e w22 ⟨rfl, hb⟩; have n0_ := Aside0.mk (blk_below (g := gb193) (o := .cells #[.int .i64 t190, .int .i64 t191, .int .i64 t192] 24 (0, 0)) (by (with_reducible repeat (first | refine blk_drewN ?_ _ | refine blk_drew ?_ | refine blk_alloc ?_ _)); exact BK193.out) hb); have n1_ := Aside0.mk (below_step (by repeat (first | (with_reducible first | exact HB.out | apply below_alloc | apply pw_below_drewN | apply below_drew1 | refine below_set ?_ GE193.out) | exact HB.out)) hb); clear BK193; clear HB; have BK193 := n0_; have HB := n1_; clear n0_ n1_; (try clear hb); (try clear hb2); (try clear hk); (try clear hi)))
          repeat (go_quiet (first | (go_at_call 11; (with_reducible refine (spec_DayOf.calls kj4 t190 t191 t192 t196 _ A20.out).mono ?_); rintro e w22 ⟨rfl, hb⟩; have n0_ := Aside0.mk (blk_below (g := gb193) (o := .cells #[.int .i64 t190, .int .i64 t191, .int .i64 t192] 24 (0, 0)) (by (with_reducible repeat (first | refine blk_drewN ?_ _ | refine blk_drew ?_ | refine blk_alloc ?_ _)); exact BK193.out) hb); have n1_ := Aside0.mk (below_step (by repeat (first | (with_reducible first | exact HB.out | apply below_alloc | apply pw_below_drewN | apply below_drew1 | refine below_set ?_ GE193.out) | exact HB.out)) hb); clear BK193; clear HB; have BK193 := n0_; have HB := n1_; clear n0_ n1_; (try clear hb); (try clear hb2); (try clear hk); (try clear hi))); try go_wp2_with (first | (go_at_call 11; (with_reducible refine (spec_DayOf.calls kj4 t190 t191 t192 t196 _ A20.out).mono ?_); rintro e w22 ⟨rfl, hb⟩; have n0_ := Aside0.mk (blk_below (g := gb193) (o := .cells #[.int .i64 t190, .int .i64 t191, .int .i64 t192] 24 (0, 0)) (by (with_reducible repeat (first | refine blk_drewN ?_ _ | refine blk_drew ?_ | refine blk_alloc ?_ _)); exact BK193.out) hb); have n1_ := Aside0.mk (below_step (by repeat (first | (with_reducible first | exact HB.out | apply below_alloc | apply pw_below_drewN | apply below_drew1 | refine below_set ?_ GE193.out) | exact HB.out)) hb); clear BK193; clear HB; have BK193 := n0_; have HB := n1_; clear n0_ n1_; (try clear hb); (try clear hb2); (try clear hk); (try clear hi))))
          go_ret
          exact ⟨by first | rfl | (simp [errW_none, errW_some] <;> rfl) | (simp [*, errW_none, errW_some] <;> rfl) | (refine congrArg (fun b_ => Ending.returned (Value.bool b_)) (decide_eq_decide.2 ?_); unfold wrap64; omega), by repeat (first | (with_reducible first | exact HB.out | apply below_alloc | apply pw_below_drewN | apply below_drew1 | refine below_set ?_ GE193.out) | exact HB.out)⟩
        · replace c19 := Bool.eq_false_iff.mpr c19
          subst c19
          have H1 : ((impl_MonthDays.f kj4 t190 t191).bind fun t198 => (if t192 = t198 then (if t191 = 12 then ((impl_DayOf.f kj4 (wrap64 (t190 + 1)) 1 1).bind fun t199 => (some (t199 == (wrap64 (t194 + 1))))) else ((impl_DayOf.f kj4 t190 (wrap64 (t191 + 1)) 1).bind fun t200 => (some (t200 == (wrap64 (t194 + 1)))))) else ((impl_DayOf.f kj4 t190 t191 (wrap64 (t192 + 1))).bind fun t201 => (some (t201 == (wrap64 (t194 + 1))))))) = some r := by rw [if_neg (show ¬ (false = true) by decide)] at H; exact H
          clear H
          have H := H1
          clear H1
          replace H := Option.bind_eq_some_iff.mp H
          obtain ⟨t198, A230, H⟩ := H
          replace H : (if t192 = t198 then (if t191 = 12 then ((impl_DayOf.f kj4 (wrap64 (t190 + 1)) 1 1).bind fun t199 => (some (t199 == (wrap64 (t194 + 1))))) else ((impl_DayOf.f kj4 t190 (wrap64 (t191 + 1)) 1).bind fun t200 => (some (t200 == (wrap64 (t194 + 1)))))) else ((impl_DayOf.f kj4 t190 t191 (wrap64 (t192 + 1))).bind fun t201 => (some (t201 == (wrap64 (t194 + 1)))))) = some r := H
          have A23 := Aside0.mk A230
          clear A230
          by_cases c24 : t192 = t198
          · rw [if_pos c24] at H
            have c24b0 : (t192 == t198) = true := beq_iff_eq.mpr c24
            have c24b1 : (t192 != t198) = false := bne_eq_false_iff_eq.mpr c24
            clear c24
            by_cases c25 : t191 = 12
            · rw [if_pos c25] at H
              have c25b0 : (t191 == 12) = true := beq_iff_eq.mpr c25
              have c25b1 : (t191 != 12) = false := bne_eq_false_iff_eq.mpr c25
              clear c25
              replace H := Option.bind_eq_some_iff.mp H
              obtain ⟨t199, A260, H⟩ := H
              replace H : (some (t199 == (wrap64 (t194 + 1)))) = some r := H
              have A26 := Aside0.mk A260
              clear A260
              obtain rfl := Option.some.inj H
              have hcz27_0 : wc.cell? ⟨gb193, 0, none⟩ = some (.int .i64 t190) := (blk_cell BK193.out 0).trans rfl
              have hcz27_1 : wc.cell? ⟨gb193, 1, none⟩ = some (.int .i64 t191) := (blk_cell BK193.out 1).trans rfl
              have hcz27_2 : wc.cell? ⟨gb193, 2, none⟩ = some (.int .i64 t192) := (blk_cell BK193.out 2).trans rfl
              have hfz27_0 := blk_frozen BK193.out 0
              have hfz27_1 := blk_frozen BK193.out 1
              have hfz27_2 := blk_frozen BK193.out 2
              go_wp2_with (first | ((with_reducible refine gate_dst (N := 5) rfl ?_); refine box_event ?hg (N := 5) ?hd (cs := #[.int .i64 0, .int .i64 0, .int .i64 0]) (t := 24) ?hr ?_; (case hd => rfl); (case hg => rfl); (case hr => first | (go_simp; done) | (go_simp; rfl)); intro gb197 hg w28 hbox hb; have n0_ := Aside0.mk (blk_below (g := gb193) (o := .cells #[.int .i64 t190, .int .i64 t191, .int .i64 t192] 24 (0, 0)) (by (with_reducible repeat (first | refine blk_drewN ?_ _ | refine blk_drew ?_ | refine blk_alloc ?_ _)); exact BK193.out) hb); have n1_ := Aside0.mk (below_step (by repeat (first | (with_reducible first | exact HB.out | apply below_alloc | apply pw_below_drewN | apply below_drew1 | refine below_set ?_ GE193.out) | exact HB.out)) hb); have n2_ := Aside0.mk (hbox); have n3_ := Aside0.mk ((by rw [hg]; exact (below_size (by repeat (first | (with_reducible first | exact HB.out | apply below_alloc | apply pw_below_drewN | apply below_drew1 | refine below_set ?_ GE193.out) | exact HB.out))) : w.heap.size ≤ gb197)); have n4_ := Aside0.mk ((by rw [hg]; exact (below_size (by repeat (first | (with_reducible first | exact HB.out | apply below_alloc | apply pw_below_drewN | apply below_drew1 | refine below_set ?_ GE193.out) | exact HB.out))) : w.heap.size ≤ gb197)); have n5_ := Aside0.mk ((by rw [hg]; exact Nat.ne_of_lt (blk_lt (g := gb193) (o := .cells #[.int .i64 t190, .int .i64 t191, .int .i64 t192] 24 (0, 0)) (by (with_reducible repeat (first | refine blk_drewN ?_ _ | refine blk_drew ?_ | refine blk_alloc ?_ _)); exact BK193.out)) : gb193 ≠ gb197)); have n6_ := Aside0.mk ((by rw [hg]; exact Nat.ne_of_gt (blk_lt (g := gb193) (o := .cells #[.int .i64 t190, .int .i64 t191, .int .i64 t192] 24 (0, 0)) (by (with_reducible repeat (first | refine blk_drewN ?_ _ | refine blk_drew ?_ | refine blk_alloc ?_ _)); exact BK193.out)) : gb197 ≠ gb193)); clear BK193; clear HB; have BK193 := n0_; have HB := n1_; have BK197 := n2_; have GW197 := n3_; have GE197 := n4_; have NB193_197 := n5_; have NB197_193 := n6_; clear n0_ n1_ n2_ n3_ n4_ n5_ n6_; clear hb hbox hg; have hnb29 := NB197_193.out; have hnc29 := NB193_197.out; have hcz30_0 : w28.cell? ⟨gb197, 0, none⟩ = some (.int .i64 0) := (blk_cell BK197.out 0).trans rfl; have hcz30_1 : w28.cell? ⟨gb197, 1, none⟩ = some (.int .i64 0) := (blk_cell BK197.out 1).trans rfl; have hcz30_2 : w28.cell? ⟨gb197, 2, none⟩ = some (.int .i64 0) := (blk_cell BK197.out 2).trans rfl; have hfz30_0 := blk_frozen BK197.out 0; have hfz30_1 := blk_frozen BK197.out 1; have hfz30_2 := blk_frozen BK197.out 2; have hcz31_0 : w28.cell? ⟨gb193, 0, none⟩ = some (.int .i64 t190) := (blk_cell BK193.out 0).trans rfl; have hcz31_1 : w28.cell? ⟨gb193, 1, none⟩ = some (.int .i64 t191) := (blk_cell BK193.out 1).trans rfl; have hcz31_2 : w28.cell? ⟨gb193, 2, none⟩ = some (.int .i64 t192) := (blk_cell BK193.out 2).trans rfl; have hfz31_0 := blk_frozen BK193.out 0; have hfz31_1 := blk_frozen BK193.out 1; have hfz31_2 := blk_frozen BK193.out 2) | (go_at_call 12; (with_reducible refine (impl_MonthDays.calls kj4 t190 t191 t198 _ A23.out).mono ?_); rintro e w' ⟨rfl, ⟨nd, rfl⟩⟩; (try first | exact ⟨rfl, _, World.drewN_drewN _ _ _⟩ | exact ⟨rfl, _, Eq.trans (World.drewN_drewN _ _ _) (congrArg (World.drewN _) (Nat.add_assoc _ _ _))⟩)) | (go_at_call 10; (with_reducible refine (impl_DayOf.calls kj4 (wrap64 (t190 + 1)) 1 1 t199 _ A26.out).mono ?_); rintro e w32 ⟨rfl, hb⟩; have n0_ := Aside0.mk (blk_below (g := gb193) (o := .cells #[.int .i64 t190, .int .i64 t191, .int .i64 t192] 24 (0, 0)) (by (with_reducible repeat (first | refine blk_drewN ?_ _ | refine blk_drew ?_ | refine blk_alloc ?_ _)); refine blk_far ?_ NB193_197.out _; (with_reducible repeat (first | refine blk_drewN ?_ _ | refine blk_drew ?_ | refine blk_alloc ?_ _)); refine blk_far ?_ NB193_197.out _; (with_reducible repeat (first | refine blk_drewN ?_ _ | refine blk_drew ?_ | refine blk_alloc ?_ _)); refine blk_far ?_ NB193_197.out _; (with_reducible repeat (first | refine blk_drewN ?_ _ | refine blk_drew ?_ | refine blk_alloc ?_ _)); refine blk_far ?_ NB193_197.out _; (with_reducible repeat (first | refine blk_drewN ?_ _ | refine blk_drew ?_ | refine blk_alloc ?_ _)); refine blk_far ?_ NB193_197.out _; (with_reducible repeat (first | refine blk_drewN ?_ _ | refine blk_drew ?_ | refine blk_alloc ?_ _)); refine blk_far ?_ NB193_197.out _; (with_reducible repeat (first | refine blk_drewN ?_ _ | refine blk_drew ?_ | refine blk_alloc ?_ _)); refine blk_far ?_ NB193_197.out _; (with_reducible repeat (first | refine blk_drewN ?_ _ | refine blk_drew ?_ | refine blk_alloc ?_ _)); refine blk_far ?_ NB193_197.out _; (with_reducible repeat (first | refine blk_drewN ?_ _ | refine blk_drew ?_ | refine blk_alloc ?_ _)); refine blk_far ?_ NB193_197.out _; (with_reducible repeat (first | refine blk_drewN ?_ _ | refine blk_drew ?_ | refine blk_alloc ?_ _)); exact BK193.out) hb); have n1_ := Aside0.mk (blk_below (g := gb197) (o := .cells #[.int .i64 (wrap64 (t190 + 1)), .int .i64 1, .int .i64 1] 24 (0, 0)) (by (with_reducible repeat (first | refine blk_drewN ?_ _ | refine blk_drew ?_ | refine blk_alloc ?_ _)); refine blk_put (cs := #[.int .i64 (wrap64 (t190 + 1)), .int .i64 1, .int .i64 1]) ?_ 2 _ rfl; (with_reducible repeat (first | refine blk_drewN ?_ _ | refine blk_drew ?_ | refine blk_alloc ?_ _)); refine blk_put (cs := #[.int .i64 (wrap64 (t190 + 1)), .int .i64 (wrap64 (t191 + 1)), .int .i64 1]) ?_ 1 _ rfl; (with_reducible repeat (first | refine blk_drewN ?_ _ | refine blk_drew ?_ | refine blk_alloc ?_ _)); refine blk_put (cs := #[.int .i64 t190, .int .i64 (wrap64 (t191 + 1)), .int .i64 1]) ?_ 0 _ rfl; (with_reducible repeat (first | refine blk_drewN ?_ _ | refine blk_drew ?_ | refine blk_alloc ?_ _)); refine blk_put (cs := #[.int .i64 t190, .int .i64 (wrap64 (t191 + 1)), .int .i64 (wrap64 (t192 + 1))]) ?_ 2 _ rfl; (with_reducible repeat (first | refine blk_drewN ?_ _ | refine blk_drew ?_ | refine blk_alloc ?_ _)); refine blk_put (cs := #[.int .i64 t190, .int .i64 t191, .int .i64 (wrap64 (t192 + 1))]) ?_ 1 _ rfl; (with_reducible repeat (first | refine blk_drewN ?_ _ | refine blk_drew ?_ | refine blk_alloc ?_ _)); refine blk_put (cs := #[.int .i64 t190, .int .i64 t191, .int .i64 (wrap64 (t192 + 1))]) ?_ 0 _ rfl; (with_reducible repeat (first | refine blk_drewN ?_ _ | refine blk_drew ?_ | refine blk_alloc ?_ _)); refine blk_put (cs := #[.int .i64 t190, .int .i64 t191, .int .i64 0]) ?_ 2 _ rfl; (with_reducible repeat (first | refine blk_drewN ?_ _ | refine blk_drew ?_ | refine blk_alloc ?_ _)); refine blk_put (cs := #[.int .i64 t190, .int .i64 0, .int .i64 0]) ?_ 1 _ rfl; (with_reducible repeat (first | refine blk_drewN ?_ _ | refine blk_drew ?_ | refine blk_alloc ?_ _)); refine blk_put (cs := #[.int .i64 0, .int .i64 0, .int .i64 0]) ?_ 0 _ rfl; (with_reducible repeat (first | refine blk_drewN ?_ _ | refine blk_drew ?_ | refine blk_alloc ?_ _)); exact BK197.out) hb); have n2_ := Aside0.mk (below_step (by repeat (first | (with_reducible first | exact HB.out | apply below_alloc | apply pw_below_drewN | apply below_drew1 | refine below_set ?_ GE193.out | refine below_set ?_ GE197.out) | exact HB.out)) hb); clear BK193; clear BK197; clear HB; have BK193 := n0_; have BK197 := n1_; have HB := n2_; clear n0_ n1_ n2_; (try clear hb); (try clear hb2); (try clear hk); (try clear hi)))
              generalize hq_ : (((w28.setCell ⟨gb197, 0, none⟩ (.int .i64 t190)).setCell ⟨gb197, 1, none⟩ (.int .i64 t191)).setCell ⟨gb197, 2, none⟩ (.int .i64 (wrap64 (t192 + 1)))) = wq
              have n0_ : Aside0 (wq.heap[gb193]? = some (.cells #[.int .i64 t190, .int .i64 t191, .int .i64 t192] 24 (0, 0))) := ⟨by rw [← hq_]; refine blk_far ?_ NB193_197.out _; refine blk_far ?_ NB193_197.out _; refine blk_far ?_ NB193_197.out _; exact BK193.out⟩
              have n1_ : Aside0 (wq.heap[gb197]? = some (.cells #[.int .i64 t190, .int .i64 t191, .int .i64 (wrap64 (t192 + 1))] 24 (0, 0))) := ⟨by rw [← hq_]; refine blk_put (cs := #[.int .i64 t190, .int .i64 t191, .int .i64 0]) ?_ 2 _ rfl; refine blk_put (cs := #[.int .i64 t190, .int .i64 0, .int .i64 0]) ?_ 1 _ rfl; refine blk_put (cs := #[.int .i64 0, .int .i64 0, .int .i64 0]) ?_ 0 _ rfl; exact BK197.out⟩
              have n2_ : Aside0 (Below w.heap.size w wq) := ⟨by rw [← hq_]; repeat (first | exact HB.out | refine below_set ?_ GE197.out)⟩
              clear BK193 BK197 HB hq_
              have BK193 := n0_
              have BK197 := n1_
              have HB := n2_
              clear n0_ n1_ n2_
              have hd_0 : wq.cell? ⟨gb193, 0, none⟩ = some (.int .i64 t190) := (blk_cell BK193.out 0).trans rfl
              have hd_1 : wq.cell? ⟨gb193, 1, none⟩ = some (.int .i64 t191) := (blk_cell BK193.out 1).trans rfl
              have hd_2 : wq.cell? ⟨gb193, 2, none⟩ = some (.int .i64 t192) := (blk_cell BK193.out 2).trans rfl
              have hg_0 : wq.cell? ⟨gb197, 0, none⟩ = some (.int .i64 t190) := (blk_cell BK197.out 0).trans rfl
              have hg_1 : wq.cell? ⟨gb197, 1, none⟩ = some (.int .i64 t191) := (blk_cell BK197.out 1).trans rfl
              have hg_2 : wq.cell? ⟨gb197, 2, none⟩ = some (.int .i64 (wrap64 (t192 + 1))) := (blk_cell BK197.out 2).trans rfl
              have hf_0 := blk_frozen BK197.out 0
              have hf_1 := blk_frozen BK197.out 1
              have hf_2 := blk_frozen BK197.out 2
              have hnq := NB193_197.out
              have hnr := NB197_193.out
              go_quiet ((go_at_call 12; (with_reducible refine (impl_MonthDays.calls kj4 t190 t191 t198 _ A23.out).mono ?_); rintro e w' ⟨rfl, ⟨nd, rfl⟩⟩; (try first | exact ⟨rfl, _, World.drewN_drewN _ _ _⟩ | exact ⟨rfl, _, Eq.trans (World.drewN_drewN _ _ _) (congrArg (World.drewN _) (Nat.add_assoc _ _ _))⟩)))
              generalize hq_ : World.drewN wq _ = wr
              have n0_ : Aside0 (wr.heap[gb193]? = some (.cells #[.int .i64 t190, .int .i64 t191, .int .i64 t192] 24 (0, 0))) := ⟨by rw [← hq_]; refine blk_drewN ?_ _; exact BK193.out⟩
              have n1_ : Aside0 (wr.heap[gb197]? = some (.cells #[.int .i64 t190, .int .i64 t191, .int .i64 (wrap64 (t192 + 1))] 24 (0, 0))) := ⟨by rw [← hq_]; refine blk_drewN ?_ _; exact BK197.out⟩
              have n2_ : Aside0 (Below w.heap.size w wr) := ⟨by rw [← hq_]; exact pw_below_drewN HB.out _⟩
              clear BK193 BK197 HB hq_ hd_0 hd_1 hd_2 hg_0 hg_1 hg_2 hf_0 hf_1 hf_2
              have BK193 := n0_
              have BK197 := n1_
              have HB := n2_
              clear n0_ n1_ n2_
              have hd_0 : wr.cell? ⟨gb193, 0, none⟩ = some (.int .i64 t190) := (blk_cell BK193.out 0).trans rfl
              have hd_1 : wr.cell? ⟨gb193, 1, none⟩ = some (.int .i64 t191) := (blk_cell BK193.out 1).trans rfl
              have hd_2 : wr.cell? ⟨gb193, 2, none⟩ = some (.int .i64 t192) := (blk_cell BK193.out 2).trans rfl
              have hg_0 : wr.cell? ⟨gb197, 0, none⟩ = some (.int .i64 t190) := (blk_cell BK197.out 0).trans rfl
              have hg_1 : wr.cell? ⟨gb197, 1, none⟩ = some (.int .i64 t191) := (blk_cell BK197.out 1).trans rfl
              have hg_2 : wr.cell? ⟨gb197, 2, none⟩ = some (.int .i64 (wrap64 (t192 + 1))) := (blk_cell BK197.out 2).trans rfl
              have hf_0 := blk_frozen BK197.out 0
              have hf_1 := blk_frozen BK197.out 1
              have hf_2 := blk_frozen BK197.out 2
              go_upto_region 10 with (fail)
              generalize hq_ : (((wr.setCell ⟨gb197, 0, none⟩ (.int .i64 t190)).setCell ⟨gb197, 1, none⟩ (.int .i64 (wrap64 (t191 + 1)))).setCell ⟨gb197, 2, none⟩ (.int .i64 1)) = wt
              have n0_ : Aside0 (wt.heap[gb193]? = some (.cells #[.int .i64 t190, .int .i64 t191, .int .i64 t192] 24 (0, 0))) := ⟨by rw [← hq_]; refine blk_far ?_ NB193_197.out _; refine blk_far ?_ NB193_197.out _; refine blk_far ?_ NB193_197.out _; exact BK193.out⟩
              have n1_ : Aside0 (wt.heap[gb197]? = some (.cells #[.int .i64 t190, .int .i64 (wrap64 (t191 + 1)), .int .i64 1] 24 (0, 0))) := ⟨by rw [← hq_]; refine blk_put (cs := #[.int .i64 t190, .int .i64 (wrap64 (t191 + 1)), .int .i64 (wrap64 (t192 + 1))]) ?_ 2 _ rfl; refine blk_put (cs := #[.int .i64 t190, .int .i64 t191, .int .i64 (wrap64 (t192 + 1))]) ?_ 1 _ rfl; refine blk_put (cs := #[.int .i64 t190, .int .i64 t191, .int .i64 (wrap64 (t192 + 1))]) ?_ 0 _ rfl; exact BK197.out⟩
              have n2_ : Aside0 (Below w.heap.size w wt) := ⟨by rw [← hq_]; repeat (first | exact HB.out | refine below_set ?_ GE197.out)⟩
              clear BK193 BK197 HB hq_ hd_0 hd_1 hd_2 hg_0 hg_1 hg_2 hf_0 hf_1 hf_2
              have BK193 := n0_
              have BK197 := n1_
              have HB := n2_
              clear n0_ n1_ n2_
              have hd_0 : wt.cell? ⟨gb193, 0, none⟩ = some (.int .i64 t190) := (blk_cell BK193.out 0).trans rfl
              have hd_1 : wt.cell? ⟨gb193, 1, none⟩ = some (.int .i64 t191) := (blk_cell BK193.out 1).trans rfl
              have hd_2 : wt.cell? ⟨gb193, 2, none⟩ = some (.int .i64 t192) := (blk_cell BK193.out 2).trans rfl
              have hg_0 : wt.cell? ⟨gb197, 0, none⟩ = some (.int .i64 t190) := (blk_cell BK197.out 0).trans rfl
              have hg_1 : wt.cell? ⟨gb197, 1, none⟩ = some (.int .i64 (wrap64 (t191 + 1))) := (blk_cell BK197.out 1).trans rfl
              have hg_2 : wt.cell? ⟨gb197, 2, none⟩ = some (.int .i64 1) := (blk_cell BK197.out 2).trans rfl
              have hf_0 := blk_frozen BK197.out 0
              have hf_1 := blk_frozen BK197.out 1
              have hf_2 := blk_frozen BK197.out 2
              go_upto_region 12 with (fail)
              generalize hq_ : (((wt.setCell ⟨gb197, 0, none⟩ (.int .i64 (wrap64 (t190 + 1)))).setCell ⟨gb197, 1, none⟩ (.int .i64 1)).setCell ⟨gb197, 2, none⟩ (.int .i64 1)) = wu
              have n0_ : Aside0 (wu.heap[gb193]? = some (.cells #[.int .i64 t190, .int .i64 t191, .int .i64 t192] 24 (0, 0))) := ⟨by rw [← hq_]; refine blk_far ?_ NB193_197.out _; refine blk_far ?_ NB193_197.out _; refine blk_far ?_ NB193_197.out _; exact BK193.out⟩
              have n1_ : Aside0 (wu.heap[gb197]? = some (.cells #[.int .i64 (wrap64 (t190 + 1)), .int .i64 1, .int .i64 1] 24 (0, 0))) := ⟨by rw [← hq_]; refine blk_put (cs := #[.int .i64 (wrap64 (t190 + 1)), .int .i64 1, .int .i64 1]) ?_ 2 _ rfl; refine blk_put (cs := #[.int .i64 (wrap64 (t190 + 1)), .int .i64 (wrap64 (t191 + 1)), .int .i64 1]) ?_ 1 _ rfl; refine blk_put (cs := #[.int .i64 t190, .int .i64 (wrap64 (t191 + 1)), .int .i64 1]) ?_ 0 _ rfl; exact BK197.out⟩
              have n2_ : Aside0 (Below w.heap.size w wu) := ⟨by rw [← hq_]; repeat (first | exact HB.out | refine below_set ?_ GE197.out)⟩
              clear BK193 BK197 HB hq_ hd_0 hd_1 hd_2 hg_0 hg_1 hg_2 hf_0 hf_1 hf_2
              have BK193 := n0_
              have BK197 := n1_
              have HB := n2_
              clear n0_ n1_ n2_
              have hd_0 : wu.cell? ⟨gb193, 0, none⟩ = some (.int .i64 t190) := (blk_cell BK193.out 0).trans rfl
              have hd_1 : wu.cell? ⟨gb193, 1, none⟩ = some (.int .i64 t191) := (blk_cell BK193.out 1).trans rfl
              have hd_2 : wu.cell? ⟨gb193, 2, none⟩ = some (.int .i64 t192) := (blk_cell BK193.out 2).trans rfl
              have hg_0 : wu.cell? ⟨gb197, 0, none⟩ = some (.int .i64 (wrap64 (t190 + 1))) := (blk_cell BK197.out 0).trans rfl
              have hg_1 : wu.cell? ⟨gb197, 1, none⟩ = some (.int .i64 1) := (blk_cell BK197.out 1).trans rfl
              have hg_2 : wu.cell? ⟨gb197, 2, none⟩ = some (.int .i64 1) := (blk_cell BK197.out 2).trans rfl
              have hf_0 := blk_frozen BK197.out 0
              have hf_1 := blk_frozen BK197.out 1
              have hf_2 := blk_frozen BK197.out 2
              go_wp2_with (go_at_call 10; (with_reducible refine (impl_DayOf.calls kj4 (wrap64 (t190 + 1)) 1 1 t199 _ A26.out).mono ?_); rintro e wv ⟨rfl, hb⟩; have n0_ := Aside0.mk (below_step HB.out hb); clear HB; have HB := n0_; clear n0_; clear hb)
              go_ret
              exact ⟨by first | rfl | (simp [errW_none, errW_some] <;> rfl) | (simp [*, errW_none, errW_some] <;> rfl) | (refine congrArg (fun b_ => Ending.returned (Value.bool b_)) (decide_eq_decide.2 ?_); unfold wrap64; omega), by repeat (first | (with_reducible first | exact HB.out | apply below_alloc | apply pw_below_drewN | apply below_drew1 | refine below_set ?_ GE193.out | refine below_set ?_ GE197.out) | exact HB.out)⟩
            · rw [if_neg c25] at H
              have c25b0 : (t191 == 12) = false := beq_eq_false_iff_ne.mpr c25
              have c25b1 : (t191 != 12) = true := bne_iff_ne.mpr c25
              replace H := Option.bind_eq_some_iff.mp H
              obtain ⟨t200, A330, H⟩ := H
              replace H : (some (t200 == (wrap64 (t194 + 1)))) = some r := H
              have A33 := Aside0.mk A330
              clear A330
              obtain rfl := Option.some.inj H
              have hcz34_0 : wc.cell? ⟨gb193, 0, none⟩ = some (.int .i64 t190) := (blk_cell BK193.out 0).trans rfl
              have hcz34_1 : wc.cell? ⟨gb193, 1, none⟩ = some (.int .i64 t191) := (blk_cell BK193.out 1).trans rfl
              have hcz34_2 : wc.cell? ⟨gb193, 2, none⟩ = some (.int .i64 t192) := (blk_cell BK193.out 2).trans rfl
              have hfz34_0 := blk_frozen BK193.out 0
              have hfz34_1 := blk_frozen BK193.out 1
              have hfz34_2 := blk_frozen BK193.out 2
              go_wp2_with (first | ((with_reducible refine gate_dst (N := 5) rfl ?_); refine box_event ?hg (N := 5) ?hd (cs := #[.int .i64 0, .int .i64 0, .int .i64 0]) (t := 24) ?hr ?_; (case hd => rfl); (case hg => rfl); (case hr => first | (go_simp; done) | (go_simp; rfl)); intro gb197 hg w35 hbox hb; have n0_ := Aside0.mk (blk_below (g := gb193) (o := .cells #[.int .i64 t190, .int .i64 t191, .int .i64 t192] 24 (0, 0)) (by (with_reducible repeat (first | refine blk_drewN ?_ _ | refine blk_drew ?_ | refine blk_alloc ?_ _)); exact BK193.out) hb); have n1_ := Aside0.mk (below_step (by repeat (first | (with_reducible first | exact HB.out | apply below_alloc | apply pw_below_drewN | apply below_drew1 | refine below_set ?_ GE193.out) | exact HB.out)) hb); have n2_ := Aside0.mk (hbox); have n3_ := Aside0.mk ((by rw [hg]; exact (below_size (by repeat (first | (with_reducible first | exact HB.out | apply below_alloc | apply pw_below_drewN | apply below_drew1 | refine below_set ?_ GE193.out) | exact HB.out))) : w.heap.size ≤ gb197)); have n4_ := Aside0.mk ((by rw [hg]; exact (below_size (by repeat (first | (with_reducible first | exact HB.out | apply below_alloc | apply pw_below_drewN | apply below_drew1 | refine below_set ?_ GE193.out) | exact HB.out))) : w.heap.size ≤ gb197)); have n5_ := Aside0.mk ((by rw [hg]; exact Nat.ne_of_lt (blk_lt (g := gb193) (o := .cells #[.int .i64 t190, .int .i64 t191, .int .i64 t192] 24 (0, 0)) (by (with_reducible repeat (first | refine blk_drewN ?_ _ | refine blk_drew ?_ | refine blk_alloc ?_ _)); exact BK193.out)) : gb193 ≠ gb197)); have n6_ := Aside0.mk ((by rw [hg]; exact Nat.ne_of_gt (blk_lt (g := gb193) (o := .cells #[.int .i64 t190, .int .i64 t191, .int .i64 t192] 24 (0, 0)) (by (with_reducible repeat (first | refine blk_drewN ?_ _ | refine blk_drew ?_ | refine blk_alloc ?_ _)); exact BK193.out)) : gb197 ≠ gb193)); clear BK193; clear HB; have BK193 := n0_; have HB := n1_; have BK197 := n2_; have GW197 := n3_; have GE197 := n4_; have NB193_197 := n5_; have NB197_193 := n6_; clear n0_ n1_ n2_ n3_ n4_ n5_ n6_; clear hb hbox hg; have hnb36 := NB197_193.out; have hnc36 := NB193_197.out; have hcz37_0 : w35.cell? ⟨gb197, 0, none⟩ = some (.int .i64 0) := (blk_cell BK197.out 0).trans rfl; have hcz37_1 : w35.cell? ⟨gb197, 1, none⟩ = some (.int .i64 0) := (blk_cell BK197.out 1).trans rfl; have hcz37_2 : w35.cell? ⟨gb197, 2, none⟩ = some (.int .i64 0) := (blk_cell BK197.out 2).trans rfl; have hfz37_0 := blk_frozen BK197.out 0; have hfz37_1 := blk_frozen BK197.out 1; have hfz37_2 := blk_frozen BK197.out 2; have hcz38_0 : w35.cell? ⟨gb193, 0, none⟩ = some (.int .i64 t190) := (blk_cell BK193.out 0).trans rfl; have hcz38_1 : w35.cell? ⟨gb193, 1, none⟩ = some (.int .i64 t191) := (blk_cell BK193.out 1).trans rfl; have hcz38_2 : w35.cell? ⟨gb193, 2, none⟩ = some (.int .i64 t192) := (blk_cell BK193.out 2).trans rfl; have hfz38_0 := blk_frozen BK193.out 0; have hfz38_1 := blk_frozen BK193.out 1; have hfz38_2 := blk_frozen BK193.out 2) | (go_at_call 12; (with_reducible refine (impl_MonthDays.calls kj4 t190 t191 t198 _ A23.out).mono ?_); rintro e w' ⟨rfl, ⟨nd, rfl⟩⟩; (try first | exact ⟨rfl, _, World.drewN_drewN _ _ _⟩ | exact ⟨rfl, _, Eq.trans (World.drewN_drewN _ _ _) (congrArg (World.drewN _) (Nat.add_assoc _ _ _))⟩)) | (go_at_call 10; (with_reducible refine (impl_DayOf.calls kj4 t190 (wrap64 (t191 + 1)) 1 t200 _ A33.out).mono ?_); rintro e w39 ⟨rfl, hb⟩; have n0_ := Aside0.mk (blk_below (g := gb193) (o := .cells #[.int .i64 t190, .int .i64 t191, .int .i64 t192] 24 (0, 0)) (by (with_reducible repeat (first | refine blk_drewN ?_ _ | refine blk_drew ?_ | refine blk_alloc ?_ _)); refine blk_far ?_ NB193_197.out _; (with_reducible repeat (first | refine blk_drewN ?_ _ | refine blk_drew ?_ | refine blk_alloc ?_ _)); refine blk_far ?_ NB193_197.out _; (with_reducible repeat (first | refine blk_drewN ?_ _ | refine blk_drew ?_ | refine blk_alloc ?_ _)); refine blk_far ?_ NB193_197.out _; (with_reducible repeat (first | refine blk_drewN ?_ _ | refine blk_drew ?_ | refine blk_alloc ?_ _)); refine blk_far ?_ NB193_197.out _; (with_reducible repeat (first | refine blk_drewN ?_ _ | refine blk_drew ?_ | refine blk_alloc ?_ _)); refine blk_far ?_ NB193_197.out _; (with_reducible repeat (first | refine blk_drewN ?_ _ | refine blk_drew ?_ | refine blk_alloc ?_ _)); refine blk_far ?_ NB193_197.out _; (with_reducible repeat (first | refine blk_drewN ?_ _ | refine blk_drew ?_ | refine blk_alloc ?_ _)); exact BK193.out) hb); have n1_ := Aside0.mk (blk_below (g := gb197) (o := .cells #[.int .i64 t190, .int .i64 (wrap64 (t191 + 1)), .int .i64 1] 24 (0, 0)) (by (with_reducible repeat (first | refine blk_drewN ?_ _ | refine blk_drew ?_ | refine blk_alloc ?_ _)); refine blk_put (cs := #[.int .i64 t190, .int .i64 (wrap64 (t191 + 1)), .int .i64 (wrap64 (t192 + 1))]) ?_ 2 _ rfl; (with_reducible repeat (first | refine blk_drewN ?_ _ | refine blk_drew ?_ | refine blk_alloc ?_ _)); refine blk_put (cs := #[.int .i64 t190, .int .i64 t191, .int .i64 (wrap64 (t192 + 1))]) ?_ 1 _ rfl; (with_reducible repeat (first | refine blk_drewN ?_ _ | refine blk_drew ?_ | refine blk_alloc ?_ _)); refine blk_put (cs := #[.int .i64 t190, .int .i64 t191, .int .i64 (wrap64 (t192 + 1))]) ?_ 0 _ rfl; (with_reducible repeat (first | refine blk_drewN ?_ _ | refine blk_drew ?_ | refine blk_alloc ?_ _)); refine blk_put (cs := #[.int .i64 t190, .int .i64 t191, .int .i64 0]) ?_ 2 _ rfl; (with_reducible repeat (first | refine blk_drewN ?_ _ | refine blk_drew ?_ | refine blk_alloc ?_ _)); refine blk_put (cs := #[.int .i64 t190, .int .i64 0, .int .i64 0]) ?_ 1 _ rfl; (with_reducible repeat (first | refine blk_drewN ?_ _ | refine blk_drew ?_ | refine blk_alloc ?_ _)); refine blk_put (cs := #[.int .i64 0, .int .i64 0, .int .i64 0]) ?_ 0 _ rfl; (with_reducible repeat (first | refine blk_drewN ?_ _ | refine blk_drew ?_ | refine blk_alloc ?_ _)); exact BK197.out) hb); have n2_ := Aside0.mk (below_step (by repeat (first | (with_reducible first | exact HB.out | apply below_alloc | apply pw_below_drewN | apply below_drew1 | refine below_set ?_ GE193.out | refine below_set ?_ GE197.out) | exact HB.out)) hb); clear BK193; clear BK197; clear HB; have BK193 := n0_; have BK197 := n1_; have HB := n2_; clear n0_ n1_ n2_; (try clear hb); (try clear hb2); (try clear hk); (try clear hi)))
              generalize hq_ : (((w35.setCell ⟨gb197, 0, none⟩ (.int .i64 t190)).setCell ⟨gb197, 1, none⟩ (.int .i64 t191)).setCell ⟨gb197, 2, none⟩ (.int .i64 (wrap64 (t192 + 1)))) = wq
              have n0_ : Aside0 (wq.heap[gb193]? = some (.cells #[.int .i64 t190, .int .i64 t191, .int .i64 t192] 24 (0, 0))) := ⟨by rw [← hq_]; refine blk_far ?_ NB193_197.out _; refine blk_far ?_ NB193_197.out _; refine blk_far ?_ NB193_197.out _; exact BK193.out⟩
              have n1_ : Aside0 (wq.heap[gb197]? = some (.cells #[.int .i64 t190, .int .i64 t191, .int .i64 (wrap64 (t192 + 1))] 24 (0, 0))) := ⟨by rw [← hq_]; refine blk_put (cs := #[.int .i64 t190, .int .i64 t191, .int .i64 0]) ?_ 2 _ rfl; refine blk_put (cs := #[.int .i64 t190, .int .i64 0, .int .i64 0]) ?_ 1 _ rfl; refine blk_put (cs := #[.int .i64 0, .int .i64 0, .int .i64 0]) ?_ 0 _ rfl; exact BK197.out⟩
              have n2_ : Aside0 (Below w.heap.size w wq) := ⟨by rw [← hq_]; repeat (first | exact HB.out | refine below_set ?_ GE197.out)⟩
              clear BK193 BK197 HB hq_
              have BK193 := n0_
              have BK197 := n1_
              have HB := n2_
              clear n0_ n1_ n2_
              have hd_0 : wq.cell? ⟨gb193, 0, none⟩ = some (.int .i64 t190) := (blk_cell BK193.out 0).trans rfl
              have hd_1 : wq.cell? ⟨gb193, 1, none⟩ = some (.int .i64 t191) := (blk_cell BK193.out 1).trans rfl
              have hd_2 : wq.cell? ⟨gb193, 2, none⟩ = some (.int .i64 t192) := (blk_cell BK193.out 2).trans rfl
              have hg_0 : wq.cell? ⟨gb197, 0, none⟩ = some (.int .i64 t190) := (blk_cell BK197.out 0).trans rfl
              have hg_1 : wq.cell? ⟨gb197, 1, none⟩ = some (.int .i64 t191) := (blk_cell BK197.out 1).trans rfl
              have hg_2 : wq.cell? ⟨gb197, 2, none⟩ = some (.int .i64 (wrap64 (t192 + 1))) := (blk_cell BK197.out 2).trans rfl
              have hf_0 := blk_frozen BK197.out 0
              have hf_1 := blk_frozen BK197.out 1
              have hf_2 := blk_frozen BK197.out 2
              have hnq := NB193_197.out
              have hnr := NB197_193.out
              go_quiet ((go_at_call 12; (with_reducible refine (impl_MonthDays.calls kj4 t190 t191 t198 _ A23.out).mono ?_); rintro e w' ⟨rfl, ⟨nd, rfl⟩⟩; (try first | exact ⟨rfl, _, World.drewN_drewN _ _ _⟩ | exact ⟨rfl, _, Eq.trans (World.drewN_drewN _ _ _) (congrArg (World.drewN _) (Nat.add_assoc _ _ _))⟩)))
              generalize hq_ : World.drewN wq _ = wr
              have n0_ : Aside0 (wr.heap[gb193]? = some (.cells #[.int .i64 t190, .int .i64 t191, .int .i64 t192] 24 (0, 0))) := ⟨by rw [← hq_]; refine blk_drewN ?_ _; exact BK193.out⟩
              have n1_ : Aside0 (wr.heap[gb197]? = some (.cells #[.int .i64 t190, .int .i64 t191, .int .i64 (wrap64 (t192 + 1))] 24 (0, 0))) := ⟨by rw [← hq_]; refine blk_drewN ?_ _; exact BK197.out⟩
              have n2_ : Aside0 (Below w.heap.size w wr) := ⟨by rw [← hq_]; exact pw_below_drewN HB.out _⟩
              clear BK193 BK197 HB hq_ hd_0 hd_1 hd_2 hg_0 hg_1 hg_2 hf_0 hf_1 hf_2
              have BK193 := n0_
              have BK197 := n1_
              have HB := n2_
              clear n0_ n1_ n2_
              have hd_0 : wr.cell? ⟨gb193, 0, none⟩ = some (.int .i64 t190) := (blk_cell BK193.out 0).trans rfl
              have hd_1 : wr.cell? ⟨gb193, 1, none⟩ = some (.int .i64 t191) := (blk_cell BK193.out 1).trans rfl
              have hd_2 : wr.cell? ⟨gb193, 2, none⟩ = some (.int .i64 t192) := (blk_cell BK193.out 2).trans rfl
              have hg_0 : wr.cell? ⟨gb197, 0, none⟩ = some (.int .i64 t190) := (blk_cell BK197.out 0).trans rfl
              have hg_1 : wr.cell? ⟨gb197, 1, none⟩ = some (.int .i64 t191) := (blk_cell BK197.out 1).trans rfl
              have hg_2 : wr.cell? ⟨gb197, 2, none⟩ = some (.int .i64 (wrap64 (t192 + 1))) := (blk_cell BK197.out 2).trans rfl
              have hf_0 := blk_frozen BK197.out 0
              have hf_1 := blk_frozen BK197.out 1
              have hf_2 := blk_frozen BK197.out 2
              go_upto_region 10 with (fail)
              generalize hq_ : (((wr.setCell ⟨gb197, 0, none⟩ (.int .i64 t190)).setCell ⟨gb197, 1, none⟩ (.int .i64 (wrap64 (t191 + 1)))).setCell ⟨gb197, 2, none⟩ (.int .i64 1)) = wt
              have n0_ : Aside0 (wt.heap[gb193]? = some (.cells #[.int .i64 t190, .int .i64 t191, .int .i64 t192] 24 (0, 0))) := ⟨by rw [← hq_]; refine blk_far ?_ NB193_197.out _; refine blk_far ?_ NB193_197.out _; refine blk_far ?_ NB193_197.out _; exact BK193.out⟩
              have n1_ : Aside0 (wt.heap[gb197]? = some (.cells #[.int .i64 t190, .int .i64 (wrap64 (t191 + 1)), .int .i64 1] 24 (0, 0))) := ⟨by rw [← hq_]; refine blk_put (cs := #[.int .i64 t190, .int .i64 (wrap64 (t191 + 1)), .int .i64 (wrap64 (t192 + 1))]) ?_ 2 _ rfl; refine blk_put (cs := #[.int .i64 t190, .int .i64 t191, .int .i64 (wrap64 (t192 + 1))]) ?_ 1 _ rfl; refine blk_put (cs := #[.int .i64 t190, .int .i64 t191, .int .i64 (wrap64 (t192 + 1))]) ?_ 0 _ rfl; exact BK197.out⟩
              have n2_ : Aside0 (Below w.heap.size w wt) := ⟨by rw [← hq_]; repeat (first | exact HB.out | refine below_set ?_ GE197.out)⟩
              clear BK193 BK197 HB hq_ hd_0 hd_1 hd_2 hg_0 hg_1 hg_2 hf_0 hf_1 hf_2
              have BK193 := n0_
              have BK197 := n1_
              have HB := n2_
              clear n0_ n1_ n2_
              have hd_0 : wt.cell? ⟨gb193, 0, none⟩ = some (.int .i64 t190) := (blk_cell BK193.out 0).trans rfl
              have hd_1 : wt.cell? ⟨gb193, 1, none⟩ = some (.int .i64 t191) := (blk_cell BK193.out 1).trans rfl
              have hd_2 : wt.cell? ⟨gb193, 2, none⟩ = some (.int .i64 t192) := (blk_cell BK193.out 2).trans rfl
              have hg_0 : wt.cell? ⟨gb197, 0, none⟩ = some (.int .i64 t190) := (blk_cell BK197.out 0).trans rfl
              have hg_1 : wt.cell? ⟨gb197, 1, none⟩ = some (.int .i64 (wrap64 (t191 + 1))) := (blk_cell BK197.out 1).trans rfl
              have hg_2 : wt.cell? ⟨gb197, 2, none⟩ = some (.int .i64 1) := (blk_cell BK197.out 2).trans rfl
              have hf_0 := blk_frozen BK197.out 0
              have hf_1 := blk_frozen BK197.out 1
              have hf_2 := blk_frozen BK197.out 2
              go_wp2_with (go_at_call 10; (with_reducible refine (impl_DayOf.calls kj4 t190 (wrap64 (t191 + 1)) 1 t200 _ A33.out).mono ?_); rintro e wv ⟨rfl, hb⟩; have n0_ := Aside0.mk (below_step HB.out hb); clear HB; have HB := n0_; clear n0_; clear hb)
              go_ret
              exact ⟨by first | rfl | (simp [errW_none, errW_some] <;> rfl) | (simp [*, errW_none, errW_some] <;> rfl) | (refine congrArg (fun b_ => Ending.returned (Value.bool b_)) (decide_eq_decide.2 ?_); unfold wrap64; omega), by repeat (first | (with_reducible first | exact HB.out | apply below_alloc | apply pw_below_drewN | apply below_drew1 | refine below_set ?_ GE193.out | refine below_set ?_ GE197.out) | exact HB.out)⟩
          · rw [if_neg c24] at H
            have c24b0 : (t192 == t198) = false := beq_eq_false_iff_ne.mpr c24
            have c24b1 : (t192 != t198) = true := bne_iff_ne.mpr c24
            replace H := Option.bind_eq_some_iff.mp H
            obtain ⟨t201, A400, H⟩ := H
            replace H : (some (t201 == (wrap64 (t194 + 1)))) = some r := H
            have A40 := Aside0.mk A400
            clear A400
            obtain rfl := Option.some.inj H
            have hcz41_0 : wc.cell? ⟨gb193, 0, none⟩ = some (.int .i64 t190) := (blk_cell BK193.out 0).trans rfl
            have hcz41_1 : wc.cell? ⟨gb193, 1, none⟩ = some (.int .i64 t191) := (blk_cell BK193.out 1).trans rfl
            have hcz41_2 : wc.cell? ⟨gb193, 2, none⟩ = some (.int .i64 t192) := (blk_cell BK193.out 2).trans rfl
            have hfz41_0 := blk_frozen BK193.out 0
            have hfz41_1 := blk_frozen BK193.out 1
            have hfz41_2 := blk_frozen BK193.out 2
            go_wp2_with (first | ((with_reducible refine gate_dst (N := 5) rfl ?_); refine box_event ?hg (N := 5) ?hd (cs := #[.int .i64 0, .int .i64 0, .int .i64 0]) (t := 24) ?hr ?_; (case hd => rfl); (case hg => rfl); (case hr => first | (go_simp; done) | (go_simp; rfl)); intro gb197 hg w42 hbox hb; have n0_ := Aside0.mk (blk_below (g := gb193) (o := .cells #[.int .i64 t190, .int .i64 t191, .int .i64 t192] 24 (0, 0)) (by (with_reducible repeat (first | refine blk_drewN ?_ _ | refine blk_drew ?_ | refine blk_alloc ?_ _)); exact BK193.out) hb); have n1_ := Aside0.mk (below_step (by repeat (first | (with_reducible first | exact HB.out | apply below_alloc | apply pw_below_drewN | apply below_drew1 | refine below_set ?_ GE193.out) | exact HB.out)) hb); have n2_ := Aside0.mk (hbox); have n3_ := Aside0.mk ((by rw [hg]; exact (below_size (by repeat (first | (with_reducible first | exact HB.out | apply below_alloc | apply pw_below_drewN | apply below_drew1 | refine below_set ?_ GE193.out) | exact HB.out))) : w.heap.size ≤ gb197)); have n4_ := Aside0.mk ((by rw [hg]; exact (below_size (by repeat (first | (with_reducible first | exact HB.out | apply below_alloc | apply pw_below_drewN | apply below_drew1 | refine below_set ?_ GE193.out) | exact HB.out))) : w.heap.size ≤ gb197)); have n5_ := Aside0.mk ((by rw [hg]; exact Nat.ne_of_lt (blk_lt (g := gb193) (o := .cells #[.int .i64 t190, .int .i64 t191, .int .i64 t192] 24 (0, 0)) (by (with_reducible repeat (first | refine blk_drewN ?_ _ | refine blk_drew ?_ | refine blk_alloc ?_ _)); exact BK193.out)) : gb193 ≠ gb197)); have n6_ := Aside0.mk ((by rw [hg]; exact Nat.ne_of_gt (blk_lt (g := gb193) (o := .cells #[.int .i64 t190, .int .i64 t191, .int .i64 t192] 24 (0, 0)) (by (with_reducible repeat (first | refine blk_drewN ?_ _ | refine blk_drew ?_ | refine blk_alloc ?_ _)); exact BK193.out)) : gb197 ≠ gb193)); clear BK193; clear HB; have BK193 := n0_; have HB := n1_; have BK197 := n2_; have GW197 := n3_; have GE197 := n4_; have NB193_197 := n5_; have NB197_193 := n6_; clear n0_ n1_ n2_ n3_ n4_ n5_ n6_; clear hb hbox hg; have hnb43 := NB197_193.out; have hnc43 := NB193_197.out; have hcz44_0 : w42.cell? ⟨gb197, 0, none⟩ = some (.int .i64 0) := (blk_cell BK197.out 0).trans rfl; have hcz44_1 : w42.cell? ⟨gb197, 1, none⟩ = some (.int .i64 0) := (blk_cell BK197.out 1).trans rfl; have hcz44_2 : w42.cell? ⟨gb197, 2, none⟩ = some (.int .i64 0) := (blk_cell BK197.out 2).trans rfl; have hfz44_0 := blk_frozen BK197.out 0; have hfz44_1 := blk_frozen BK197.out 1; have hfz44_2 := blk_frozen BK197.out 2; have hcz45_0 : w42.cell? ⟨gb193, 0, none⟩ = some (.int .i64 t190) := (blk_cell BK193.out 0).trans rfl; have hcz45_1 : w42.cell? ⟨gb193, 1, none⟩ = some (.int .i64 t191) := (blk_cell BK193.out 1).trans rfl; have hcz45_2 : w42.cell? ⟨gb193, 2, none⟩ = some (.int .i64 t192) := (blk_cell BK193.out 2).trans rfl; have hfz45_0 := blk_frozen BK193.out 0; have hfz45_1 := blk_frozen BK193.out 1; have hfz45_2 := blk_frozen BK193.out 2) | (go_at_call 12; (with_reducible refine (impl_MonthDays.calls kj4 t190 t191 t198 _ A23.out).mono ?_); rintro e w' ⟨rfl, ⟨nd, rfl⟩⟩; (try first | exact ⟨rfl, _, World.drewN_drewN _ _ _⟩ | exact ⟨rfl, _, Eq.trans (World.drewN_drewN _ _ _) (congrArg (World.drewN _) (Nat.add_assoc _ _ _))⟩)) | (go_at_call 10; (with_reducible refine (impl_DayOf.calls kj4 t190 t191 (wrap64 (t192 + 1)) t201 _ A40.out).mono ?_); rintro e w46 ⟨rfl, hb⟩; have n0_ := Aside0.mk (blk_below (g := gb193) (o := .cells #[.int .i64 t190, .int .i64 t191, .int .i64 t192] 24 (0, 0)) (by (with_reducible repeat (first | refine blk_drewN ?_ _ | refine blk_drew ?_ | refine blk_alloc ?_ _)); refine blk_far ?_ NB193_197.out _; (with_reducible repeat (first | refine blk_drewN ?_ _ | refine blk_drew ?_ | refine blk_alloc ?_ _)); refine blk_far ?_ NB193_197.out _; (with_reducible repeat (first | refine blk_drewN ?_ _ | refine blk_drew ?_ | refine blk_alloc ?_ _)); refine blk_far ?_ NB193_197.out _; (with_reducible repeat (first | refine blk_drewN ?_ _ | refine blk_drew ?_ | refine blk_alloc ?_ _)); exact BK193.out) hb); have n1_ := Aside0.mk (blk_below (g := gb197) (o := .cells #[.int .i64 t190, .int .i64 t191, .int .i64 (wrap64 (t192 + 1))] 24 (0, 0)) (by (with_reducible repeat (first | refine blk_drewN ?_ _ | refine blk_drew ?_ | refine blk_alloc ?_ _)); refine blk_put (cs := #[.int .i64 t190, .int .i64 t191, .int .i64 0]) ?_ 2 _ rfl; (with_reducible repeat (first | refine blk_drewN ?_ _ | refine blk_drew ?_ | refine blk_alloc ?_ _)); refine blk_put (cs := #[.int .i64 t190, .int .i64 0, .int .i64 0]) ?_ 1 _ rfl; (with_reducible repeat (first | refine blk_drewN ?_ _ | refine blk_drew ?_ | refine blk_alloc ?_ _)); refine blk_put (cs := #[.int .i64 0, .int .i64 0, .int .i64 0]) ?_ 0 _ rfl; (with_reducible repeat (first | refine blk_drewN ?_ _ | refine blk_drew ?_ | refine blk_alloc ?_ _)); exact BK197.out) hb); have n2_ := Aside0.mk (below_step (by repeat (first | (with_reducible first | exact HB.out | apply below_alloc | apply pw_below_drewN | apply below_drew1 | refine below_set ?_ GE193.out | refine below_set ?_ GE197.out) | exact HB.out)) hb); clear BK193; clear BK197; clear HB; have BK193 := n0_; have BK197 := n1_; have HB := n2_; clear n0_ n1_ n2_; (try clear hb); (try clear hb2); (try clear hk); (try clear hi)))
            generalize hq_ : (((w42.setCell ⟨gb197, 0, none⟩ (.int .i64 t190)).setCell ⟨gb197, 1, none⟩ (.int .i64 t191)).setCell ⟨gb197, 2, none⟩ (.int .i64 (wrap64 (t192 + 1)))) = wq
            have n0_ : Aside0 (wq.heap[gb193]? = some (.cells #[.int .i64 t190, .int .i64 t191, .int .i64 t192] 24 (0, 0))) := ⟨by rw [← hq_]; refine blk_far ?_ NB193_197.out _; refine blk_far ?_ NB193_197.out _; refine blk_far ?_ NB193_197.out _; exact BK193.out⟩
            have n1_ : Aside0 (wq.heap[gb197]? = some (.cells #[.int .i64 t190, .int .i64 t191, .int .i64 (wrap64 (t192 + 1))] 24 (0, 0))) := ⟨by rw [← hq_]; refine blk_put (cs := #[.int .i64 t190, .int .i64 t191, .int .i64 0]) ?_ 2 _ rfl; refine blk_put (cs := #[.int .i64 t190, .int .i64 0, .int .i64 0]) ?_ 1 _ rfl; refine blk_put (cs := #[.int .i64 0, .int .i64 0, .int .i64 0]) ?_ 0 _ rfl; exact BK197.out⟩
            have n2_ : Aside0 (Below w.heap.size w wq) := ⟨by rw [← hq_]; repeat (first | exact HB.out | refine below_set ?_ GE197.out)⟩
            clear BK193 BK197 HB hq_
            have BK193 := n0_
            have BK197 := n1_
            have HB := n2_
            clear n0_ n1_ n2_
            have hd_0 : wq.cell? ⟨gb193, 0, none⟩ = some (.int .i64 t190) := (blk_cell BK193.out 0).trans rfl
            have hd_1 : wq.cell? ⟨gb193, 1, none⟩ = some (.int .i64 t191) := (blk_cell BK193.out 1).trans rfl
            have hd_2 : wq.cell? ⟨gb193, 2, none⟩ = some (.int .i64 t192) := (blk_cell BK193.out 2).trans rfl
            have hg_0 : wq.cell? ⟨gb197, 0, none⟩ = some (.int .i64 t190) := (blk_cell BK197.out 0).trans rfl
            have hg_1 : wq.cell? ⟨gb197, 1, none⟩ = some (.int .i64 t191) := (blk_cell BK197.out 1).trans rfl
            have hg_2 : wq.cell? ⟨gb197, 2, none⟩ = some (.int .i64 (wrap64 (t192 + 1))) := (blk_cell BK197.out 2).trans rfl
            have hf_0 := blk_frozen BK197.out 0
            have hf_1 := blk_frozen BK197.out 1
            have hf_2 := blk_frozen BK197.out 2
            have hnq := NB193_197.out
            have hnr := NB197_193.out
            go_quiet ((go_at_call 12; (with_reducible refine (impl_MonthDays.calls kj4 t190 t191 t198 _ A23.out).mono ?_); rintro e w' ⟨rfl, ⟨nd, rfl⟩⟩; (try first | exact ⟨rfl, _, World.drewN_drewN _ _ _⟩ | exact ⟨rfl, _, Eq.trans (World.drewN_drewN _ _ _) (congrArg (World.drewN _) (Nat.add_assoc _ _ _))⟩)))
            generalize hq_ : World.drewN wq _ = wr
            have n0_ : Aside0 (wr.heap[gb193]? = some (.cells #[.int .i64 t190, .int .i64 t191, .int .i64 t192] 24 (0, 0))) := ⟨by rw [← hq_]; refine blk_drewN ?_ _; exact BK193.out⟩
            have n1_ : Aside0 (wr.heap[gb197]? = some (.cells #[.int .i64 t190, .int .i64 t191, .int .i64 (wrap64 (t192 + 1))] 24 (0, 0))) := ⟨by rw [← hq_]; refine blk_drewN ?_ _; exact BK197.out⟩
            have n2_ : Aside0 (Below w.heap.size w wr) := ⟨by rw [← hq_]; exact pw_below_drewN HB.out _⟩
            clear BK193 BK197 HB hq_ hd_0 hd_1 hd_2 hg_0 hg_1 hg_2 hf_0 hf_1 hf_2
            have BK193 := n0_
            have BK197 := n1_
            have HB := n2_
            clear n0_ n1_ n2_
            have hd_0 : wr.cell? ⟨gb193, 0, none⟩ = some (.int .i64 t190) := (blk_cell BK193.out 0).trans rfl
            have hd_1 : wr.cell? ⟨gb193, 1, none⟩ = some (.int .i64 t191) := (blk_cell BK193.out 1).trans rfl
            have hd_2 : wr.cell? ⟨gb193, 2, none⟩ = some (.int .i64 t192) := (blk_cell BK193.out 2).trans rfl
            have hg_0 : wr.cell? ⟨gb197, 0, none⟩ = some (.int .i64 t190) := (blk_cell BK197.out 0).trans rfl
            have hg_1 : wr.cell? ⟨gb197, 1, none⟩ = some (.int .i64 t191) := (blk_cell BK197.out 1).trans rfl
            have hg_2 : wr.cell? ⟨gb197, 2, none⟩ = some (.int .i64 (wrap64 (t192 + 1))) := (blk_cell BK197.out 2).trans rfl
            have hf_0 := blk_frozen BK197.out 0
            have hf_1 := blk_frozen BK197.out 1
            have hf_2 := blk_frozen BK197.out 2
            go_wp2_with (go_at_call 10; (with_reducible refine (impl_DayOf.calls kj4 t190 t191 (wrap64 (t192 + 1)) t201 _ A40.out).mono ?_); rintro e wv ⟨rfl, hb⟩; have n0_ := Aside0.mk (below_step HB.out hb); clear HB; have HB := n0_; clear n0_; clear hb)
            go_ret
            exact ⟨by first | rfl | (simp [errW_none, errW_some] <;> rfl) | (simp [*, errW_none, errW_some] <;> rfl) | (refine congrArg (fun b_ => Ending.returned (Value.bool b_)) (decide_eq_decide.2 ?_); unfold wrap64; omega), by repeat (first | (with_reducible first | exact HB.out | apply below_alloc | apply pw_below_drewN | apply below_drew1 | refine below_set ?_ GE193.out | refine below_set ?_ GE197.out) | exact HB.out)⟩

/-- THE ONE PURE STATEMENT of laws_FnDayOfNext: yours. -/
def laws_FnDayOfNext.Pure : Prop := ∀ (l0 : List Int), l0.length ≤ maxLen → l0.length * 1 ≤ 140737488351232 → (∀ x ∈ l0, (Lit.int .u8 x).wf = true) → ∃ k, laws_FnDayOfNext.f k l0 = some true
theorem laws_FnDayOfNext.walk (P : laws_FnDayOfNext.Pure) (a0 : Option Addr) (len0 cap0 : Nat) (z0 : List Int) (w : World) (w0 : (a0 = none ∧ len0 = 0 ∧ cap0 = 0 ∧ z0 = []) ∨ ∃ x, a0 = some x ∧ len0 ≤ cap0 ∧ cap0 ≤ maxLen ∧ z0.length = cap0 ∧ (∀ i, i < z0.length → w.cell? (x.add i) = some (.int .u8 (z0.getD i 0))) ∧ ∀ n ∈ z0, (Lit.int .u8 n).wf = true) (y0 : len0 * 1 ≤ 140737488351232) :
    Calls Try.prog 4 #[.slice a0 len0 cap0] w fun e w' => e = .returned (.bool true) ∧ Below w.heap.size w w' := by
  obtain ⟨l0, rfl, hr0, hm0, hw0, hc0⟩ := ReadsInt.ofRowC w0
  obtain ⟨k, h⟩ := P l0 hm0 y0 hw0
  refine (laws_FnDayOfNext.calls k _ _ l0 true w (Kd.C_of_reads (d := (0 : Int)) (h1 := fun _ => rfl) hr0) hc0 h).mono ?_
  rintro e w' ⟨rfl, hd⟩
  exact ⟨rfl, hd⟩

end Go.Proofs.Ytmbfilhehclffaa.HFnDayOfNext
