-- PRINTED BY print.sh 35421559b90ae4d0a3588c463048766b98c2df88dd9212a6774a882060cdf62d: not written by this session
import Derived.Test.YtodjapnmobekjaaPNumShiftx0
import Derived.Test.YtodjapnmobekjaaPNumShiftx1
import Derived.Test.YtodjapnmobekjaaPNumShiftx3
namespace Go.Proofs.Ytodjapnmobekjaa.PNumShift
open Go.RowKit Go.Proofs.YtodjapnmobekjaaW.PrintWords Go.Proofs.YtodjapnmobekjaaW.PrintLast Go.Proofs.YtodjapnmobekjaaW.PrintMore
attribute [local go_sem] max2_int min2_int max_two min_two max_three min_three max_four min_four   -- for this text's walks alone
set_option linter.unusedVariables false
set_option linter.unusedSimpArgs false

/-! ### dancestudiolaw01_NumShift: function 5 -/
mutual
def dancestudiolaw01_NumShift.j0 : Nat → Int → Int → Bool → Int → Int → Int → Int → Option (Bool)
  | 0, _, _, _, _, _, _, _ => none
  | k + 1, x1, x5, x37, x171000, x171001, x171002, x171003 => if x37 = true then ((dancestudiolaw01_awake.f k).bind fun t176 => (some t176)) else ((dancestudiolaw01_unit.f (wrap64 (x171000 + (wrap64 ((wrap64 (Int.tdiv x1 2)) * 2))))).bind fun t177 => (if t177 = true then ((dancestudiolaw01_unit.f (wrap64 (x171001 + (wrap64 ((wrap64 (Int.tdiv x1 2)) * 2))))).bind fun t178 => (dancestudiolaw01_NumShift.j1 k (wrap64 ((wrap64 (Int.tdiv x1 2)) * 2)) x5 (!t178) x171000 x171001 x171002 x171003)) else (dancestudiolaw01_NumShift.j1 k (wrap64 ((wrap64 (Int.tdiv x1 2)) * 2)) x5 true x171000 x171001 x171002 x171003)))
def dancestudiolaw01_NumShift.j1 : Nat → Int → Int → Bool → Int → Int → Int → Int → Option (Bool)
  | 0, _, _, _, _, _, _, _ => none
  | k + 1, x1, x5, x55, x171000, x171001, x171002, x171003 => if x55 = true then ((dancestudiolaw01_awake.f k).bind fun t179 => (some t179)) else ((dancestudiolaw01_lerps.f (wrap64 (x5 + x1)) (wrap64 (x171000 + x1)) (wrap64 (x171001 + x1)) x171002 x171003).bind fun t180 => (if t180 = true then ((dancestudiolaw01_awake.f k).bind fun t181 => (some t181)) else (some false)))
end
def dancestudiolaw01_NumShift.f (k : Nat) (a0_0 : Int) (a0_1 : Int) (a0_2 : Int) (a0_3 : Int) (a1 : Int) : Option (Bool) := (num_Lerp.f a0_0 a0_1 a0_2 a0_3).bind fun bt171 => (if bt171.2 = 0 then ((dancestudiolaw01_unit.f a1).bind fun t173 => (if t173 = true then ((dancestudiolaw01_unit.f a0_0).bind fun t174 => (if t174 = true then ((dancestudiolaw01_unit.f a0_1).bind fun t175 => (dancestudiolaw01_NumShift.j0 k a1 bt171.1 (!t175) a0_0 a0_1 a0_2 a0_3)) else (dancestudiolaw01_NumShift.j0 k a1 bt171.1 true a0_0 a0_1 a0_2 a0_3))) else (dancestudiolaw01_NumShift.j0 k a1 bt171.1 true a0_0 a0_1 a0_2 a0_3))) else (dancestudiolaw01_NumShift.j0 k a1 bt171.1 true a0_0 a0_1 a0_2 a0_3))
theorem dancestudiolaw01_NumShift.mono_l : ∀ k, (∀ y0 y1 y2 y3 y4 y5 y6, LeO (dancestudiolaw01_NumShift.j0 k y0 y1 y2 y3 y4 y5 y6) (dancestudiolaw01_NumShift.j0 (k + 1) y0 y1 y2 y3 y4 y5 y6)) ∧ (∀ y0 y1 y2 y3 y4 y5 y6, LeO (dancestudiolaw01_NumShift.j1 k y0 y1 y2 y3 y4 y5 y6) (dancestudiolaw01_NumShift.j1 (k + 1) y0 y1 y2 y3 y4 y5 y6))
  | 0 => ⟨fun _ _ _ _ _ _ _ r h => by simp [dancestudiolaw01_NumShift.j0] at h, fun _ _ _ _ _ _ _ r h => by simp [dancestudiolaw01_NumShift.j1] at h⟩
  | k + 1 => by
    obtain ⟨ih0, ih1⟩ := dancestudiolaw01_NumShift.mono_l k
    refine ⟨?_, ?_⟩
    · intro y0 y1 y2 y3 y4 y5 y6
      unfold dancestudiolaw01_NumShift.j0
      repeat' first
      | (with_reducible exact ih0 _ _ _ _ _ _ _)
      | (with_reducible exact ih1 _ _ _ _ _ _ _)
      | (with_reducible exact dancestudiolaw01_awake.mono _)
      | (with_reducible exact LeO.refl _)
      | (with_reducible exact LeO.none _)
      | (with_reducible refine LeO.ite ?_ ?_)
      | (with_reducible refine LeO.bind ?_ (fun _ => ?_))
      | exact ih0 _ _ _ _ _ _ _
      | exact ih1 _ _ _ _ _ _ _
      | exact dancestudiolaw01_awake.mono _
      | exact LeO.none _
      | refine LeO.ite ?_ ?_
      | refine LeO.bind ?_ (fun _ => ?_)
    · intro y0 y1 y2 y3 y4 y5 y6
      unfold dancestudiolaw01_NumShift.j1
      repeat' first
      | (with_reducible exact ih0 _ _ _ _ _ _ _)
      | (with_reducible exact ih1 _ _ _ _ _ _ _)
      | (with_reducible exact dancestudiolaw01_awake.mono _)
      | (with_reducible exact LeO.refl _)
      | (with_reducible exact LeO.none _)
      | (with_reducible refine LeO.ite ?_ ?_)
      | (with_reducible refine LeO.bind ?_ (fun _ => ?_))
      | exact ih0 _ _ _ _ _ _ _
      | exact ih1 _ _ _ _ _ _ _
      | exact dancestudiolaw01_awake.mono _
      | exact LeO.none _
      | refine LeO.ite ?_ ?_
      | refine LeO.bind ?_ (fun _ => ?_)
theorem dancestudiolaw01_NumShift.mono : ∀ a0 a1 a2 a3 a4 k, LeO (dancestudiolaw01_NumShift.f k a0 a1 a2 a3 a4) (dancestudiolaw01_NumShift.f (k + 1) a0 a1 a2 a3 a4) := by
  intro a0 a1 a2 a3 a4 k
  obtain ⟨ih0, ih1⟩ := dancestudiolaw01_NumShift.mono_l k
  unfold dancestudiolaw01_NumShift.f
  repeat' first
      | (with_reducible exact ih0 _ _ _ _ _ _ _)
      | (with_reducible exact ih1 _ _ _ _ _ _ _)
      | (with_reducible exact dancestudiolaw01_awake.mono _)
      | (with_reducible exact LeO.refl _)
      | (with_reducible exact LeO.none _)
      | (with_reducible refine LeO.ite ?_ ?_)
      | (with_reducible refine LeO.bind ?_ (fun _ => ?_))
      | exact ih0 _ _ _ _ _ _ _
      | exact ih1 _ _ _ _ _ _ _
      | exact dancestudiolaw01_awake.mono _
      | exact LeO.none _
      | refine LeO.ite ?_ ?_
      | refine LeO.bind ?_ (fun _ => ?_)
set_option maxHeartbeats 8000000 in
set_option maxRecDepth 100000 in
theorem dancestudiolaw01_NumShift.calls (k : Nat) (a0_0 : Int) (a0_1 : Int) (a0_2 : Int) (a0_3 : Int) (a1 : Int) (r : Bool) (w : World) (h : dancestudiolaw01_NumShift.f k a0_0 a0_1 a0_2 a0_3 a1 = some r) :
    Calls Try.prog 5 #[.agg #[.int .i64 a0_0, .int .i64 a0_1, .int .i64 a0_2, .int .i64 a0_3], .int .i64 a1] w fun e w' => e = .returned (.bool r) ∧ Below w.heap.size w w' := by
  have hu23 := Try.underlying23
  have HB := Aside0.mk (Below.refl w.heap.size w)
  have H : ((num_Lerp.f a0_0 a0_1 a0_2 a0_3).bind fun bt171 => (if bt171.2 = 0 then ((dancestudiolaw01_unit.f a1).bind fun t173 => (if t173 = true then ((dancestudiolaw01_unit.f a0_0).bind fun t174 => (if t174 = true then ((dancestudiolaw01_unit.f a0_1).bind fun t175 => (dancestudiolaw01_NumShift.j0 k a1 bt171.1 (!t175) a0_0 a0_1 a0_2 a0_3)) else (dancestudiolaw01_NumShift.j0 k a1 bt171.1 true a0_0 a0_1 a0_2 a0_3))) else (dancestudiolaw01_NumShift.j0 k a1 bt171.1 true a0_0 a0_1 a0_2 a0_3))) else (dancestudiolaw01_NumShift.j0 k a1 bt171.1 true a0_0 a0_1 a0_2 a0_3))) = some r := h
  clear h
  replace H := Option.bind_eq_some_iff.mp H
  obtain ⟨⟨t171, t172⟩, A30, H⟩ := H
  replace H : (if t172 = 0 then ((dancestudiolaw01_unit.f a1).bind fun t173 => (if t173 = true then ((dancestudiolaw01_unit.f a0_0).bind fun t174 => (if t174 = true then ((dancestudiolaw01_unit.f a0_1).bind fun t175 => (dancestudiolaw01_NumShift.j0 k a1 t171 (!t175) a0_0 a0_1 a0_2 a0_3)) else (dancestudiolaw01_NumShift.j0 k a1 t171 true a0_0 a0_1 a0_2 a0_3))) else (dancestudiolaw01_NumShift.j0 k a1 t171 true a0_0 a0_1 a0_2 a0_3))) else (dancestudiolaw01_NumShift.j0 k a1 t171 true a0_0 a0_1 a0_2 a0_3)) = some r := H
  have A3 := Aside0.mk A30
  clear A30
  have HC4 := Aside0.mk H
  clear H
  go_enter Try.func5, Try.ntmps5
  go_upto_region 2 with (first | ((with_reducible refine gate_dst (N := 2) rfl ?_); refine box_event ?hg (N := 2) ?hd (cs := #[.int .i64 a0_0, .int .i64 a0_1, .int .i64 a0_2, .int .i64 a0_3]) (t := 23) ?hr ?_; (case hd => rfl); (case hg => rfl); (case hr => first | (go_simp; done) | (go_simp; rfl)); intro gb170 hg w5 hbox hb; have n0_ := Aside0.mk (below_step (by repeat (first | (with_reducible first | exact HB.out | apply below_alloc | apply pw_below_drewN | apply below_drew1) | exact HB.out)) hb); have n1_ := Aside0.mk (hbox); have n2_ := Aside0.mk ((by rw [hg]; exact (below_size (by repeat (first | (with_reducible first | exact HB.out | apply below_alloc | apply pw_below_drewN | apply below_drew1) | exact HB.out))) : w.heap.size ≤ gb170)); have n3_ := Aside0.mk ((by rw [hg]; exact (below_size (by repeat (first | (with_reducible first | exact HB.out | apply below_alloc | apply pw_below_drewN | apply below_drew1) | exact HB.out))) : w.heap.size ≤ gb170)); clear HB; have HB := n0_; have BK170 := n1_; have GW170 := n2_; have GE170 := n3_; clear n0_ n1_ n2_ n3_; clear hb hbox hg; have hcz6_0 : w5.cell? ⟨gb170, 0, none⟩ = some (.int .i64 a0_0) := (blk_cell BK170.out 0).trans rfl; have hcz6_1 : w5.cell? ⟨gb170, 1, none⟩ = some (.int .i64 a0_1) := (blk_cell BK170.out 1).trans rfl; have hcz6_2 : w5.cell? ⟨gb170, 2, none⟩ = some (.int .i64 a0_2) := (blk_cell BK170.out 2).trans rfl; have hcz6_3 : w5.cell? ⟨gb170, 3, none⟩ = some (.int .i64 a0_3) := (blk_cell BK170.out 3).trans rfl; have hfz6_0 := blk_frozen BK170.out 0; have hfz6_1 := blk_frozen BK170.out 1; have hfz6_2 := blk_frozen BK170.out 2; have hfz6_3 := blk_frozen BK170.out 3) | ((with_reducible refine gate_callee (f := 12) rfl ?_); refine goesL_ (some 16) rfl rfl Try.func12 (by kernel_rfl) rfl #[.int .i64 a0_0, .int .i64 a0_1, .int .i64 a0_2, .int .i64 a0_3] rfl (by (try simp only [List.map_toArray, List.map_cons, List.map_nil]); first | done | rfl | (simp only [List.length_drop, List.length_take]; rfl)) ?_; (with_reducible refine (num_Lerp.calls a0_0 a0_1 a0_2 a0_3 t171 t172 _ A3.out).mono ?_); rintro e w' ⟨rfl, ⟨nd, rfl⟩⟩; refine ⟨_, rfl, ?_⟩))
  (try simp only [Act.put, List.setIfInBounds_toArray, List.set_cons_zero, List.set_cons_succ])
  go_cut [37] (fun v37 wc => ∃ (kq : Nat) (x37_3 : Bool), v37 = .bool x37_3 ∧ Aside0 (dancestudiolaw01_NumShift.j0 kq a1 t171 x37_3 a0_0 a0_1 a0_2 a0_3 = some r) ∧ Aside0 (kq ≤ k) ∧ Aside0 (wc.heap[gb170]? = some (.cells #[.int .i64 a0_0, .int .i64 a0_1, .int .i64 a0_2, .int .i64 a0_3] 23 (0, 0))) ∧ Aside0 (Below w.heap.size w wc))
  case first =>
    have H := HC4.out
    clear HC4
    by_cases c7 : t172 = 0
    · rw [if_pos c7] at H
      have c7b0 : (t172 == 0) = true := beq_iff_eq.mpr c7
      have c7b1 : (t172 != 0) = false := bne_eq_false_iff_eq.mpr c7
      clear c7
      (first | rw [c7b0] | (simp only [i64_w, i32_w]; rw [c7b0]) | skip)
      replace H := Option.bind_eq_some_iff.mp H
      obtain ⟨t173, A80, H⟩ := H
      replace H : (if t173 = true then ((dancestudiolaw01_unit.f a0_0).bind fun t174 => (if t174 = true then ((dancestudiolaw01_unit.f a0_1).bind fun t175 => (dancestudiolaw01_NumShift.j0 k a1 t171 (!t175) a0_0 a0_1 a0_2 a0_3)) else (dancestudiolaw01_NumShift.j0 k a1 t171 true a0_0 a0_1 a0_2 a0_3))) else (dancestudiolaw01_NumShift.j0 k a1 t171 true a0_0 a0_1 a0_2 a0_3)) = some r := H
      have A8 := Aside0.mk A80
      clear A80
      by_cases c9 : t173 = true
      · subst c9
        have H1 : ((dancestudiolaw01_unit.f a0_0).bind fun t174 => (if t174 = true then ((dancestudiolaw01_unit.f a0_1).bind fun t175 => (dancestudiolaw01_NumShift.j0 k a1 t171 (!t175) a0_0 a0_1 a0_2 a0_3)) else (dancestudiolaw01_NumShift.j0 k a1 t171 true a0_0 a0_1 a0_2 a0_3))) = some r := by rw [if_pos rfl] at H; exact H
        clear H
        have H := H1
        clear H1
        replace H := Option.bind_eq_some_iff.mp H
        obtain ⟨t174, A100, H⟩ := H
        replace H : (if t174 = true then ((dancestudiolaw01_unit.f a0_1).bind fun t175 => (dancestudiolaw01_NumShift.j0 k a1 t171 (!t175) a0_0 a0_1 a0_2 a0_3)) else (dancestudiolaw01_NumShift.j0 k a1 t171 true a0_0 a0_1 a0_2 a0_3)) = some r := H
        have A10 := Aside0.mk A100
        clear A100
        by_cases c11 : t174 = true
        · subst c11
          have H1 : ((dancestudiolaw01_unit.f a0_1).bind fun t175 => (dancestudiolaw01_NumShift.j0 k a1 t171 (!t175) a0_0 a0_1 a0_2 a0_3)) = some r := by rw [if_pos rfl] at H; exact H
          clear H
          have H := H1
          clear H1
          replace H := Option.bind_eq_some_iff.mp H
          obtain ⟨t175, A120, H⟩ := H
          replace H : (dancestudiolaw01_NumShift.j0 k a1 t171 (!t175) a0_0 a0_1 a0_2 a0_3) = some r := H
          have A12 := Aside0.mk A120
          clear A120
          have H' := Aside0.mk H
          clear H
          go_wp2_with (first | (go_at_call 15; (with_reducible refine (dancestudiolaw01_unit.calls a1 true _ A8.out).mono ?_); rintro e w' ⟨rfl, ⟨nd, rfl⟩⟩; have hcz13_0 : w5.cell? ⟨gb170, 0, none⟩ = some (.int .i64 a0_0) := (blk_cell BK170.out 0).trans rfl; have hcz13_1 : w5.cell? ⟨gb170, 1, none⟩ = some (.int .i64 a0_1) := (blk_cell BK170.out 1).trans rfl; have hcz13_2 : w5.cell? ⟨gb170, 2, none⟩ = some (.int .i64 a0_2) := (blk_cell BK170.out 2).trans rfl; have hcz13_3 : w5.cell? ⟨gb170, 3, none⟩ = some (.int .i64 a0_3) := (blk_cell BK170.out 3).trans rfl; have hfz13_0 := blk_frozen BK170.out 0; have hfz13_1 := blk_frozen BK170.out 1; have hfz13_2 := blk_frozen BK170.out 2; have hfz13_3 := blk_frozen BK170.out 3) | (go_at_call 15; (with_reducible refine (dancestudiolaw01_unit.calls a0_0 true _ A10.out).mono ?_); rintro e w' ⟨rfl, ⟨nd, rfl⟩⟩) | (go_at_call 15; (with_reducible refine (dancestudiolaw01_unit.calls a0_1 t175 _ A12.out).mono ?_); rintro e w' ⟨rfl, ⟨nd, rfl⟩⟩))
          go_meet
          case rel => exact ⟨_, (!t175), (by first | rfl | (simp; done) | (simp [*]; done)), H', ⟨by first | omega | exact Nat.le_refl _⟩, ⟨by (with_reducible repeat (first | refine blk_drewN ?_ _ | refine blk_drew ?_ | refine blk_alloc ?_ _)); exact BK170.out⟩, ⟨by repeat (first | (with_reducible first | exact HB.out | apply below_alloc | apply pw_below_drewN | apply below_drew1 | refine below_set ?_ GE170.out) | exact HB.out)⟩⟩
        · replace c11 := Bool.eq_false_iff.mpr c11
          subst c11
          have H1 : (dancestudiolaw01_NumShift.j0 k a1 t171 true a0_0 a0_1 a0_2 a0_3) = some r := by rw [if_neg (show ¬ (false = true) by decide)] at H; exact H
          clear H
          have H := H1
          clear H1
          have H' := Aside0.mk H
          clear H
          go_wp2_with (first | (go_at_call 15; (with_reducible refine (dancestudiolaw01_unit.calls a1 true _ A8.out).mono ?_); rintro e w' ⟨rfl, ⟨nd, rfl⟩⟩; have hcz14_0 : w5.cell? ⟨gb170, 0, none⟩ = some (.int .i64 a0_0) := (blk_cell BK170.out 0).trans rfl; have hcz14_1 : w5.cell? ⟨gb170, 1, none⟩ = some (.int .i64 a0_1) := (blk_cell BK170.out 1).trans rfl; have hcz14_2 : w5.cell? ⟨gb170, 2, none⟩ = some (.int .i64 a0_2) := (blk_cell BK170.out 2).trans rfl; have hcz14_3 : w5.cell? ⟨gb170, 3, none⟩ = some (.int .i64 a0_3) := (blk_cell BK170.out 3).trans rfl; have hfz14_0 := blk_frozen BK170.out 0; have hfz14_1 := blk_frozen BK170.out 1; have hfz14_2 := blk_frozen BK170.out 2; have hfz14_3 := blk_frozen BK170.out 3) | (go_at_call 15; (with_reducible refine (dancestudiolaw01_unit.calls a0_0 false _ A10.out).mono ?_); rintro e w' ⟨rfl, ⟨nd, rfl⟩⟩))
          go_meet
          case rel => exact ⟨_, (true), (by first | rfl | (simp; done) | (simp [*]; done)), H', ⟨by first | omega | exact Nat.le_refl _⟩, ⟨by (with_reducible repeat (first | refine blk_drewN ?_ _ | refine blk_drew ?_ | refine blk_alloc ?_ _)); exact BK170.out⟩, ⟨by repeat (first | (with_reducible first | exact HB.out | apply below_alloc | apply pw_below_drewN | apply below_drew1 | refine below_set ?_ GE170.out) | exact HB.out)⟩⟩
      · replace c9 := Bool.eq_false_iff.mpr c9
        subst c9
        have H1 : (dancestudiolaw01_NumShift.j0 k a1 t171 true a0_0 a0_1 a0_2 a0_3) = some r := by rw [if_neg (show ¬ (false = true) by decide)] at H; exact H
        clear H
        have H := H1
        clear H1
        have H' := Aside0.mk H
        clear H
        go_wp2_with (first | (go_at_call 15; (with_reducible refine (dancestudiolaw01_unit.calls a1 false _ A8.out).mono ?_); rintro e w' ⟨rfl, ⟨nd, rfl⟩⟩))
        go_meet
        case rel => exact ⟨_, (true), (by first | rfl | (simp; done) | (simp [*]; done)), H', ⟨by first | omega | exact Nat.le_refl _⟩, ⟨by (with_reducible repeat (first | refine blk_drewN ?_ _ | refine blk_drew ?_ | refine blk_alloc ?_ _)); exact BK170.out⟩, ⟨by repeat (first | (with_reducible first | exact HB.out | apply below_alloc | apply pw_below_drewN | apply below_drew1 | refine below_set ?_ GE170.out) | exact HB.out)⟩⟩
    · rw [if_neg c7] at H
      have c7b0 : (t172 == 0) = false := beq_eq_false_iff_ne.mpr c7
      have c7b1 : (t172 != 0) = true := bne_iff_ne.mpr c7
      (first | rw [c7b0] | (simp only [i64_w, i32_w]; rw [c7b0]) | skip)
      have H' := Aside0.mk H
      clear H
      go_wp2
      go_meet
      case rel => exact ⟨_, (true), (by first | rfl | (simp; done) | (simp [*]; done)), H', ⟨by first | omega | exact Nat.le_refl _⟩, ⟨by (with_reducible repeat (first | refine blk_drewN ?_ _ | refine blk_drew ?_ | refine blk_alloc ?_ _)); exact BK170.out⟩, ⟨by repeat (first | (with_reducible first | exact HB.out | apply below_alloc | apply pw_below_drewN | apply below_drew1 | refine below_set ?_ GE170.out) | exact HB.out)⟩⟩
  case rest =>
    clear HC4
    try clear c1
    try clear p2
    try clear c5
    try clear c7
    try clear c7b0
    try clear c7b1
    try clear c9
    try clear c11
    try clear c12
    try clear hcz13_0
    try clear hcz13_1
    try clear hcz13_2
    try clear hcz13_3
    try clear hcz14_0
    try clear hcz14_1
    try clear hcz14_2
    try clear hcz14_3
    try clear hcz6_0
    try clear hcz6_1
    try clear hcz6_2
    try clear hcz6_3
    try clear hfz13_0
    try clear hfz13_1
    try clear hfz13_2
    try clear hfz13_3
    try clear hfz14_0
    try clear hfz14_1
    try clear hfz14_2
    try clear hfz14_3
    try clear hfz6_0
    try clear hfz6_1
    try clear hfz6_2
    try clear hfz6_3
    obtain ⟨kq, x37_3, rfl, HA, HJ3, BK170, HB⟩ := hcut
    cases kq with
    | zero => exact absurd HA.out (by simp [dancestudiolaw01_NumShift.j0])
    | succ kj3 =>
      have H := HA.out
      clear HA
      simp only [dancestudiolaw01_NumShift.j0] at H
      by_cases c15 : x37_3 = true
      · subst c15
        have H1 : ((dancestudiolaw01_awake.f kj3).bind fun t176 => (some t176)) = some r := by rw [if_pos rfl] at H; exact H
        clear H
        have H := H1
        clear H1
        replace H := Option.bind_eq_some_iff.mp H
        obtain ⟨t176, A160, H⟩ := H
        replace H : (some t176) = some r := H
        have A16 := Aside0.mk A160
        clear A160
        obtain rfl := Option.some.inj H
        go_wp2_with (first | ((with_reducible refine gate_callee (f := 14) rfl ?_); refine goesL_ (some 38) rfl rfl Try.func14 (by kernel_rfl) rfl #[] rfl (by (try simp only [List.map_toArray, List.map_cons, List.map_nil]); first | done | rfl | (simp only [List.length_drop, List.length_take]; rfl)) ?_; (with_reducible refine (dancestudiolaw01_awake.calls kj3  t176 _ A16.out).mono ?_); rintro e w17 ⟨rfl, hb⟩; refine ⟨_, rfl, ?_⟩; have n0_ := Aside0.mk (blk_below (g := gb170) (o := .cells #[.int .i64 a0_0, .int .i64 a0_1, .int .i64 a0_2, .int .i64 a0_3] 23 (0, 0)) (by (with_reducible repeat (first | refine blk_drewN ?_ _ | refine blk_drew ?_ | refine blk_alloc ?_ _)); exact BK170.out) hb); have n1_ := Aside0.mk (below_step (by repeat (first | (with_reducible first | exact HB.out | apply below_alloc | apply pw_below_drewN | apply below_drew1 | refine below_set ?_ GE170.out) | exact HB.out)) hb); clear BK170; clear HB; have BK170 := n0_; have HB := n1_; clear n0_ n1_; (try clear hb); (try clear hb2); (try clear hk); (try clear hi)))
        go_ret
        exact ⟨by first | rfl | (simp [errW_none, errW_some] <;> rfl) | (simp [*, errW_none, errW_some] <;> rfl), by repeat (first | (with_reducible first | exact HB.out | apply below_alloc | apply pw_below_drewN | apply below_drew1 | refine below_set ?_ GE170.out) | exact HB.out)⟩
      · replace c15 := Bool.eq_false_iff.mpr c15
        subst c15
        have H1 : ((dancestudiolaw01_unit.f (wrap64 (a0_0 + (wrap64 ((wrap64 (Int.tdiv a1 2)) * 2))))).bind fun t177 => (if t177 = true then ((dancestudiolaw01_unit.f (wrap64 (a0_1 + (wrap64 ((wrap64 (Int.tdiv a1 2)) * 2))))).bind fun t178 => (dancestudiolaw01_NumShift.j1 kj3 (wrap64 ((wrap64 (Int.tdiv a1 2)) * 2)) t171 (!t178) a0_0 a0_1 a0_2 a0_3)) else (dancestudiolaw01_NumShift.j1 kj3 (wrap64 ((wrap64 (Int.tdiv a1 2)) * 2)) t171 true a0_0 a0_1 a0_2 a0_3))) = some r := by rw [if_neg (show ¬ (false = true) by decide)] at H; exact H
        clear H
        have H := H1
        clear H1
        have HC18 := Aside0.mk H
        clear H
        go_upto_region 5 with (fail)
        go_cut [55] (fun v55 wc => ∃ (kq : Nat) (x55_17 : Bool), v55 = .bool x55_17 ∧ Aside0 (dancestudiolaw01_NumShift.j1 kq (wrap64 ((wrap64 (Int.tdiv a1 2)) * 2)) t171 x55_17 a0_0 a0_1 a0_2 a0_3 = some r) ∧ Aside0 (kq ≤ kj3) ∧ Aside0 (wc.heap[gb170]? = some (.cells #[.int .i64 a0_0, .int .i64 a0_1, .int .i64 a0_2, .int .i64 a0_3] 23 (0, 0))) ∧ Aside0 (Below w.heap.size w wc))
        case first =>
          have H := HC18.out
          clear HC18
          replace H := Option.bind_eq_some_iff.mp H
          obtain ⟨t177, A190, H⟩ := H
          replace H : (if t177 = true then ((dancestudiolaw01_unit.f (wrap64 (a0_1 + (wrap64 ((wrap64 (Int.tdiv a1 2)) * 2))))).bind fun t178 => (dancestudiolaw01_NumShift.j1 kj3 (wrap64 ((wrap64 (Int.tdiv a1 2)) * 2)) t171 (!t178) a0_0 a0_1 a0_2 a0_3)) else (dancestudiolaw01_NumShift.j1 kj3 (wrap64 ((wrap64 (Int.tdiv a1 2)) * 2)) t171 true a0_0 a0_1 a0_2 a0_3)) = some r := H
          have A19 := Aside0.mk A190
          clear A190
          by_cases c20 : t177 = true
          · subst c20
            have H1 : ((dancestudiolaw01_unit.f (wrap64 (a0_1 + (wrap64 ((wrap64 (Int.tdiv a1 2)) * 2))))).bind fun t178 => (dancestudiolaw01_NumShift.j1 kj3 (wrap64 ((wrap64 (Int.tdiv a1 2)) * 2)) t171 (!t178) a0_0 a0_1 a0_2 a0_3)) = some r := by rw [if_pos rfl] at H; exact H
            clear H
            have H := H1
            clear H1
            replace H := Option.bind_eq_some_iff.mp H
            obtain ⟨t178, A210, H⟩ := H
            replace H : (dancestudiolaw01_NumShift.j1 kj3 (wrap64 ((wrap64 (Int.tdiv a1 2)) * 2)) t171 (!t178) a0_0 a0_1 a0_2 a0_3) = some r := H
            have A21 := Aside0.mk A210
            clear A210
            have H' := Aside0.mk H
            clear H
            have hcz22_0 : wc.cell? ⟨gb170, 0, none⟩ = some (.int .i64 a0_0) := (blk_cell BK170.out 0).trans rfl
            have hcz22_1 : wc.cell? ⟨gb170, 1, none⟩ = some (.int .i64 a0_1) := (blk_cell BK170.out 1).trans rfl
            have hcz22_2 : wc.cell? ⟨gb170, 2, none⟩ = some (.int .i64 a0_2) := (blk_cell BK170.out 2).trans rfl
            have hcz22_3 : wc.cell? ⟨gb170, 3, none⟩ = some (.int .i64 a0_3) := (blk_cell BK170.out 3).trans rfl
            have hfz22_0 := blk_frozen BK170.out 0
            have hfz22_1 := blk_frozen BK170.out 1
            have hfz22_2 := blk_frozen BK170.out 2
            have hfz22_3 := blk_frozen BK170.out 3
            go_wp2_with (first | ((with_reducible refine gate_callee (f := 15) rfl ?_); refine goesL_ (some 46) rfl rfl Try.func15 (by kernel_rfl) rfl #[.int .i64 (wrap64 (a0_0 + (wrap64 ((wrap64 (Int.tdiv a1 2)) * 2))))] rfl (by (try simp only [List.map_toArray, List.map_cons, List.map_nil]); first | done | rfl | (simp only [List.length_drop, List.length_take]; rfl)) ?_; (with_reducible refine (dancestudiolaw01_unit.calls (wrap64 (a0_0 + (wrap64 ((wrap64 (Int.tdiv a1 2)) * 2)))) true _ A19.out).mono ?_); rintro e w' ⟨rfl, ⟨nd, rfl⟩⟩; refine ⟨_, rfl, ?_⟩) | (go_at_call 15; (with_reducible refine (dancestudiolaw01_unit.calls (wrap64 (a0_1 + (wrap64 ((wrap64 (Int.tdiv a1 2)) * 2)))) t178 _ A21.out).mono ?_); rintro e w' ⟨rfl, ⟨nd, rfl⟩⟩))
            go_meet
            case rel => exact ⟨_, (!t178), (by first | rfl | (simp; done) | (simp [*]; done)), H', ⟨by have := HJ3.out; first | omega | exact Nat.le_refl _⟩, ⟨by (with_reducible repeat (first | refine blk_drewN ?_ _ | refine blk_drew ?_ | refine blk_alloc ?_ _)); exact BK170.out⟩, ⟨by repeat (first | (with_reducible first | exact HB.out | apply below_alloc | apply pw_below_drewN | apply below_drew1 | refine below_set ?_ GE170.out) | exact HB.out)⟩⟩
          · replace c20 := Bool.eq_false_iff.mpr c20
            subst c20
            have H1 : (dancestudiolaw01_NumShift.j1 kj3 (wrap64 ((wrap64 (Int.tdiv a1 2)) * 2)) t171 true a0_0 a0_1 a0_2 a0_3) = some r := by rw [if_neg (show ¬ (false = true) by decide)] at H; exact H
            clear H
            have H := H1
            clear H1
            have H' := Aside0.mk H
            clear H
            have hcz23_0 : wc.cell? ⟨gb170, 0, none⟩ = some (.int .i64 a0_0) := (blk_cell BK170.out 0).trans rfl
            have hcz23_1 : wc.cell? ⟨gb170, 1, none⟩ = some (.int .i64 a0_1) := (blk_cell BK170.out 1).trans rfl
            have hcz23_2 : wc.cell? ⟨gb170, 2, none⟩ = some (.int .i64 a0_2) := (blk_cell BK170.out 2).trans rfl
            have hcz23_3 : wc.cell? ⟨gb170, 3, none⟩ = some (.int .i64 a0_3) := (blk_cell BK170.out 3).trans rfl
            have hfz23_0 := blk_frozen BK170.out 0
            have hfz23_1 := blk_frozen BK170.out 1
            have hfz23_2 := blk_frozen BK170.out 2
            have hfz23_3 := blk_frozen BK170.out 3
            go_wp2_with (first | ((with_reducible refine gate_callee (f := 15) rfl ?_); refine goesL_ (some 46) rfl rfl Try.func15 (by kernel_rfl) rfl #[.int .i64 (wrap64 (a0_0 + (wrap64 ((wrap64 (Int.tdiv a1 2)) * 2))))] rfl (by (try simp only [List.map_toArray, List.map_cons, List.map_nil]); first | done | rfl | (simp only [List.length_drop, List.length_take]; rfl)) ?_; (with_reducible refine (dancestudiolaw01_unit.calls (wrap64 (a0_0 + (wrap64 ((wrap64 (Int.tdiv a1 2)) * 2)))) false _ A19.out).mono ?_); rintro e w' ⟨rfl, ⟨nd, rfl⟩⟩; refine ⟨_, rfl, ?_⟩))
            go_meet
            case rel => exact ⟨_, (true), (by first | rfl | (simp; done) | (simp [*]; done)), H', ⟨by have := HJ3.out; first | omega | exact Nat.le_refl _⟩, ⟨by (with_reducible repeat (first | refine blk_drewN ?_ _ | refine blk_drew ?_ | refine blk_alloc ?_ _)); exact BK170.out⟩, ⟨by repeat (first | (with_reducible first | exact HB.out | apply below_alloc | apply pw_below_drewN | apply below_drew1 | refine below_set ?_ GE170.out) | exact HB.out)⟩⟩
        case rest =>
          clear HC18
          try clear c1
          try clear c2
          try clear p2
          try clear c5
          try clear p6
          try clear c7
          try clear c7b0
          try clear c7b1
          try clear c9
          try clear c11
          try clear c12
          try clear c14
          try clear c15
          try clear c20
          try clear hcz13_0
          try clear hcz13_1
          try clear hcz13_2
          try clear hcz13_3
          try clear hcz14_0
          try clear hcz14_1
          try clear hcz14_2
          try clear hcz14_3
          try clear hcz22_0
          try clear hcz22_1
          try clear hcz22_2
          try clear hcz22_3
          try clear hcz23_0
          try clear hcz23_1
          try clear hcz23_2
          try clear hcz23_3
          try clear hcz6_0
          try clear hcz6_1
          try clear hcz6_2
          try clear hcz6_3
          try clear hfz13_0
          try clear hfz13_1
          try clear hfz13_2
          try clear hfz13_3
          try clear hfz14_0
          try clear hfz14_1
          try clear hfz14_2
          try clear hfz14_3
          try clear hfz22_0
          try clear hfz22_1
          try clear hfz22_2
          try clear hfz22_3
          try clear hfz23_0
          try clear hfz23_1
          try clear hfz23_2
          try clear hfz23_3
          try clear hfz6_0
          try clear hfz6_1
          try clear hfz6_2
          try clear hfz6_3
          try clear p2
          obtain ⟨kq, x55_17, rfl, HA, HJ17, BK170, HB⟩ := hcut
          cases kq with
          | zero => exact absurd HA.out (by simp [dancestudiolaw01_NumShift.j1])
          | succ kj17 =>
            have H := HA.out
            clear HA
            simp only [dancestudiolaw01_NumShift.j1] at H
            by_cases c24 : x55_17 = true
            · subst c24
              have H1 : ((dancestudiolaw01_awake.f kj17).bind fun t179 => (some t179)) = some r := by rw [if_pos rfl] at H; exact H
              clear H
              have H := H1
              clear H1
              replace H := Option.bind_eq_some_iff.mp H
              obtain ⟨t179, A250, H⟩ := H
              replace H : (some t179) = some r := H
              have A25 := Aside0.mk A250
              clear A250
              obtain rfl := Option.some.inj H
              go_wp2_with (first | ((with_reducible refine gate_callee (f := 14) rfl ?_); refine goesL_ (some 56) rfl rfl Try.func14 (by kernel_rfl) rfl #[] rfl (by (try simp only [List.map_toArray, List.map_cons, List.map_nil]); first | done | rfl | (simp only [List.length_drop, List.length_take]; rfl)) ?_; (with_reducible refine (dancestudiolaw01_awake.calls kj17  t179 _ A25.out).mono ?_); rintro e w26 ⟨rfl, hb⟩; refine ⟨_, rfl, ?_⟩; have n0_ := Aside0.mk (blk_below (g := gb170) (o := .cells #[.int .i64 a0_0, .int .i64 a0_1, .int .i64 a0_2, .int .i64 a0_3] 23 (0, 0)) (by (with_reducible repeat (first | refine blk_drewN ?_ _ | refine blk_drew ?_ | refine blk_alloc ?_ _)); exact BK170.out) hb); have n1_ := Aside0.mk (below_step (by repeat (first | (with_reducible first | exact HB.out | apply below_alloc | apply pw_below_drewN | apply below_drew1 | refine below_set ?_ GE170.out) | exact HB.out)) hb); clear BK170; clear HB; have BK170 := n0_; have HB := n1_; clear n0_ n1_; (try clear hb); (try clear hb2); (try clear hk); (try clear hi)))
              go_ret
              exact ⟨by first | rfl | (simp [errW_none, errW_some] <;> rfl) | (simp [*, errW_none, errW_some] <;> rfl), by repeat (first | (with_reducible first | exact HB.out | apply below_alloc | apply pw_below_drewN | apply below_drew1 | refine below_set ?_ GE170.out) | exact HB.out)⟩
            · replace c24 := Bool.eq_false_iff.mpr c24
              subst c24
              have H1 : ((dancestudiolaw01_lerps.f (wrap64 (t171 + (wrap64 ((wrap64 (Int.tdiv a1 2)) * 2)))) (wrap64 (a0_0 + (wrap64 ((wrap64 (Int.tdiv a1 2)) * 2)))) (wrap64 (a0_1 + (wrap64 ((wrap64 (Int.tdiv a1 2)) * 2)))) a0_2 a0_3).bind fun t180 => (if t180 = true then ((dancestudiolaw01_awake.f kj17).bind fun t181 => (some t181)) else (some false))) = some r := by rw [if_neg (show ¬ (false = true) by decide)] at H; exact H
              clear H
              have H := H1
              clear H1
              replace H := Option.bind_eq_some_iff.mp H
              obtain ⟨t180, A270, H⟩ := H
              replace H : (if t180 = true then ((dancestudiolaw01_awake.f kj17).bind fun t181 => (some t181)) else (some false)) = some r := H
              have A27 := Aside0.mk A270
              clear A270
              by_cases c28 : t180 = true
              · subst c28
                have H1 : ((dancestudiolaw01_awake.f kj17).bind fun t181 => (some t181)) = some r := by rw [if_pos rfl] at H; exact H
                clear H
                have H := H1
                clear H1
                replace H := Option.bind_eq_some_iff.mp H
                obtain ⟨t181, A290, H⟩ := H
                replace H : (some t181) = some r := H
                have A29 := Aside0.mk A290
                clear A290
                obtain rfl := Option.some.inj H
                have hcz30_0 : wc.cell? ⟨gb170, 0, none⟩ = some (.int .i64 a0_0) := (blk_cell BK170.out 0).trans rfl
                have hcz30_1 : wc.cell? ⟨gb170, 1, none⟩ = some (.int .i64 a0_1) := (blk_cell BK170.out 1).trans rfl
                have hcz30_2 : wc.cell? ⟨gb170, 2, none⟩ = some (.int .i64 a0_2) := (blk_cell BK170.out 2).trans rfl
                have hcz30_3 : wc.cell? ⟨gb170, 3, none⟩ = some (.int .i64 a0_3) := (blk_cell BK170.out 3).trans rfl
                have hfz30_0 := blk_frozen BK170.out 0
                have hfz30_1 := blk_frozen BK170.out 1
                have hfz30_2 := blk_frozen BK170.out 2
                have hfz30_3 := blk_frozen BK170.out 3
                go_wp2_with (first | ((with_reducible refine gate_callee (f := 16) rfl ?_); refine goesL_ (some 72) rfl rfl Try.func16 (by kernel_rfl) rfl #[.int .i64 (wrap64 (t171 + (wrap64 ((wrap64 (Int.tdiv a1 2)) * 2)))), .int .i64 (wrap64 (a0_0 + (wrap64 ((wrap64 (Int.tdiv a1 2)) * 2)))), .int .i64 (wrap64 (a0_1 + (wrap64 ((wrap64 (Int.tdiv a1 2)) * 2)))), .int .i64 a0_2, .int .i64 a0_3] rfl (by (try simp only [List.map_toArray, List.map_cons, List.map_nil]); first | done | rfl | (simp only [List.length_drop, List.length_take]; rfl)) ?_; (with_reducible refine (dancestudiolaw01_lerps.calls (wrap64 (t171 + (wrap64 ((wrap64 (Int.tdiv a1 2)) * 2)))) (wrap64 (a0_0 + (wrap64 ((wrap64 (Int.tdiv a1 2)) * 2)))) (wrap64 (a0_1 + (wrap64 ((wrap64 (Int.tdiv a1 2)) * 2)))) a0_2 a0_3 true _ A27.out).mono ?_); rintro e w' ⟨rfl, ⟨nd, rfl⟩⟩; refine ⟨_, rfl, ?_⟩) | (go_at_call 14; (with_reducible refine (dancestudiolaw01_awake.calls kj17  t181 _ A29.out).mono ?_); rintro e w31 ⟨rfl, hb⟩; have n0_ := Aside0.mk (blk_below (g := gb170) (o := .cells #[.int .i64 a0_0, .int .i64 a0_1, .int .i64 a0_2, .int .i64 a0_3] 23 (0, 0)) (by (with_reducible repeat (first | refine blk_drewN ?_ _ | refine blk_drew ?_ | refine blk_alloc ?_ _)); exact BK170.out) hb); have n1_ := Aside0.mk (below_step (by repeat (first | (with_reducible first | exact HB.out | apply below_alloc | apply pw_below_drewN | apply below_drew1 | refine below_set ?_ GE170.out) | exact HB.out)) hb); clear BK170; clear HB; have BK170 := n0_; have HB := n1_; clear n0_ n1_; (try clear hb); (try clear hb2); (try clear hk); (try clear hi)))
                go_ret
                exact ⟨by first | rfl | (simp [errW_none, errW_some] <;> rfl) | (simp [*, errW_none, errW_some] <;> rfl), by repeat (first | (with_reducible first | exact HB.out | apply below_alloc | apply pw_below_drewN | apply below_drew1 | refine below_set ?_ GE170.out) | exact HB.out)⟩
              · replace c28 := Bool.eq_false_iff.mpr c28
                subst c28
                have H1 : (some false) = some r := by rw [if_neg (show ¬ (false = true) by decide)] at H; exact H
                clear H
                have H := H1
                clear H1
                obtain rfl := Option.some.inj H
                have hcz32_0 : wc.cell? ⟨gb170, 0, none⟩ = some (.int .i64 a0_0) := (blk_cell BK170.out 0).trans rfl
                have hcz32_1 : wc.cell? ⟨gb170, 1, none⟩ = some (.int .i64 a0_1) := (blk_cell BK170.out 1).trans rfl
                have hcz32_2 : wc.cell? ⟨gb170, 2, none⟩ = some (.int .i64 a0_2) := (blk_cell BK170.out 2).trans rfl
                have hcz32_3 : wc.cell? ⟨gb170, 3, none⟩ = some (.int .i64 a0_3) := (blk_cell BK170.out 3).trans rfl
                have hfz32_0 := blk_frozen BK170.out 0
                have hfz32_1 := blk_frozen BK170.out 1
                have hfz32_2 := blk_frozen BK170.out 2
                have hfz32_3 := blk_frozen BK170.out 3
                go_wp2_with (first | ((with_reducible refine gate_callee (f := 16) rfl ?_); refine goesL_ (some 72) rfl rfl Try.func16 (by kernel_rfl) rfl #[.int .i64 (wrap64 (t171 + (wrap64 ((wrap64 (Int.tdiv a1 2)) * 2)))), .int .i64 (wrap64 (a0_0 + (wrap64 ((wrap64 (Int.tdiv a1 2)) * 2)))), .int .i64 (wrap64 (a0_1 + (wrap64 ((wrap64 (Int.tdiv a1 2)) * 2)))), .int .i64 a0_2, .int .i64 a0_3] rfl (by (try simp only [List.map_toArray, List.map_cons, List.map_nil]); first | done | rfl | (simp only [List.length_drop, List.length_take]; rfl)) ?_; (with_reducible refine (dancestudiolaw01_lerps.calls (wrap64 (t171 + (wrap64 ((wrap64 (Int.tdiv a1 2)) * 2)))) (wrap64 (a0_0 + (wrap64 ((wrap64 (Int.tdiv a1 2)) * 2)))) (wrap64 (a0_1 + (wrap64 ((wrap64 (Int.tdiv a1 2)) * 2)))) a0_2 a0_3 false _ A27.out).mono ?_); rintro e w' ⟨rfl, ⟨nd, rfl⟩⟩; refine ⟨_, rfl, ?_⟩))
                go_ret
                exact ⟨by first | rfl | (simp [errW_none, errW_some] <;> rfl) | (simp [*, errW_none, errW_some] <;> rfl), by repeat (first | (with_reducible first | exact HB.out | apply below_alloc | apply pw_below_drewN | apply below_drew1 | refine below_set ?_ GE170.out) | exact HB.out)⟩

end Go.Proofs.Ytodjapnmobekjaa.PNumShift
