-- PRINTED BY print.sh 35421559b90ae4d0a3588c463048766b98c2df88dd9212a6774a882060cdf62d: not written by this session
import Derived.Test.YtodjapnmobekjaaPNumNearestx0
import Derived.Test.YtodjapnmobekjaaPNumNearestx1
import Derived.Test.YtodjapnmobekjaaPNumNearestx3
namespace Go.Proofs.Ytodjapnmobekjaa.PNumNearest
open Go.RowKit Go.Proofs.YtodjapnmobekjaaW.PrintWords Go.Proofs.YtodjapnmobekjaaW.PrintLast Go.Proofs.YtodjapnmobekjaaW.PrintMore
attribute [local go_sem] max2_int min2_int max_two min_two max_three min_three max_four min_four   -- for this text's walks alone
set_option linter.unusedVariables false
set_option linter.unusedSimpArgs false

/-! ### dancestudiolaw01_NumNearest: function 7 -/
mutual
def dancestudiolaw01_NumNearest.j0 : Nat → Int → Int → Int → Int → Bool → Option (Bool)
  | 0, _, _, _, _, _ => none
  | k + 1, x0, x1, x5, x6, x32 => if x32 = true then (if x5 = 0 then (if x6 = 1 then ((dancestudiolaw01_awake.f k).bind fun t172 => (some t172)) else (some false)) else (some false)) else (if x1 = 0 then (if x5 = 0 then (if x6 = 11 then ((dancestudiolaw01_awake.f k).bind fun t173 => (some t173)) else (some false)) else (some false)) else (if x6 = 0 then ((dancestudiolaw01_rounds.f k (wrap64 (-x5)) (wrap64 (-x0)) x1).bind fun t174 => (if t174 = true then ((dancestudiolaw01_rounds.f k (wrap64 (-x5)) x0 (wrap64 (-x1))).bind fun t175 => (dancestudiolaw01_NumNearest.j1 k x0 x1 x5 (!t175))) else (dancestudiolaw01_NumNearest.j1 k x0 x1 x5 true))) else (dancestudiolaw01_NumNearest.j1 k x0 x1 x5 true)))
def dancestudiolaw01_NumNearest.j1 : Nat → Int → Int → Int → Bool → Option (Bool)
  | 0, _, _, _, _ => none
  | k + 1, x0, x1, x5, x72 => if x72 = true then (some false) else (if (mx x1 (wrap64 (-x1))) = 0 then (none) else (if x5 < (wrap64 ((wrap64 (Int.tdiv (wrap64 (-(mx x0 (wrap64 (-x0))))) (mx x1 (wrap64 (-x1))))) - 1)) then (dancestudiolaw01_NumNearest.j2 k x0 x1 x5 (mx x1 (wrap64 (-x1))) (mx x0 (wrap64 (-x0))) true) else (dancestudiolaw01_NumNearest.j2 k x0 x1 x5 (mx x1 (wrap64 (-x1))) (mx x0 (wrap64 (-x0))) (decide (x5 > (wrap64 ((wrap64 (Int.tdiv (mx x0 (wrap64 (-x0))) (mx x1 (wrap64 (-x1))))) + 1)))))))
def dancestudiolaw01_NumNearest.j2 : Nat → Int → Int → Int → Int → Int → Bool → Option (Bool)
  | 0, _, _, _, _, _, _ => none
  | k + 1, x0, x1, x5, x7, x8, x95 => if x95 = true then (some false) else (if (wrap64 (2 * (wrap64 (x0 - (wrap64 (x5 * x1)))))) > x7 then (dancestudiolaw01_NumNearest.j3 k x0 x7 x8 true) else (if (wrap64 (2 * (wrap64 (x0 - (wrap64 (x5 * x1)))))) < (wrap64 (-x7)) then (dancestudiolaw01_NumNearest.j3 k x0 x7 x8 true) else (if (wrap64 (2 * (wrap64 (x0 - (wrap64 (x5 * x1)))))) = x7 then (dancestudiolaw01_NumNearest.j3 k x0 x7 x8 ((Int.tmod x5 2) != 0)) else (if (wrap64 (2 * (wrap64 (x0 - (wrap64 (x5 * x1)))))) = (wrap64 (-x7)) then (dancestudiolaw01_NumNearest.j3 k x0 x7 x8 ((Int.tmod x5 2) != 0)) else (dancestudiolaw01_NumNearest.j3 k x0 x7 x8 false)))))
def dancestudiolaw01_NumNearest.j3 : Nat → Int → Int → Int → Bool → Option (Bool)
  | 0, _, _, _, _ => none
  | k + 1, x0, x7, x8, x126 => if x126 = true then (some false) else ((num_Floor.f k x0 x7).bind fun bt176 => (if bt176.2.2 = 0 then (if bt176.2.1 ≥ 0 then (if bt176.2.1 < x7 then (if x7 = 0 then (none) else (if bt176.1 ≥ (wrap64 ((wrap64 (Int.tdiv (wrap64 (-x8)) x7)) - 1)) then (if bt176.1 ≤ (wrap64 (Int.tdiv x8 x7)) then (if (wrap64 ((wrap64 (bt176.1 * x7)) + bt176.2.1)) = x0 then ((dancestudiolaw01_awake.f k).bind fun t179 => (some t179)) else (some false)) else (some false)) else (some false))) else (some false)) else (some false)) else (some false)))
end
def dancestudiolaw01_NumNearest.f (k : Nat) (a0 : Int) (a1 : Int) : Option (Bool) := (num_Round.f k a0 a1).bind fun bt170 => (if a0 < (-1125899906842624) then (dancestudiolaw01_NumNearest.j0 k a0 a1 bt170.1 bt170.2 true) else (if a0 > 1125899906842624 then (dancestudiolaw01_NumNearest.j0 k a0 a1 bt170.1 bt170.2 true) else (if a1 < (-1125899906842624) then (dancestudiolaw01_NumNearest.j0 k a0 a1 bt170.1 bt170.2 true) else (dancestudiolaw01_NumNearest.j0 k a0 a1 bt170.1 bt170.2 (decide (a1 > 1125899906842624))))))
theorem dancestudiolaw01_NumNearest.mono_l : ∀ k, (∀ y0 y1 y2 y3 y4, LeO (dancestudiolaw01_NumNearest.j0 k y0 y1 y2 y3 y4) (dancestudiolaw01_NumNearest.j0 (k + 1) y0 y1 y2 y3 y4)) ∧ (∀ y0 y1 y2 y3, LeO (dancestudiolaw01_NumNearest.j1 k y0 y1 y2 y3) (dancestudiolaw01_NumNearest.j1 (k + 1) y0 y1 y2 y3)) ∧ (∀ y0 y1 y2 y3 y4 y5, LeO (dancestudiolaw01_NumNearest.j2 k y0 y1 y2 y3 y4 y5) (dancestudiolaw01_NumNearest.j2 (k + 1) y0 y1 y2 y3 y4 y5)) ∧ (∀ y0 y1 y2 y3, LeO (dancestudiolaw01_NumNearest.j3 k y0 y1 y2 y3) (dancestudiolaw01_NumNearest.j3 (k + 1) y0 y1 y2 y3))
  | 0 => ⟨fun _ _ _ _ _ r h => by simp [dancestudiolaw01_NumNearest.j0] at h, fun _ _ _ _ r h => by simp [dancestudiolaw01_NumNearest.j1] at h, fun _ _ _ _ _ _ r h => by simp [dancestudiolaw01_NumNearest.j2] at h, fun _ _ _ _ r h => by simp [dancestudiolaw01_NumNearest.j3] at h⟩
  | k + 1 => by
    obtain ⟨ih0, ih1, ih2, ih3⟩ := dancestudiolaw01_NumNearest.mono_l k
    refine ⟨?_, ?_, ?_, ?_⟩
    · intro y0 y1 y2 y3 y4
      unfold dancestudiolaw01_NumNearest.j0
      repeat' first
      | (with_reducible exact ih0 _ _ _ _ _)
      | (with_reducible exact ih1 _ _ _ _)
      | (with_reducible exact ih2 _ _ _ _ _ _)
      | (with_reducible exact ih3 _ _ _ _)
      | (with_reducible exact dancestudiolaw01_awake.mono _)
      | (with_reducible exact dancestudiolaw01_rounds.mono _ _ _ _)
      | (with_reducible exact num_Floor.mono _ _ _)
      | (with_reducible exact num_Round.mono _ _ _)
      | (with_reducible exact LeO.refl _)
      | (with_reducible exact LeO.none _)
      | (with_reducible refine LeO.ite ?_ ?_)
      | (with_reducible refine LeO.bind ?_ (fun _ => ?_))
      | exact ih0 _ _ _ _ _
      | exact ih1 _ _ _ _
      | exact ih2 _ _ _ _ _ _
      | exact ih3 _ _ _ _
      | exact dancestudiolaw01_awake.mono _
      | exact dancestudiolaw01_rounds.mono _ _ _ _
      | exact num_Floor.mono _ _ _
      | exact num_Round.mono _ _ _
      | exact LeO.none _
      | refine LeO.ite ?_ ?_
      | refine LeO.bind ?_ (fun _ => ?_)
    · intro y0 y1 y2 y3
      unfold dancestudiolaw01_NumNearest.j1
      repeat' first
      | (with_reducible exact ih0 _ _ _ _ _)
      | (with_reducible exact ih1 _ _ _ _)
      | (with_reducible exact ih2 _ _ _ _ _ _)
      | (with_reducible exact ih3 _ _ _ _)
      | (with_reducible exact dancestudiolaw01_awake.mono _)
      | (with_reducible exact dancestudiolaw01_rounds.mono _ _ _ _)
      | (with_reducible exact num_Floor.mono _ _ _)
      | (with_reducible exact num_Round.mono _ _ _)
      | (with_reducible exact LeO.refl _)
      | (with_reducible exact LeO.none _)
      | (with_reducible refine LeO.ite ?_ ?_)
      | (with_reducible refine LeO.bind ?_ (fun _ => ?_))
      | exact ih0 _ _ _ _ _
      | exact ih1 _ _ _ _
      | exact ih2 _ _ _ _ _ _
      | exact ih3 _ _ _ _
      | exact dancestudiolaw01_awake.mono _
      | exact dancestudiolaw01_rounds.mono _ _ _ _
      | exact num_Floor.mono _ _ _
      | exact num_Round.mono _ _ _
      | exact LeO.none _
      | refine LeO.ite ?_ ?_
      | refine LeO.bind ?_ (fun _ => ?_)
    · intro y0 y1 y2 y3 y4 y5
      unfold dancestudiolaw01_NumNearest.j2
      repeat' first
      | (with_reducible exact ih0 _ _ _ _ _)
      | (with_reducible exact ih1 _ _ _ _)
      | (with_reducible exact ih2 _ _ _ _ _ _)
      | (with_reducible exact ih3 _ _ _ _)
      | (with_reducible exact dancestudiolaw01_awake.mono _)
      | (with_reducible exact dancestudiolaw01_rounds.mono _ _ _ _)
      | (with_reducible exact num_Floor.mono _ _ _)
      | (with_reducible exact num_Round.mono _ _ _)
      | (with_reducible exact LeO.refl _)
      | (with_reducible exact LeO.none _)
      | (with_reducible refine LeO.ite ?_ ?_)
      | (with_reducible refine LeO.bind ?_ (fun _ => ?_))
      | exact ih0 _ _ _ _ _
      | exact ih1 _ _ _ _
      | exact ih2 _ _ _ _ _ _
      | exact ih3 _ _ _ _
      | exact dancestudiolaw01_awake.mono _
      | exact dancestudiolaw01_rounds.mono _ _ _ _
      | exact num_Floor.mono _ _ _
      | exact num_Round.mono _ _ _
      | exact LeO.none _
      | refine LeO.ite ?_ ?_
      | refine LeO.bind ?_ (fun _ => ?_)
    · intro y0 y1 y2 y3
      unfold dancestudiolaw01_NumNearest.j3
      repeat' first
      | (with_reducible exact ih0 _ _ _ _ _)
      | (with_reducible exact ih1 _ _ _ _)
      | (with_reducible exact ih2 _ _ _ _ _ _)
      | (with_reducible exact ih3 _ _ _ _)
      | (with_reducible exact dancestudiolaw01_awake.mono _)
      | (with_reducible exact dancestudiolaw01_rounds.mono _ _ _ _)
      | (with_reducible exact num_Floor.mono _ _ _)
      | (with_reducible exact num_Round.mono _ _ _)
      | (with_reducible exact LeO.refl _)
      | (with_reducible exact LeO.none _)
      | (with_reducible refine LeO.ite ?_ ?_)
      | (with_reducible refine LeO.bind ?_ (fun _ => ?_))
      | exact ih0 _ _ _ _ _
      | exact ih1 _ _ _ _
      | exact ih2 _ _ _ _ _ _
      | exact ih3 _ _ _ _
      | exact dancestudiolaw01_awake.mono _
      | exact dancestudiolaw01_rounds.mono _ _ _ _
      | exact num_Floor.mono _ _ _
      | exact num_Round.mono _ _ _
      | exact LeO.none _
      | refine LeO.ite ?_ ?_
      | refine LeO.bind ?_ (fun _ => ?_)
theorem dancestudiolaw01_NumNearest.mono : ∀ a0 a1 k, LeO (dancestudiolaw01_NumNearest.f k a0 a1) (dancestudiolaw01_NumNearest.f (k + 1) a0 a1) := by
  intro a0 a1 k
  obtain ⟨ih0, ih1, ih2, ih3⟩ := dancestudiolaw01_NumNearest.mono_l k
  unfold dancestudiolaw01_NumNearest.f
  repeat' first
      | (with_reducible exact ih0 _ _ _ _ _)
      | (with_reducible exact ih1 _ _ _ _)
      | (with_reducible exact ih2 _ _ _ _ _ _)
      | (with_reducible exact ih3 _ _ _ _)
      | (with_reducible exact dancestudiolaw01_awake.mono _)
      | (with_reducible exact dancestudiolaw01_rounds.mono _ _ _ _)
      | (with_reducible exact num_Floor.mono _ _ _)
      | (with_reducible exact num_Round.mono _ _ _)
      | (with_reducible exact LeO.refl _)
      | (with_reducible exact LeO.none _)
      | (with_reducible refine LeO.ite ?_ ?_)
      | (with_reducible refine LeO.bind ?_ (fun _ => ?_))
      | exact ih0 _ _ _ _ _
      | exact ih1 _ _ _ _
      | exact ih2 _ _ _ _ _ _
      | exact ih3 _ _ _ _
      | exact dancestudiolaw01_awake.mono _
      | exact dancestudiolaw01_rounds.mono _ _ _ _
      | exact num_Floor.mono _ _ _
      | exact num_Round.mono _ _ _
      | exact LeO.none _
      | refine LeO.ite ?_ ?_
      | refine LeO.bind ?_ (fun _ => ?_)
set_option maxHeartbeats 8000000 in
set_option maxRecDepth 100000 in
theorem dancestudiolaw01_NumNearest.calls (k : Nat) (a0 : Int) (a1 : Int) (r : Bool) (w : World) (h : dancestudiolaw01_NumNearest.f k a0 a1 = some r) :
    Calls Try.prog 7 #[.int .i64 a0, .int .i64 a1] w fun e w' => e = .returned (.bool r) ∧ Below w.heap.size w w' := by
  have HB := Aside0.mk (Below.refl w.heap.size w)
  have H : ((num_Round.f k a0 a1).bind fun bt170 => (if a0 < (-1125899906842624) then (dancestudiolaw01_NumNearest.j0 k a0 a1 bt170.1 bt170.2 true) else (if a0 > 1125899906842624 then (dancestudiolaw01_NumNearest.j0 k a0 a1 bt170.1 bt170.2 true) else (if a1 < (-1125899906842624) then (dancestudiolaw01_NumNearest.j0 k a0 a1 bt170.1 bt170.2 true) else (dancestudiolaw01_NumNearest.j0 k a0 a1 bt170.1 bt170.2 (decide (a1 > 1125899906842624))))))) = some r := h
  clear h
  replace H := Option.bind_eq_some_iff.mp H
  obtain ⟨⟨t170, t171⟩, A30, H⟩ := H
  replace H : (if a0 < (-1125899906842624) then (dancestudiolaw01_NumNearest.j0 k a0 a1 t170 t171 true) else (if a0 > 1125899906842624 then (dancestudiolaw01_NumNearest.j0 k a0 a1 t170 t171 true) else (if a1 < (-1125899906842624) then (dancestudiolaw01_NumNearest.j0 k a0 a1 t170 t171 true) else (dancestudiolaw01_NumNearest.j0 k a0 a1 t170 t171 (decide (a1 > 1125899906842624)))))) = some r := H
  have A3 := Aside0.mk A30
  clear A30
  have HC4 := Aside0.mk H
  clear H
  go_enter Try.func7, Try.ntmps7
  go_upto_region 2 with (first | ((with_reducible refine gate_callee (f := 17) rfl ?_); refine goesL_ (some 16) rfl rfl Try.func17 (by kernel_rfl) rfl #[.int .i64 a0, .int .i64 a1] rfl (by (try simp only [List.map_toArray, List.map_cons, List.map_nil]); first | done | rfl | (simp only [List.length_drop, List.length_take]; rfl)) ?_; (with_reducible refine (num_Round.calls k a0 a1 t170 t171 _ A3.out).mono ?_); rintro e w5 ⟨rfl, hb⟩; refine ⟨_, rfl, ?_⟩; have n0_ := Aside0.mk (below_step (by repeat (first | (with_reducible first | exact HB.out | apply below_alloc | apply pw_below_drewN | apply below_drew1) | exact HB.out)) hb); clear HB; have HB := n0_; clear n0_; (try clear hb); (try clear hb2); (try clear hk); (try clear hi)))
  (try simp only [Act.put, List.setIfInBounds_toArray, List.set_cons_zero, List.set_cons_succ])
  go_cut [32] (fun v32 wc => ∃ (kq : Nat) (x32_3 : Bool), v32 = .bool x32_3 ∧ Aside0 (dancestudiolaw01_NumNearest.j0 kq a0 a1 t170 t171 x32_3 = some r) ∧ Aside0 (kq ≤ k) ∧ Aside0 (Below w.heap.size w wc))
  case first =>
    have H := HC4.out
    clear HC4
    by_cases c6 : a0 < (-1125899906842624)
    · rw [if_pos c6] at H
      have c6b0 : decide (a0 < (-1125899906842624)) = true := decide_eq_true c6
      clear c6
      (first | rw [c6b0] | (simp only [i64_w, i32_w]; rw [c6b0]) | skip)
      have H' := Aside0.mk H
      clear H
      go_wp2
      go_meet
      case rel => exact ⟨_, (true), (by first | rfl | (simp; done) | (simp [*]; done)), H', ⟨by first | omega | exact Nat.le_refl _⟩, ⟨by repeat (first | (with_reducible first | exact HB.out | apply below_alloc | apply pw_below_drewN | apply below_drew1) | exact HB.out)⟩⟩
    · rw [if_neg c6] at H
      have c6b0 : decide (a0 < (-1125899906842624)) = false := decide_eq_false c6
      clear c6
      (first | rw [c6b0] | (simp only [i64_w, i32_w]; rw [c6b0]) | skip)
      by_cases c7 : a0 > 1125899906842624
      · rw [if_pos c7] at H
        have c7b0 : decide (1125899906842624 < a0) = true := decide_eq_true c7
        clear c7
        have H' := Aside0.mk H
        clear H
        go_wp2
        go_meet
        case rel => exact ⟨_, (true), (by first | rfl | (simp; done) | (simp [*]; done)), H', ⟨by first | omega | exact Nat.le_refl _⟩, ⟨by repeat (first | (with_reducible first | exact HB.out | apply below_alloc | apply pw_below_drewN | apply below_drew1) | exact HB.out)⟩⟩
      · rw [if_neg c7] at H
        have c7b0 : decide (1125899906842624 < a0) = false := decide_eq_false c7
        clear c7
        by_cases c8 : a1 < (-1125899906842624)
        · rw [if_pos c8] at H
          have c8b0 : decide (a1 < (-1125899906842624)) = true := decide_eq_true c8
          clear c8
          have H' := Aside0.mk H
          clear H
          go_wp2
          go_meet
          case rel => exact ⟨_, (true), (by first | rfl | (simp; done) | (simp [*]; done)), H', ⟨by first | omega | exact Nat.le_refl _⟩, ⟨by repeat (first | (with_reducible first | exact HB.out | apply below_alloc | apply pw_below_drewN | apply below_drew1) | exact HB.out)⟩⟩
        · rw [if_neg c8] at H
          have c8b0 : decide (a1 < (-1125899906842624)) = false := decide_eq_false c8
          clear c8
          have H' := Aside0.mk H
          clear H
          go_wp2
          go_meet
          case rel => exact ⟨_, (decide (a1 > 1125899906842624)), (by first | rfl | (simp; done) | (simp [*]; done)), H', ⟨by first | omega | exact Nat.le_refl _⟩, ⟨by repeat (first | (with_reducible first | exact HB.out | apply below_alloc | apply pw_below_drewN | apply below_drew1) | exact HB.out)⟩⟩
  case rest =>
    clear HC4
    try clear c1
    try clear p2
    try clear c6
    try clear c6b0
    try clear c7
    try clear c7b0
    try clear c8
    try clear c8b0
    obtain ⟨kq, x32_3, rfl, HA, HJ3, HB⟩ := hcut
    cases kq with
    | zero => exact absurd HA.out (by simp [dancestudiolaw01_NumNearest.j0])
    | succ kj3 =>
      have H := HA.out
      clear HA
      simp only [dancestudiolaw01_NumNearest.j0] at H
      by_cases c9 : x32_3 = true
      · subst c9
        have H1 : (if t170 = 0 then (if t171 = 1 then ((dancestudiolaw01_awake.f kj3).bind fun t172 => (some t172)) else (some false)) else (some false)) = some r := by rw [if_pos rfl] at H; exact H
        clear H
        have H := H1
        clear H1
        by_cases c10 : t170 = 0
        · rw [if_pos c10] at H
          have c10b0 : (t170 == 0) = true := beq_iff_eq.mpr c10
          have c10b1 : (t170 != 0) = false := bne_eq_false_iff_eq.mpr c10
          clear c10
          by_cases c11 : t171 = 1
          · rw [if_pos c11] at H
            have c11b0 : (t171 == 1) = true := beq_iff_eq.mpr c11
            have c11b1 : (t171 != 1) = false := bne_eq_false_iff_eq.mpr c11
            clear c11
            replace H := Option.bind_eq_some_iff.mp H
            obtain ⟨t172, A120, H⟩ := H
            replace H : (some t172) = some r := H
            have A12 := Aside0.mk A120
            clear A120
            obtain rfl := Option.some.inj H
            go_wp2_with (first | (go_at_call 14; (with_reducible refine (dancestudiolaw01_awake.calls kj3  t172 _ A12.out).mono ?_); rintro e w13 ⟨rfl, hb⟩; have n0_ := Aside0.mk (below_step (by repeat (first | (with_reducible first | exact HB.out | apply below_alloc | apply pw_below_drewN | apply below_drew1) | exact HB.out)) hb); clear HB; have HB := n0_; clear n0_; (try clear hb); (try clear hb2); (try clear hk); (try clear hi)))
            go_ret
            exact ⟨by first | rfl | (simp [errW_none, errW_some] <;> rfl) | (simp [*, errW_none, errW_some] <;> rfl), by repeat (first | (with_reducible first | exact HB.out | apply below_alloc | apply pw_below_drewN | apply below_drew1) | exact HB.out)⟩
          · rw [if_neg c11] at H
            have c11b0 : (t171 == 1) = false := beq_eq_false_iff_ne.mpr c11
            have c11b1 : (t171 != 1) = true := bne_iff_ne.mpr c11
            obtain rfl := Option.some.inj H
            go_wp2
            go_ret
            exact ⟨by first | rfl | (simp [errW_none, errW_some] <;> rfl) | (simp [*, errW_none, errW_some] <;> rfl), by repeat (first | (with_reducible first | exact HB.out | apply below_alloc | apply pw_below_drewN | apply below_drew1) | exact HB.out)⟩
        · rw [if_neg c10] at H
          have c10b0 : (t170 == 0) = false := beq_eq_false_iff_ne.mpr c10
          have c10b1 : (t170 != 0) = true := bne_iff_ne.mpr c10
          obtain rfl := Option.some.inj H
          go_wp2
          go_ret
          exact ⟨by first | rfl | (simp [errW_none, errW_some] <;> rfl) | (simp [*, errW_none, errW_some] <;> rfl), by repeat (first | (with_reducible first | exact HB.out | apply below_alloc | apply pw_below_drewN | apply below_drew1) | exact HB.out)⟩
      · replace c9 := Bool.eq_false_iff.mpr c9
        subst c9
        have H1 : (if a1 = 0 then (if t170 = 0 then (if t171 = 11 then ((dancestudiolaw01_awake.f kj3).bind fun t173 => (some t173)) else (some false)) else (some false)) else (if t171 = 0 then ((dancestudiolaw01_rounds.f kj3 (wrap64 (-t170)) (wrap64 (-a0)) a1).bind fun t174 => (if t174 = true then ((dancestudiolaw01_rounds.f kj3 (wrap64 (-t170)) a0 (wrap64 (-a1))).bind fun t175 => (dancestudiolaw01_NumNearest.j1 kj3 a0 a1 t170 (!t175))) else (dancestudiolaw01_NumNearest.j1 kj3 a0 a1 t170 true))) else (dancestudiolaw01_NumNearest.j1 kj3 a0 a1 t170 true))) = some r := by rw [if_neg (show ¬ (false = true) by decide)] at H; exact H
        clear H
        have H := H1
        clear H1
        by_cases c14 : a1 = 0
        · rw [if_pos c14] at H
          have c14b0 : (a1 == 0) = true := beq_iff_eq.mpr c14
          have c14b1 : (a1 != 0) = false := bne_eq_false_iff_eq.mpr c14
          clear c14
          by_cases c15 : t170 = 0
          · rw [if_pos c15] at H
            have c15b0 : (t170 == 0) = true := beq_iff_eq.mpr c15
            have c15b1 : (t170 != 0) = false := bne_eq_false_iff_eq.mpr c15
            clear c15
            by_cases c16 : t171 = 11
            · rw [if_pos c16] at H
              have c16b0 : (t171 == 11) = true := beq_iff_eq.mpr c16
              have c16b1 : (t171 != 11) = false := bne_eq_false_iff_eq.mpr c16
              clear c16
              replace H := Option.bind_eq_some_iff.mp H
              obtain ⟨t173, A170, H⟩ := H
              replace H : (some t173) = some r := H
              have A17 := Aside0.mk A170
              clear A170
              obtain rfl := Option.some.inj H
              go_wp2_with (first | (go_at_call 14; (with_reducible refine (dancestudiolaw01_awake.calls kj3  t173 _ A17.out).mono ?_); rintro e w18 ⟨rfl, hb⟩; have n0_ := Aside0.mk (below_step (by repeat (first | (with_reducible first | exact HB.out | apply below_alloc | apply pw_below_drewN | apply below_drew1) | exact HB.out)) hb); clear HB; have HB := n0_; clear n0_; (try clear hb); (try clear hb2); (try clear hk); (try clear hi)))
              go_ret
              exact ⟨by first | rfl | (simp [errW_none, errW_some] <;> rfl) | (simp [*, errW_none, errW_some] <;> rfl), by repeat (first | (with_reducible first | exact HB.out | apply below_alloc | apply pw_below_drewN | apply below_drew1) | exact HB.out)⟩
            · rw [if_neg c16] at H
              have c16b0 : (t171 == 11) = false := beq_eq_false_iff_ne.mpr c16
              have c16b1 : (t171 != 11) = true := bne_iff_ne.mpr c16
              obtain rfl := Option.some.inj H
              go_wp2
              go_ret
              exact ⟨by first | rfl | (simp [errW_none, errW_some] <;> rfl) | (simp [*, errW_none, errW_some] <;> rfl), by repeat (first | (with_reducible first | exact HB.out | apply below_alloc | apply pw_below_drewN | apply below_drew1) | exact HB.out)⟩
          · rw [if_neg c15] at H
            have c15b0 : (t170 == 0) = false := beq_eq_false_iff_ne.mpr c15
            have c15b1 : (t170 != 0) = true := bne_iff_ne.mpr c15
            obtain rfl := Option.some.inj H
            go_wp2
            go_ret
            exact ⟨by first | rfl | (simp [errW_none, errW_some] <;> rfl) | (simp [*, errW_none, errW_some] <;> rfl), by repeat (first | (with_reducible first | exact HB.out | apply below_alloc | apply pw_below_drewN | apply below_drew1) | exact HB.out)⟩
        · rw [if_neg c14] at H
          have c14b0 : (a1 == 0) = false := beq_eq_false_iff_ne.mpr c14
          have c14b1 : (a1 != 0) = true := bne_iff_ne.mpr c14
          have HC19 := Aside0.mk H
          clear H
          go_upto_region 6 with (fail)
          go_cut [72] (fun v72 wc => ∃ (kq : Nat) (x72_18 : Bool), v72 = .bool x72_18 ∧ Aside0 (dancestudiolaw01_NumNearest.j1 kq a0 a1 t170 x72_18 = some r) ∧ Aside0 (kq ≤ kj3) ∧ Aside0 (Below w.heap.size w wc))
          case first =>
            have H := HC19.out
            clear HC19
            by_cases c20 : t171 = 0
            · rw [if_pos c20] at H
              have c20b0 : (t171 == 0) = true := beq_iff_eq.mpr c20
              have c20b1 : (t171 != 0) = false := bne_eq_false_iff_eq.mpr c20
              clear c20
              (first | rw [c20b0] | (simp only [i64_w, i32_w]; rw [c20b0]) | skip)
              replace H := Option.bind_eq_some_iff.mp H
              obtain ⟨t174, A210, H⟩ := H
              replace H : (if t174 = true then ((dancestudiolaw01_rounds.f kj3 (wrap64 (-t170)) a0 (wrap64 (-a1))).bind fun t175 => (dancestudiolaw01_NumNearest.j1 kj3 a0 a1 t170 (!t175))) else (dancestudiolaw01_NumNearest.j1 kj3 a0 a1 t170 true)) = some r := H
              have A21 := Aside0.mk A210
              clear A210
              by_cases c22 : t174 = true
              · subst c22
                have H1 : ((dancestudiolaw01_rounds.f kj3 (wrap64 (-t170)) a0 (wrap64 (-a1))).bind fun t175 => (dancestudiolaw01_NumNearest.j1 kj3 a0 a1 t170 (!t175))) = some r := by rw [if_pos rfl] at H; exact H
                clear H
                have H := H1
                clear H1
                replace H := Option.bind_eq_some_iff.mp H
                obtain ⟨t175, A230, H⟩ := H
                replace H : (dancestudiolaw01_NumNearest.j1 kj3 a0 a1 t170 (!t175)) = some r := H
                have A23 := Aside0.mk A230
                clear A230
                have H' := Aside0.mk H
                clear H
                go_wp2_with (first | (go_at_call 21; (with_reducible refine (dancestudiolaw01_rounds.calls kj3 (wrap64 (-t170)) (wrap64 (-a0)) a1 true _ A21.out).mono ?_); rintro e w24 ⟨rfl, hb⟩; have n0_ := Aside0.mk (below_step (by repeat (first | (with_reducible first | exact HB.out | apply below_alloc | apply pw_below_drewN | apply below_drew1) | exact HB.out)) hb); clear HB; have HB := n0_; clear n0_; (try clear hb); (try clear hb2); (try clear hk); (try clear hi)) | (go_at_call 21; (with_reducible refine (dancestudiolaw01_rounds.calls kj3 (wrap64 (-t170)) a0 (wrap64 (-a1)) t175 _ A23.out).mono ?_); rintro e w25 ⟨rfl, hb⟩; have n0_ := Aside0.mk (below_step (by repeat (first | (with_reducible first | exact HB.out | apply below_alloc | apply pw_below_drewN | apply below_drew1) | exact HB.out)) hb); clear HB; have HB := n0_; clear n0_; (try clear hb); (try clear hb2); (try clear hk); (try clear hi)))
                go_meet
                case rel => exact ⟨_, (!t175), (by first | rfl | (simp; done) | (simp [*]; done)), H', ⟨by have := HJ3.out; first | omega | exact Nat.le_refl _⟩, ⟨by repeat (first | (with_reducible first | exact HB.out | apply below_alloc | apply pw_below_drewN | apply below_drew1) | exact HB.out)⟩⟩
              · replace c22 := Bool.eq_false_iff.mpr c22
                subst c22
                have H1 : (dancestudiolaw01_NumNearest.j1 kj3 a0 a1 t170 true) = some r := by rw [if_neg (show ¬ (false = true) by decide)] at H; exact H
                clear H
                have H := H1
                clear H1
                have H' := Aside0.mk H
                clear H
                go_wp2_with (first | (go_at_call 21; (with_reducible refine (dancestudiolaw01_rounds.calls kj3 (wrap64 (-t170)) (wrap64 (-a0)) a1 false _ A21.out).mono ?_); rintro e w26 ⟨rfl, hb⟩; have n0_ := Aside0.mk (below_step (by repeat (first | (with_reducible first | exact HB.out | apply below_alloc | apply pw_below_drewN | apply below_drew1) | exact HB.out)) hb); clear HB; have HB := n0_; clear n0_; (try clear hb); (try clear hb2); (try clear hk); (try clear hi)))
                go_meet
                case rel => exact ⟨_, (true), (by first | rfl | (simp; done) | (simp [*]; done)), H', ⟨by have := HJ3.out; first | omega | exact Nat.le_refl _⟩, ⟨by repeat (first | (with_reducible first | exact HB.out | apply below_alloc | apply pw_below_drewN | apply below_drew1) | exact HB.out)⟩⟩
            · rw [if_neg c20] at H
              have c20b0 : (t171 == 0) = false := beq_eq_false_iff_ne.mpr c20
              have c20b1 : (t171 != 0) = true := bne_iff_ne.mpr c20
              (first | rw [c20b0] | (simp only [i64_w, i32_w]; rw [c20b0]) | skip)
              have H' := Aside0.mk H
              clear H
              go_wp2
              go_meet
              case rel => exact ⟨_, (true), (by first | rfl | (simp; done) | (simp [*]; done)), H', ⟨by have := HJ3.out; first | omega | exact Nat.le_refl _⟩, ⟨by repeat (first | (with_reducible first | exact HB.out | apply below_alloc | apply pw_below_drewN | apply below_drew1) | exact HB.out)⟩⟩
          case rest =>
            clear HC19
            try clear c1
            try clear c2
            try clear p2
            try clear c6
            try clear c6b0
            try clear p6
            try clear c7
            try clear c7b0
            try clear c8
            try clear c8b0
            try clear c9
            try clear c10
            try clear c10b0
            try clear c10b1
            try clear c11
            try clear c11b0
            try clear c11b1
            try clear c14
            try clear c14b0
            try clear c14b1
            try clear c15
            try clear c15b0
            try clear c15b1
            try clear c16
            try clear c16b0
            try clear c16b1
            try clear c17
            try clear c20
            try clear c20b0
            try clear c20b1
            try clear c22
            try clear p2
            obtain ⟨kq, x72_18, rfl, HA, HJ18, HB⟩ := hcut
            cases kq with
            | zero => exact absurd HA.out (by simp [dancestudiolaw01_NumNearest.j1])
            | succ kj18 =>
              have H := HA.out
              clear HA
              simp only [dancestudiolaw01_NumNearest.j1] at H
              by_cases c27 : x72_18 = true
              · subst c27
                have H1 : (some false) = some r := by rw [if_pos rfl] at H; exact H
                clear H
                have H := H1
                clear H1
                obtain rfl := Option.some.inj H
                go_wp2
                go_ret
                exact ⟨by first | rfl | (simp [errW_none, errW_some] <;> rfl) | (simp [*, errW_none, errW_some] <;> rfl), by repeat (first | (with_reducible first | exact HB.out | apply below_alloc | apply pw_below_drewN | apply below_drew1) | exact HB.out)⟩
              · replace c27 := Bool.eq_false_iff.mpr c27
                subst c27
                have H1 : (if (mx a1 (wrap64 (-a1))) = 0 then (none) else (if t170 < (wrap64 ((wrap64 (Int.tdiv (wrap64 (-(mx a0 (wrap64 (-a0))))) (mx a1 (wrap64 (-a1))))) - 1)) then (dancestudiolaw01_NumNearest.j2 kj18 a0 a1 t170 (mx a1 (wrap64 (-a1))) (mx a0 (wrap64 (-a0))) true) else (dancestudiolaw01_NumNearest.j2 kj18 a0 a1 t170 (mx a1 (wrap64 (-a1))) (mx a0 (wrap64 (-a0))) (decide (t170 > (wrap64 ((wrap64 (Int.tdiv (mx a0 (wrap64 (-a0))) (mx a1 (wrap64 (-a1))))) + 1))))))) = some r := by rw [if_neg (show ¬ (false = true) by decide)] at H; exact H
                clear H
                have H := H1
                clear H1
                obtain ⟨ji28, hji28⟩ : ∃ j_ : Int, (mx a1 (wrap64 (-a1))) = j_ := ⟨_, rfl⟩
                replace H : (if (ji28) = 0 then (none) else (if t170 < (wrap64 ((wrap64 (Int.tdiv (wrap64 (-(mx a0 (wrap64 (-a0))))) (ji28))) - 1)) then (dancestudiolaw01_NumNearest.j2 kj18 a0 a1 t170 ji28 (mx a0 (wrap64 (-a0))) true) else (dancestudiolaw01_NumNearest.j2 kj18 a0 a1 t170 ji28 (mx a0 (wrap64 (-a0))) (decide (t170 > (wrap64 ((wrap64 (Int.tdiv (mx a0 (wrap64 (-a0))) (ji28))) + 1))))))) = some r := by first | (rw [hji28] at H; exact H) | (simp only [hji28] at H ⊢; exact H)
                have hji28_ : (if a1 < (wrap64 (-a1)) then (wrap64 (-a1)) else a1) = ji28 := hji28
                obtain ⟨ji29, hji29⟩ : ∃ j_ : Int, (mx a0 (wrap64 (-a0))) = j_ := ⟨_, rfl⟩
                replace H : (if (ji28) = 0 then (none) else (if t170 < (wrap64 ((wrap64 (Int.tdiv (wrap64 (-(ji29))) (ji28))) - 1)) then (dancestudiolaw01_NumNearest.j2 kj18 a0 a1 t170 ji28 ji29 true) else (dancestudiolaw01_NumNearest.j2 kj18 a0 a1 t170 ji28 ji29 (decide (t170 > (wrap64 ((wrap64 (Int.tdiv (ji29) (ji28))) + 1))))))) = some r := by first | (rw [hji29] at H; exact H) | (simp only [hji29] at H ⊢; exact H)
                have hji29_ : (if a0 < (wrap64 (-a0)) then (wrap64 (-a0)) else a0) = ji29 := hji29
                have HC30 := Aside0.mk H
                clear H
                go_upto_region 9 with (fail)
                go_cut [95] (fun v95 wc => ∃ (kq : Nat) (x95_29 : Bool), v95 = .bool x95_29 ∧ Aside0 (dancestudiolaw01_NumNearest.j2 kq a0 a1 t170 ji28 ji29 x95_29 = some r) ∧ Aside0 (kq ≤ kj18) ∧ Aside0 (Below w.heap.size w wc))
                case first =>
                  have H := HC30.out
                  clear HC30
                  by_cases c31 : (ji28) = 0
                  · rw [if_pos c31] at H
                    exact absurd H (by simp)
                  · rw [if_neg c31] at H
                    have c31b0 : ((ji28) == 0) = false := beq_eq_false_iff_ne.mpr c31
                    have c31b1 : ((ji28) != 0) = true := bne_iff_ne.mpr c31
                    (first | rw [c31b0] | (simp only [i64_w, i32_w]; rw [c31b0]) | skip)
                    by_cases c32 : t170 < (wrap64 ((wrap64 (Int.tdiv (wrap64 (-(ji29))) (ji28))) - 1))
                    · rw [if_pos c32] at H
                      have c32b0 : decide (t170 < (wrap64 ((wrap64 (Int.tdiv (wrap64 (-(ji29))) (ji28))) - 1))) = true := decide_eq_true c32
                      clear c32
                      have H' := Aside0.mk H
                      clear H
                      go_wp2
                      go_meet
                      case rel => exact ⟨_, (true), (by first | rfl | (simp; done) | (simp [*]; done)), H', ⟨by have := HJ3.out; have := HJ18.out; first | omega | exact Nat.le_refl _⟩, ⟨by repeat (first | (with_reducible first | exact HB.out | apply below_alloc | apply pw_below_drewN | apply below_drew1) | exact HB.out)⟩⟩
                    · rw [if_neg c32] at H
                      have c32b0 : decide (t170 < (wrap64 ((wrap64 (Int.tdiv (wrap64 (-(ji29))) (ji28))) - 1))) = false := decide_eq_false c32
                      clear c32
                      have H' := Aside0.mk H
                      clear H
                      go_wp2
                      go_meet
                      case rel => exact ⟨_, (decide (t170 > (wrap64 ((wrap64 (Int.tdiv (ji29) (ji28))) + 1)))), (by first | rfl | (simp; done) | (simp only [← hji28, ← hji29] <;> (first | rfl | simp)) | (simp [*]; done)), H', ⟨by have := HJ3.out; have := HJ18.out; first | omega | exact Nat.le_refl _⟩, ⟨by repeat (first | (with_reducible first | exact HB.out | apply below_alloc | apply pw_below_drewN | apply below_drew1) | exact HB.out)⟩⟩
                case rest =>
                  clear HC30
                  try clear c1
                  try clear c2
                  try clear p2
                  try clear c3
                  try clear c6
                  try clear c6b0
                  try clear p6
                  try clear c7
                  try clear c7b0
                  try clear c8
                  try clear c8b0
                  try clear c9
                  try clear c10
                  try clear c10b0
                  try clear c10b1
                  try clear c11
                  try clear c11b0
                  try clear c11b1
                  try clear c14
                  try clear c14b0
                  try clear c14b1
                  try clear c15
                  try clear c15b0
                  try clear c15b1
                  try clear c16
                  try clear c16b0
                  try clear c16b1
                  try clear c17
                  try clear c20
                  try clear c20b0
                  try clear c20b1
                  try clear c22
                  try clear c27
                  try clear c31
                  try clear c31b0
                  try clear c31b1
                  try clear c32
                  try clear c32b0
                  try clear p2
                  try clear p6
                  obtain ⟨kq, x95_29, rfl, HA, HJ29, HB⟩ := hcut
                  cases kq with
                  | zero => exact absurd HA.out (by simp [dancestudiolaw01_NumNearest.j2])
                  | succ kj29 =>
                    have H := HA.out
                    clear HA
                    simp only [dancestudiolaw01_NumNearest.j2] at H
                    by_cases c33 : x95_29 = true
                    · subst c33
                      have H1 : (some false) = some r := by rw [if_pos rfl] at H; exact H
                      clear H
                      have H := H1
                      clear H1
                      obtain rfl := Option.some.inj H
                      go_wp2
                      go_ret
                      exact ⟨by first | rfl | (simp [errW_none, errW_some] <;> rfl) | (simp only [← hji28, ← hji29]; first | rfl | (simp [errW_none, errW_some] <;> rfl)) | (simp [*, errW_none, errW_some] <;> rfl), by repeat (first | (with_reducible first | exact HB.out | apply below_alloc | apply pw_below_drewN | apply below_drew1) | exact HB.out)⟩
                    · replace c33 := Bool.eq_false_iff.mpr c33
                      subst c33
                      have H1 : (if (wrap64 (2 * (wrap64 (a0 - (wrap64 (t170 * a1)))))) > ji28 then (dancestudiolaw01_NumNearest.j3 kj29 a0 ji28 ji29 true) else (if (wrap64 (2 * (wrap64 (a0 - (wrap64 (t170 * a1)))))) < (wrap64 (-ji28)) then (dancestudiolaw01_NumNearest.j3 kj29 a0 ji28 ji29 true) else (if (wrap64 (2 * (wrap64 (a0 - (wrap64 (t170 * a1)))))) = ji28 then (dancestudiolaw01_NumNearest.j3 kj29 a0 ji28 ji29 ((Int.tmod t170 2) != 0)) else (if (wrap64 (2 * (wrap64 (a0 - (wrap64 (t170 * a1)))))) = (wrap64 (-ji28)) then (dancestudiolaw01_NumNearest.j3 kj29 a0 ji28 ji29 ((Int.tmod t170 2) != 0)) else (dancestudiolaw01_NumNearest.j3 kj29 a0 ji28 ji29 false))))) = some r := by rw [if_neg (show ¬ (false = true) by decide)] at H; exact H
                      clear H
                      have H := H1
                      clear H1
                      have HC34 := Aside0.mk H
                      clear H
                      go_upto_region 12 with (fail)
                      go_cut [126] (fun v126 wc => ∃ (kq : Nat) (x126_33 : Bool), v126 = .bool x126_33 ∧ Aside0 (dancestudiolaw01_NumNearest.j3 kq a0 ji28 ji29 x126_33 = some r) ∧ Aside0 (kq ≤ kj29) ∧ Aside0 (Below w.heap.size w wc))
                      case first =>
                        have H := HC34.out
                        clear HC34
                        by_cases c35 : (wrap64 (2 * (wrap64 (a0 - (wrap64 (t170 * a1)))))) > ji28
                        · rw [if_pos c35] at H
                          have c35b0 : decide (ji28 < (wrap64 (2 * (wrap64 (a0 - (wrap64 (t170 * a1))))))) = true := decide_eq_true c35
                          clear c35
                          (first | rw [c35b0] | (simp only [i64_w, i32_w]; rw [c35b0]) | skip)
                          have H' := Aside0.mk H
                          clear H
                          go_wp2
                          go_meet
                          case rel => exact ⟨_, (true), (by first | rfl | (simp; done) | (simp [*]; done)), H', ⟨by have := HJ3.out; have := HJ18.out; have := HJ29.out; first | omega | exact Nat.le_refl _⟩, ⟨by repeat (first | (with_reducible first | exact HB.out | apply below_alloc | apply pw_below_drewN | apply below_drew1) | exact HB.out)⟩⟩
                        · rw [if_neg c35] at H
                          have c35b0 : decide (ji28 < (wrap64 (2 * (wrap64 (a0 - (wrap64 (t170 * a1))))))) = false := decide_eq_false c35
                          clear c35
                          (first | rw [c35b0] | (simp only [i64_w, i32_w]; rw [c35b0]) | skip)
                          by_cases c36 : (wrap64 (2 * (wrap64 (a0 - (wrap64 (t170 * a1)))))) < (wrap64 (-ji28))
                          · rw [if_pos c36] at H
                            have c36b0 : decide ((wrap64 (2 * (wrap64 (a0 - (wrap64 (t170 * a1)))))) < (wrap64 (-ji28))) = true := decide_eq_true c36
                            clear c36
                            have H' := Aside0.mk H
                            clear H
                            go_wp2
                            go_meet
                            case rel => exact ⟨_, (true), (by first | rfl | (simp; done) | (simp [*]; done)), H', ⟨by have := HJ3.out; have := HJ18.out; have := HJ29.out; first | omega | exact Nat.le_refl _⟩, ⟨by repeat (first | (with_reducible first | exact HB.out | apply below_alloc | apply pw_below_drewN | apply below_drew1) | exact HB.out)⟩⟩
                          · rw [if_neg c36] at H
                            have c36b0 : decide ((wrap64 (2 * (wrap64 (a0 - (wrap64 (t170 * a1)))))) < (wrap64 (-ji28))) = false := decide_eq_false c36
                            clear c36
                            by_cases c37 : (wrap64 (2 * (wrap64 (a0 - (wrap64 (t170 * a1)))))) = ji28
                            · rw [if_pos c37] at H
                              have c37b0 : ((wrap64 (2 * (wrap64 (a0 - (wrap64 (t170 * a1)))))) == ji28) = true := beq_iff_eq.mpr c37
                              have c37b1 : ((wrap64 (2 * (wrap64 (a0 - (wrap64 (t170 * a1)))))) != ji28) = false := bne_eq_false_iff_eq.mpr c37
                              clear c37
                              have H' := Aside0.mk H
                              clear H
                              go_wp2
                              go_meet
                              case rel => exact ⟨_, (((Int.tmod t170 2) != 0)), (by first | rfl | (simp; done) | (simp [*]; done)), H', ⟨by have := HJ3.out; have := HJ18.out; have := HJ29.out; first | omega | exact Nat.le_refl _⟩, ⟨by repeat (first | (with_reducible first | exact HB.out | apply below_alloc | apply pw_below_drewN | apply below_drew1) | exact HB.out)⟩⟩
                            · rw [if_neg c37] at H
                              have c37b0 : ((wrap64 (2 * (wrap64 (a0 - (wrap64 (t170 * a1)))))) == ji28) = false := beq_eq_false_iff_ne.mpr c37
                              have c37b1 : ((wrap64 (2 * (wrap64 (a0 - (wrap64 (t170 * a1)))))) != ji28) = true := bne_iff_ne.mpr c37
                              by_cases c38 : (wrap64 (2 * (wrap64 (a0 - (wrap64 (t170 * a1)))))) = (wrap64 (-ji28))
                              · rw [if_pos c38] at H
                                have c38b0 : ((wrap64 (2 * (wrap64 (a0 - (wrap64 (t170 * a1)))))) == (wrap64 (-ji28))) = true := beq_iff_eq.mpr c38
                                have c38b1 : ((wrap64 (2 * (wrap64 (a0 - (wrap64 (t170 * a1)))))) != (wrap64 (-ji28))) = false := bne_eq_false_iff_eq.mpr c38
                                clear c38
                                have H' := Aside0.mk H
                                clear H
                                go_wp2
                                go_meet
                                case rel => exact ⟨_, (((Int.tmod t170 2) != 0)), (by first | rfl | (simp; done) | (simp [*]; done)), H', ⟨by have := HJ3.out; have := HJ18.out; have := HJ29.out; first | omega | exact Nat.le_refl _⟩, ⟨by repeat (first | (with_reducible first | exact HB.out | apply below_alloc | apply pw_below_drewN | apply below_drew1) | exact HB.out)⟩⟩
                              · rw [if_neg c38] at H
                                have c38b0 : ((wrap64 (2 * (wrap64 (a0 - (wrap64 (t170 * a1)))))) == (wrap64 (-ji28))) = false := beq_eq_false_iff_ne.mpr c38
                                have c38b1 : ((wrap64 (2 * (wrap64 (a0 - (wrap64 (t170 * a1)))))) != (wrap64 (-ji28))) = true := bne_iff_ne.mpr c38
                                have H' := Aside0.mk H
                                clear H
                                go_wp2
                                go_meet
                                case rel => exact ⟨_, (false), (by first | rfl | (simp; done) | (simp [*]; done)), H', ⟨by have := HJ3.out; have := HJ18.out; have := HJ29.out; first | omega | exact Nat.le_refl _⟩, ⟨by repeat (first | (with_reducible first | exact HB.out | apply below_alloc | apply pw_below_drewN | apply below_drew1) | exact HB.out)⟩⟩
                      case rest =>
                        clear HC34
                        try clear c1
                        try clear c2
                        try clear p2
                        try clear c3
                        try clear c6
                        try clear c6b0
                        try clear p6
                        try clear c7
                        try clear c7b0
                        try clear c8
                        try clear c8b0
                        try clear c9
                        try clear c10
                        try clear c10b0
                        try clear c10b1
                        try clear c11
                        try clear c11b0
                        try clear c11b1
                        try clear c14
                        try clear c14b0
                        try clear c14b1
                        try clear c15
                        try clear c15b0
                        try clear c15b1
                        try clear c16
                        try clear c16b0
                        try clear c16b1
                        try clear c17
                        try clear c20
                        try clear c20b0
                        try clear c20b1
                        try clear c22
                        try clear c27
                        try clear c31
                        try clear c31b0
                        try clear c31b1
                        try clear c32
                        try clear c32b0
                        try clear c33
                        try clear c35
                        try clear c35b0
                        try clear c36
                        try clear c36b0
                        try clear c37
                        try clear c37b0
                        try clear c37b1
                        try clear c38
                        try clear c38b0
                        try clear c38b1
                        try clear p2
                        try clear p6
                        obtain ⟨kq, x126_33, rfl, HA, HJ33, HB⟩ := hcut
                        cases kq with
                        | zero => exact absurd HA.out (by simp [dancestudiolaw01_NumNearest.j3])
                        | succ kj33 =>
                          have H := HA.out
                          clear HA
                          simp only [dancestudiolaw01_NumNearest.j3] at H
                          by_cases c39 : x126_33 = true
                          · subst c39
                            have H1 : (some false) = some r := by rw [if_pos rfl] at H; exact H
                            clear H
                            have H := H1
                            clear H1
                            obtain rfl := Option.some.inj H
                            go_wp2
                            go_ret
                            exact ⟨by first | rfl | (simp [errW_none, errW_some] <;> rfl) | (simp only [← hji28, ← hji29]; first | rfl | (simp [errW_none, errW_some] <;> rfl)) | (simp [*, errW_none, errW_some] <;> rfl), by repeat (first | (with_reducible first | exact HB.out | apply below_alloc | apply pw_below_drewN | apply below_drew1) | exact HB.out)⟩
                          · replace c39 := Bool.eq_false_iff.mpr c39
                            subst c39
                            have H1 : ((num_Floor.f kj33 a0 ji28).bind fun bt176 => (if bt176.2.2 = 0 then (if bt176.2.1 ≥ 0 then (if bt176.2.1 < ji28 then (if ji28 = 0 then (none) else (if bt176.1 ≥ (wrap64 ((wrap64 (Int.tdiv (wrap64 (-ji29)) ji28)) - 1)) then (if bt176.1 ≤ (wrap64 (Int.tdiv ji29 ji28)) then (if (wrap64 ((wrap64 (bt176.1 * ji28)) + bt176.2.1)) = a0 then ((dancestudiolaw01_awake.f kj33).bind fun t179 => (some t179)) else (some false)) else (some false)) else (some false))) else (some false)) else (some false)) else (some false))) = some r := by rw [if_neg (show ¬ (false = true) by decide)] at H; exact H
                            clear H
                            have H := H1
                            clear H1
                            replace H := Option.bind_eq_some_iff.mp H
                            obtain ⟨⟨t176, t177, t178⟩, A400, H⟩ := H
                            replace H : (if t178 = 0 then (if t177 ≥ 0 then (if t177 < ji28 then (if ji28 = 0 then (none) else (if t176 ≥ (wrap64 ((wrap64 (Int.tdiv (wrap64 (-ji29)) ji28)) - 1)) then (if t176 ≤ (wrap64 (Int.tdiv ji29 ji28)) then (if (wrap64 ((wrap64 (t176 * ji28)) + t177)) = a0 then ((dancestudiolaw01_awake.f kj33).bind fun t179 => (some t179)) else (some false)) else (some false)) else (some false))) else (some false)) else (some false)) else (some false)) = some r := H
                            have A40 := Aside0.mk A400
                            clear A400
                            by_cases c41 : t178 = 0
                            · rw [if_pos c41] at H
                              have c41b0 : (t178 == 0) = true := beq_iff_eq.mpr c41
                              have c41b1 : (t178 != 0) = false := bne_eq_false_iff_eq.mpr c41
                              clear c41
                              by_cases c42 : t177 ≥ 0
                              · rw [if_pos c42] at H
                                have c42b0 : decide (0 ≤ t177) = true := decide_eq_true c42
                                clear c42
                                by_cases c43 : t177 < ji28
                                · rw [if_pos c43] at H
                                  have c43b0 : decide (t177 < ji28) = true := decide_eq_true c43
                                  clear c43
                                  by_cases c44 : ji28 = 0
                                  · rw [if_pos c44] at H
                                    exact absurd H (by simp)
                                  · rw [if_neg c44] at H
                                    have c44b0 : (ji28 == 0) = false := beq_eq_false_iff_ne.mpr c44
                                    have c44b1 : (ji28 != 0) = true := bne_iff_ne.mpr c44
                                    by_cases c45 : t176 ≥ (wrap64 ((wrap64 (Int.tdiv (wrap64 (-ji29)) ji28)) - 1))
                                    · rw [if_pos c45] at H
                                      have c45b0 : decide ((wrap64 ((wrap64 (Int.tdiv (wrap64 (-ji29)) ji28)) - 1)) ≤ t176) = true := decide_eq_true c45
                                      clear c45
                                      by_cases c46 : t176 ≤ (wrap64 (Int.tdiv ji29 ji28))
                                      · rw [if_pos c46] at H
                                        have c46b0 : decide (t176 ≤ (wrap64 (Int.tdiv ji29 ji28))) = true := decide_eq_true c46
                                        clear c46
                                        by_cases c47 : (wrap64 ((wrap64 (t176 * ji28)) + t177)) = a0
                                        · rw [if_pos c47] at H
                                          have c47b0 : ((wrap64 ((wrap64 (t176 * ji28)) + t177)) == a0) = true := beq_iff_eq.mpr c47
                                          have c47b1 : ((wrap64 ((wrap64 (t176 * ji28)) + t177)) != a0) = false := bne_eq_false_iff_eq.mpr c47
                                          clear c47
                                          replace H := Option.bind_eq_some_iff.mp H
                                          obtain ⟨t179, A480, H⟩ := H
                                          replace H : (some t179) = some r := H
                                          have A48 := Aside0.mk A480
                                          clear A480
                                          obtain rfl := Option.some.inj H
                                          go_wp2_with (first | ((with_reducible refine gate_callee (f := 19) rfl ?_); refine goesL_ (some 130) rfl rfl Try.func19 (by kernel_rfl) rfl #[.int .i64 a0, .int .i64 ji28] rfl (by (try simp only [List.map_toArray, List.map_cons, List.map_nil]); first | done | (simp only [hji28]; rfl) | rfl | (simp only [List.length_drop, List.length_take]; rfl)) ?_; (with_reducible refine (num_Floor.calls kj33 a0 ji28 t176 t177 t178 _ A40.out).mono ?_); rintro e w49 ⟨rfl, hb⟩; refine ⟨_, rfl, ?_⟩; have n0_ := Aside0.mk (below_step (by repeat (first | (with_reducible first | exact HB.out | apply below_alloc | apply pw_below_drewN | apply below_drew1) | exact HB.out)) hb); clear HB; have HB := n0_; clear n0_; (try clear hb); (try clear hb2); (try clear hk); (try clear hi)) | (go_at_call 14; (with_reducible refine (dancestudiolaw01_awake.calls kj33  t179 _ A48.out).mono ?_); rintro e w50 ⟨rfl, hb⟩; have n0_ := Aside0.mk (below_step (by repeat (first | (with_reducible first | exact HB.out | apply below_alloc | apply pw_below_drewN | apply below_drew1) | exact HB.out)) hb); clear HB; have HB := n0_; clear n0_; (try clear hb); (try clear hb2); (try clear hk); (try clear hi)))
                                          go_ret
                                          exact ⟨by first | rfl | (simp [errW_none, errW_some] <;> rfl) | (simp only [← hji28, ← hji29]; first | rfl | (simp [errW_none, errW_some] <;> rfl)) | (simp [*, errW_none, errW_some] <;> rfl), by repeat (first | (with_reducible first | exact HB.out | apply below_alloc | apply pw_below_drewN | apply below_drew1) | exact HB.out)⟩
                                        · rw [if_neg c47] at H
                                          have c47b0 : ((wrap64 ((wrap64 (t176 * ji28)) + t177)) == a0) = false := beq_eq_false_iff_ne.mpr c47
                                          have c47b1 : ((wrap64 ((wrap64 (t176 * ji28)) + t177)) != a0) = true := bne_iff_ne.mpr c47
                                          obtain rfl := Option.some.inj H
                                          go_wp2_with (first | ((with_reducible refine gate_callee (f := 19) rfl ?_); refine goesL_ (some 130) rfl rfl Try.func19 (by kernel_rfl) rfl #[.int .i64 a0, .int .i64 ji28] rfl (by (try simp only [List.map_toArray, List.map_cons, List.map_nil]); first | done | (simp only [hji28]; rfl) | rfl | (simp only [List.length_drop, List.length_take]; rfl)) ?_; (with_reducible refine (num_Floor.calls kj33 a0 ji28 t176 t177 t178 _ A40.out).mono ?_); rintro e w51 ⟨rfl, hb⟩; refine ⟨_, rfl, ?_⟩; have n0_ := Aside0.mk (below_step (by repeat (first | (with_reducible first | exact HB.out | apply below_alloc | apply pw_below_drewN | apply below_drew1) | exact HB.out)) hb); clear HB; have HB := n0_; clear n0_; (try clear hb); (try clear hb2); (try clear hk); (try clear hi)))
                                          go_ret
                                          exact ⟨by first | rfl | (simp [errW_none, errW_some] <;> rfl) | (simp only [← hji28, ← hji29]; first | rfl | (simp [errW_none, errW_some] <;> rfl)) | (simp [*, errW_none, errW_some] <;> rfl), by repeat (first | (with_reducible first | exact HB.out | apply below_alloc | apply pw_below_drewN | apply below_drew1) | exact HB.out)⟩
                                      · rw [if_neg c46] at H
                                        have c46b0 : decide (t176 ≤ (wrap64 (Int.tdiv ji29 ji28))) = false := decide_eq_false c46
                                        clear c46
                                        obtain rfl := Option.some.inj H
                                        go_wp2_with (first | ((with_reducible refine gate_callee (f := 19) rfl ?_); refine goesL_ (some 130) rfl rfl Try.func19 (by kernel_rfl) rfl #[.int .i64 a0, .int .i64 ji28] rfl (by (try simp only [List.map_toArray, List.map_cons, List.map_nil]); first | done | (simp only [hji28]; rfl) | rfl | (simp only [List.length_drop, List.length_take]; rfl)) ?_; (with_reducible refine (num_Floor.calls kj33 a0 ji28 t176 t177 t178 _ A40.out).mono ?_); rintro e w52 ⟨rfl, hb⟩; refine ⟨_, rfl, ?_⟩; have n0_ := Aside0.mk (below_step (by repeat (first | (with_reducible first | exact HB.out | apply below_alloc | apply pw_below_drewN | apply below_drew1) | exact HB.out)) hb); clear HB; have HB := n0_; clear n0_; (try clear hb); (try clear hb2); (try clear hk); (try clear hi)))
                                        go_ret
                                        exact ⟨by first | rfl | (simp [errW_none, errW_some] <;> rfl) | (simp only [← hji28, ← hji29]; first | rfl | (simp [errW_none, errW_some] <;> rfl)) | (simp [*, errW_none, errW_some] <;> rfl), by repeat (first | (with_reducible first | exact HB.out | apply below_alloc | apply pw_below_drewN | apply below_drew1) | exact HB.out)⟩
                                    · rw [if_neg c45] at H
                                      have c45b0 : decide ((wrap64 ((wrap64 (Int.tdiv (wrap64 (-ji29)) ji28)) - 1)) ≤ t176) = false := decide_eq_false c45
                                      clear c45
                                      obtain rfl := Option.some.inj H
                                      go_wp2_with (first | ((with_reducible refine gate_callee (f := 19) rfl ?_); refine goesL_ (some 130) rfl rfl Try.func19 (by kernel_rfl) rfl #[.int .i64 a0, .int .i64 ji28] rfl (by (try simp only [List.map_toArray, List.map_cons, List.map_nil]); first | done | (simp only [hji28]; rfl) | rfl | (simp only [List.length_drop, List.length_take]; rfl)) ?_; (with_reducible refine (num_Floor.calls kj33 a0 ji28 t176 t177 t178 _ A40.out).mono ?_); rintro e w53 ⟨rfl, hb⟩; refine ⟨_, rfl, ?_⟩; have n0_ := Aside0.mk (below_step (by repeat (first | (with_reducible first | exact HB.out | apply below_alloc | apply pw_below_drewN | apply below_drew1) | exact HB.out)) hb); clear HB; have HB := n0_; clear n0_; (try clear hb); (try clear hb2); (try clear hk); (try clear hi)))
                                      go_ret
                                      exact ⟨by first | rfl | (simp [errW_none, errW_some] <;> rfl) | (simp only [← hji28, ← hji29]; first | rfl | (simp [errW_none, errW_some] <;> rfl)) | (simp [*, errW_none, errW_some] <;> rfl), by repeat (first | (with_reducible first | exact HB.out | apply below_alloc | apply pw_below_drewN | apply below_drew1) | exact HB.out)⟩
                                · rw [if_neg c43] at H
                                  have c43b0 : decide (t177 < ji28) = false := decide_eq_false c43
                                  clear c43
                                  obtain rfl := Option.some.inj H
                                  go_wp2_with (first | ((with_reducible refine gate_callee (f := 19) rfl ?_); refine goesL_ (some 130) rfl rfl Try.func19 (by kernel_rfl) rfl #[.int .i64 a0, .int .i64 ji28] rfl (by (try simp only [List.map_toArray, List.map_cons, List.map_nil]); first | done | (simp only [hji28]; rfl) | rfl | (simp only [List.length_drop, List.length_take]; rfl)) ?_; (with_reducible refine (num_Floor.calls kj33 a0 ji28 t176 t177 t178 _ A40.out).mono ?_); rintro e w54 ⟨rfl, hb⟩; refine ⟨_, rfl, ?_⟩; have n0_ := Aside0.mk (below_step (by repeat (first | (with_reducible first | exact HB.out | apply below_alloc | apply pw_below_drewN | apply below_drew1) | exact HB.out)) hb); clear HB; have HB := n0_; clear n0_; (try clear hb); (try clear hb2); (try clear hk); (try clear hi)))
                                  go_ret
                                  exact ⟨by first | rfl | (simp [errW_none, errW_some] <;> rfl) | (simp only [← hji28, ← hji29]; first | rfl | (simp [errW_none, errW_some] <;> rfl)) | (simp [*, errW_none, errW_some] <;> rfl), by repeat (first | (with_reducible first | exact HB.out | apply below_alloc | apply pw_below_drewN | apply below_drew1) | exact HB.out)⟩
                              · rw [if_neg c42] at H
                                have c42b0 : decide (0 ≤ t177) = false := decide_eq_false c42
                                clear c42
                                obtain rfl := Option.some.inj H
                                go_wp2_with (first | ((with_reducible refine gate_callee (f := 19) rfl ?_); refine goesL_ (some 130) rfl rfl Try.func19 (by kernel_rfl) rfl #[.int .i64 a0, .int .i64 ji28] rfl (by (try simp only [List.map_toArray, List.map_cons, List.map_nil]); first | done | (simp only [hji28]; rfl) | rfl | (simp only [List.length_drop, List.length_take]; rfl)) ?_; (with_reducible refine (num_Floor.calls kj33 a0 ji28 t176 t177 t178 _ A40.out).mono ?_); rintro e w55 ⟨rfl, hb⟩; refine ⟨_, rfl, ?_⟩; have n0_ := Aside0.mk (below_step (by repeat (first | (with_reducible first | exact HB.out | apply below_alloc | apply pw_below_drewN | apply below_drew1) | exact HB.out)) hb); clear HB; have HB := n0_; clear n0_; (try clear hb); (try clear hb2); (try clear hk); (try clear hi)))
                                go_ret
                                exact ⟨by first | rfl | (simp [errW_none, errW_some] <;> rfl) | (simp only [← hji28, ← hji29]; first | rfl | (simp [errW_none, errW_some] <;> rfl)) | (simp [*, errW_none, errW_some] <;> rfl), by repeat (first | (with_reducible first | exact HB.out | apply below_alloc | apply pw_below_drewN | apply below_drew1) | exact HB.out)⟩
                            · rw [if_neg c41] at H
                              have c41b0 : (t178 == 0) = false := beq_eq_false_iff_ne.mpr c41
                              have c41b1 : (t178 != 0) = true := bne_iff_ne.mpr c41
                              obtain rfl := Option.some.inj H
                              go_wp2_with (first | ((with_reducible refine gate_callee (f := 19) rfl ?_); refine goesL_ (some 130) rfl rfl Try.func19 (by kernel_rfl) rfl #[.int .i64 a0, .int .i64 ji28] rfl (by (try simp only [List.map_toArray, List.map_cons, List.map_nil]); first | done | (simp only [hji28]; rfl) | rfl | (simp only [List.length_drop, List.length_take]; rfl)) ?_; (with_reducible refine (num_Floor.calls kj33 a0 ji28 t176 t177 t178 _ A40.out).mono ?_); rintro e w56 ⟨rfl, hb⟩; refine ⟨_, rfl, ?_⟩; have n0_ := Aside0.mk (below_step (by repeat (first | (with_reducible first | exact HB.out | apply below_alloc | apply pw_below_drewN | apply below_drew1) | exact HB.out)) hb); clear HB; have HB := n0_; clear n0_; (try clear hb); (try clear hb2); (try clear hk); (try clear hi)))
                              go_ret
                              exact ⟨by first | rfl | (simp [errW_none, errW_some] <;> rfl) | (simp only [← hji28, ← hji29]; first | rfl | (simp [errW_none, errW_some] <;> rfl)) | (simp [*, errW_none, errW_some] <;> rfl), by repeat (first | (with_reducible first | exact HB.out | apply below_alloc | apply pw_below_drewN | apply below_drew1) | exact HB.out)⟩

/-- THE ONE PURE STATEMENT of dancestudiolaw01_NumNearest: yours. -/
def dancestudiolaw01_NumNearest.Pure : Prop := ∀ (a0 : Int) (a1 : Int), (Lit.int .i64 a0).wf = true → (Lit.int .i64 a1).wf = true → ∃ k, dancestudiolaw01_NumNearest.f k a0 a1 = some true
theorem dancestudiolaw01_NumNearest.walk (P : dancestudiolaw01_NumNearest.Pure) (a0 : Int) (a1 : Int) (w : World) (w0 : (Lit.int .i64 a0).wf = true) (w1 : (Lit.int .i64 a1).wf = true) :
    Calls Try.prog 7 #[.int .i64 a0, .int .i64 a1] w fun e w' => e = .returned (.bool true) ∧ Below w.heap.size w w' := by
  obtain ⟨k, h⟩ := P a0 a1 w0 w1
  refine (dancestudiolaw01_NumNearest.calls k a0 a1 true w h).mono ?_
  rintro e w' ⟨rfl, hd⟩
  exact ⟨rfl, hd⟩

end Go.Proofs.Ytodjapnmobekjaa.PNumNearest
