-- Written by wip/tools/handprint.py: walks of the functions that the law reaches; Lean checks them.
import Derived.Test.YtkcnfbhmjcbgoaaDoorPAllx0
import Derived.Test.YtkcnfbhmjcbgoaaDoorPAllf11
import Derived.Test.YtkcnfbhmjcbgoaaDoorPAllf20
import Derived.Test.YtkcnfbhmjcbgoaaDoorPAllf21
namespace Go.Proofs.YtkcnfbhmjcbgoaaDoor.PAll
open Go.RowKit Go.Proofs.YtkcnfbhmjcbgoaaDoorW.PrintWords Go.Proofs.YtkcnfbhmjcbgoaaDoorW.PrintLast Go.Proofs.YtkcnfbhmjcbgoaaDoorW.PrintMore
attribute [local go_sem] max2_int min2_int max_two min_two max_three min_three max_four min_four   -- for this text's walks alone
set_option linter.unusedVariables false
set_option linter.unusedSimpArgs false

/-! ### dancestudiolaw06_FieldDigits: function 8 -/
mutual
def dancestudiolaw06_FieldDigits.j0 : Nat → Int → ByteArray → Int → Int → Bool → Option (Bool)
 | 0, _, _, _, _, _ => none
 | k + 1, x0, x1, x5, x6, x24 => if x24 = true then (if x5 = 0 then (if x6 = 1 then (dancestudiolaw06_FieldDigits.j1 k x1) else (none)) else (none)) else (if x5 = x0 then (if x6 = 0 then (dancestudiolaw06_FieldDigits.j1 k x1) else (none)) else (none))
def dancestudiolaw06_FieldDigits.j1 : Nat → ByteArray → Option (Bool)
 | 0, _ => none
 | k + 1, x1 => (field_Number.f k x1).bind fun bt308 => (if bt308.2 = 0 then ((dancestudioref06_Print.f k bt308.1).bind fun t310 => (if t310.toList = x1.toList then ((dancestudiolaw06_awake.f k).bind fun t311 => (some t311)) else (none))) else (if bt308.1 = 0 then ((dancestudiolaw06_awake.f k).bind fun t312 => (some t312)) else (none)))
end
def dancestudiolaw06_FieldDigits.f (k : Nat) (a0 : Int) (a1 : ByteArray) : Option (Bool) := if (a1.size : Int) > 300 then ((dancestudiolaw06_awake.f k).bind fun t304 => (some t304)) else ((dancestudioref06_Print.f k a0).bind fun t305 => ((field_Number.f k t305).bind fun bt306 => (if a0 < (-1125899906842624) then (dancestudiolaw06_FieldDigits.j0 k a0 a1 bt306.1 bt306.2 true) else (dancestudiolaw06_FieldDigits.j0 k a0 a1 bt306.1 bt306.2 (decide (a0 > 1125899906842624))))))
theorem dancestudiolaw06_FieldDigits.mono_l : ∀ k, (∀ y0 y1 y2 y3 y4, LeO (dancestudiolaw06_FieldDigits.j0 k y0 y1 y2 y3 y4) (dancestudiolaw06_FieldDigits.j0 (k + 1) y0 y1 y2 y3 y4)) ∧ (∀ y0, LeO (dancestudiolaw06_FieldDigits.j1 k y0) (dancestudiolaw06_FieldDigits.j1 (k + 1) y0))
 | 0 => ⟨fun _ _ _ _ _ r h => by simp [dancestudiolaw06_FieldDigits.j0] at h, fun _ r h => by simp [dancestudiolaw06_FieldDigits.j1] at h⟩
 | k + 1 => by
  obtain ⟨ih0, ih1⟩ := dancestudiolaw06_FieldDigits.mono_l k
  refine ⟨?_, ?_⟩
  ·
   intro y0 y1 y2 y3 y4
   unfold dancestudiolaw06_FieldDigits.j0
   repeat' first
   | (with_reducible exact ih0 _ _ _ _ _)
   | (with_reducible exact ih1 _)
   | (with_reducible exact dancestudiolaw06_awake.mono _)
   | (with_reducible exact dancestudioref06_Print.mono _ _)
   | (with_reducible exact field_Number.mono _ _)
   | (with_reducible exact LeO.refl _)
   | (with_reducible exact LeO.none _)
   | (with_reducible refine LeO.ite ?_ ?_)
   | (with_reducible refine LeO.bind ?_ (fun _ => ?_))
   | exact ih0 _ _ _ _ _
   | exact ih1 _
   | exact dancestudiolaw06_awake.mono _
   | exact dancestudioref06_Print.mono _ _
   | exact field_Number.mono _ _
   | exact LeO.none _
   | refine LeO.ite ?_ ?_
   | refine LeO.bind ?_ (fun _ => ?_)
  ·
   intro y0
   unfold dancestudiolaw06_FieldDigits.j1
   repeat' first
   | (with_reducible exact ih0 _ _ _ _ _)
   | (with_reducible exact ih1 _)
   | (with_reducible exact dancestudiolaw06_awake.mono _)
   | (with_reducible exact dancestudioref06_Print.mono _ _)
   | (with_reducible exact field_Number.mono _ _)
   | (with_reducible exact LeO.refl _)
   | (with_reducible exact LeO.none _)
   | (with_reducible refine LeO.ite ?_ ?_)
   | (with_reducible refine LeO.bind ?_ (fun _ => ?_))
   | exact ih0 _ _ _ _ _
   | exact ih1 _
   | exact dancestudiolaw06_awake.mono _
   | exact dancestudioref06_Print.mono _ _
   | exact field_Number.mono _ _
   | exact LeO.none _
   | refine LeO.ite ?_ ?_
   | refine LeO.bind ?_ (fun _ => ?_)
theorem dancestudiolaw06_FieldDigits.mono : ∀ a0 a1 k, LeO (dancestudiolaw06_FieldDigits.f k a0 a1) (dancestudiolaw06_FieldDigits.f (k + 1) a0 a1) := by
 intro a0 a1 k
 obtain ⟨ih0, ih1⟩ := dancestudiolaw06_FieldDigits.mono_l k
 unfold dancestudiolaw06_FieldDigits.f
 repeat' first
   | (with_reducible exact ih0 _ _ _ _ _)
   | (with_reducible exact ih1 _)
   | (with_reducible exact dancestudiolaw06_awake.mono _)
   | (with_reducible exact dancestudioref06_Print.mono _ _)
   | (with_reducible exact field_Number.mono _ _)
   | (with_reducible exact LeO.refl _)
   | (with_reducible exact LeO.none _)
   | (with_reducible refine LeO.ite ?_ ?_)
   | (with_reducible refine LeO.bind ?_ (fun _ => ?_))
   | exact ih0 _ _ _ _ _
   | exact ih1 _
   | exact dancestudiolaw06_awake.mono _
   | exact dancestudioref06_Print.mono _ _
   | exact field_Number.mono _ _
   | exact LeO.none _
   | refine LeO.ite ?_ ?_
   | refine LeO.bind ?_ (fun _ => ?_)
set_option maxHeartbeats 8000000 in
set_option maxRecDepth 100000 in
theorem dancestudiolaw06_FieldDigits.calls (k : Nat) (a0 : Int) (a1 : ByteArray) (r : Bool) (w : World) (hmx : Mx w) (h : dancestudiolaw06_FieldDigits.f k a0 a1 = some r) :
  Calls Tryd.prog 8 #[.int .i64 a0, .string a1] w fun e w' => e = .returned (.bool r) ∧ Below w.heap.size w w' := by
 have HMX_ := Aside0.mk hmx
 clear hmx
 have HB := Aside0.mk (Below.refl w.heap.size w)
 have H : (if (a1.size : Int) > 300 then ((dancestudiolaw06_awake.f k).bind fun t304 => (some t304)) else ((dancestudioref06_Print.f k a0).bind fun t305 => ((field_Number.f k t305).bind fun bt306 => (if a0 < (-1125899906842624) then (dancestudiolaw06_FieldDigits.j0 k a0 a1 bt306.1 bt306.2 true) else (dancestudiolaw06_FieldDigits.j0 k a0 a1 bt306.1 bt306.2 (decide (a0 > 1125899906842624))))))) = some r := h
 clear h
 by_cases c3 : (a1.size : Int) > 300
 ·
  rw [if_pos c3] at H
  have c3b0 : decide (300 < (a1.size : Int)) = true := decide_eq_true c3
  have c3b1 : decide (300 < a1.size) = true := decide_eq_true (by omega)
  clear c3
  replace H := Option.bind_eq_some_iff.mp H
  obtain ⟨t304, A40, H⟩ := H
  replace H : (some t304) = some r := H
  have A4 := Aside0.mk A40
  clear A40
  obtain rfl := Option.some.inj H
  go_enter Tryd.func8, Tryd.ntmps8
  go_wp2_with (first | ((with_reducible refine gate_callee (f := 11) rfl ?_); refine goesL_ (some 12) rfl rfl Tryd.func11 (by kernel_rfl) rfl #[] rfl (by (try simp only [List.map_toArray, List.map_cons, List.map_nil]); first | done | rfl | (simp only [List.length_drop, List.length_take]; rfl)) ?_; (with_reducible refine (dancestudiolaw06_awake.calls k  t304 _ ?sidem_ A4.out).mono ?_); (case sidem_ => first | ((repeat (first | exact HMX_.out | apply Mx.drewN | apply Mx.drew)); done) | (refine Mx.below HMX_.out ?_; (repeat (first | (with_reducible first | exact HB.out | apply below_alloc | apply pw_below_drewN | apply below_drew1) | exact HB.out)); done)); rintro e w5 ⟨rfl, hb⟩; refine ⟨_, rfl, ?_⟩; have n0_ := Aside0.mk (below_step (by repeat (first | (with_reducible first | exact HB.out | apply below_alloc | apply pw_below_drewN | apply below_drew1) | exact HB.out)) hb); clear HB; have HB := n0_; clear n0_; (try clear hb); (try clear hb2); (try clear hk); (try clear hi)))
  go_ret
  exact ⟨by first | rfl | (simp [errW_none, errW_some] <;> rfl) | (simp [*, errW_none, errW_some] <;> rfl), by repeat (first | (with_reducible first | exact HB.out | apply below_alloc | apply pw_below_drewN | apply below_drew1) | exact HB.out)⟩
 ·
  rw [if_neg c3] at H
  have c3b0 : decide (300 < (a1.size : Int)) = false := decide_eq_false c3
  have c3b1 : decide (300 < a1.size) = false := decide_eq_false (by omega)
  clear c3
  replace H := Option.bind_eq_some_iff.mp H
  obtain ⟨t305, A60, H⟩ := H
  replace H : ((field_Number.f k t305).bind fun bt306 => (if a0 < (-1125899906842624) then (dancestudiolaw06_FieldDigits.j0 k a0 a1 bt306.1 bt306.2 true) else (dancestudiolaw06_FieldDigits.j0 k a0 a1 bt306.1 bt306.2 (decide (a0 > 1125899906842624))))) = some r := H
  have A6 := Aside0.mk A60
  clear A60
  replace H := Option.bind_eq_some_iff.mp H
  obtain ⟨⟨t306, t307⟩, A70, H⟩ := H
  replace H : (if a0 < (-1125899906842624) then (dancestudiolaw06_FieldDigits.j0 k a0 a1 t306 t307 true) else (dancestudiolaw06_FieldDigits.j0 k a0 a1 t306 t307 (decide (a0 > 1125899906842624)))) = some r := H
  have A7 := Aside0.mk A70
  clear A70
  have HC8 := Aside0.mk H
  clear H
  go_enter Tryd.func8, Tryd.ntmps8
  go_upto_region 4 with (first | ((with_reducible refine gate_callee (f := 21) rfl ?_); refine goesL_ (some 15) rfl rfl Tryd.func21 (by kernel_rfl) rfl #[.int .i64 a0] rfl (by (try simp only [List.map_toArray, List.map_cons, List.map_nil]); first | done | rfl | (simp only [List.length_drop, List.length_take]; rfl)) ?_; (with_reducible refine (dancestudioref06_Print.calls k a0 t305 _ A6.out).mono ?_); rintro e w' ⟨rfl, ⟨nd, rfl⟩⟩; refine ⟨_, rfl, ?_⟩) | ((with_reducible refine gate_callee (f := 20) rfl ?_); refine goesL_ (some 16) rfl rfl Tryd.func20 (by kernel_rfl) rfl #[.string t305] rfl (by (try simp only [List.map_toArray, List.map_cons, List.map_nil]); first | done | rfl | (simp only [List.length_drop, List.length_take]; rfl)) ?_; (with_reducible refine (field_Number.calls k t305 t306 t307 _ A7.out).mono ?_); rintro e w' ⟨rfl, ⟨nd, rfl⟩⟩; refine ⟨_, rfl, ?_⟩))
  (try simp only [Act.put, List.setIfInBounds_toArray, List.set_cons_zero, List.set_cons_succ])
  go_cut [24] (fun v24 wc => ∃ (kq : Nat) (x24_7 : Bool), v24 = .bool x24_7 ∧ Aside0 (dancestudiolaw06_FieldDigits.j0 kq a0 a1 t306 t307 x24_7 = some r) ∧ Aside0 (kq ≤ k) ∧ Aside0 (Below w.heap.size w wc))
  case first =>
   have H := HC8.out
   clear HC8
   by_cases c9 : a0 < (-1125899906842624)
   ·
    rw [if_pos c9] at H
    have c9b0 : decide (a0 < (-1125899906842624)) = true := decide_eq_true c9
    clear c9
    (first | rw [c9b0] | (simp only [i64_w, i32_w]; rw [c9b0]) | skip)
    have H' := Aside0.mk H
    clear H
    go_wp2
    go_meet
    case rel => exact ⟨_, (true), (by first | rfl | (simp; done) | (simp [*]; done)), H', ⟨by first | omega | exact Nat.le_refl _⟩, ⟨by repeat (first | (with_reducible first | exact HB.out | apply below_alloc | apply pw_below_drewN | apply below_drew1) | exact HB.out)⟩⟩
   ·
    rw [if_neg c9] at H
    have c9b0 : decide (a0 < (-1125899906842624)) = false := decide_eq_false c9
    clear c9
    (first | rw [c9b0] | (simp only [i64_w, i32_w]; rw [c9b0]) | skip)
    have H' := Aside0.mk H
    clear H
    go_wp2
    go_meet
    case rel => exact ⟨_, (decide (a0 > 1125899906842624)), (by first | rfl | (simp; done) | (simp [*]; done)), H', ⟨by first | omega | exact Nat.le_refl _⟩, ⟨by repeat (first | (with_reducible first | exact HB.out | apply below_alloc | apply pw_below_drewN | apply below_drew1) | exact HB.out)⟩⟩
  case rest =>
   clear HC8
   try clear c1
   try clear c2
   try clear p2
   try clear c3
   try clear c3b0
   try clear c3b1
   try clear c8
   try clear c9
   try clear c9b0
   obtain ⟨kq, x24_7, rfl, HA, HJ7, HB⟩ := hcut
   cases kq with
   | zero => exact absurd HA.out (by simp [dancestudiolaw06_FieldDigits.j0])
   | succ kj7 =>
    have H := HA.out
    clear HA
    simp only [dancestudiolaw06_FieldDigits.j0] at H
    have HC10 := Aside0.mk H
    clear H
    go_upto_if 24 with (fail)
    go_cut [] (fun wc => ∃ (kq : Nat), Aside0 (dancestudiolaw06_FieldDigits.j1 kq a1 = some r) ∧ Aside0 (kq ≤ kj7) ∧ Aside0 (Below w.heap.size w wc))
    case first =>
     have H := HC10.out
     clear HC10
     by_cases c11 : x24_7 = true
     ·
      subst c11
      have H1 : (if t306 = 0 then (if t307 = 1 then (dancestudiolaw06_FieldDigits.j1 kj7 a1) else (none)) else (none)) = some r := by rw [if_pos rfl] at H; exact H
      clear H
      have H := H1
      clear H1
      by_cases c12 : t306 = 0
      ·
       rw [if_pos c12] at H
       have c12b0 : (t306 == 0) = true := beq_iff_eq.mpr c12
       have c12b1 : (t306 != 0) = false := bne_eq_false_iff_eq.mpr c12
       clear c12
       (first | rw [c12b0] | (simp only [i64_w, i32_w]; rw [c12b0]) | skip)
       by_cases c13 : t307 = 1
       ·
        rw [if_pos c13] at H
        have c13b0 : (t307 == 1) = true := beq_iff_eq.mpr c13
        have c13b1 : (t307 != 1) = false := bne_eq_false_iff_eq.mpr c13
        clear c13
        have H' := Aside0.mk H
        clear H
        go_wp2
        go_meet
        case rel => exact ⟨_, H', ⟨by have := HJ7.out; first | omega | exact Nat.le_refl _⟩, ⟨by repeat (first | (with_reducible first | exact HB.out | apply below_alloc | apply pw_below_drewN | apply below_drew1) | exact HB.out)⟩⟩
       ·
        rw [if_neg c13] at H
        exact absurd H (by simp)
      ·
       rw [if_neg c12] at H
       exact absurd H (by simp)
     ·
      replace c11 := Bool.eq_false_iff.mpr c11
      subst c11
      have H1 : (if t306 = a0 then (if t307 = 0 then (dancestudiolaw06_FieldDigits.j1 kj7 a1) else (none)) else (none)) = some r := by rw [if_neg (show ¬ (false = true) by decide)] at H; exact H
      clear H
      have H := H1
      clear H1
      by_cases c14 : t306 = a0
      ·
       rw [if_pos c14] at H
       have c14b0 : (t306 == a0) = true := beq_iff_eq.mpr c14
       have c14b1 : (t306 != a0) = false := bne_eq_false_iff_eq.mpr c14
       clear c14
       by_cases c15 : t307 = 0
       ·
        rw [if_pos c15] at H
        have c15b0 : (t307 == 0) = true := beq_iff_eq.mpr c15
        have c15b1 : (t307 != 0) = false := bne_eq_false_iff_eq.mpr c15
        clear c15
        have H' := Aside0.mk H
        clear H
        go_wp2
        go_meet
        case rel => exact ⟨_, H', ⟨by have := HJ7.out; first | omega | exact Nat.le_refl _⟩, ⟨by repeat (first | (with_reducible first | exact HB.out | apply below_alloc | apply pw_below_drewN | apply below_drew1) | exact HB.out)⟩⟩
       ·
        rw [if_neg c15] at H
        exact absurd H (by simp)
      ·
       rw [if_neg c14] at H
       exact absurd H (by simp)
    case rest =>
     clear HC10
     try clear c1
     try clear c2
     try clear p2
     try clear c3
     try clear c3b0
     try clear c3b1
     try clear c8
     try clear c9
     try clear c9b0
     try clear c11
     try clear c12
     try clear c12b0
     try clear c12b1
     try clear c13
     try clear c13b0
     try clear c13b1
     try clear c14
     try clear c14b0
     try clear c14b1
     try clear c15
     try clear c15b0
     try clear c15b1
     try clear p2
     obtain ⟨kq, HA, HJ9, HB⟩ := hcut
     cases kq with
     | zero => exact absurd HA.out (by simp [dancestudiolaw06_FieldDigits.j1])
     | succ kj9 =>
      have H := HA.out
      clear HA
      simp only [dancestudiolaw06_FieldDigits.j1] at H
      replace H := Option.bind_eq_some_iff.mp H
      obtain ⟨⟨t308, t309⟩, A160, H⟩ := H
      replace H : (if t309 = 0 then ((dancestudioref06_Print.f kj9 t308).bind fun t310 => (if t310.toList = a1.toList then ((dancestudiolaw06_awake.f kj9).bind fun t311 => (some t311)) else (none))) else (if t308 = 0 then ((dancestudiolaw06_awake.f kj9).bind fun t312 => (some t312)) else (none))) = some r := H
      have A16 := Aside0.mk A160
      clear A160
      by_cases c17 : t309 = 0
      ·
       rw [if_pos c17] at H
       have c17b0 : (t309 == 0) = true := beq_iff_eq.mpr c17
       have c17b1 : (t309 != 0) = false := bne_eq_false_iff_eq.mpr c17
       clear c17
       replace H := Option.bind_eq_some_iff.mp H
       obtain ⟨t310, A180, H⟩ := H
       replace H : (if t310.toList = a1.toList then ((dancestudiolaw06_awake.f kj9).bind fun t311 => (some t311)) else (none)) = some r := H
       have A18 := Aside0.mk A180
       clear A180
       by_cases c19 : t310.toList = a1.toList
       ·
        rw [if_pos c19] at H
        have c19b0 : (t310.toList == a1.toList) = true := beq_iff_eq.mpr c19
        have c19b1 : (t310.toList != a1.toList) = false := bne_eq_false_iff_eq.mpr c19
        clear c19
        replace H := Option.bind_eq_some_iff.mp H
        obtain ⟨t311, A200, H⟩ := H
        replace H : (some t311) = some r := H
        have A20 := Aside0.mk A200
        clear A200
        obtain rfl := Option.some.inj H
        go_wp2_with (first | ((with_reducible refine gate_callee (f := 20) rfl ?_); refine goesL_ (some 40) rfl rfl Tryd.func20 (by kernel_rfl) rfl #[.string a1] rfl (by (try simp only [List.map_toArray, List.map_cons, List.map_nil]); first | done | rfl | (simp only [List.length_drop, List.length_take]; rfl)) ?_; (with_reducible refine (field_Number.calls kj9 a1 t308 t309 _ A16.out).mono ?_); rintro e w' ⟨rfl, ⟨nd, rfl⟩⟩; refine ⟨_, rfl, ?_⟩) | ((with_reducible refine gate_callee (f := 21) rfl ?_); refine goesL_ (some 51) rfl rfl Tryd.func21 (by kernel_rfl) rfl #[.int .i64 t308] rfl (by (try simp only [List.map_toArray, List.map_cons, List.map_nil]); first | done | rfl | (simp only [List.length_drop, List.length_take]; rfl)) ?_; (with_reducible refine (dancestudioref06_Print.calls kj9 t308 t310 _ A18.out).mono ?_); rintro e w' ⟨rfl, ⟨nd, rfl⟩⟩; refine ⟨_, rfl, ?_⟩) | (go_at_call 11; (with_reducible refine (dancestudiolaw06_awake.calls kj9  t311 _ ?sidem_ A20.out).mono ?_); (case sidem_ => first | ((repeat (first | exact HMX_.out | apply Mx.drewN | apply Mx.drew)); done) | (refine Mx.below HMX_.out ?_; (repeat (first | (with_reducible first | exact HB.out | apply below_alloc | apply pw_below_drewN | apply below_drew1) | exact HB.out)); done)); rintro e w21 ⟨rfl, hb⟩; have n0_ := Aside0.mk (below_step (by repeat (first | (with_reducible first | exact HB.out | apply below_alloc | apply pw_below_drewN | apply below_drew1) | exact HB.out)) hb); clear HB; have HB := n0_; clear n0_; (try clear hb); (try clear hb2); (try clear hk); (try clear hi)))
        go_ret
        exact ⟨by first | rfl | (simp [errW_none, errW_some] <;> rfl) | (simp [*, errW_none, errW_some] <;> rfl), by repeat (first | (with_reducible first | exact HB.out | apply below_alloc | apply pw_below_drewN | apply below_drew1) | exact HB.out)⟩
       ·
        rw [if_neg c19] at H
        exact absurd H (by simp)
      ·
       rw [if_neg c17] at H
       have c17b0 : (t309 == 0) = false := beq_eq_false_iff_ne.mpr c17
       have c17b1 : (t309 != 0) = true := bne_iff_ne.mpr c17
       by_cases c22 : t308 = 0
       ·
        rw [if_pos c22] at H
        have c22b0 : (t308 == 0) = true := beq_iff_eq.mpr c22
        have c22b1 : (t308 != 0) = false := bne_eq_false_iff_eq.mpr c22
        clear c22
        replace H := Option.bind_eq_some_iff.mp H
        obtain ⟨t312, A230, H⟩ := H
        replace H : (some t312) = some r := H
        have A23 := Aside0.mk A230
        clear A230
        obtain rfl := Option.some.inj H
        go_wp2_with (first | ((with_reducible refine gate_callee (f := 20) rfl ?_); refine goesL_ (some 40) rfl rfl Tryd.func20 (by kernel_rfl) rfl #[.string a1] rfl (by (try simp only [List.map_toArray, List.map_cons, List.map_nil]); first | done | rfl | (simp only [List.length_drop, List.length_take]; rfl)) ?_; (with_reducible refine (field_Number.calls kj9 a1 t308 t309 _ A16.out).mono ?_); rintro e w' ⟨rfl, ⟨nd, rfl⟩⟩; refine ⟨_, rfl, ?_⟩) | (go_at_call 11; (with_reducible refine (dancestudiolaw06_awake.calls kj9  t312 _ ?sidem_ A23.out).mono ?_); (case sidem_ => first | ((repeat (first | exact HMX_.out | apply Mx.drewN | apply Mx.drew)); done) | (refine Mx.below HMX_.out ?_; (repeat (first | (with_reducible first | exact HB.out | apply below_alloc | apply pw_below_drewN | apply below_drew1) | exact HB.out)); done)); rintro e w24 ⟨rfl, hb⟩; have n0_ := Aside0.mk (below_step (by repeat (first | (with_reducible first | exact HB.out | apply below_alloc | apply pw_below_drewN | apply below_drew1) | exact HB.out)) hb); clear HB; have HB := n0_; clear n0_; (try clear hb); (try clear hb2); (try clear hk); (try clear hi)))
        go_ret
        exact ⟨by first | rfl | (simp [errW_none, errW_some] <;> rfl) | (simp [*, errW_none, errW_some] <;> rfl), by repeat (first | (with_reducible first | exact HB.out | apply below_alloc | apply pw_below_drewN | apply below_drew1) | exact HB.out)⟩
       ·
        rw [if_neg c22] at H
        exact absurd H (by simp)
end Go.Proofs.YtkcnfbhmjcbgoaaDoor.PAll
