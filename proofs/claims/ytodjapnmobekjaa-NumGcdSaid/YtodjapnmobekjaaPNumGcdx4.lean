-- PRINTED BY print.sh 35421559b90ae4d0a3588c463048766b98c2df88dd9212a6774a882060cdf62d: not written by this session
import Derived.Test.YtodjapnmobekjaaPNumGcdx0
import Derived.Test.YtodjapnmobekjaaPNumGcdx2
import Derived.Test.YtodjapnmobekjaaPNumGcdx3
namespace Go.Proofs.Ytodjapnmobekjaa.PNumGcd
open Go.RowKit Go.Proofs.YtodjapnmobekjaaW.PrintWords Go.Proofs.YtodjapnmobekjaaW.PrintLast Go.Proofs.YtodjapnmobekjaaW.PrintMore
attribute [local go_sem] max2_int min2_int max_two min_two max_three min_three max_four min_four   -- for this text's walks alone
set_option linter.unusedVariables false
set_option linter.unusedSimpArgs false

/-! ### dancestudiolaw01_NumGcd: function 9 -/
mutual
def dancestudiolaw01_NumGcd.j0 : Nat → Int → Int → Int → Int → Int → Bool → Option (Bool)
  | 0, _, _, _, _, _, _ => none
  | k + 1, x0, x1, x2, x7, x8, x48 => if x48 = true then (some false) else (if x8 = 0 then (dancestudiolaw01_NumGcd.j1 k x0 x1 x2 x7 x8 (x7 == 0)) else (dancestudiolaw01_NumGcd.j1 k x0 x1 x2 x7 x8 true))
def dancestudiolaw01_NumGcd.j1 : Nat → Int → Int → Int → Int → Int → Bool → Option (Bool)
  | 0, _, _, _, _, _, _ => none
  | k + 1, x0, x1, x2, x7, x8, x54 => if x54 = true then (if x8 = 0 then (if x0 = 0 then (if x1 = 0 then ((dancestudiolaw01_awake.f k).bind fun t180 => (some t180)) else (some false)) else (some false)) else ((dancestudiolaw01_awake.f k).bind fun t181 => (some t181))) else (if x7 = 0 then (none) else (if (Int.tmod x0 x7) = 0 then (if (Int.tmod x1 x7) = 0 then (if x2 = 0 then ((dancestudiolaw01_awake.f k).bind fun t182 => (some t182)) else (if (Int.tmod x0 x2) = 0 then (if (Int.tmod x1 x2) = 0 then (if (Int.tmod x7 x2) = 0 then ((dancestudiolaw01_awake.f k).bind fun t183 => (some t183)) else (some false)) else ((dancestudiolaw01_awake.f k).bind fun t184 => (some t184))) else ((dancestudiolaw01_awake.f k).bind fun t185 => (some t185)))) else (some false)) else (some false)))
end
def dancestudiolaw01_NumGcd.f (k : Nat) (a0 : Int) (a1 : Int) (a2 : Int) : Option (Bool) := (num_Gcd.f k a0 a1).bind fun bt174 => ((dancestudioref01_Gcd.f k a0 a1).bind fun bt176 => ((num_Gcd.f k a1 a0).bind fun bt178 => (if bt174.1 = bt176.1 then (if bt174.2 = bt176.2 then (if bt178.1 = bt174.1 then (dancestudiolaw01_NumGcd.j0 k a0 a1 a2 bt174.1 bt174.2 (bt178.2 != bt174.2)) else (dancestudiolaw01_NumGcd.j0 k a0 a1 a2 bt174.1 bt174.2 true)) else (dancestudiolaw01_NumGcd.j0 k a0 a1 a2 bt174.1 bt174.2 true)) else (dancestudiolaw01_NumGcd.j0 k a0 a1 a2 bt174.1 bt174.2 true))))
theorem dancestudiolaw01_NumGcd.mono_l : ∀ k, (∀ y0 y1 y2 y3 y4 y5, LeO (dancestudiolaw01_NumGcd.j0 k y0 y1 y2 y3 y4 y5) (dancestudiolaw01_NumGcd.j0 (k + 1) y0 y1 y2 y3 y4 y5)) ∧ (∀ y0 y1 y2 y3 y4 y5, LeO (dancestudiolaw01_NumGcd.j1 k y0 y1 y2 y3 y4 y5) (dancestudiolaw01_NumGcd.j1 (k + 1) y0 y1 y2 y3 y4 y5))
  | 0 => ⟨fun _ _ _ _ _ _ r h => by simp [dancestudiolaw01_NumGcd.j0] at h, fun _ _ _ _ _ _ r h => by simp [dancestudiolaw01_NumGcd.j1] at h⟩
  | k + 1 => by
    obtain ⟨ih0, ih1⟩ := dancestudiolaw01_NumGcd.mono_l k
    refine ⟨?_, ?_⟩
    · intro y0 y1 y2 y3 y4 y5
      unfold dancestudiolaw01_NumGcd.j0
      repeat' first
      | (with_reducible exact ih0 _ _ _ _ _ _)
      | (with_reducible exact ih1 _ _ _ _ _ _)
      | (with_reducible exact dancestudiolaw01_awake.mono _)
      | (with_reducible exact dancestudioref01_Gcd.mono _ _ _)
      | (with_reducible exact num_Gcd.mono _ _ _)
      | (with_reducible exact LeO.refl _)
      | (with_reducible exact LeO.none _)
      | (with_reducible refine LeO.ite ?_ ?_)
      | (with_reducible refine LeO.bind ?_ (fun _ => ?_))
      | exact ih0 _ _ _ _ _ _
      | exact ih1 _ _ _ _ _ _
      | exact dancestudiolaw01_awake.mono _
      | exact dancestudioref01_Gcd.mono _ _ _
      | exact num_Gcd.mono _ _ _
      | exact LeO.none _
      | refine LeO.ite ?_ ?_
      | refine LeO.bind ?_ (fun _ => ?_)
    · intro y0 y1 y2 y3 y4 y5
      unfold dancestudiolaw01_NumGcd.j1
      repeat' first
      | (with_reducible exact ih0 _ _ _ _ _ _)
      | (with_reducible exact ih1 _ _ _ _ _ _)
      | (with_reducible exact dancestudiolaw01_awake.mono _)
      | (with_reducible exact dancestudioref01_Gcd.mono _ _ _)
      | (with_reducible exact num_Gcd.mono _ _ _)
      | (with_reducible exact LeO.refl _)
      | (with_reducible exact LeO.none _)
      | (with_reducible refine LeO.ite ?_ ?_)
      | (with_reducible refine LeO.bind ?_ (fun _ => ?_))
      | exact ih0 _ _ _ _ _ _
      | exact ih1 _ _ _ _ _ _
      | exact dancestudiolaw01_awake.mono _
      | exact dancestudioref01_Gcd.mono _ _ _
      | exact num_Gcd.mono _ _ _
      | exact LeO.none _
      | refine LeO.ite ?_ ?_
      | refine LeO.bind ?_ (fun _ => ?_)
theorem dancestudiolaw01_NumGcd.mono : ∀ a0 a1 a2 k, LeO (dancestudiolaw01_NumGcd.f k a0 a1 a2) (dancestudiolaw01_NumGcd.f (k + 1) a0 a1 a2) := by
  intro a0 a1 a2 k
  obtain ⟨ih0, ih1⟩ := dancestudiolaw01_NumGcd.mono_l k
  unfold dancestudiolaw01_NumGcd.f
  repeat' first
      | (with_reducible exact ih0 _ _ _ _ _ _)
      | (with_reducible exact ih1 _ _ _ _ _ _)
      | (with_reducible exact dancestudiolaw01_awake.mono _)
      | (with_reducible exact dancestudioref01_Gcd.mono _ _ _)
      | (with_reducible exact num_Gcd.mono _ _ _)
      | (with_reducible exact LeO.refl _)
      | (with_reducible exact LeO.none _)
      | (with_reducible refine LeO.ite ?_ ?_)
      | (with_reducible refine LeO.bind ?_ (fun _ => ?_))
      | exact ih0 _ _ _ _ _ _
      | exact ih1 _ _ _ _ _ _
      | exact dancestudiolaw01_awake.mono _
      | exact dancestudioref01_Gcd.mono _ _ _
      | exact num_Gcd.mono _ _ _
      | exact LeO.none _
      | refine LeO.ite ?_ ?_
      | refine LeO.bind ?_ (fun _ => ?_)
set_option maxHeartbeats 8000000 in
set_option maxRecDepth 100000 in
theorem dancestudiolaw01_NumGcd.calls (k : Nat) (a0 : Int) (a1 : Int) (a2 : Int) (r : Bool) (w : World) (h : dancestudiolaw01_NumGcd.f k a0 a1 a2 = some r) :
    Calls Try.prog 9 #[.int .i64 a0, .int .i64 a1, .int .i64 a2] w fun e w' => e = .returned (.bool r) ∧ Below w.heap.size w w' := by
  have HB := Aside0.mk (Below.refl w.heap.size w)
  have H : ((num_Gcd.f k a0 a1).bind fun bt174 => ((dancestudioref01_Gcd.f k a0 a1).bind fun bt176 => ((num_Gcd.f k a1 a0).bind fun bt178 => (if bt174.1 = bt176.1 then (if bt174.2 = bt176.2 then (if bt178.1 = bt174.1 then (dancestudiolaw01_NumGcd.j0 k a0 a1 a2 bt174.1 bt174.2 (bt178.2 != bt174.2)) else (dancestudiolaw01_NumGcd.j0 k a0 a1 a2 bt174.1 bt174.2 true)) else (dancestudiolaw01_NumGcd.j0 k a0 a1 a2 bt174.1 bt174.2 true)) else (dancestudiolaw01_NumGcd.j0 k a0 a1 a2 bt174.1 bt174.2 true))))) = some r := h
  clear h
  replace H := Option.bind_eq_some_iff.mp H
  obtain ⟨⟨t174, t175⟩, A40, H⟩ := H
  replace H : ((dancestudioref01_Gcd.f k a0 a1).bind fun bt176 => ((num_Gcd.f k a1 a0).bind fun bt178 => (if t174 = bt176.1 then (if t175 = bt176.2 then (if bt178.1 = t174 then (dancestudiolaw01_NumGcd.j0 k a0 a1 a2 t174 t175 (bt178.2 != t175)) else (dancestudiolaw01_NumGcd.j0 k a0 a1 a2 t174 t175 true)) else (dancestudiolaw01_NumGcd.j0 k a0 a1 a2 t174 t175 true)) else (dancestudiolaw01_NumGcd.j0 k a0 a1 a2 t174 t175 true)))) = some r := H
  have A4 := Aside0.mk A40
  clear A40
  replace H := Option.bind_eq_some_iff.mp H
  obtain ⟨⟨t176, t177⟩, A50, H⟩ := H
  replace H : ((num_Gcd.f k a1 a0).bind fun bt178 => (if t174 = t176 then (if t175 = t177 then (if bt178.1 = t174 then (dancestudiolaw01_NumGcd.j0 k a0 a1 a2 t174 t175 (bt178.2 != t175)) else (dancestudiolaw01_NumGcd.j0 k a0 a1 a2 t174 t175 true)) else (dancestudiolaw01_NumGcd.j0 k a0 a1 a2 t174 t175 true)) else (dancestudiolaw01_NumGcd.j0 k a0 a1 a2 t174 t175 true))) = some r := H
  have A5 := Aside0.mk A50
  clear A50
  replace H := Option.bind_eq_some_iff.mp H
  obtain ⟨⟨t178, t179⟩, A60, H⟩ := H
  replace H : (if t174 = t176 then (if t175 = t177 then (if t178 = t174 then (dancestudiolaw01_NumGcd.j0 k a0 a1 a2 t174 t175 (t179 != t175)) else (dancestudiolaw01_NumGcd.j0 k a0 a1 a2 t174 t175 true)) else (dancestudiolaw01_NumGcd.j0 k a0 a1 a2 t174 t175 true)) else (dancestudiolaw01_NumGcd.j0 k a0 a1 a2 t174 t175 true)) = some r := H
  have A6 := Aside0.mk A60
  clear A60
  have HC7 := Aside0.mk H
  clear H
  go_enter Try.func9, Try.ntmps9
  go_upto_region 4 with (first | ((with_reducible refine gate_callee (f := 23) rfl ?_); refine goesL_ (some 16) rfl rfl Try.func23 (by kernel_rfl) rfl #[.int .i64 a0, .int .i64 a1] rfl (by (try simp only [List.map_toArray, List.map_cons, List.map_nil]); first | done | rfl | (simp only [List.length_drop, List.length_take]; rfl)) ?_; (with_reducible refine (num_Gcd.calls k a0 a1 t174 t175 _ A4.out).mono ?_); rintro e w8 ⟨rfl, hb⟩; refine ⟨_, rfl, ?_⟩; have n0_ := Aside0.mk (below_step (by repeat (first | (with_reducible first | exact HB.out | apply below_alloc | apply pw_below_drewN | apply below_drew1) | exact HB.out)) hb); clear HB; have HB := n0_; clear n0_; (try clear hb); (try clear hb2); (try clear hk); (try clear hi)) | ((with_reducible refine gate_callee (f := 24) rfl ?_); refine goesL_ (some 22) rfl rfl Try.func24 (by kernel_rfl) rfl #[.int .i64 a0, .int .i64 a1] rfl (by (try simp only [List.map_toArray, List.map_cons, List.map_nil]); first | done | rfl | (simp only [List.length_drop, List.length_take]; rfl)) ?_; (with_reducible refine (dancestudioref01_Gcd.calls k a0 a1 t176 t177 _ A5.out).mono ?_); rintro e w' ⟨rfl, ⟨nd, rfl⟩⟩; refine ⟨_, rfl, ?_⟩) | ((with_reducible refine gate_callee (f := 23) rfl ?_); refine goesL_ (some 28) rfl rfl Try.func23 (by kernel_rfl) rfl #[.int .i64 a1, .int .i64 a0] rfl (by (try simp only [List.map_toArray, List.map_cons, List.map_nil]); first | done | rfl | (simp only [List.length_drop, List.length_take]; rfl)) ?_; (with_reducible refine (num_Gcd.calls k a1 a0 t178 t179 _ A6.out).mono ?_); rintro e w9 ⟨rfl, hb⟩; refine ⟨_, rfl, ?_⟩; have n0_ := Aside0.mk (below_step (by repeat (first | (with_reducible first | exact HB.out | apply below_alloc | apply pw_below_drewN | apply below_drew1) | exact HB.out)) hb); clear HB; have HB := n0_; clear n0_; (try clear hb); (try clear hb2); (try clear hk); (try clear hi)))
  (try simp only [Act.put, List.setIfInBounds_toArray, List.set_cons_zero, List.set_cons_succ])
  go_cut [48] (fun v48 wc => ∃ (kq : Nat) (x48_6 : Bool), v48 = .bool x48_6 ∧ Aside0 (dancestudiolaw01_NumGcd.j0 kq a0 a1 a2 t174 t175 x48_6 = some r) ∧ Aside0 (kq ≤ k) ∧ Aside0 (Below w.heap.size w wc))
  case first =>
    have H := HC7.out
    clear HC7
    by_cases c10 : t174 = t176
    · rw [if_pos c10] at H
      have c10b0 : (t174 == t176) = true := beq_iff_eq.mpr c10
      have c10b1 : (t174 != t176) = false := bne_eq_false_iff_eq.mpr c10
      clear c10
      (first | rw [c10b0] | (simp only [i64_w, i32_w]; rw [c10b0]) | skip)
      by_cases c11 : t175 = t177
      · rw [if_pos c11] at H
        have c11b0 : (t175 == t177) = true := beq_iff_eq.mpr c11
        have c11b1 : (t175 != t177) = false := bne_eq_false_iff_eq.mpr c11
        clear c11
        by_cases c12 : t178 = t174
        · rw [if_pos c12] at H
          have c12b0 : (t178 == t174) = true := beq_iff_eq.mpr c12
          have c12b1 : (t178 != t174) = false := bne_eq_false_iff_eq.mpr c12
          clear c12
          have H' := Aside0.mk H
          clear H
          go_wp2
          go_meet
          case rel => exact ⟨_, ((t179 != t175)), (by first | rfl | (simp; done) | (simp [*]; done)), H', ⟨by first | omega | exact Nat.le_refl _⟩, ⟨by repeat (first | (with_reducible first | exact HB.out | apply below_alloc | apply pw_below_drewN | apply below_drew1) | exact HB.out)⟩⟩
        · rw [if_neg c12] at H
          have c12b0 : (t178 == t174) = false := beq_eq_false_iff_ne.mpr c12
          have c12b1 : (t178 != t174) = true := bne_iff_ne.mpr c12
          have H' := Aside0.mk H
          clear H
          go_wp2
          go_meet
          case rel => exact ⟨_, (true), (by first | rfl | (simp; done) | (simp [*]; done)), H', ⟨by first | omega | exact Nat.le_refl _⟩, ⟨by repeat (first | (with_reducible first | exact HB.out | apply below_alloc | apply pw_below_drewN | apply below_drew1) | exact HB.out)⟩⟩
      · rw [if_neg c11] at H
        have c11b0 : (t175 == t177) = false := beq_eq_false_iff_ne.mpr c11
        have c11b1 : (t175 != t177) = true := bne_iff_ne.mpr c11
        have H' := Aside0.mk H
        clear H
        go_wp2
        go_meet
        case rel => exact ⟨_, (true), (by first | rfl | (simp; done) | (simp [*]; done)), H', ⟨by first | omega | exact Nat.le_refl _⟩, ⟨by repeat (first | (with_reducible first | exact HB.out | apply below_alloc | apply pw_below_drewN | apply below_drew1) | exact HB.out)⟩⟩
    · rw [if_neg c10] at H
      have c10b0 : (t174 == t176) = false := beq_eq_false_iff_ne.mpr c10
      have c10b1 : (t174 != t176) = true := bne_iff_ne.mpr c10
      (first | rw [c10b0] | (simp only [i64_w, i32_w]; rw [c10b0]) | skip)
      have H' := Aside0.mk H
      clear H
      go_wp2
      go_meet
      case rel => exact ⟨_, (true), (by first | rfl | (simp; done) | (simp [*]; done)), H', ⟨by first | omega | exact Nat.le_refl _⟩, ⟨by repeat (first | (with_reducible first | exact HB.out | apply below_alloc | apply pw_below_drewN | apply below_drew1) | exact HB.out)⟩⟩
  case rest =>
    clear HC7
    try clear c1
    try clear c2
    try clear p2
    try clear c9
    try clear c10
    try clear c10b0
    try clear c10b1
    try clear c11
    try clear c11b0
    try clear c11b1
    try clear c12
    try clear c12b0
    try clear c12b1
    obtain ⟨kq, x48_6, rfl, HA, HJ6, HB⟩ := hcut
    cases kq with
    | zero => exact absurd HA.out (by simp [dancestudiolaw01_NumGcd.j0])
    | succ kj6 =>
      have H := HA.out
      clear HA
      simp only [dancestudiolaw01_NumGcd.j0] at H
      by_cases c13 : x48_6 = true
      · subst c13
        have H1 : (some false) = some r := by rw [if_pos rfl] at H; exact H
        clear H
        have H := H1
        clear H1
        obtain rfl := Option.some.inj H
        go_wp2
        go_ret
        exact ⟨by first | rfl | (simp [errW_none, errW_some] <;> rfl) | (simp [*, errW_none, errW_some] <;> rfl), by repeat (first | (with_reducible first | exact HB.out | apply below_alloc | apply pw_below_drewN | apply below_drew1) | exact HB.out)⟩
      · replace c13 := Bool.eq_false_iff.mpr c13
        subst c13
        have H1 : (if t175 = 0 then (dancestudiolaw01_NumGcd.j1 kj6 a0 a1 a2 t174 t175 (t174 == 0)) else (dancestudiolaw01_NumGcd.j1 kj6 a0 a1 a2 t174 t175 true)) = some r := by rw [if_neg (show ¬ (false = true) by decide)] at H; exact H
        clear H
        have H := H1
        clear H1
        have HC14 := Aside0.mk H
        clear H
        go_upto_region 6 with (fail)
        go_cut [54] (fun v54 wc => ∃ (kq : Nat) (x54_13 : Bool), v54 = .bool x54_13 ∧ Aside0 (dancestudiolaw01_NumGcd.j1 kq a0 a1 a2 t174 t175 x54_13 = some r) ∧ Aside0 (kq ≤ kj6) ∧ Aside0 (Below w.heap.size w wc))
        case first =>
          have H := HC14.out
          clear HC14
          by_cases c15 : t175 = 0
          · rw [if_pos c15] at H
            have c15b0 : (t175 == 0) = true := beq_iff_eq.mpr c15
            have c15b1 : (t175 != 0) = false := bne_eq_false_iff_eq.mpr c15
            clear c15
            (first | rw [c15b0] | (simp only [i64_w, i32_w]; rw [c15b0]) | skip)
            have H' := Aside0.mk H
            clear H
            go_wp2
            go_meet
            case rel => exact ⟨_, ((t174 == 0)), (by first | rfl | (simp; done) | (simp [*]; done)), H', ⟨by have := HJ6.out; first | omega | exact Nat.le_refl _⟩, ⟨by repeat (first | (with_reducible first | exact HB.out | apply below_alloc | apply pw_below_drewN | apply below_drew1) | exact HB.out)⟩⟩
          · rw [if_neg c15] at H
            have c15b0 : (t175 == 0) = false := beq_eq_false_iff_ne.mpr c15
            have c15b1 : (t175 != 0) = true := bne_iff_ne.mpr c15
            (first | rw [c15b0] | (simp only [i64_w, i32_w]; rw [c15b0]) | skip)
            have H' := Aside0.mk H
            clear H
            go_wp2
            go_meet
            case rel => exact ⟨_, (true), (by first | rfl | (simp; done) | (simp [*]; done)), H', ⟨by have := HJ6.out; first | omega | exact Nat.le_refl _⟩, ⟨by repeat (first | (with_reducible first | exact HB.out | apply below_alloc | apply pw_below_drewN | apply below_drew1) | exact HB.out)⟩⟩
        case rest =>
          clear HC14
          try clear c1
          try clear c2
          try clear p2
          try clear c9
          try clear c10
          try clear c10b0
          try clear c10b1
          try clear c11
          try clear c11b0
          try clear c11b1
          try clear c12
          try clear c12b0
          try clear c12b1
          try clear c13
          try clear c15
          try clear c15b0
          try clear c15b1
          try clear p2
          obtain ⟨kq, x54_13, rfl, HA, HJ13, HB⟩ := hcut
          cases kq with
          | zero => exact absurd HA.out (by simp [dancestudiolaw01_NumGcd.j1])
          | succ kj13 =>
            have H := HA.out
            clear HA
            simp only [dancestudiolaw01_NumGcd.j1] at H
            by_cases c16 : x54_13 = true
            · subst c16
              have H1 : (if t175 = 0 then (if a0 = 0 then (if a1 = 0 then ((dancestudiolaw01_awake.f kj13).bind fun t180 => (some t180)) else (some false)) else (some false)) else ((dancestudiolaw01_awake.f kj13).bind fun t181 => (some t181))) = some r := by rw [if_pos rfl] at H; exact H
              clear H
              have H := H1
              clear H1
              by_cases c17 : t175 = 0
              · rw [if_pos c17] at H
                have c17b0 : (t175 == 0) = true := beq_iff_eq.mpr c17
                have c17b1 : (t175 != 0) = false := bne_eq_false_iff_eq.mpr c17
                clear c17
                by_cases c18 : a0 = 0
                · rw [if_pos c18] at H
                  have c18b0 : (a0 == 0) = true := beq_iff_eq.mpr c18
                  have c18b1 : (a0 != 0) = false := bne_eq_false_iff_eq.mpr c18
                  clear c18
                  by_cases c19 : a1 = 0
                  · rw [if_pos c19] at H
                    have c19b0 : (a1 == 0) = true := beq_iff_eq.mpr c19
                    have c19b1 : (a1 != 0) = false := bne_eq_false_iff_eq.mpr c19
                    clear c19
                    replace H := Option.bind_eq_some_iff.mp H
                    obtain ⟨t180, A200, H⟩ := H
                    replace H : (some t180) = some r := H
                    have A20 := Aside0.mk A200
                    clear A200
                    obtain rfl := Option.some.inj H
                    go_wp2_with (first | (go_at_call 14; (with_reducible refine (dancestudiolaw01_awake.calls kj13  t180 _ A20.out).mono ?_); rintro e w21 ⟨rfl, hb⟩; have n0_ := Aside0.mk (below_step (by repeat (first | (with_reducible first | exact HB.out | apply below_alloc | apply pw_below_drewN | apply below_drew1) | exact HB.out)) hb); clear HB; have HB := n0_; clear n0_; (try clear hb); (try clear hb2); (try clear hk); (try clear hi)))
                    go_ret
                    exact ⟨by first | rfl | (simp [errW_none, errW_some] <;> rfl) | (simp [*, errW_none, errW_some] <;> rfl), by repeat (first | (with_reducible first | exact HB.out | apply below_alloc | apply pw_below_drewN | apply below_drew1) | exact HB.out)⟩
                  · rw [if_neg c19] at H
                    have c19b0 : (a1 == 0) = false := beq_eq_false_iff_ne.mpr c19
                    have c19b1 : (a1 != 0) = true := bne_iff_ne.mpr c19
                    obtain rfl := Option.some.inj H
                    go_wp2
                    go_ret
                    exact ⟨by first | rfl | (simp [errW_none, errW_some] <;> rfl) | (simp [*, errW_none, errW_some] <;> rfl), by repeat (first | (with_reducible first | exact HB.out | apply below_alloc | apply pw_below_drewN | apply below_drew1) | exact HB.out)⟩
                · rw [if_neg c18] at H
                  have c18b0 : (a0 == 0) = false := beq_eq_false_iff_ne.mpr c18
                  have c18b1 : (a0 != 0) = true := bne_iff_ne.mpr c18
                  obtain rfl := Option.some.inj H
                  go_wp2
                  go_ret
                  exact ⟨by first | rfl | (simp [errW_none, errW_some] <;> rfl) | (simp [*, errW_none, errW_some] <;> rfl), by repeat (first | (with_reducible first | exact HB.out | apply below_alloc | apply pw_below_drewN | apply below_drew1) | exact HB.out)⟩
              · rw [if_neg c17] at H
                have c17b0 : (t175 == 0) = false := beq_eq_false_iff_ne.mpr c17
                have c17b1 : (t175 != 0) = true := bne_iff_ne.mpr c17
                replace H := Option.bind_eq_some_iff.mp H
                obtain ⟨t181, A220, H⟩ := H
                replace H : (some t181) = some r := H
                have A22 := Aside0.mk A220
                clear A220
                obtain rfl := Option.some.inj H
                go_wp2_with (first | (go_at_call 14; (with_reducible refine (dancestudiolaw01_awake.calls kj13  t181 _ A22.out).mono ?_); rintro e w23 ⟨rfl, hb⟩; have n0_ := Aside0.mk (below_step (by repeat (first | (with_reducible first | exact HB.out | apply below_alloc | apply pw_below_drewN | apply below_drew1) | exact HB.out)) hb); clear HB; have HB := n0_; clear n0_; (try clear hb); (try clear hb2); (try clear hk); (try clear hi)))
                go_ret
                exact ⟨by first | rfl | (simp [errW_none, errW_some] <;> rfl) | (simp [*, errW_none, errW_some] <;> rfl), by repeat (first | (with_reducible first | exact HB.out | apply below_alloc | apply pw_below_drewN | apply below_drew1) | exact HB.out)⟩
            · replace c16 := Bool.eq_false_iff.mpr c16
              subst c16
              have H1 : (if t174 = 0 then (none) else (if (Int.tmod a0 t174) = 0 then (if (Int.tmod a1 t174) = 0 then (if a2 = 0 then ((dancestudiolaw01_awake.f kj13).bind fun t182 => (some t182)) else (if (Int.tmod a0 a2) = 0 then (if (Int.tmod a1 a2) = 0 then (if (Int.tmod t174 a2) = 0 then ((dancestudiolaw01_awake.f kj13).bind fun t183 => (some t183)) else (some false)) else ((dancestudiolaw01_awake.f kj13).bind fun t184 => (some t184))) else ((dancestudiolaw01_awake.f kj13).bind fun t185 => (some t185)))) else (some false)) else (some false))) = some r := by rw [if_neg (show ¬ (false = true) by decide)] at H; exact H
              clear H
              have H := H1
              clear H1
              by_cases c24 : t174 = 0
              · rw [if_pos c24] at H
                exact absurd H (by simp)
              · rw [if_neg c24] at H
                have c24b0 : (t174 == 0) = false := beq_eq_false_iff_ne.mpr c24
                have c24b1 : (t174 != 0) = true := bne_iff_ne.mpr c24
                by_cases c25 : (Int.tmod a0 t174) = 0
                · rw [if_pos c25] at H
                  have c25b0 : ((Int.tmod a0 t174) == 0) = true := beq_iff_eq.mpr c25
                  have c25b1 : ((Int.tmod a0 t174) != 0) = false := bne_eq_false_iff_eq.mpr c25
                  clear c25
                  by_cases c26 : (Int.tmod a1 t174) = 0
                  · rw [if_pos c26] at H
                    have c26b0 : ((Int.tmod a1 t174) == 0) = true := beq_iff_eq.mpr c26
                    have c26b1 : ((Int.tmod a1 t174) != 0) = false := bne_eq_false_iff_eq.mpr c26
                    clear c26
                    by_cases c27 : a2 = 0
                    · rw [if_pos c27] at H
                      have c27b0 : (a2 == 0) = true := beq_iff_eq.mpr c27
                      have c27b1 : (a2 != 0) = false := bne_eq_false_iff_eq.mpr c27
                      clear c27
                      replace H := Option.bind_eq_some_iff.mp H
                      obtain ⟨t182, A280, H⟩ := H
                      replace H : (some t182) = some r := H
                      have A28 := Aside0.mk A280
                      clear A280
                      obtain rfl := Option.some.inj H
                      go_wp2_with (first | (go_at_call 14; (with_reducible refine (dancestudiolaw01_awake.calls kj13  t182 _ A28.out).mono ?_); rintro e w29 ⟨rfl, hb⟩; have n0_ := Aside0.mk (below_step (by repeat (first | (with_reducible first | exact HB.out | apply below_alloc | apply pw_below_drewN | apply below_drew1) | exact HB.out)) hb); clear HB; have HB := n0_; clear n0_; (try clear hb); (try clear hb2); (try clear hk); (try clear hi)))
                      go_ret
                      exact ⟨by first | rfl | (simp [errW_none, errW_some] <;> rfl) | (simp [*, errW_none, errW_some] <;> rfl), by repeat (first | (with_reducible first | exact HB.out | apply below_alloc | apply pw_below_drewN | apply below_drew1) | exact HB.out)⟩
                    · rw [if_neg c27] at H
                      have c27b0 : (a2 == 0) = false := beq_eq_false_iff_ne.mpr c27
                      have c27b1 : (a2 != 0) = true := bne_iff_ne.mpr c27
                      by_cases c30 : (Int.tmod a0 a2) = 0
                      · rw [if_pos c30] at H
                        have c30b0 : ((Int.tmod a0 a2) == 0) = true := beq_iff_eq.mpr c30
                        have c30b1 : ((Int.tmod a0 a2) != 0) = false := bne_eq_false_iff_eq.mpr c30
                        clear c30
                        by_cases c31 : (Int.tmod a1 a2) = 0
                        · rw [if_pos c31] at H
                          have c31b0 : ((Int.tmod a1 a2) == 0) = true := beq_iff_eq.mpr c31
                          have c31b1 : ((Int.tmod a1 a2) != 0) = false := bne_eq_false_iff_eq.mpr c31
                          clear c31
                          by_cases c32 : (Int.tmod t174 a2) = 0
                          · rw [if_pos c32] at H
                            have c32b0 : ((Int.tmod t174 a2) == 0) = true := beq_iff_eq.mpr c32
                            have c32b1 : ((Int.tmod t174 a2) != 0) = false := bne_eq_false_iff_eq.mpr c32
                            clear c32
                            replace H := Option.bind_eq_some_iff.mp H
                            obtain ⟨t183, A330, H⟩ := H
                            replace H : (some t183) = some r := H
                            have A33 := Aside0.mk A330
                            clear A330
                            obtain rfl := Option.some.inj H
                            go_wp2_with (first | (go_at_call 14; (with_reducible refine (dancestudiolaw01_awake.calls kj13  t183 _ A33.out).mono ?_); rintro e w34 ⟨rfl, hb⟩; have n0_ := Aside0.mk (below_step (by repeat (first | (with_reducible first | exact HB.out | apply below_alloc | apply pw_below_drewN | apply below_drew1) | exact HB.out)) hb); clear HB; have HB := n0_; clear n0_; (try clear hb); (try clear hb2); (try clear hk); (try clear hi)))
                            go_ret
                            exact ⟨by first | rfl | (simp [errW_none, errW_some] <;> rfl) | (simp [*, errW_none, errW_some] <;> rfl), by repeat (first | (with_reducible first | exact HB.out | apply below_alloc | apply pw_below_drewN | apply below_drew1) | exact HB.out)⟩
                          · rw [if_neg c32] at H
                            have c32b0 : ((Int.tmod t174 a2) == 0) = false := beq_eq_false_iff_ne.mpr c32
                            have c32b1 : ((Int.tmod t174 a2) != 0) = true := bne_iff_ne.mpr c32
                            obtain rfl := Option.some.inj H
                            go_wp2
                            go_ret
                            exact ⟨by first | rfl | (simp [errW_none, errW_some] <;> rfl) | (simp [*, errW_none, errW_some] <;> rfl), by repeat (first | (with_reducible first | exact HB.out | apply below_alloc | apply pw_below_drewN | apply below_drew1) | exact HB.out)⟩
                        · rw [if_neg c31] at H
                          have c31b0 : ((Int.tmod a1 a2) == 0) = false := beq_eq_false_iff_ne.mpr c31
                          have c31b1 : ((Int.tmod a1 a2) != 0) = true := bne_iff_ne.mpr c31
                          replace H := Option.bind_eq_some_iff.mp H
                          obtain ⟨t184, A350, H⟩ := H
                          replace H : (some t184) = some r := H
                          have A35 := Aside0.mk A350
                          clear A350
                          obtain rfl := Option.some.inj H
                          go_wp2_with (first | (go_at_call 14; (with_reducible refine (dancestudiolaw01_awake.calls kj13  t184 _ A35.out).mono ?_); rintro e w36 ⟨rfl, hb⟩; have n0_ := Aside0.mk (below_step (by repeat (first | (with_reducible first | exact HB.out | apply below_alloc | apply pw_below_drewN | apply below_drew1) | exact HB.out)) hb); clear HB; have HB := n0_; clear n0_; (try clear hb); (try clear hb2); (try clear hk); (try clear hi)))
                          go_ret
                          exact ⟨by first | rfl | (simp [errW_none, errW_some] <;> rfl) | (simp [*, errW_none, errW_some] <;> rfl), by repeat (first | (with_reducible first | exact HB.out | apply below_alloc | apply pw_below_drewN | apply below_drew1) | exact HB.out)⟩
                      · rw [if_neg c30] at H
                        have c30b0 : ((Int.tmod a0 a2) == 0) = false := beq_eq_false_iff_ne.mpr c30
                        have c30b1 : ((Int.tmod a0 a2) != 0) = true := bne_iff_ne.mpr c30
                        replace H := Option.bind_eq_some_iff.mp H
                        obtain ⟨t185, A370, H⟩ := H
                        replace H : (some t185) = some r := H
                        have A37 := Aside0.mk A370
                        clear A370
                        obtain rfl := Option.some.inj H
                        go_wp2_with (first | (go_at_call 14; (with_reducible refine (dancestudiolaw01_awake.calls kj13  t185 _ A37.out).mono ?_); rintro e w38 ⟨rfl, hb⟩; have n0_ := Aside0.mk (below_step (by repeat (first | (with_reducible first | exact HB.out | apply below_alloc | apply pw_below_drewN | apply below_drew1) | exact HB.out)) hb); clear HB; have HB := n0_; clear n0_; (try clear hb); (try clear hb2); (try clear hk); (try clear hi)))
                        go_ret
                        exact ⟨by first | rfl | (simp [errW_none, errW_some] <;> rfl) | (simp [*, errW_none, errW_some] <;> rfl), by repeat (first | (with_reducible first | exact HB.out | apply below_alloc | apply pw_below_drewN | apply below_drew1) | exact HB.out)⟩
                  · rw [if_neg c26] at H
                    have c26b0 : ((Int.tmod a1 t174) == 0) = false := beq_eq_false_iff_ne.mpr c26
                    have c26b1 : ((Int.tmod a1 t174) != 0) = true := bne_iff_ne.mpr c26
                    obtain rfl := Option.some.inj H
                    go_wp2
                    go_ret
                    exact ⟨by first | rfl | (simp [errW_none, errW_some] <;> rfl) | (simp [*, errW_none, errW_some] <;> rfl), by repeat (first | (with_reducible first | exact HB.out | apply below_alloc | apply pw_below_drewN | apply below_drew1) | exact HB.out)⟩
                · rw [if_neg c25] at H
                  have c25b0 : ((Int.tmod a0 t174) == 0) = false := beq_eq_false_iff_ne.mpr c25
                  have c25b1 : ((Int.tmod a0 t174) != 0) = true := bne_iff_ne.mpr c25
                  obtain rfl := Option.some.inj H
                  go_wp2
                  go_ret
                  exact ⟨by first | rfl | (simp [errW_none, errW_some] <;> rfl) | (simp [*, errW_none, errW_some] <;> rfl), by repeat (first | (with_reducible first | exact HB.out | apply below_alloc | apply pw_below_drewN | apply below_drew1) | exact HB.out)⟩

/-- THE ONE PURE STATEMENT of dancestudiolaw01_NumGcd: yours. -/
def dancestudiolaw01_NumGcd.Pure : Prop := ∀ (a0 : Int) (a1 : Int) (a2 : Int), (Lit.int .i64 a0).wf = true → (Lit.int .i64 a1).wf = true → (Lit.int .i64 a2).wf = true → ∃ k, dancestudiolaw01_NumGcd.f k a0 a1 a2 = some true
theorem dancestudiolaw01_NumGcd.walk (P : dancestudiolaw01_NumGcd.Pure) (a0 : Int) (a1 : Int) (a2 : Int) (w : World) (w0 : (Lit.int .i64 a0).wf = true) (w1 : (Lit.int .i64 a1).wf = true) (w2 : (Lit.int .i64 a2).wf = true) :
    Calls Try.prog 9 #[.int .i64 a0, .int .i64 a1, .int .i64 a2] w fun e w' => e = .returned (.bool true) ∧ Below w.heap.size w w' := by
  obtain ⟨k, h⟩ := P a0 a1 a2 w0 w1 w2
  refine (dancestudiolaw01_NumGcd.calls k a0 a1 a2 true w h).mono ?_
  rintro e w' ⟨rfl, hd⟩
  exact ⟨rfl, hd⟩

end Go.Proofs.Ytodjapnmobekjaa.PNumGcd
