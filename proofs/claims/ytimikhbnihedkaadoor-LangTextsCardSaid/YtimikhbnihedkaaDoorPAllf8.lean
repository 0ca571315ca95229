-- Written by wip/tools/handprint.py: walks of the functions that the law reaches; Lean checks them.
import Derived.Test.YtimikhbnihedkaaDoorMC0
import Derived.Test.YtimikhbnihedkaaDoorMC3
import Derived.Test.YtimikhbnihedkaaDoorMC2
import Derived.Test.YtimikhbnihedkaaDoorPAllf26
namespace Go.Proofs.YtimikhbnihedkaaDoor.PAll
open Go.RowKit Go.Proofs.YtimikhbnihedkaaDoorW.PrintWords Go.Proofs.YtimikhbnihedkaaDoorW.PrintLast Go.Proofs.YtimikhbnihedkaaDoorW.PrintMore
attribute [local go_sem] max2_int min2_int max_two min_two max_three min_three max_four min_four   -- for this text's walks alone
set_option linter.unusedVariables false
set_option linter.unusedSimpArgs false

/-! ### dancestudiolaw35_LangTexts: function 8 -/
mutual
def dancestudiolaw35_LangTexts.j0 : Nat → List (S43) → ByteArray → Bool → Option (Bool)
 | 0, _, _, _ => none
 | k + 1, x0, x1, x18 => if x18 = true then ((dancestudiolaw35_awake.f k).bind fun t814 => (some t814)) else ((lang_Print.f k x0).bind fun bt815 => (if bt815.2 = 0 then (dancestudiolaw35_LangTexts.j1 k x0 x1 bt815.1 (decide ((bt815.1.size : Int) ≤ 1024))) else (dancestudiolaw35_LangTexts.j1 k x0 x1 bt815.1 false)))
def dancestudiolaw35_LangTexts.j1 : Nat → List (S43) → ByteArray → ByteArray → Bool → Option (Bool)
 | 0, _, _, _, _ => none
 | k + 1, x0, x1, x5, x31 => if x31 = true then ((lang_Parse.f k x5).bind fun bt817 => (if bt817.2 = 0 then ((dancestudioref35_Same.f k bt817.1 x0).bind fun t821 => (if t821 = true then (dancestudiolaw35_LangTexts.j2 k x1) else (none))) else (none))) else (dancestudiolaw35_LangTexts.j2 k x1)
def dancestudiolaw35_LangTexts.j2 : Nat → ByteArray → Option (Bool)
 | 0, _ => none
 | k + 1, x1 => (lang_Parse.f k x1).bind fun bt822 => (if bt822.2 = 0 then ((lang_Print.f k bt822.1).bind fun bt827 => (if bt827.2 = 0 then ((dancestudiolaw35_dense.f k bt827.1).bind fun t829 => ((dancestudiolaw35_dense.f k x1).bind fun t830 => (if t829.toList = t830.toList then ((dancestudiolaw35_awake.f k).bind fun t831 => (some t831)) else (none)))) else (none))) else (if (bt822.1.length : Int) = 0 then ((dancestudiolaw35_awake.f k).bind fun t826 => (some t826)) else (none)))
end
def dancestudiolaw35_LangTexts.f (k : Nat) (l0 : List (S43)) (a1 : ByteArray) : Option (Bool) := (dancestudiolaw35_short.f k l0).bind fun t813 => (if t813 = true then (dancestudiolaw35_LangTexts.j0 k l0 a1 (decide ((a1.size : Int) > 1100))) else (dancestudiolaw35_LangTexts.j0 k l0 a1 true))
set_option maxHeartbeats 8000000 in
set_option maxRecDepth 100000 in
theorem dancestudiolaw35_LangTexts.calls (k : Nat) (A0 : Option Addr) (c0 : Nat) (l0 : List (S43)) (a1 : ByteArray) (r : Bool) (w : World) (hr0 : Kd.C k43 w A0 l0.length l0) (hc0 : l0.length ≤ c0) (hmx : Mx w) (h : dancestudiolaw35_LangTexts.f k l0 a1 = some r) :
  Calls Tryd.prog 8 #[.slice A0 l0.length c0, .string a1] w fun e w' => e = .returned (.bool r) ∧ Below w.heap.size w w' := by
 have HMX_ := Aside0.mk hmx
 clear hmx
 have HR0 := Aside0.mk hr0
 have HC0 := Aside0.mk hc0
 clear hr0 hc0
 have HB := Aside0.mk (Below.refl w.heap.size w)
 have H := h
 unfold dancestudiolaw35_LangTexts.f at H
 clear h
 have HC3 := Aside0.mk H
 clear H
 go_enter Tryd.func8, Tryd.ntmps8
 go_upto_region 1 with (fail)
 go_cut [18] (fun v18 wc => ∃ (kq : Nat) (x18_2 : Bool), v18 = .bool x18_2 ∧ Aside0 (dancestudiolaw35_LangTexts.j0 kq l0 a1 x18_2 = some r) ∧ Aside0 (kq ≤ k) ∧ Aside0 (Below w.heap.size w wc))
 case first =>
  have H := HC3.out
  clear HC3
  replace H := Option.bind_eq_some_iff.mp H
  obtain ⟨t813, A40, H⟩ := H
  try dsimp only at H
  have A4 := Aside0.mk A40
  clear A40
  by_cases c5 : t813 = true
  ·
   subst c5
   rw [if_pos rfl] at H
   have H' := Aside0.mk H
   clear H
   go_wp2_with (first | ((with_reducible refine gate_callee (f := 10) rfl ?_); refine goesL_ (some 12) rfl rfl Tryd.func10 (by kernel_rfl) rfl #[.slice A0 l0.length c0] rfl (mA1 rfl) ?_; (with_reducible refine (dancestudiolaw35_short.calls k _ _ l0 true _ (Kd.C_below HR0.out HB.out) HC0.out A4.out).mono ?_); rintro e w' ⟨rfl, ⟨nd, rfl⟩⟩; refine ⟨_, rfl, ?_⟩))
   go_meet
   case rel => exact ⟨_, (decide ((a1.size : Int) > 1100)), rfl, H', ⟨by first | omega | exact Nat.le_refl _⟩, ⟨hO HB⟩⟩
  replace c5 := Bool.eq_false_iff.mpr c5
  subst c5
  rw [if_neg (show ¬ (false = true) by decide)] at H
  have H' := Aside0.mk H
  clear H
  go_wp2_with (first | ((with_reducible refine gate_callee (f := 10) rfl ?_); refine goesL_ (some 12) rfl rfl Tryd.func10 (by kernel_rfl) rfl #[.slice A0 l0.length c0] rfl (mA1 rfl) ?_; (with_reducible refine (dancestudiolaw35_short.calls k _ _ l0 false _ (Kd.C_below HR0.out HB.out) HC0.out A4.out).mono ?_); rintro e w' ⟨rfl, ⟨nd, rfl⟩⟩; refine ⟨_, rfl, ?_⟩))
  go_meet
  case rel => exact ⟨_, (true), rfl, H', ⟨by first | omega | exact Nat.le_refl _⟩, ⟨hO HB⟩⟩
 case rest =>
  clear HC3; try clear c1; try clear p2; try clear c5
  obtain ⟨kq, x18_2, rfl, HA, HJ2, HB⟩ := hcut
  cases kq with
  | zero => exact absurd HA.out (by simp [dancestudiolaw35_LangTexts.j0])
  | succ kj2 =>
   have H := HA.out
   clear HA
   simp only [dancestudiolaw35_LangTexts.j0] at H
   by_cases c6 : x18_2 = true
   ·
    subst c6
    rw [if_pos rfl] at H
    replace H := Option.bind_eq_some_iff.mp H
    obtain ⟨t814, A70, H⟩ := H
    try dsimp only at H
    have A7 := Aside0.mk A70
    clear A70
    obtain rfl := Option.some.inj H
    go_wp2_with (first | ((with_reducible refine gate_callee (f := 11) rfl ?_); refine goesL_ (some 19) rfl rfl Tryd.func11 (by kernel_rfl) rfl #[] rfl (mA0) ?_; (with_reducible refine (dancestudiolaw35_awake.calls kj2  t814 _ (Mx.below HMX_.out HB.out) A7.out).mono ?_); rintro e w8 ⟨rfl, hb⟩; refine ⟨_, rfl, ?_⟩; replace HB := mSt HB hb; (try clear hb)))
    go_ret
    exact ⟨rfl, HB.out⟩
   replace c6 := Bool.eq_false_iff.mpr c6
   subst c6
   rw [if_neg (show ¬ (false = true) by decide)] at H
   replace H := Option.bind_eq_some_iff.mp H
   obtain ⟨⟨t815, t816⟩, A90, H⟩ := H
   try dsimp only at H
   have A9 := Aside0.mk A90
   clear A90
   have HC10 := Aside0.mk H
   clear H
   go_upto_region 4 with (first | ((with_reducible refine gate_callee (f := 12) rfl ?_); refine goesL_ (some 22) rfl rfl Tryd.func12 (by kernel_rfl) rfl #[.slice A0 l0.length c0] rfl (mA1 rfl) ?_; (with_reducible refine (lang_Print.calls kj2 _ _ l0 t815 t816 _ (Kd.C_below HR0.out HB.out) HC0.out (Mx.below HMX_.out HB.out) A9.out).mono ?_); rintro e w11 ⟨rfl, hb⟩; refine ⟨_, rfl, ?_⟩; replace HB := mSt HB hb; (try clear hb)))
   (try simp only [Act.put, List.setIfInBounds_toArray, List.set_cons_zero, List.set_cons_succ])
   go_cut [31] (fun v31 wc => ∃ (kq : Nat) (x31_9 : Bool), v31 = .bool x31_9 ∧ Aside0 (dancestudiolaw35_LangTexts.j1 kq l0 a1 t815 x31_9 = some r) ∧ Aside0 (kq ≤ kj2) ∧ Aside0 (Below w.heap.size w wc))
   case first =>
    have H := HC10.out
    clear HC10
    by_cases c12 : t816 = 0
    rotate_left
    ·
     rw [if_neg c12] at H
     have c12b0 := beq_eq_false_iff_ne.mpr c12
     have c12b1 := bne_iff_ne.mpr c12
     (first | rw [c12b0] | (simp only [i64_w, i32_w]; rw [c12b0]) | skip)
     have H' := Aside0.mk H
     clear H
     go_wp2
     go_meet
     case rel => exact ⟨_, (false), rfl, H', ⟨by have := HJ2.out; first | omega | exact Nat.le_refl _⟩, ⟨HB.out⟩⟩
    rw [if_pos c12] at H
    have c12b0 := beq_iff_eq.mpr c12
    have c12b1 := bne_eq_false_iff_eq.mpr c12
    clear c12
    (first | rw [c12b0] | (simp only [i64_w, i32_w]; rw [c12b0]) | skip)
    have H' := Aside0.mk H
    clear H
    go_wp2
    go_meet
    case rel => exact ⟨_, (decide ((t815.size : Int) ≤ 1024)), rfl, H', ⟨by have := HJ2.out; first | omega | exact Nat.le_refl _⟩, ⟨HB.out⟩⟩
   case rest =>
    clear HC10; try clear c1; try clear p2; try clear c5; try clear c6; try clear c8; try clear c10; try clear c11; try clear c12; try clear c12b0; try clear c12b1
    obtain ⟨kq, x31_9, rfl, HA, HJ9, HB⟩ := hcut
    cases kq with
    | zero => exact absurd HA.out (by simp [dancestudiolaw35_LangTexts.j1])
    | succ kj9 =>
     have H := HA.out
     clear HA
     simp only [dancestudiolaw35_LangTexts.j1] at H
     have HC13 := Aside0.mk H
     clear H
     go_upto_if 31 with (fail)
     go_cut [] (fun wc => ∃ (kq : Nat), Aside0 (dancestudiolaw35_LangTexts.j2 kq a1 = some r) ∧ Aside0 (kq ≤ kj9) ∧ Aside0 (Below w.heap.size w wc))
     case first =>
      have H := HC13.out
      clear HC13
      by_cases c14 : x31_9 = true
      rotate_left
      ·
       replace c14 := Bool.eq_false_iff.mpr c14
       subst c14
       rw [if_neg (show ¬ (false = true) by decide)] at H
       have H' := Aside0.mk H
       clear H
       go_wp2
       go_meet
       case rel => exact ⟨_, H', ⟨by have := HJ2.out; have := HJ9.out; first | omega | exact Nat.le_refl _⟩, ⟨HB.out⟩⟩
      subst c14
      rw [if_pos rfl] at H
      replace H := Option.bind_eq_some_iff.mp H
      obtain ⟨⟨t817, t818⟩, A150, H⟩ := H
      try dsimp only at H
      have A15 := Aside0.mk A150
      clear A150
      obtain ⟨c16, H⟩ : (t818 = 0) ∧ _ := mIf H
      have c16b0 := beq_iff_eq.mpr c16
      have c16b1 := bne_eq_false_iff_eq.mpr c16
      clear c16
      (first | rw [c16b0] | (simp only [i64_w, i32_w]; rw [c16b0]) | skip)
      replace H := Option.bind_eq_some_iff.mp H
      obtain ⟨t821, A170, H⟩ := H
      try dsimp only at H
      have A17 := Aside0.mk A170
      clear A170
      by_cases c18 : t821 = true
      rotate_left
      ·
       replace c18 := Bool.eq_false_iff.mpr c18
       subst c18
       rw [if_neg (show ¬ (false = true) by decide)] at H
       exact absurd H (by simp)
      subst c18
      rw [if_pos rfl] at H
      have H' := Aside0.mk H
      clear H
      go_wp2_with (first | ((with_reducible refine gate_callee (f := 19) rfl ?_); refine goesL_ (some 34) rfl rfl Tryd.func19 (by kernel_rfl) rfl #[.string t815] rfl (mA1 rfl) ?_; (with_reducible refine (lang_Parse.calls kj9 t815 t817 t818 _ (Mx.below HMX_.out HB.out) A15.out).mono ?_); rintro e w19 ⟨v819, rfl, ho0, hb⟩; refine ⟨_, rfl, ?_⟩; have HO820 := Aside0.mk (Kd.R_lower ho0 (below_size HB.out)); replace HB := mSt HB hb; (try clear hb); (try clear ho0); obtain ⟨Ao20, co20, eo20⟩ := Kd.R_slice HO820.out; subst eo20) | (go_at_call 21; (with_reducible refine (dancestudioref35_Same.calls kj9 _ _ t817 _ _ l0 true _ ((Kd.R_reads' HO820.out).2.2) ((Kd.R_reads' HO820.out).2.1) (Kd.C_below HR0.out HB.out) HC0.out A17.out).mono ?_); rintro e w' ⟨rfl, ⟨nd, rfl⟩⟩))
      go_meet
      case rel => exact ⟨_, H', ⟨by have := HJ2.out; have := HJ9.out; first | omega | exact Nat.le_refl _⟩, ⟨hO HB⟩⟩
     case rest =>
      clear HC13; try clear c1; try clear p2; try clear c5; try clear c6; try clear c8; try clear c10; try clear c11; try clear c12; try clear c12b0; try clear c12b1; try clear c14; try clear c16; try clear c16b0; try clear c16b1; try clear c18; try clear c19
      obtain ⟨kq, HA, HJ12, HB⟩ := hcut
      cases kq with
      | zero => exact absurd HA.out (by simp [dancestudiolaw35_LangTexts.j2])
      | succ kj12 =>
       have H := HA.out
       clear HA
       simp only [dancestudiolaw35_LangTexts.j2] at H
       replace H := Option.bind_eq_some_iff.mp H
       obtain ⟨⟨t822, t823⟩, A210, H⟩ := H
       try dsimp only at H
       have A21 := Aside0.mk A210
       clear A210
       by_cases c22 : t823 = 0
       rotate_left
       ·
        rw [if_neg c22] at H
        have c22b0 := beq_eq_false_iff_ne.mpr c22
        have c22b1 := bne_iff_ne.mpr c22
        obtain ⟨c33, H⟩ : ((t822.length : Int) = 0) ∧ _ := mIf H
        have c33b0 := beq_iff_eq.mpr c33
        have c33b1 := bne_eq_false_iff_eq.mpr c33
        clear c33
        replace H := Option.bind_eq_some_iff.mp H
        obtain ⟨t826, A340, H⟩ := H
        try dsimp only at H
        have A34 := Aside0.mk A340
        clear A340
        obtain rfl := Option.some.inj H
        go_wp2_with (first | ((with_reducible refine gate_callee (f := 19) rfl ?_); refine goesL_ (some 47) rfl rfl Tryd.func19 (by kernel_rfl) rfl #[.string a1] rfl (mA1 rfl) ?_; (with_reducible refine (lang_Parse.calls kj12 a1 t822 t823 _ (Mx.below HMX_.out HB.out) A21.out).mono ?_); rintro e w35 ⟨v824, rfl, ho0, hb⟩; refine ⟨_, rfl, ?_⟩; have HO825 := Aside0.mk (Kd.R_lower ho0 (below_size HB.out)); replace HB := mSt HB hb; (try clear hb); (try clear ho0); obtain ⟨Ao36, co36, eo36⟩ := Kd.R_slice HO825.out; subst eo36) | (go_at_call 11; (with_reducible refine (dancestudiolaw35_awake.calls kj12  t826 _ (Mx.below HMX_.out HB.out) A34.out).mono ?_); rintro e w37 ⟨rfl, hb⟩; replace HO825 := Aside0.mk (Kd.R_below HO825.out hb); replace HB := mSt HB hb; (try clear hb)))
        go_ret
        exact ⟨rfl, HB.out⟩
       rw [if_pos c22] at H
       have c22b0 := beq_iff_eq.mpr c22
       have c22b1 := bne_eq_false_iff_eq.mpr c22
       clear c22
       replace H := Option.bind_eq_some_iff.mp H
       obtain ⟨⟨t827, t828⟩, A230, H⟩ := H
       try dsimp only at H
       have A23 := Aside0.mk A230
       clear A230
       obtain ⟨c24, H⟩ : (t828 = 0) ∧ _ := mIf H
       have c24b0 := beq_iff_eq.mpr c24
       have c24b1 := bne_eq_false_iff_eq.mpr c24
       clear c24
       replace H := Option.bind_eq_some_iff.mp H
       obtain ⟨t829, A250, H⟩ := H
       try dsimp only at H
       have A25 := Aside0.mk A250
       clear A250
       replace H := Option.bind_eq_some_iff.mp H
       obtain ⟨t830, A260, H⟩ := H
       try dsimp only at H
       have A26 := Aside0.mk A260
       clear A260
       obtain ⟨c27, H⟩ : (t829.toList = t830.toList) ∧ _ := mIf H
       have c27b0 := beq_iff_eq.mpr c27
       have c27b1 := bne_eq_false_iff_eq.mpr c27
       clear c27
       replace H := Option.bind_eq_some_iff.mp H
       obtain ⟨t831, A280, H⟩ := H
       try dsimp only at H
       have A28 := Aside0.mk A280
       clear A280
       obtain rfl := Option.some.inj H
       go_wp2_with (first | ((with_reducible refine gate_callee (f := 19) rfl ?_); refine goesL_ (some 47) rfl rfl Tryd.func19 (by kernel_rfl) rfl #[.string a1] rfl (mA1 rfl) ?_; (with_reducible refine (lang_Parse.calls kj12 a1 t822 t823 _ ?sidem_ A21.out).mono ?_); (case sidem_ => first | ((repeat (first | exact HMX_.out | apply Mx.drewN | apply Mx.drew)); done) | (refine Mx.below HMX_.out ?_; (repeat (first | (with_reducible first | exact HB.out | apply below_alloc | apply pw_below_drewN | apply below_drew1 | refine below_set ?_ (Aside0.out (by assumption))) | exact HB.out)); done)); rintro e w29 ⟨v824, rfl, ho0, hb⟩; refine ⟨_, rfl, ?_⟩; have HO825 := Aside0.mk (Kd.R_lower ho0 (below_size (hO HB))); replace HB := mSx HB hb; (try clear hb); (try clear ho0); obtain ⟨Ao30, co30, eo30⟩ := Kd.R_slice HO825.out; subst eo30) | ((with_reducible refine gate_callee (f := 12) rfl ?_); refine goesL_ (some 60) rfl rfl Tryd.func12 (by kernel_rfl) rfl #[.slice Ao30 t822.length co30] rfl (mA1 rfl) ?_; (with_reducible refine (lang_Print.calls kj12 _ _ t822 t827 t828 _ ?side1 ?side2 ?sidem_ A23.out).mono ?_); (case sidem_ => first | ((repeat (first | exact HMX_.out | apply Mx.drewN | apply Mx.drew)); done) | (refine Mx.below HMX_.out ?_; (repeat (first | (with_reducible first | exact HB.out | apply below_alloc | apply pw_below_drewN | apply below_drew1 | refine below_set ?_ (Aside0.out (by assumption))) | exact HB.out)); done)); (case side1 => exact cO (Kd.R_reads' HO825.out).2.2); (case side2 => exact (Kd.R_reads' HO825.out).2.1); rintro e w31 ⟨rfl, hb⟩; refine ⟨_, rfl, ?_⟩; replace HO825 := Aside0.mk (Kd.R_below (rO HO825) hb); replace HB := mSx HB hb; (try clear hb)) | (go_at_call 26; (with_reducible refine (dancestudiolaw35_dense.calls kj12 t827 t829 _ A25.out).mono ?_); rintro e w' ⟨rfl, ⟨nd, rfl⟩⟩) | (go_at_call 26; (with_reducible refine (dancestudiolaw35_dense.calls kj12 a1 t830 _ A26.out).mono ?_); rintro e w' ⟨rfl, ⟨nd, rfl⟩⟩) | (go_at_call 11; (with_reducible refine (dancestudiolaw35_awake.calls kj12  t831 _ ?sidem_ A28.out).mono ?_); (case sidem_ => first | ((repeat (first | exact HMX_.out | apply Mx.drewN | apply Mx.drew)); done) | (refine Mx.below HMX_.out ?_; (repeat (first | (with_reducible first | exact HB.out | apply below_alloc | apply pw_below_drewN | apply below_drew1 | refine below_set ?_ (Aside0.out (by assumption))) | exact HB.out)); done)); rintro e w32 ⟨rfl, hb⟩; replace HO825 := Aside0.mk (Kd.R_below (rO HO825) hb); replace HB := mSx HB hb; (try clear hb)))
       go_ret
       exact ⟨rfl, HB.out⟩
end Go.Proofs.YtimikhbnihedkaaDoor.PAll
