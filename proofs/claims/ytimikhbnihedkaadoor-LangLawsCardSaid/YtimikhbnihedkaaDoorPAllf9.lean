-- Written by wip/tools/handprint.py: walks of the functions that the law reaches; Lean checks them.
import Derived.Test.YtimikhbnihedkaaDoorMC0
import Derived.Test.YtimikhbnihedkaaDoorMC3
import Derived.Test.YtimikhbnihedkaaDoorPAllf27
import Derived.Test.YtimikhbnihedkaaDoorPAllf28
namespace Go.Proofs.YtimikhbnihedkaaDoor.PAll
open Go.RowKit Go.Proofs.YtimikhbnihedkaaDoorW.PrintWords Go.Proofs.YtimikhbnihedkaaDoorW.PrintLast Go.Proofs.YtimikhbnihedkaaDoorW.PrintMore
attribute [local go_sem] max2_int min2_int max_two min_two max_three min_three max_four min_four   -- for this text's walks alone
set_option linter.unusedVariables false
set_option linter.unusedSimpArgs false

/-! ### dancestudiolaw35_LangLaws: function 9 -/
mutual
def dancestudiolaw35_LangLaws.j0 : Nat → List (S43) → Int → Bool → Option (Bool)
 | 0, _, _, _ => none
 | k + 1, x0, x1, x18 => if x18 = true then ((dancestudiolaw35_awake.f k).bind fun t849 => (some t849)) else ((dancestudiolaw35_above.f 3 0 x0).bind fun t850 => ((dancestudiolaw35_above.f 3 0 t850).bind fun t853 => ((dancestudiolaw35_alike.f k t853 x0).bind fun t856 => (if t856 = true then ((dancestudiolaw35_above.f 4 0 x0).bind fun t857 => ((dancestudiolaw35_above.f 4 0 t857).bind fun t860 => ((dancestudiolaw35_alike.f k t860 x0).bind fun t863 => (dancestudiolaw35_LangLaws.j1 k x0 (Int.tmod (wrap64 (x1)) 4) (!t863))))) else (dancestudiolaw35_LangLaws.j1 k x0 (Int.tmod (wrap64 (x1)) 4) true)))))
def dancestudiolaw35_LangLaws.j1 : Nat → List (S43) → Int → Bool → Option (Bool)
 | 0, _, _, _ => none
 | k + 1, x0, x5, x36 => if x36 = true then (none) else ((dancestudiolaw35_above.f 5 (Int.tmod (wrap64 (4 - x5)) 4) x0).bind fun t864 => ((dancestudiolaw35_above.f 5 x5 t864).bind fun t867 => ((dancestudiolaw35_alike.f k t867 x0).bind fun t870 => (if t870 = true then ((dancestudiolaw35_above.f 6 1 x0).bind fun t871 => ((dancestudiolaw35_alike.f k t871 x0).bind fun t874 => (if t874 = true then ((dancestudiolaw35_above.f 2 0 x0).bind fun t875 => ((dancestudiolaw35_alike.f k t875 x0).bind fun t878 => (dancestudiolaw35_LangLaws.j2 k x0 x5 (!t878)))) else (dancestudiolaw35_LangLaws.j2 k x0 x5 true)))) else (dancestudiolaw35_LangLaws.j2 k x0 x5 true)))))
def dancestudiolaw35_LangLaws.j2 : Nat → List (S43) → Int → Bool → Option (Bool)
 | 0, _, _, _ => none
 | k + 1, x0, x5, x60 => if x60 = true then (none) else ((dancestudiolaw35_above.f 4 0 x0).bind fun t879 => ((dancestudiolaw35_above.f 3 0 t879).bind fun t882 => ((dancestudiolaw35_above.f 3 0 x0).bind fun t885 => ((dancestudiolaw35_above.f 4 0 t885).bind fun t888 => ((dancestudiolaw35_alike.f k t882 t888).bind fun t891 => (if t891 = true then ((dancestudiolaw35_above.f 5 x5 x0).bind fun t892 => ((dancestudiolaw35_above.f 3 0 t892).bind fun t895 => ((dancestudiolaw35_above.f 3 0 x0).bind fun t898 => ((dancestudiolaw35_above.f 5 (Int.tmod (wrap64 (4 - x5)) 4) t898).bind fun t901 => ((dancestudiolaw35_alike.f k t895 t901).bind fun t904 => (if t904 = true then ((dancestudiolaw35_awake.f k).bind fun t905 => (some t905)) else (none))))))) else (none)))))))
end
def dancestudiolaw35_LangLaws.f (k : Nat) (l0 : List (S43)) (a1 : Int) : Option (Bool) := (dancestudiolaw35_short.f k l0).bind fun t847 => (if t847 = true then (if (l0.length : Int) > 62 then (dancestudiolaw35_LangLaws.j0 k l0 a1 true) else ((lang_Check.f k l0).bind fun t848 => (dancestudiolaw35_LangLaws.j0 k l0 a1 (t848 != 0)))) else (dancestudiolaw35_LangLaws.j0 k l0 a1 true))
set_option maxHeartbeats 8000000 in
set_option maxRecDepth 100000 in
theorem dancestudiolaw35_LangLaws.calls (k : Nat) (A0 : Option Addr) (c0 : Nat) (l0 : List (S43)) (a1 : Int) (r : Bool) (w : World) (hr0 : Kd.C k43 w A0 l0.length l0) (hc0 : l0.length ≤ c0) (hmx : Mx w) (h : dancestudiolaw35_LangLaws.f k l0 a1 = some r) :
  Calls Tryd.prog 9 #[.slice A0 l0.length c0, .int .u8 a1] w fun e w' => e = .returned (.bool r) ∧ Below w.heap.size w w' := by
 have HMX_ := Aside0.mk hmx
 clear hmx
 have HR0 := Aside0.mk hr0
 have HC0 := Aside0.mk hc0
 clear hr0 hc0
 have HB := Aside0.mk (Below.refl w.heap.size w)
 have H := h
 unfold dancestudiolaw35_LangLaws.f at H
 clear h
 have HC3 := Aside0.mk H
 clear H
 go_enter Tryd.func9, Tryd.ntmps9
 go_upto_region 1 with (fail)
 go_cut [18] (fun v18 wc => ∃ (kq : Nat) (x18_2 : Bool), v18 = .bool x18_2 ∧ Aside0 (dancestudiolaw35_LangLaws.j0 kq l0 a1 x18_2 = some r) ∧ Aside0 (kq ≤ k) ∧ Aside0 (Below w.heap.size w wc))
 case first =>
  have H := HC3.out
  clear HC3
  replace H := Option.bind_eq_some_iff.mp H
  obtain ⟨t847, A40, H⟩ := H
  try dsimp only at H
  have A4 := Aside0.mk A40
  clear A40
  by_cases c5 : t847 = true
  rotate_left
  ·
   replace c5 := Bool.eq_false_iff.mpr c5
   subst c5
   rw [if_neg (show ¬ (false = true) by decide)] at H
   have H' := Aside0.mk H
   clear H
   go_wp2_with (first | ((with_reducible refine gate_callee (f := 10) rfl ?_); refine goesL_ (some 7) rfl rfl Tryd.func10 (by kernel_rfl) rfl #[.slice A0 l0.length c0] rfl (mA1 rfl) ?_; (with_reducible refine (dancestudiolaw35_short.calls k _ _ l0 false _ (Kd.C_below HR0.out HB.out) HC0.out A4.out).mono ?_); rintro e w' ⟨rfl, ⟨nd, rfl⟩⟩; refine ⟨_, rfl, ?_⟩))
   go_meet
   case rel => exact ⟨_, (true), rfl, H', ⟨by first | omega | exact Nat.le_refl _⟩, ⟨hO HB⟩⟩
  subst c5
  rw [if_pos rfl] at H
  by_cases c6 : (l0.length : Int) > 62
  ·
   rw [if_pos c6] at H
   have c6b0 := decide_eq_true c6
   have c6b1 : decide (62 < l0.length) = true := decide_eq_true (by omega)
   clear c6
   (first | rw [c6b0] | (simp only [i64_w, i32_w]; rw [c6b0]) | skip)
   have H' := Aside0.mk H
   clear H
   go_wp2_with (first | ((with_reducible refine gate_callee (f := 10) rfl ?_); refine goesL_ (some 7) rfl rfl Tryd.func10 (by kernel_rfl) rfl #[.slice A0 l0.length c0] rfl (mA1 rfl) ?_; (with_reducible refine (dancestudiolaw35_short.calls k _ _ l0 true _ (Kd.C_below HR0.out HB.out) HC0.out A4.out).mono ?_); rintro e w' ⟨rfl, ⟨nd, rfl⟩⟩; refine ⟨_, rfl, ?_⟩))
   go_meet
   case rel => exact ⟨_, (true), rfl, H', ⟨by first | omega | exact Nat.le_refl _⟩, ⟨hO HB⟩⟩
  rw [if_neg c6] at H
  have c6b0 := decide_eq_false c6
  have c6b1 : decide (62 < l0.length) = false := decide_eq_false (by omega)
  clear c6
  (first | rw [c6b0] | (simp only [i64_w, i32_w]; rw [c6b0]) | skip)
  replace H := Option.bind_eq_some_iff.mp H
  obtain ⟨t848, A70, H⟩ := H
  try dsimp only at H
  have A7 := Aside0.mk A70
  clear A70
  have H' := Aside0.mk H
  clear H
  go_wp2_with (first | ((with_reducible refine gate_callee (f := 10) rfl ?_); refine goesL_ (some 7) rfl rfl Tryd.func10 (by kernel_rfl) rfl #[.slice A0 l0.length c0] rfl (mA1 rfl) ?_; (with_reducible refine (dancestudiolaw35_short.calls k _ _ l0 true _ (cO (Kd.C_below HR0.out HB.out)) HC0.out A4.out).mono ?_); rintro e w' ⟨rfl, ⟨nd, rfl⟩⟩; refine ⟨_, rfl, ?_⟩) | (go_at_call 16; (with_reducible refine (lang_Check.calls k _ _ l0 t848 _ ?side1 ?side2 ?sidem_ A7.out).mono ?_); (case sidem_ => first | ((repeat (first | exact HMX_.out | apply Mx.drewN | apply Mx.drew)); done) | (refine Mx.below HMX_.out ?_; (repeat (first | (with_reducible first | exact HB.out | apply below_alloc | apply pw_below_drewN | apply below_drew1 | refine below_set ?_ (Aside0.out (by assumption))) | exact HB.out)); done)); (case side1 => repeat (first | exact (Kd.C_below HR0.out (hO HB)) | (with_reducible refine Kd.C_alloc ?_ _) | (with_reducible refine Kd.C_drewN ?_ _) | (with_reducible refine Kd.C_drew ?_))); (case side2 => exact HC0.out); rintro e w8 ⟨rfl, hb⟩; replace HB := mSx HB hb; (try clear hb)))
  go_meet
  case rel => exact ⟨_, ((t848 != 0)), rfl, H', ⟨by first | omega | exact Nat.le_refl _⟩, ⟨HB.out⟩⟩
 case rest =>
  clear HC3; try clear c1; try clear p2; try clear c5; try clear c6; try clear c6b0; try clear c6b1
  obtain ⟨kq, x18_2, rfl, HA, HJ2, HB⟩ := hcut
  cases kq with
  | zero => exact absurd HA.out (by simp [dancestudiolaw35_LangLaws.j0])
  | succ kj2 =>
   have H := HA.out
   clear HA
   simp only [dancestudiolaw35_LangLaws.j0] at H
   by_cases c9 : x18_2 = true
   ·
    subst c9
    rw [if_pos rfl] at H
    replace H := Option.bind_eq_some_iff.mp H
    obtain ⟨t849, A100, H⟩ := H
    try dsimp only at H
    have A10 := Aside0.mk A100
    clear A100
    obtain rfl := Option.some.inj H
    go_wp2_with (first | ((with_reducible refine gate_callee (f := 11) rfl ?_); refine goesL_ (some 19) rfl rfl Tryd.func11 (by kernel_rfl) rfl #[] rfl (mA0) ?_; (with_reducible refine (dancestudiolaw35_awake.calls kj2  t849 _ (Mx.below HMX_.out HB.out) A10.out).mono ?_); rintro e w11 ⟨rfl, hb⟩; refine ⟨_, rfl, ?_⟩; replace HB := mSt HB hb; (try clear hb)))
    go_ret
    exact ⟨rfl, HB.out⟩
   replace c9 := Bool.eq_false_iff.mpr c9
   subst c9
   rw [if_neg (show ¬ (false = true) by decide)] at H
   have HC12 := Aside0.mk H
   clear H
   go_upto_region 4 with (fail)
   go_cut [36] (fun v36 wc => ∃ (kq : Nat) (x36_11 : Bool), v36 = .bool x36_11 ∧ Aside0 (dancestudiolaw35_LangLaws.j1 kq l0 (Int.tmod (wrap64 (a1)) 4) x36_11 = some r) ∧ Aside0 (kq ≤ kj2) ∧ Aside0 (Below w.heap.size w wc))
   case first =>
    have H := HC12.out
    clear HC12
    replace H := Option.bind_eq_some_iff.mp H
    obtain ⟨t850, A130, H⟩ := H
    try dsimp only at H
    have A13 := Aside0.mk A130
    clear A130
    replace H := Option.bind_eq_some_iff.mp H
    obtain ⟨t853, A140, H⟩ := H
    try dsimp only at H
    have A14 := Aside0.mk A140
    clear A140
    replace H := Option.bind_eq_some_iff.mp H
    obtain ⟨t856, A150, H⟩ := H
    try dsimp only at H
    have A15 := Aside0.mk A150
    clear A150
    by_cases c16 : t856 = true
    rotate_left
    ·
     replace c16 := Bool.eq_false_iff.mpr c16
     subst c16
     rw [if_neg (show ¬ (false = true) by decide)] at H
     have H' := Aside0.mk H
     clear H
     go_wp2_with (first | ((with_reducible refine gate_callee (f := 28) rfl ?_); refine goesL_ (some 24) rfl rfl Tryd.func28 (by kernel_rfl) rfl #[.int .i64 3, .int .i64 0, .slice A0 l0.length c0] rfl (mA3 rfl rfl rfl) ?_; (with_reducible refine (dancestudiolaw35_above.calls 3 0 _ _ l0 t850 _ (Kd.C_below HR0.out HB.out) HC0.out A13.out).mono ?_); rintro e w30 ⟨v851, rfl, ho0, hb⟩; refine ⟨_, rfl, ?_⟩; have HO852 := Aside0.mk (Kd.R_lower ho0 (below_size HB.out)); replace HB := mSt HB hb; (try clear hb); (try clear ho0); obtain ⟨Ao31, co31, eo31⟩ := Kd.R_slice HO852.out; subst eo31) | ((with_reducible refine gate_callee (f := 28) rfl ?_); refine goesL_ (some 25) rfl rfl Tryd.func28 (by kernel_rfl) rfl #[.int .i64 3, .int .i64 0, .slice Ao31 t850.length co31] rfl (mA3 rfl rfl rfl) ?_; (with_reducible refine (dancestudiolaw35_above.calls 3 0 _ _ t850 t853 _ ((Kd.R_reads' HO852.out).2.2) ((Kd.R_reads' HO852.out).2.1) A14.out).mono ?_); rintro e w32 ⟨v854, rfl, ho0, hb⟩; refine ⟨_, rfl, ?_⟩; have HO855 := Aside0.mk (Kd.R_lower (Kd.R_new' ho0 (Kd.R_lt HO852.out)) (below_size HB.out)); replace HO852 := Aside0.mk (Kd.R_elder' HO852.out (Kd.R_base ho0) hb); replace HB := mSt HB hb; (try clear hb); (try clear ho0); obtain ⟨Ao33, co33, eo33⟩ := Kd.R_slice HO855.out; subst eo33) | ((with_reducible refine gate_callee (f := 27) rfl ?_); refine goesL_ (some 27) rfl rfl Tryd.func27 (by kernel_rfl) rfl #[.slice Ao33 t853.length co33, .slice A0 l0.length c0] rfl (mA2 rfl rfl) ?_; (with_reducible refine (dancestudiolaw35_alike.calls kj2 _ _ t853 _ _ l0 false _ ((Kd.R_reads' HO855.out).2.2) ((Kd.R_reads' HO855.out).2.1) (Kd.C_below HR0.out HB.out) HC0.out (Mx.below HMX_.out HB.out) A15.out).mono ?_); rintro e w34 ⟨rfl, hb⟩; refine ⟨_, rfl, ?_⟩; replace HO852 := Aside0.mk (Kd.R_below HO852.out hb); replace HO855 := Aside0.mk (Kd.R_below HO855.out hb); replace HB := mSt HB hb; (try clear hb)))
     go_meet
     case rel => exact ⟨_, (true), rfl, H', ⟨by have := HJ2.out; first | omega | exact Nat.le_refl _⟩, ⟨HB.out⟩⟩
    subst c16
    rw [if_pos rfl] at H
    replace H := Option.bind_eq_some_iff.mp H
    obtain ⟨t857, A170, H⟩ := H
    try dsimp only at H
    have A17 := Aside0.mk A170
    clear A170
    replace H := Option.bind_eq_some_iff.mp H
    obtain ⟨t860, A180, H⟩ := H
    try dsimp only at H
    have A18 := Aside0.mk A180
    clear A180
    replace H := Option.bind_eq_some_iff.mp H
    obtain ⟨t863, A190, H⟩ := H
    try dsimp only at H
    have A19 := Aside0.mk A190
    clear A190
    have H' := Aside0.mk H
    clear H
    go_wp2_with (first | ((with_reducible refine gate_callee (f := 28) rfl ?_); refine goesL_ (some 24) rfl rfl Tryd.func28 (by kernel_rfl) rfl #[.int .i64 3, .int .i64 0, .slice A0 l0.length c0] rfl (mA3 rfl rfl rfl) ?_; (with_reducible refine (dancestudiolaw35_above.calls 3 0 _ _ l0 t850 _ (Kd.C_below HR0.out HB.out) HC0.out A13.out).mono ?_); rintro e w20 ⟨v851, rfl, ho0, hb⟩; refine ⟨_, rfl, ?_⟩; have HO852 := Aside0.mk (Kd.R_lower ho0 (below_size HB.out)); replace HB := mSt HB hb; (try clear hb); (try clear ho0); obtain ⟨Ao21, co21, eo21⟩ := Kd.R_slice HO852.out; subst eo21) | ((with_reducible refine gate_callee (f := 28) rfl ?_); refine goesL_ (some 25) rfl rfl Tryd.func28 (by kernel_rfl) rfl #[.int .i64 3, .int .i64 0, .slice Ao21 t850.length co21] rfl (mA3 rfl rfl rfl) ?_; (with_reducible refine (dancestudiolaw35_above.calls 3 0 _ _ t850 t853 _ ((Kd.R_reads' HO852.out).2.2) ((Kd.R_reads' HO852.out).2.1) A14.out).mono ?_); rintro e w22 ⟨v854, rfl, ho0, hb⟩; refine ⟨_, rfl, ?_⟩; have HO855 := Aside0.mk (Kd.R_lower (Kd.R_new' ho0 (Kd.R_lt HO852.out)) (below_size HB.out)); replace HO852 := Aside0.mk (Kd.R_elder' HO852.out (Kd.R_base ho0) hb); replace HB := mSt HB hb; (try clear hb); (try clear ho0); obtain ⟨Ao23, co23, eo23⟩ := Kd.R_slice HO855.out; subst eo23) | ((with_reducible refine gate_callee (f := 27) rfl ?_); refine goesL_ (some 27) rfl rfl Tryd.func27 (by kernel_rfl) rfl #[.slice Ao23 t853.length co23, .slice A0 l0.length c0] rfl (mA2 rfl rfl) ?_; (with_reducible refine (dancestudiolaw35_alike.calls kj2 _ _ t853 _ _ l0 true _ ((Kd.R_reads' HO855.out).2.2) ((Kd.R_reads' HO855.out).2.1) (Kd.C_below HR0.out HB.out) HC0.out (Mx.below HMX_.out HB.out) A15.out).mono ?_); rintro e w24 ⟨rfl, hb⟩; refine ⟨_, rfl, ?_⟩; replace HO852 := Aside0.mk (Kd.R_below HO852.out hb); replace HO855 := Aside0.mk (Kd.R_below HO855.out hb); replace HB := mSt HB hb; (try clear hb)) | (go_at_call 28; (with_reducible refine (dancestudiolaw35_above.calls 4 0 _ _ l0 t857 _ (Kd.C_below HR0.out HB.out) HC0.out A17.out).mono ?_); rintro e w25 ⟨v858, rfl, ho0, hb⟩; have HO859 := Aside0.mk (Kd.R_lower (Kd.R_new' (Kd.R_new' ho0 (Kd.R_lt HO852.out)) (Kd.R_lt HO855.out)) (below_size HB.out)); replace HO852 := Aside0.mk (Kd.R_elder' HO852.out (Kd.R_base ho0) hb); replace HO855 := Aside0.mk (Kd.R_elder' HO855.out (Kd.R_base ho0) hb); replace HB := mSt HB hb; (try clear hb); (try clear ho0); obtain ⟨Ao26, co26, eo26⟩ := Kd.R_slice HO859.out; subst eo26) | (go_at_call 28; (with_reducible refine (dancestudiolaw35_above.calls 4 0 _ _ t857 t860 _ ((Kd.R_reads' HO859.out).2.2) ((Kd.R_reads' HO859.out).2.1) A18.out).mono ?_); rintro e w27 ⟨v861, rfl, ho0, hb⟩; have HO862 := Aside0.mk (Kd.R_lower (Kd.R_new' (Kd.R_new' (Kd.R_new' ho0 (Kd.R_lt HO852.out)) (Kd.R_lt HO855.out)) (Kd.R_lt HO859.out)) (below_size HB.out)); replace HO852 := Aside0.mk (Kd.R_elder' HO852.out (Kd.R_base ho0) hb); replace HO855 := Aside0.mk (Kd.R_elder' HO855.out (Kd.R_base ho0) hb); replace HO859 := Aside0.mk (Kd.R_elder' HO859.out (Kd.R_base ho0) hb); replace HB := mSt HB hb; (try clear hb); (try clear ho0); obtain ⟨Ao28, co28, eo28⟩ := Kd.R_slice HO862.out; subst eo28) | (go_at_call 27; (with_reducible refine (dancestudiolaw35_alike.calls kj2 _ _ t860 _ _ l0 t863 _ ((Kd.R_reads' HO862.out).2.2) ((Kd.R_reads' HO862.out).2.1) (Kd.C_below HR0.out HB.out) HC0.out (Mx.below HMX_.out HB.out) A19.out).mono ?_); rintro e w29 ⟨rfl, hb⟩; replace HO852 := Aside0.mk (Kd.R_below HO852.out hb); replace HO855 := Aside0.mk (Kd.R_below HO855.out hb); replace HO859 := Aside0.mk (Kd.R_below HO859.out hb); replace HO862 := Aside0.mk (Kd.R_below HO862.out hb); replace HB := mSt HB hb; (try clear hb)))
    go_meet
    case rel => exact ⟨_, (!t863), rfl, H', ⟨by have := HJ2.out; first | omega | exact Nat.le_refl _⟩, ⟨HB.out⟩⟩
   case rest =>
    clear HC12; try clear c1; try clear c2; try clear p2; try clear c5; try clear c6; try clear c6b0; try clear c6b1; try clear p6; try clear c9; try clear c10; try clear c11; try clear c16; try clear c27; try clear c28
    obtain ⟨kq, x36_11, rfl, HA, HJ11, HB⟩ := hcut
    cases kq with
    | zero => exact absurd HA.out (by simp [dancestudiolaw35_LangLaws.j1])
    | succ kj11 =>
     have H := HA.out
     clear HA
     simp only [dancestudiolaw35_LangLaws.j1] at H
     by_cases c35 : x36_11 = true
     ·
      subst c35
      rw [if_pos rfl] at H
      exact absurd H (by simp)
     replace c35 := Bool.eq_false_iff.mpr c35
     subst c35
     rw [if_neg (show ¬ (false = true) by decide)] at H
     have HC36 := Aside0.mk H
     clear H
     go_upto_region 6 with (fail)
     go_cut [60] (fun v60 wc => ∃ (kq : Nat) (x60_35 : Bool), v60 = .bool x60_35 ∧ Aside0 (dancestudiolaw35_LangLaws.j2 kq l0 (Int.tmod (wrap64 (a1)) 4) x60_35 = some r) ∧ Aside0 (kq ≤ kj11) ∧ Aside0 (Below w.heap.size w wc))
     case first =>
      have H := HC36.out
      clear HC36
      replace H := Option.bind_eq_some_iff.mp H
      obtain ⟨t864, A370, H⟩ := H
      try dsimp only at H
      have A37 := Aside0.mk A370
      clear A370
      replace H := Option.bind_eq_some_iff.mp H
      obtain ⟨t867, A380, H⟩ := H
      try dsimp only at H
      have A38 := Aside0.mk A380
      clear A380
      replace H := Option.bind_eq_some_iff.mp H
      obtain ⟨t870, A390, H⟩ := H
      try dsimp only at H
      have A39 := Aside0.mk A390
      clear A390
      by_cases c40 : t870 = true
      rotate_left
      ·
       replace c40 := Bool.eq_false_iff.mpr c40
       subst c40
       rw [if_neg (show ¬ (false = true) by decide)] at H
       have H' := Aside0.mk H
       clear H
       go_wp2_with (first | ((with_reducible refine gate_callee (f := 28) rfl ?_); refine goesL_ (some 42) rfl rfl Tryd.func28 (by kernel_rfl) rfl #[.int .i64 5, .int .i64 (Int.tmod (wrap64 (4 - (Int.tmod (wrap64 (a1)) 4))) 4), .slice A0 l0.length c0] rfl (mA3 rfl rfl rfl) ?_; (with_reducible refine (dancestudiolaw35_above.calls 5 (Int.tmod (wrap64 (4 - (Int.tmod (wrap64 (a1)) 4))) 4) _ _ l0 t864 _ (Kd.C_below HR0.out HB.out) HC0.out A37.out).mono ?_); rintro e w65 ⟨v865, rfl, ho0, hb⟩; refine ⟨_, rfl, ?_⟩; have HO866 := Aside0.mk (Kd.R_lower ho0 (below_size HB.out)); replace HB := mSt HB hb; (try clear hb); (try clear ho0); obtain ⟨Ao66, co66, eo66⟩ := Kd.R_slice HO866.out; subst eo66) | ((with_reducible refine gate_callee (f := 28) rfl ?_); refine goesL_ (some 43) rfl rfl Tryd.func28 (by kernel_rfl) rfl #[.int .i64 5, .int .i64 (Int.tmod (wrap64 (a1)) 4), .slice Ao66 t864.length co66] rfl (mA3 rfl rfl rfl) ?_; (with_reducible refine (dancestudiolaw35_above.calls 5 (Int.tmod (wrap64 (a1)) 4) _ _ t864 t867 _ ((Kd.R_reads' HO866.out).2.2) ((Kd.R_reads' HO866.out).2.1) A38.out).mono ?_); rintro e w67 ⟨v868, rfl, ho0, hb⟩; refine ⟨_, rfl, ?_⟩; have HO869 := Aside0.mk (Kd.R_lower (Kd.R_new' ho0 (Kd.R_lt HO866.out)) (below_size HB.out)); replace HO866 := Aside0.mk (Kd.R_elder' HO866.out (Kd.R_base ho0) hb); replace HB := mSt HB hb; (try clear hb); (try clear ho0); obtain ⟨Ao68, co68, eo68⟩ := Kd.R_slice HO869.out; subst eo68) | ((with_reducible refine gate_callee (f := 27) rfl ?_); refine goesL_ (some 45) rfl rfl Tryd.func27 (by kernel_rfl) rfl #[.slice Ao68 t867.length co68, .slice A0 l0.length c0] rfl (mA2 rfl rfl) ?_; (with_reducible refine (dancestudiolaw35_alike.calls kj11 _ _ t867 _ _ l0 false _ ((Kd.R_reads' HO869.out).2.2) ((Kd.R_reads' HO869.out).2.1) (Kd.C_below HR0.out HB.out) HC0.out (Mx.below HMX_.out HB.out) A39.out).mono ?_); rintro e w69 ⟨rfl, hb⟩; refine ⟨_, rfl, ?_⟩; replace HO866 := Aside0.mk (Kd.R_below HO866.out hb); replace HO869 := Aside0.mk (Kd.R_below HO869.out hb); replace HB := mSt HB hb; (try clear hb)))
       go_meet
       case rel => exact ⟨_, (true), rfl, H', ⟨by have := HJ2.out; have := HJ11.out; first | omega | exact Nat.le_refl _⟩, ⟨HB.out⟩⟩
      subst c40
      rw [if_pos rfl] at H
      replace H := Option.bind_eq_some_iff.mp H
      obtain ⟨t871, A410, H⟩ := H
      try dsimp only at H
      have A41 := Aside0.mk A410
      clear A410
      replace H := Option.bind_eq_some_iff.mp H
      obtain ⟨t874, A420, H⟩ := H
      try dsimp only at H
      have A42 := Aside0.mk A420
      clear A420
      by_cases c43 : t874 = true
      rotate_left
      ·
       replace c43 := Bool.eq_false_iff.mpr c43
       subst c43
       rw [if_neg (show ¬ (false = true) by decide)] at H
       have H' := Aside0.mk H
       clear H
       go_wp2_with (first | ((with_reducible refine gate_callee (f := 28) rfl ?_); refine goesL_ (some 42) rfl rfl Tryd.func28 (by kernel_rfl) rfl #[.int .i64 5, .int .i64 (Int.tmod (wrap64 (4 - (Int.tmod (wrap64 (a1)) 4))) 4), .slice A0 l0.length c0] rfl (mA3 rfl rfl rfl) ?_; (with_reducible refine (dancestudiolaw35_above.calls 5 (Int.tmod (wrap64 (4 - (Int.tmod (wrap64 (a1)) 4))) 4) _ _ l0 t864 _ (Kd.C_below HR0.out HB.out) HC0.out A37.out).mono ?_); rintro e w57 ⟨v865, rfl, ho0, hb⟩; refine ⟨_, rfl, ?_⟩; have HO866 := Aside0.mk (Kd.R_lower ho0 (below_size HB.out)); replace HB := mSt HB hb; (try clear hb); (try clear ho0); obtain ⟨Ao58, co58, eo58⟩ := Kd.R_slice HO866.out; subst eo58) | ((with_reducible refine gate_callee (f := 28) rfl ?_); refine goesL_ (some 43) rfl rfl Tryd.func28 (by kernel_rfl) rfl #[.int .i64 5, .int .i64 (Int.tmod (wrap64 (a1)) 4), .slice Ao58 t864.length co58] rfl (mA3 rfl rfl rfl) ?_; (with_reducible refine (dancestudiolaw35_above.calls 5 (Int.tmod (wrap64 (a1)) 4) _ _ t864 t867 _ ((Kd.R_reads' HO866.out).2.2) ((Kd.R_reads' HO866.out).2.1) A38.out).mono ?_); rintro e w59 ⟨v868, rfl, ho0, hb⟩; refine ⟨_, rfl, ?_⟩; have HO869 := Aside0.mk (Kd.R_lower (Kd.R_new' ho0 (Kd.R_lt HO866.out)) (below_size HB.out)); replace HO866 := Aside0.mk (Kd.R_elder' HO866.out (Kd.R_base ho0) hb); replace HB := mSt HB hb; (try clear hb); (try clear ho0); obtain ⟨Ao60, co60, eo60⟩ := Kd.R_slice HO869.out; subst eo60) | ((with_reducible refine gate_callee (f := 27) rfl ?_); refine goesL_ (some 45) rfl rfl Tryd.func27 (by kernel_rfl) rfl #[.slice Ao60 t867.length co60, .slice A0 l0.length c0] rfl (mA2 rfl rfl) ?_; (with_reducible refine (dancestudiolaw35_alike.calls kj11 _ _ t867 _ _ l0 true _ ((Kd.R_reads' HO869.out).2.2) ((Kd.R_reads' HO869.out).2.1) (Kd.C_below HR0.out HB.out) HC0.out (Mx.below HMX_.out HB.out) A39.out).mono ?_); rintro e w61 ⟨rfl, hb⟩; refine ⟨_, rfl, ?_⟩; replace HO866 := Aside0.mk (Kd.R_below HO866.out hb); replace HO869 := Aside0.mk (Kd.R_below HO869.out hb); replace HB := mSt HB hb; (try clear hb)) | (go_at_call 28; (with_reducible refine (dancestudiolaw35_above.calls 6 1 _ _ l0 t871 _ (Kd.C_below HR0.out HB.out) HC0.out A41.out).mono ?_); rintro e w62 ⟨v872, rfl, ho0, hb⟩; have HO873 := Aside0.mk (Kd.R_lower (Kd.R_new' (Kd.R_new' ho0 (Kd.R_lt HO866.out)) (Kd.R_lt HO869.out)) (below_size HB.out)); replace HO866 := Aside0.mk (Kd.R_elder' HO866.out (Kd.R_base ho0) hb); replace HO869 := Aside0.mk (Kd.R_elder' HO869.out (Kd.R_base ho0) hb); replace HB := mSt HB hb; (try clear hb); (try clear ho0); obtain ⟨Ao63, co63, eo63⟩ := Kd.R_slice HO873.out; subst eo63) | (go_at_call 27; (with_reducible refine (dancestudiolaw35_alike.calls kj11 _ _ t871 _ _ l0 false _ ((Kd.R_reads' HO873.out).2.2) ((Kd.R_reads' HO873.out).2.1) (Kd.C_below HR0.out HB.out) HC0.out (Mx.below HMX_.out HB.out) A42.out).mono ?_); rintro e w64 ⟨rfl, hb⟩; replace HO866 := Aside0.mk (Kd.R_below HO866.out hb); replace HO869 := Aside0.mk (Kd.R_below HO869.out hb); replace HO873 := Aside0.mk (Kd.R_below HO873.out hb); replace HB := mSt HB hb; (try clear hb)))
       go_meet
       case rel => exact ⟨_, (true), rfl, H', ⟨by have := HJ2.out; have := HJ11.out; first | omega | exact Nat.le_refl _⟩, ⟨HB.out⟩⟩
      subst c43
      rw [if_pos rfl] at H
      replace H := Option.bind_eq_some_iff.mp H
      obtain ⟨t875, A440, H⟩ := H
      try dsimp only at H
      have A44 := Aside0.mk A440
      clear A440
      replace H := Option.bind_eq_some_iff.mp H
      obtain ⟨t878, A450, H⟩ := H
      try dsimp only at H
      have A45 := Aside0.mk A450
      clear A450
      have H' := Aside0.mk H
      clear H
      go_wp2_with (first | ((with_reducible refine gate_callee (f := 28) rfl ?_); refine goesL_ (some 42) rfl rfl Tryd.func28 (by kernel_rfl) rfl #[.int .i64 5, .int .i64 (Int.tmod (wrap64 (4 - (Int.tmod (wrap64 (a1)) 4))) 4), .slice A0 l0.length c0] rfl (mA3 rfl rfl rfl) ?_; (with_reducible refine (dancestudiolaw35_above.calls 5 (Int.tmod (wrap64 (4 - (Int.tmod (wrap64 (a1)) 4))) 4) _ _ l0 t864 _ (Kd.C_below HR0.out HB.out) HC0.out A37.out).mono ?_); rintro e w46 ⟨v865, rfl, ho0, hb⟩; refine ⟨_, rfl, ?_⟩; have HO866 := Aside0.mk (Kd.R_lower ho0 (below_size HB.out)); replace HB := mSt HB hb; (try clear hb); (try clear ho0); obtain ⟨Ao47, co47, eo47⟩ := Kd.R_slice HO866.out; subst eo47) | ((with_reducible refine gate_callee (f := 28) rfl ?_); refine goesL_ (some 43) rfl rfl Tryd.func28 (by kernel_rfl) rfl #[.int .i64 5, .int .i64 (Int.tmod (wrap64 (a1)) 4), .slice Ao47 t864.length co47] rfl (mA3 rfl rfl rfl) ?_; (with_reducible refine (dancestudiolaw35_above.calls 5 (Int.tmod (wrap64 (a1)) 4) _ _ t864 t867 _ ((Kd.R_reads' HO866.out).2.2) ((Kd.R_reads' HO866.out).2.1) A38.out).mono ?_); rintro e w48 ⟨v868, rfl, ho0, hb⟩; refine ⟨_, rfl, ?_⟩; have HO869 := Aside0.mk (Kd.R_lower (Kd.R_new' ho0 (Kd.R_lt HO866.out)) (below_size HB.out)); replace HO866 := Aside0.mk (Kd.R_elder' HO866.out (Kd.R_base ho0) hb); replace HB := mSt HB hb; (try clear hb); (try clear ho0); obtain ⟨Ao49, co49, eo49⟩ := Kd.R_slice HO869.out; subst eo49) | ((with_reducible refine gate_callee (f := 27) rfl ?_); refine goesL_ (some 45) rfl rfl Tryd.func27 (by kernel_rfl) rfl #[.slice Ao49 t867.length co49, .slice A0 l0.length c0] rfl (mA2 rfl rfl) ?_; (with_reducible refine (dancestudiolaw35_alike.calls kj11 _ _ t867 _ _ l0 true _ ((Kd.R_reads' HO869.out).2.2) ((Kd.R_reads' HO869.out).2.1) (Kd.C_below HR0.out HB.out) HC0.out (Mx.below HMX_.out HB.out) A39.out).mono ?_); rintro e w50 ⟨rfl, hb⟩; refine ⟨_, rfl, ?_⟩; replace HO866 := Aside0.mk (Kd.R_below HO866.out hb); replace HO869 := Aside0.mk (Kd.R_below HO869.out hb); replace HB := mSt HB hb; (try clear hb)) | (go_at_call 28; (with_reducible refine (dancestudiolaw35_above.calls 6 1 _ _ l0 t871 _ (Kd.C_below HR0.out HB.out) HC0.out A41.out).mono ?_); rintro e w51 ⟨v872, rfl, ho0, hb⟩; have HO873 := Aside0.mk (Kd.R_lower (Kd.R_new' (Kd.R_new' ho0 (Kd.R_lt HO866.out)) (Kd.R_lt HO869.out)) (below_size HB.out)); replace HO866 := Aside0.mk (Kd.R_elder' HO866.out (Kd.R_base ho0) hb); replace HO869 := Aside0.mk (Kd.R_elder' HO869.out (Kd.R_base ho0) hb); replace HB := mSt HB hb; (try clear hb); (try clear ho0); obtain ⟨Ao52, co52, eo52⟩ := Kd.R_slice HO873.out; subst eo52) | (go_at_call 27; (with_reducible refine (dancestudiolaw35_alike.calls kj11 _ _ t871 _ _ l0 true _ ((Kd.R_reads' HO873.out).2.2) ((Kd.R_reads' HO873.out).2.1) (Kd.C_below HR0.out HB.out) HC0.out (Mx.below HMX_.out HB.out) A42.out).mono ?_); rintro e w53 ⟨rfl, hb⟩; replace HO866 := Aside0.mk (Kd.R_below HO866.out hb); replace HO869 := Aside0.mk (Kd.R_below HO869.out hb); replace HO873 := Aside0.mk (Kd.R_below HO873.out hb); replace HB := mSt HB hb; (try clear hb)) | (go_at_call 28; (with_reducible refine (dancestudiolaw35_above.calls 2 0 _ _ l0 t875 _ (Kd.C_below HR0.out HB.out) HC0.out A44.out).mono ?_); rintro e w54 ⟨v876, rfl, ho0, hb⟩; have HO877 := Aside0.mk (Kd.R_lower (Kd.R_new' (Kd.R_new' (Kd.R_new' ho0 (Kd.R_lt HO866.out)) (Kd.R_lt HO869.out)) (Kd.R_lt HO873.out)) (below_size HB.out)); replace HO866 := Aside0.mk (Kd.R_elder' HO866.out (Kd.R_base ho0) hb); replace HO869 := Aside0.mk (Kd.R_elder' HO869.out (Kd.R_base ho0) hb); replace HO873 := Aside0.mk (Kd.R_elder' HO873.out (Kd.R_base ho0) hb); replace HB := mSt HB hb; (try clear hb); (try clear ho0); obtain ⟨Ao55, co55, eo55⟩ := Kd.R_slice HO877.out; subst eo55) | (go_at_call 27; (with_reducible refine (dancestudiolaw35_alike.calls kj11 _ _ t875 _ _ l0 t878 _ ((Kd.R_reads' HO877.out).2.2) ((Kd.R_reads' HO877.out).2.1) (Kd.C_below HR0.out HB.out) HC0.out (Mx.below HMX_.out HB.out) A45.out).mono ?_); rintro e w56 ⟨rfl, hb⟩; replace HO866 := Aside0.mk (Kd.R_below HO866.out hb); replace HO869 := Aside0.mk (Kd.R_below HO869.out hb); replace HO873 := Aside0.mk (Kd.R_below HO873.out hb); replace HO877 := Aside0.mk (Kd.R_below HO877.out hb); replace HB := mSt HB hb; (try clear hb)))
      go_meet
      case rel => exact ⟨_, (!t878), rfl, H', ⟨by have := HJ2.out; have := HJ11.out; first | omega | exact Nat.le_refl _⟩, ⟨HB.out⟩⟩
     case rest =>
      clear HC36; try clear c1; try clear c2; try clear p2; try clear c3; try clear c4; try clear c5; try clear c6; try clear c6b0; try clear c6b1; try clear p6; try clear c9; try clear c10; try clear c11; try clear c16; try clear c27; try clear c28; try clear c35; try clear c40; try clear c43; try clear p64
      obtain ⟨kq, x60_35, rfl, HA, HJ35, HB⟩ := hcut
      cases kq with
      | zero => exact absurd HA.out (by simp [dancestudiolaw35_LangLaws.j2])
      | succ kj35 =>
       have H := HA.out
       clear HA
       simp only [dancestudiolaw35_LangLaws.j2] at H
       by_cases c70 : x60_35 = true
       ·
        subst c70
        rw [if_pos rfl] at H
        exact absurd H (by simp)
       replace c70 := Bool.eq_false_iff.mpr c70
       subst c70
       rw [if_neg (show ¬ (false = true) by decide)] at H
       replace H := Option.bind_eq_some_iff.mp H
       obtain ⟨t879, A710, H⟩ := H
       try dsimp only at H
       have A71 := Aside0.mk A710
       clear A710
       replace H := Option.bind_eq_some_iff.mp H
       obtain ⟨t882, A720, H⟩ := H
       try dsimp only at H
       have A72 := Aside0.mk A720
       clear A720
       replace H := Option.bind_eq_some_iff.mp H
       obtain ⟨t885, A730, H⟩ := H
       try dsimp only at H
       have A73 := Aside0.mk A730
       clear A730
       replace H := Option.bind_eq_some_iff.mp H
       obtain ⟨t888, A740, H⟩ := H
       try dsimp only at H
       have A74 := Aside0.mk A740
       clear A740
       replace H := Option.bind_eq_some_iff.mp H
       obtain ⟨t891, A750, H⟩ := H
       try dsimp only at H
       have A75 := Aside0.mk A750
       clear A750
       by_cases c76 : t891 = true
       rotate_left
       ·
        replace c76 := Bool.eq_false_iff.mpr c76
        subst c76
        rw [if_neg (show ¬ (false = true) by decide)] at H
        exact absurd H (by simp)
       subst c76
       rw [if_pos rfl] at H
       replace H := Option.bind_eq_some_iff.mp H
       obtain ⟨t892, A770, H⟩ := H
       try dsimp only at H
       have A77 := Aside0.mk A770
       clear A770
       replace H := Option.bind_eq_some_iff.mp H
       obtain ⟨t895, A780, H⟩ := H
       try dsimp only at H
       have A78 := Aside0.mk A780
       clear A780
       replace H := Option.bind_eq_some_iff.mp H
       obtain ⟨t898, A790, H⟩ := H
       try dsimp only at H
       have A79 := Aside0.mk A790
       clear A790
       replace H := Option.bind_eq_some_iff.mp H
       obtain ⟨t901, A800, H⟩ := H
       try dsimp only at H
       have A80 := Aside0.mk A800
       clear A800
       replace H := Option.bind_eq_some_iff.mp H
       obtain ⟨t904, A810, H⟩ := H
       try dsimp only at H
       have A81 := Aside0.mk A810
       clear A810
       by_cases c82 : t904 = true
       rotate_left
       ·
        replace c82 := Bool.eq_false_iff.mpr c82
        subst c82
        rw [if_neg (show ¬ (false = true) by decide)] at H
        exact absurd H (by simp)
       subst c82
       rw [if_pos rfl] at H
       replace H := Option.bind_eq_some_iff.mp H
       obtain ⟨t905, A830, H⟩ := H
       try dsimp only at H
       have A83 := Aside0.mk A830
       clear A830
       obtain rfl := Option.some.inj H
       go_wp2_with (first | ((with_reducible refine gate_callee (f := 28) rfl ?_); refine goesL_ (some 62) rfl rfl Tryd.func28 (by kernel_rfl) rfl #[.int .i64 4, .int .i64 0, .slice A0 l0.length c0] rfl (mA3 rfl rfl rfl) ?_; (with_reducible refine (dancestudiolaw35_above.calls 4 0 _ _ l0 t879 _ (Kd.C_below HR0.out HB.out) HC0.out A71.out).mono ?_); rintro e w84 ⟨v880, rfl, ho0, hb⟩; refine ⟨_, rfl, ?_⟩; have HO881 := Aside0.mk (Kd.R_lower ho0 (below_size HB.out)); replace HB := mSt HB hb; (try clear hb); (try clear ho0); obtain ⟨Ao85, co85, eo85⟩ := Kd.R_slice HO881.out; subst eo85) | ((with_reducible refine gate_callee (f := 28) rfl ?_); refine goesL_ (some 63) rfl rfl Tryd.func28 (by kernel_rfl) rfl #[.int .i64 3, .int .i64 0, .slice Ao85 t879.length co85] rfl (mA3 rfl rfl rfl) ?_; (with_reducible refine (dancestudiolaw35_above.calls 3 0 _ _ t879 t882 _ ((Kd.R_reads' HO881.out).2.2) ((Kd.R_reads' HO881.out).2.1) A72.out).mono ?_); rintro e w86 ⟨v883, rfl, ho0, hb⟩; refine ⟨_, rfl, ?_⟩; have HO884 := Aside0.mk (Kd.R_lower (Kd.R_new' ho0 (Kd.R_lt HO881.out)) (below_size HB.out)); replace HO881 := Aside0.mk (Kd.R_elder' HO881.out (Kd.R_base ho0) hb); replace HB := mSt HB hb; (try clear hb); (try clear ho0)) | ((with_reducible refine gate_callee (f := 28) rfl ?_); refine goesL_ (some 65) rfl rfl Tryd.func28 (by kernel_rfl) rfl #[.int .i64 3, .int .i64 0, .slice A0 l0.length c0] rfl (mA3 rfl rfl rfl) ?_; (with_reducible refine (dancestudiolaw35_above.calls 3 0 _ _ l0 t885 _ (Kd.C_below HR0.out HB.out) HC0.out A73.out).mono ?_); rintro e w87 ⟨v886, rfl, ho0, hb⟩; refine ⟨_, rfl, ?_⟩; have HO887 := Aside0.mk (Kd.R_lower (Kd.R_new' (Kd.R_new' ho0 (Kd.R_lt HO881.out)) (Kd.R_lt HO884.out)) (below_size HB.out)); replace HO881 := Aside0.mk (Kd.R_elder' HO881.out (Kd.R_base ho0) hb); replace HO884 := Aside0.mk (Kd.R_elder' HO884.out (Kd.R_base ho0) hb); replace HB := mSt HB hb; (try clear hb); (try clear ho0); obtain ⟨Ao88, co88, eo88⟩ := Kd.R_slice HO887.out; subst eo88) | ((with_reducible refine gate_callee (f := 28) rfl ?_); refine goesL_ (some 66) rfl rfl Tryd.func28 (by kernel_rfl) rfl #[.int .i64 4, .int .i64 0, .slice Ao88 t885.length co88] rfl (mA3 rfl rfl rfl) ?_; (with_reducible refine (dancestudiolaw35_above.calls 4 0 _ _ t885 t888 _ ((Kd.R_reads' HO887.out).2.2) ((Kd.R_reads' HO887.out).2.1) A74.out).mono ?_); rintro e w89 ⟨v889, rfl, ho0, hb⟩; refine ⟨_, rfl, ?_⟩; have HO890 := Aside0.mk (Kd.R_lower (Kd.R_new' (Kd.R_new' (Kd.R_new' ho0 (Kd.R_lt HO881.out)) (Kd.R_lt HO884.out)) (Kd.R_lt HO887.out)) (below_size HB.out)); replace HO881 := Aside0.mk (Kd.R_elder' HO881.out (Kd.R_base ho0) hb); replace HO884 := Aside0.mk (Kd.R_elder' HO884.out (Kd.R_base ho0) hb); replace HO887 := Aside0.mk (Kd.R_elder' HO887.out (Kd.R_base ho0) hb); replace HB := mSt HB hb; (try clear hb); (try clear ho0); obtain ⟨Ao90, co90, eo90⟩ := Kd.R_slice HO884.out; subst eo90; obtain ⟨Ao91, co91, eo91⟩ := Kd.R_slice HO890.out; subst eo91) | ((with_reducible refine gate_callee (f := 27) rfl ?_); refine goesL_ (some 67) rfl rfl Tryd.func27 (by kernel_rfl) rfl #[.slice Ao90 t882.length co90, .slice Ao91 t888.length co91] rfl (mA2 rfl rfl) ?_; (with_reducible refine (dancestudiolaw35_alike.calls kj35 _ _ t882 _ _ t888 true _ ((Kd.R_reads' HO884.out).2.2) ((Kd.R_reads' HO884.out).2.1) ((Kd.R_reads' HO890.out).2.2) ((Kd.R_reads' HO890.out).2.1) (Mx.below HMX_.out HB.out) A75.out).mono ?_); rintro e w92 ⟨rfl, hb⟩; refine ⟨_, rfl, ?_⟩; replace HO881 := Aside0.mk (Kd.R_below HO881.out hb); replace HO884 := Aside0.mk (Kd.R_below HO884.out hb); replace HO887 := Aside0.mk (Kd.R_below HO887.out hb); replace HO890 := Aside0.mk (Kd.R_below HO890.out hb); replace HB := mSt HB hb; (try clear hb)) | ((with_reducible refine gate_callee (f := 28) rfl ?_); refine goesL_ (some 71) rfl rfl Tryd.func28 (by kernel_rfl) rfl #[.int .i64 5, .int .i64 (Int.tmod (wrap64 (a1)) 4), .slice A0 l0.length c0] rfl (mA3 rfl rfl rfl) ?_; (with_reducible refine (dancestudiolaw35_above.calls 5 (Int.tmod (wrap64 (a1)) 4) _ _ l0 t892 _ (Kd.C_below HR0.out HB.out) HC0.out A77.out).mono ?_); rintro e w93 ⟨v893, rfl, ho0, hb⟩; refine ⟨_, rfl, ?_⟩; have HO894 := Aside0.mk (Kd.R_lower (Kd.R_new' (Kd.R_new' (Kd.R_new' (Kd.R_new' ho0 (Kd.R_lt HO881.out)) (Kd.R_lt HO884.out)) (Kd.R_lt HO887.out)) (Kd.R_lt HO890.out)) (below_size HB.out)); replace HO881 := Aside0.mk (Kd.R_elder' HO881.out (Kd.R_base ho0) hb); replace HO884 := Aside0.mk (Kd.R_elder' HO884.out (Kd.R_base ho0) hb); replace HO887 := Aside0.mk (Kd.R_elder' HO887.out (Kd.R_base ho0) hb); replace HO890 := Aside0.mk (Kd.R_elder' HO890.out (Kd.R_base ho0) hb); replace HB := mSt HB hb; (try clear hb); (try clear ho0); obtain ⟨Ao94, co94, eo94⟩ := Kd.R_slice HO894.out; subst eo94) | ((with_reducible refine gate_callee (f := 28) rfl ?_); refine goesL_ (some 72) rfl rfl Tryd.func28 (by kernel_rfl) rfl #[.int .i64 3, .int .i64 0, .slice Ao94 t892.length co94] rfl (mA3 rfl rfl rfl) ?_; (with_reducible refine (dancestudiolaw35_above.calls 3 0 _ _ t892 t895 _ ((Kd.R_reads' HO894.out).2.2) ((Kd.R_reads' HO894.out).2.1) A78.out).mono ?_); rintro e w95 ⟨v896, rfl, ho0, hb⟩; refine ⟨_, rfl, ?_⟩; have HO897 := Aside0.mk (Kd.R_lower (Kd.R_new' (Kd.R_new' (Kd.R_new' (Kd.R_new' (Kd.R_new' ho0 (Kd.R_lt HO881.out)) (Kd.R_lt HO884.out)) (Kd.R_lt HO887.out)) (Kd.R_lt HO890.out)) (Kd.R_lt HO894.out)) (below_size HB.out)); replace HO881 := Aside0.mk (Kd.R_elder' HO881.out (Kd.R_base ho0) hb); replace HO884 := Aside0.mk (Kd.R_elder' HO884.out (Kd.R_base ho0) hb); replace HO887 := Aside0.mk (Kd.R_elder' HO887.out (Kd.R_base ho0) hb); replace HO890 := Aside0.mk (Kd.R_elder' HO890.out (Kd.R_base ho0) hb); replace HO894 := Aside0.mk (Kd.R_elder' HO894.out (Kd.R_base ho0) hb); replace HB := mSt HB hb; (try clear hb); (try clear ho0)) | ((with_reducible refine gate_callee (f := 28) rfl ?_); refine goesL_ (some 77) rfl rfl Tryd.func28 (by kernel_rfl) rfl #[.int .i64 3, .int .i64 0, .slice A0 l0.length c0] rfl (mA3 rfl rfl rfl) ?_; (with_reducible refine (dancestudiolaw35_above.calls 3 0 _ _ l0 t898 _ (Kd.C_below HR0.out HB.out) HC0.out A79.out).mono ?_); rintro e w96 ⟨v899, rfl, ho0, hb⟩; refine ⟨_, rfl, ?_⟩; have HO900 := Aside0.mk (Kd.R_lower (Kd.R_new' (Kd.R_new' (Kd.R_new' (Kd.R_new' (Kd.R_new' (Kd.R_new' ho0 (Kd.R_lt HO881.out)) (Kd.R_lt HO884.out)) (Kd.R_lt HO887.out)) (Kd.R_lt HO890.out)) (Kd.R_lt HO894.out)) (Kd.R_lt HO897.out)) (below_size HB.out)); replace HO881 := Aside0.mk (Kd.R_elder' HO881.out (Kd.R_base ho0) hb); replace HO884 := Aside0.mk (Kd.R_elder' HO884.out (Kd.R_base ho0) hb); replace HO887 := Aside0.mk (Kd.R_elder' HO887.out (Kd.R_base ho0) hb); replace HO890 := Aside0.mk (Kd.R_elder' HO890.out (Kd.R_base ho0) hb); replace HO894 := Aside0.mk (Kd.R_elder' HO894.out (Kd.R_base ho0) hb); replace HO897 := Aside0.mk (Kd.R_elder' HO897.out (Kd.R_base ho0) hb); replace HB := mSt HB hb; (try clear hb); (try clear ho0); obtain ⟨Ao97, co97, eo97⟩ := Kd.R_slice HO900.out; subst eo97) | ((with_reducible refine gate_callee (f := 28) rfl ?_); refine goesL_ (some 78) rfl rfl Tryd.func28 (by kernel_rfl) rfl #[.int .i64 5, .int .i64 (Int.tmod (wrap64 (4 - (Int.tmod (wrap64 (a1)) 4))) 4), .slice Ao97 t898.length co97] rfl (mA3 rfl rfl rfl) ?_; (with_reducible refine (dancestudiolaw35_above.calls 5 (Int.tmod (wrap64 (4 - (Int.tmod (wrap64 (a1)) 4))) 4) _ _ t898 t901 _ ((Kd.R_reads' HO900.out).2.2) ((Kd.R_reads' HO900.out).2.1) A80.out).mono ?_); rintro e w98 ⟨v902, rfl, ho0, hb⟩; refine ⟨_, rfl, ?_⟩; have HO903 := Aside0.mk (Kd.R_lower (Kd.R_new' (Kd.R_new' (Kd.R_new' (Kd.R_new' (Kd.R_new' (Kd.R_new' (Kd.R_new' ho0 (Kd.R_lt HO881.out)) (Kd.R_lt HO884.out)) (Kd.R_lt HO887.out)) (Kd.R_lt HO890.out)) (Kd.R_lt HO894.out)) (Kd.R_lt HO897.out)) (Kd.R_lt HO900.out)) (below_size HB.out)); replace HO881 := Aside0.mk (Kd.R_elder' HO881.out (Kd.R_base ho0) hb); replace HO884 := Aside0.mk (Kd.R_elder' HO884.out (Kd.R_base ho0) hb); replace HO887 := Aside0.mk (Kd.R_elder' HO887.out (Kd.R_base ho0) hb); replace HO890 := Aside0.mk (Kd.R_elder' HO890.out (Kd.R_base ho0) hb); replace HO894 := Aside0.mk (Kd.R_elder' HO894.out (Kd.R_base ho0) hb); replace HO897 := Aside0.mk (Kd.R_elder' HO897.out (Kd.R_base ho0) hb); replace HO900 := Aside0.mk (Kd.R_elder' HO900.out (Kd.R_base ho0) hb); replace HB := mSt HB hb; (try clear hb); (try clear ho0); obtain ⟨Ao99, co99, eo99⟩ := Kd.R_slice HO897.out; subst eo99; obtain ⟨Ao100, co100, eo100⟩ := Kd.R_slice HO903.out; subst eo100) | ((with_reducible refine gate_callee (f := 27) rfl ?_); refine goesL_ (some 79) rfl rfl Tryd.func27 (by kernel_rfl) rfl #[.slice Ao99 t895.length co99, .slice Ao100 t901.length co100] rfl (mA2 rfl rfl) ?_; (with_reducible refine (dancestudiolaw35_alike.calls kj35 _ _ t895 _ _ t901 true _ ((Kd.R_reads' HO897.out).2.2) ((Kd.R_reads' HO897.out).2.1) ((Kd.R_reads' HO903.out).2.2) ((Kd.R_reads' HO903.out).2.1) (Mx.below HMX_.out HB.out) A81.out).mono ?_); rintro e w101 ⟨rfl, hb⟩; refine ⟨_, rfl, ?_⟩; replace HO881 := Aside0.mk (Kd.R_below HO881.out hb); replace HO884 := Aside0.mk (Kd.R_below HO884.out hb); replace HO887 := Aside0.mk (Kd.R_below HO887.out hb); replace HO890 := Aside0.mk (Kd.R_below HO890.out hb); replace HO894 := Aside0.mk (Kd.R_below HO894.out hb); replace HO897 := Aside0.mk (Kd.R_below HO897.out hb); replace HO900 := Aside0.mk (Kd.R_below HO900.out hb); replace HO903 := Aside0.mk (Kd.R_below HO903.out hb); replace HB := mSt HB hb; (try clear hb)) | (go_at_call 11; (with_reducible refine (dancestudiolaw35_awake.calls kj35  t905 _ (Mx.below HMX_.out HB.out) A83.out).mono ?_); rintro e w102 ⟨rfl, hb⟩; replace HO881 := Aside0.mk (Kd.R_below HO881.out hb); replace HO884 := Aside0.mk (Kd.R_below HO884.out hb); replace HO887 := Aside0.mk (Kd.R_below HO887.out hb); replace HO890 := Aside0.mk (Kd.R_below HO890.out hb); replace HO894 := Aside0.mk (Kd.R_below HO894.out hb); replace HO897 := Aside0.mk (Kd.R_below HO897.out hb); replace HO900 := Aside0.mk (Kd.R_below HO900.out hb); replace HO903 := Aside0.mk (Kd.R_below HO903.out hb); replace HB := mSt HB hb; (try clear hb)))
       go_ret
       exact ⟨rfl, HB.out⟩
end Go.Proofs.YtimikhbnihedkaaDoor.PAll
