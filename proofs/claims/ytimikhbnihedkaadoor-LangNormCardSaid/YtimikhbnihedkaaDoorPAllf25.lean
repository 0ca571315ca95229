-- Written by wip/tools/handprint.py: walks of the functions that the law reaches; Lean checks them.
import Derived.Test.YtimikhbnihedkaaDoorMC0
import Derived.Test.YtimikhbnihedkaaDoorPAllf15
import Derived.Test.YtimikhbnihedkaaDoorPAllf33
import Derived.Test.YtimikhbnihedkaaDoorPAllf48
namespace Go.Proofs.YtimikhbnihedkaaDoor.PAll
open Go.RowKit Go.Proofs.YtimikhbnihedkaaDoorW.PrintWords Go.Proofs.YtimikhbnihedkaaDoorW.PrintLast Go.Proofs.YtimikhbnihedkaaDoorW.PrintMore
attribute [local go_sem] max2_int min2_int max_two min_two max_three min_three max_four min_four   -- for this text's walks alone
set_option linter.unusedVariables false
set_option linter.unusedSimpArgs false

/-! ### dancestudioref35_Length: function 25 -/
mutual
def dancestudioref35_Length.l0 : Nat → List (S43) → List ByteArray → List Int → List ByteArray → Int → Option (Int × Int)
 | 0, _, _, _, _, _ => none
 | k + 1, x0, x1, x2, x8, x10 => if x10 < (x8.length : Int) then (if 0 ≤ x10 then ((dancestudioref35_index.f k x1 (rdOf ByteArray.empty x8 x10)).bind fun t773 => (if t773 < 0 then (dancestudioref35_Length.j1 k x0 x1 x2 x8 x10 t773 true) else (dancestudioref35_Length.j1 k x0 x1 x2 x8 x10 t773 (decide (t773 ≥ (x2.length : Int)))))) else (none)) else ((dancestudioref35_long.f k x0 x1 x2).bind fun t771 => (if t771 > 8192 then (some (0, 1)) else (some (t771, 0))))
def dancestudioref35_Length.j1 : Nat → List (S43) → List ByteArray → List Int → List ByteArray → Int → Int → Bool → Option (Int × Int)
 | 0, _, _, _, _, _, _, _ => none
 | k + 1, x0, x1, x2, x8, x10, x11, x40 => if x40 = true then (some (0, 6)) else (if 0 ≤ x11 then (if x11 < (x2.length : Int) then (if (rd x2 x11) < 1 then (some (0, 1)) else (if (rd x2 x11) > 8192 then (some (0, 1)) else (dancestudioref35_Length.l0 k x0 x1 x2 x8 (wrap64 (x10 + 1))))) else (none)) else (none))
end
def dancestudioref35_Length.f (k : Nat) (l0 : List (S43)) (l1 : List ByteArray) (l2 : List Int) : Option (Int × Int) := (dancestudioref35_Names.f k l0).bind fun bt767 => (if bt767.2 = 0 then (dancestudioref35_Length.l0 k l0 l1 l2 bt767.1 0) else (some (0, bt767.2)))
set_option maxHeartbeats 8000000 in
set_option maxRecDepth 100000 in
theorem dancestudioref35_Length.calls (k : Nat) (A0 : Option Addr) (c0 : Nat) (l0 : List (S43)) (A1 : Option Addr) (c1 : Nat) (l1 : List ByteArray) (A2 : Option Addr) (c2 : Nat) (l2 : List Int) (r1 : Int) (r2 : Int) (w : World) (hr0 : Kd.C k43 w A0 l0.length l0) (hc0 : l0.length ≤ c0) (hr1 : Kd.C Kd.string w A1 l1.length l1) (hc1 : l1.length ≤ c1) (hr2 : Kd.C (Kd.int .i64) w A2 l2.length l2) (hc2 : l2.length ≤ c2) (h : dancestudioref35_Length.f k l0 l1 l2 = some (r1, r2)) :
  Calls Tryd.prog 25 #[.slice A0 l0.length c0, .slice A1 l1.length c1, .slice A2 l2.length c2] w fun e w' => e = .returned (.tuple #[.int .i64 r1, .int .i64 r2]) ∧ Below w.heap.size w w' := by
 have HR0 := Aside0.mk hr0
 have HC0 := Aside0.mk hc0
 clear hr0 hc0
 have HR1 := Aside0.mk hr1
 have HC1 := Aside0.mk hc1
 clear hr1 hc1
 have HR2 := Aside0.mk hr2
 have HC2 := Aside0.mk hc2
 clear hr2 hc2
 have HB := Aside0.mk (Below.refl w.heap.size w)
 have H := h
 unfold dancestudioref35_Length.f at H
 clear h
 replace H := Option.bind_eq_some_iff.mp H
 obtain ⟨⟨t767, t768⟩, A40, H⟩ := H
 try dsimp only at H
 have A4 := Aside0.mk A40
 clear A40
 by_cases c5 : t768 = 0
 rotate_left
 ·
  rw [if_neg c5] at H
  have c5b0 := beq_eq_false_iff_ne.mpr c5
  have c5b1 := bne_iff_ne.mpr c5
  simp only [Option.some.injEq, Prod.mk.injEq] at H
  obtain ⟨rfl, rfl⟩ := H
  go_enter Tryd.func25, Tryd.ntmps25
  go_wp2_with (first | ((with_reducible refine gate_callee (f := 15) rfl ?_); refine goesL_ (some 15) rfl rfl Tryd.func15 (by kernel_rfl) rfl #[.slice A0 l0.length c0] rfl (mA1 rfl) ?_; (with_reducible refine (dancestudioref35_Names.calls k _ _ l0 t767 t768 _ HR0.out HC0.out A4.out).mono ?_); rintro e w24 ⟨v769, rfl, ho0, hb⟩; refine ⟨_, rfl, ?_⟩; have HO770 := Aside0.mk (Kd.R_lower ho0 (below_size HB.out)); replace HB := mSt HB hb; (try clear hb); (try clear ho0)))
  go_ret2
  exact ⟨rfl, HB.out⟩
 rw [if_pos c5] at H
 have c5b0 := beq_iff_eq.mpr c5
 have c5b1 := bne_eq_false_iff_eq.mpr c5
 clear c5
 have H' := Aside0.mk H
 clear H
 go_enter Tryd.func25, Tryd.ntmps25
 go_wp2_with (first | ((with_reducible refine gate_callee (f := 15) rfl ?_); refine goesL_ (some 15) rfl rfl Tryd.func15 (by kernel_rfl) rfl #[.slice A0 l0.length c0] rfl (mA1 rfl) ?_; (with_reducible refine (dancestudioref35_Names.calls k _ _ l0 t767 t768 _ HR0.out HC0.out A4.out).mono ?_); rintro e w6 ⟨v769, rfl, ho0, hb⟩; refine ⟨_, rfl, ?_⟩; have HO770 := Aside0.mk (Kd.R_lower ho0 (below_size HB.out)); replace HB := mSt HB hb; (try clear hb); (try clear ho0)))
 go_loopg [10] k (fun kq v10 w' => ∃ (x10_1 : Int), v10 = .int .i64 x10_1 ∧ Aside0 (dancestudioref35_Length.l0 kq l0 l1 l2 t767 x10_1 = some (r1, r2)) ∧ Aside0 (kq ≤ k) ∧ Aside0 (Kd.R Kd.string 9 w' w.heap.size (fun _ => True) v769 t767) ∧ Aside0 (Below w.heap.size w w'))
 case atStart => exact ⟨(0), rfl, H', ⟨Nat.le_refl _⟩, HO770, ⟨HB.out⟩⟩
 case round =>
  clear H'
  clear c5b0 c5b1
  obtain ⟨x10_1, rfl, HA, HK1, HO_8, HB⟩ := hrel
  cases gk with
  | zero => exact absurd HA.out (by simp [dancestudioref35_Length.l0])
  | succ k1 =>
   have H := HA.out
   clear HA
   simp only [dancestudioref35_Length.l0] at H
   by_cases c7 : x10_1 < (t767.length : Int)
   rotate_left
   ·
    rw [if_neg c7] at H
    have c7b0 := decide_eq_false c7
    clear c7
    replace H := Option.bind_eq_some_iff.mp H
    obtain ⟨t771, A180, H⟩ := H
    try dsimp only at H
    have A18 := Aside0.mk A180
    clear A180
    by_cases c19 : t771 > 8192
    rotate_left
    ·
     rw [if_neg c19] at H
     have c19b0 := decide_eq_false c19
     clear c19
     simp only [Option.some.injEq, Prod.mk.injEq] at H
     obtain ⟨rfl, rfl⟩ := H
     obtain ⟨Ao22, co22, eo22⟩ := Kd.R_slice HO_8.out
     subst eo22
     go_wp2_with (first | ((with_reducible refine gate_callee (f := 48) rfl ?_); refine goesL_ (some 56) rfl rfl Tryd.func48 (by kernel_rfl) rfl #[.slice A0 l0.length c0, .slice A1 l1.length c1, .slice A2 l2.length c2] rfl (mA3 rfl rfl rfl) ?_; (with_reducible refine (dancestudioref35_long.calls k1 _ _ l0 _ _ l1 _ _ l2 t771 _ (Kd.C_below HR0.out HB.out) HC0.out (Kd.C_below HR1.out HB.out) HC1.out (Kd.C_below HR2.out HB.out) HC2.out A18.out).mono ?_); rintro e w23 ⟨rfl, hb⟩; refine ⟨_, rfl, ?_⟩; replace HO_8 := Aside0.mk (Kd.R_below HO_8.out hb); replace HB := mSt HB hb; (try clear hb)))
     go_ret2
     exact ⟨rfl, HB.out⟩
    rw [if_pos c19] at H
    have c19b0 := decide_eq_true c19
    clear c19
    simp only [Option.some.injEq, Prod.mk.injEq] at H
    obtain ⟨rfl, rfl⟩ := H
    obtain ⟨Ao20, co20, eo20⟩ := Kd.R_slice HO_8.out
    subst eo20
    go_wp2_with (first | ((with_reducible refine gate_callee (f := 48) rfl ?_); refine goesL_ (some 56) rfl rfl Tryd.func48 (by kernel_rfl) rfl #[.slice A0 l0.length c0, .slice A1 l1.length c1, .slice A2 l2.length c2] rfl (mA3 rfl rfl rfl) ?_; (with_reducible refine (dancestudioref35_long.calls k1 _ _ l0 _ _ l1 _ _ l2 t771 _ (Kd.C_below HR0.out HB.out) HC0.out (Kd.C_below HR1.out HB.out) HC1.out (Kd.C_below HR2.out HB.out) HC2.out A18.out).mono ?_); rintro e w21 ⟨rfl, hb⟩; refine ⟨_, rfl, ?_⟩; replace HO_8 := Aside0.mk (Kd.R_below HO_8.out hb); replace HB := mSt HB hb; (try clear hb)))
    go_ret2
    exact ⟨rfl, HB.out⟩
   rw [if_pos c7] at H
   have c7b0 := decide_eq_true c7
   clear c7
   obtain ⟨c8, H⟩ : (0 ≤ x10_1) ∧ _ := mIf H
   have c8b0 := decide_eq_true c8
   clear c8
   replace H := Option.bind_eq_some_iff.mp H
   obtain ⟨t773, A90, H⟩ := H
   try dsimp only at H
   have A9 := Aside0.mk A90
   clear A90
   have HC10 := Aside0.mk H
   clear H
   obtain ⟨Ao11, co11, eo11⟩ := Kd.R_slice HO_8.out
   subst eo11
   have p772 : 0 ≤ (x10_1 : Int) := of_decide_eq_true (by assumption)
   have q772 : x10_1 < (t767.length : Int) := of_decide_eq_true (by assumption)
   obtain ⟨ad772, e772, hx772_0⟩ := Kd.at_string (Kd.R_reads' HO_8.out).2.2 x10_1 p772 q772
   cases e772
   replace p772 := eq_true p772
   replace q772 := eq_true q772
   go_upto_region 8 with (first | ((with_reducible refine gate_callee (f := 33) rfl ?_); refine goesL_ (some 32) rfl rfl Tryd.func33 (by kernel_rfl) rfl #[.slice A1 l1.length c1, .string (rdOf ByteArray.empty t767 x10_1)] rfl (mA2 rfl rfl) ?_; (with_reducible refine (dancestudioref35_index.calls k1 _ _ l1 (rdOf ByteArray.empty t767 x10_1) t773 _ (Kd.C_below HR1.out HB.out) HC1.out A9.out).mono ?_); rintro e w' ⟨rfl, ⟨nd, rfl⟩⟩; refine ⟨_, rfl, ?_⟩))
   (try simp only [Act.put, List.setIfInBounds_toArray, List.set_cons_zero, List.set_cons_succ])
   go_cut [40] (fun v40 wc => ∃ (kq : Nat) (x40_9 : Bool), v40 = .bool x40_9 ∧ Aside0 (dancestudioref35_Length.j1 kq l0 l1 l2 t767 x10_1 t773 x40_9 = some (r1, r2)) ∧ Aside0 (kq ≤ k1) ∧ Aside0 (Kd.R Kd.string 9 wc w.heap.size (fun _ => True) (.slice (some ad772) t767.length co11) t767) ∧ Aside0 (Below w.heap.size w wc))
   case first =>
    have H := HC10.out
    clear HC10
    by_cases c12 : t773 < 0
    rotate_left
    ·
     rw [if_neg c12] at H
     have c12b0 := decide_eq_false c12
     clear c12
     (first | rw [c12b0] | (simp only [i64_w, i32_w]; rw [c12b0]) | skip)
     have H' := Aside0.mk H
     clear H
     go_wp2
     go_meet
     case rel => exact ⟨_, (decide (t773 ≥ (l2.length : Int))), rfl, H', ⟨by have := HK1.out; first | omega | exact Nat.le_refl _⟩, HO_8, ⟨hO HB⟩⟩
    rw [if_pos c12] at H
    have c12b0 := decide_eq_true c12
    clear c12
    (first | rw [c12b0] | (simp only [i64_w, i32_w]; rw [c12b0]) | skip)
    have H' := Aside0.mk H
    clear H
    go_wp2
    go_meet
    case rel => exact ⟨_, (true), rfl, H', ⟨by have := HK1.out; first | omega | exact Nat.le_refl _⟩, HO_8, ⟨hO HB⟩⟩
   case rest =>
    clear HC10; try clear c1; try clear c2; try clear p2; try clear c3; try clear c5; try clear c5b0; try clear c5b1; try clear c7; try clear c7b0; try clear p7; try clear q7; try clear hx7; try clear c8; try clear c8b0; try clear c12; try clear c12b0; try clear hx772_0; try clear p772; try clear q772
    obtain ⟨kq, x40_9, rfl, HA, HJ9, HO_8, HB⟩ := hcut
    cases kq with
    | zero => exact absurd HA.out (by simp [dancestudioref35_Length.j1])
    | succ kj9 =>
     have H := HA.out
     clear HA
     simp only [dancestudioref35_Length.j1] at H
     by_cases c13 : x40_9 = true
     ·
      subst c13
      rw [if_pos rfl] at H
      simp only [Option.some.injEq, Prod.mk.injEq] at H
      obtain ⟨rfl, rfl⟩ := H
      go_wp2
      go_ret2
      exact ⟨rfl, HB.out⟩
     replace c13 := Bool.eq_false_iff.mpr c13
     subst c13
     rw [if_neg (show ¬ (false = true) by decide)] at H
     obtain ⟨c14, H⟩ : (0 ≤ t773) ∧ _ := mIf H
     have c14b0 := decide_eq_true c14
     clear c14
     obtain ⟨c15, H⟩ : (t773 < (l2.length : Int)) ∧ _ := mIf H
     have c15b0 := decide_eq_true c15
     clear c15
     by_cases c16 : (rd l2 t773) < 1
     ·
      rw [if_pos c16] at H
      have c16b0 := decide_eq_true c16
      clear c16
      simp only [Option.some.injEq, Prod.mk.injEq] at H
      obtain ⟨rfl, rfl⟩ := H
      have p774 : 0 ≤ (t773 : Int) := of_decide_eq_true (by assumption)
      have q774 : t773 < (l2.length : Int) := of_decide_eq_true (by assumption)
      obtain ⟨ad774, e774, hx774_0⟩ := Kd.at_int HR2.out t773 p774 q774
      cases e774
      replace hx774_0 := mHx HB hx774_0
      replace p774 := eq_true p774
      replace q774 := eq_true q774
      go_wp2
      go_ret2
      exact ⟨rfl, HB.out⟩
     rw [if_neg c16] at H
     have c16b0 := decide_eq_false c16
     clear c16
     by_cases c17 : (rd l2 t773) > 8192
     ·
      rw [if_pos c17] at H
      have c17b0 := decide_eq_true c17
      clear c17
      simp only [Option.some.injEq, Prod.mk.injEq] at H
      obtain ⟨rfl, rfl⟩ := H
      have p774 : 0 ≤ (t773 : Int) := of_decide_eq_true (by assumption)
      have q774 : t773 < (l2.length : Int) := of_decide_eq_true (by assumption)
      obtain ⟨ad774, e774, hx774_0⟩ := Kd.at_int HR2.out t773 p774 q774
      cases e774
      replace hx774_0 := mHx HB hx774_0
      replace p774 := eq_true p774
      replace q774 := eq_true q774
      have p775 : 0 ≤ (t773 : Int) := of_decide_eq_true (by assumption)
      have q775 : t773 < (l2.length : Int) := of_decide_eq_true (by assumption)
      obtain ⟨ad775, e775, hx775_0⟩ := Kd.at_int HR2.out t773 p775 q775
      obtain rfl : ad774 = ad775 := (by injection e775)
      replace hx775_0 := mHx HB hx775_0
      replace p775 := eq_true p775
      replace q775 := eq_true q775
      go_wp2
      go_ret2
      exact ⟨rfl, HB.out⟩
     rw [if_neg c17] at H
     have c17b0 := decide_eq_false c17
     clear c17
     have H' := Aside0.mk H
     clear H
     have p774 : 0 ≤ (t773 : Int) := of_decide_eq_true (by assumption)
     have q774 : t773 < (l2.length : Int) := of_decide_eq_true (by assumption)
     obtain ⟨ad774, e774, hx774_0⟩ := Kd.at_int HR2.out t773 p774 q774
     cases e774
     replace hx774_0 := mHx HB hx774_0
     replace p774 := eq_true p774
     replace q774 := eq_true q774
     have p775 : 0 ≤ (t773 : Int) := of_decide_eq_true (by assumption)
     have q775 : t773 < (l2.length : Int) := of_decide_eq_true (by assumption)
     obtain ⟨ad775, e775, hx775_0⟩ := Kd.at_int HR2.out t773 p775 q775
     obtain rfl : ad774 = ad775 := (by injection e775)
     replace hx775_0 := mHx HB hx775_0
     replace p775 := eq_true p775
     replace q775 := eq_true q775
     go_wp2
     go_roundg kj9
     case measure => have := HK1.out; have := HJ9.out; omega
     case rel => exact ⟨(wrap64 (x10_1 + 1)), rfl, H', ⟨by have := HK1.out; have := HJ9.out; omega⟩, HO_8, ⟨HB.out⟩⟩
end Go.Proofs.YtimikhbnihedkaaDoor.PAll
