-- Written by wip/tools/handprint.py: walks of the functions that the law reaches; Lean checks them.
import Derived.Test.YtaggccbndmmbhaaDoorBase
namespace Go.Proofs.YtaggccbndmmbhaaDoor.PAll
open Go.RowKit Go.Proofs.YtaggccbndmmbhaaDoorW.PrintWords Go.Proofs.YtaggccbndmmbhaaDoorW.PrintLast Go.Proofs.YtaggccbndmmbhaaDoorW.PrintMore
attribute [local go_sem] max2_int min2_int max_two min_two max_three min_three max_four min_four   -- for this text's walks alone
set_option linter.unusedVariables false
set_option linter.unusedSimpArgs false

/-! ### dancestudioref11_Check: function 60 -/
mutual
def dancestudioref11_Check.l0 : Nat → List (List Int) → Int → Option (Int)
 | 0, _, _ => none
 | k + 1, x0, x3 => if x3 < (x0.length : Int) then (if 0 ≤ x3 then (if ((rd_L2 x0 x3).length : Int) = (x0.length : Int) then (dancestudioref11_Check.l0 k x0 (wrap64 (x3 + 1))) else (some 2)) else (none)) else (dancestudioref11_Check.l1 k x0 0)
def dancestudioref11_Check.l1 : Nat → List (List Int) → Int → Option (Int)
 | 0, _, _ => none
 | k + 1, x0, x4 => if x4 < (x0.length : Int) then (dancestudioref11_Check.l2 k x0 x4 0) else (some 0)
def dancestudioref11_Check.l2 : Nat → List (List Int) → Int → Int → Option (Int)
 | 0, _, _, _ => none
 | k + 1, x0, x4, x5 => if x5 < (x0.length : Int) then (if 0 ≤ x4 then (if x4 < (x0.length : Int) then (if 0 ≤ x5 then (if x5 < ((rd_L2 x0 x4).length : Int) then (if (rd (rd_L2 x0 x4) x5) < 0 then (some 1) else (if (rd (rd_L2 x0 x4) x5) > 1099511627776 then (some 1) else (dancestudioref11_Check.l2 k x0 x4 (wrap64 (x5 + 1))))) else (none)) else (none)) else (none)) else (none)) else (dancestudioref11_Check.l1 k x0 (wrap64 (x4 + 1)))
end
def dancestudioref11_Check.f (k : Nat) (l0 : List (List Int)) : Option (Int) := if (l0.length : Int) > 16 then (some 3) else (dancestudioref11_Check.l0 k l0 0)
set_option maxHeartbeats 8000000 in
set_option maxRecDepth 100000 in
theorem dancestudioref11_Check.calls (k : Nat) (A0 : Option Addr) (c0 : Nat) (l0 : List (List Int)) (r : Int) (w : World) (hr0 : Kd.C (Kd.slice 3 (Kd.int .i64)) w A0 l0.length l0) (hc0 : l0.length ≤ c0) (h : dancestudioref11_Check.f k l0 = some r) :
  Calls Tryd.prog 60 #[.slice A0 l0.length c0] w fun e w' => e = .returned (.int .i64 r) ∧ Drawn0 w w' := by
 have HR0 := Aside0.mk hr0
 have HC0 := Aside0.mk hc0
 clear hr0 hc0
 have H := h
 unfold dancestudioref11_Check.f at H
 clear h
 by_cases c2 : (l0.length : Int) > 16
 ·
  rw [if_pos c2] at H
  have c2b0 := decide_eq_true c2
  have c2b1 : decide (16 < l0.length) = true := decide_eq_true (by omega)
  clear c2
  obtain rfl := Option.some.inj H
  go_enter Tryd.func60, Tryd.ntmps60
  go_wp2
  go_ret
  exact ⟨by first | rfl | (simp; done) | (simp [*]; done), by repeat (first | exact Drawn0.refl _ | apply Drawn0.step)⟩
 rw [if_neg c2] at H
 have c2b0 := decide_eq_false c2
 have c2b1 : decide (16 < l0.length) = false := decide_eq_false (by omega)
 clear c2
 have H' := Aside0.mk H
 clear H
 go_enter Tryd.func60, Tryd.ntmps60
 go_wp2
 go_loopg [3] k (fun kq v3 w' => ∃ (x3_1 : Int), v3 = .int .i64 x3_1 ∧ Aside0 (dancestudioref11_Check.l0 kq l0 x3_1 = some r) ∧ Aside0 (kq ≤ k) ∧ Drawn0 w w')
 case atStart => exact ⟨(0), rfl, H', ⟨Nat.le_refl _⟩, by repeat (first | exact Drawn0.refl _ | apply Drawn0.step)⟩
 case round =>
  clear H'
  skip
  obtain ⟨x3_1, rfl, HA, HK1, ⟨m1, rfl⟩⟩ := hrel
  cases gk with
  | zero => exact absurd HA.out (by simp [dancestudioref11_Check.l0])
  | succ k1 =>
   have H := HA.out
   clear HA
   simp only [dancestudioref11_Check.l0] at H
   by_cases c3 : x3_1 < (l0.length : Int)
   ·
    rw [if_pos c3] at H
    have c3b0 := decide_eq_true c3
    clear c3
    obtain ⟨c4, H⟩ : (0 ≤ x3_1) ∧ _ := mIf H
    have c4b0 := decide_eq_true c4
    clear c4
    by_cases c5 : ((rd_L2 l0 x3_1).length : Int) = (l0.length : Int)
    rotate_left
    ·
     rw [if_neg c5] at H
     have c5b0 := beq_eq_false_iff_ne.mpr c5
     have c5b1 := bne_iff_ne.mpr c5
     have c5b2 : ((rd_L2 l0 x3_1).length == l0.length) = false := by first | simpa using c5 | (simp at c5 ⊢; omega)
     obtain rfl := Option.some.inj H
     have p524 : 0 ≤ (x3_1 : Int) := of_decide_eq_true (by assumption)
     have q524 : x3_1 < (l0.length : Int) := of_decide_eq_true (by assumption)
     obtain ⟨ad524, A524_0, c524_0, e524, hx524_0, hl524_0, hi524_0⟩ := at_L2 HR0.out x3_1 p524 q524
     cases e524
     have HR524_0 := Aside0.mk hi524_0
     have HC524_0 := Aside0.mk hl524_0
     clear hi524_0 hl524_0
     replace p524 := eq_true p524
     replace q524 := eq_true q524
     go_wp2
     go_ret
     exact ⟨by first | rfl | (simp; done) | (simp [*]; done), by repeat (first | exact Drawn0.refl _ | apply Drawn0.step)⟩
    rw [if_pos c5] at H
    have c5b0 := beq_iff_eq.mpr c5
    have c5b1 := bne_eq_false_iff_eq.mpr c5
    have c5b2 : ((rd_L2 l0 x3_1).length == l0.length) = true := by first | simpa using c5 | (simp at c5 ⊢; omega)
    clear c5
    have H' := Aside0.mk H
    clear H
    have p524 : 0 ≤ (x3_1 : Int) := of_decide_eq_true (by assumption)
    have q524 : x3_1 < (l0.length : Int) := of_decide_eq_true (by assumption)
    obtain ⟨ad524, A524_0, c524_0, e524, hx524_0, hl524_0, hi524_0⟩ := at_L2 HR0.out x3_1 p524 q524
    cases e524
    have HR524_0 := Aside0.mk hi524_0
    have HC524_0 := Aside0.mk hl524_0
    clear hi524_0 hl524_0
    replace p524 := eq_true p524
    replace q524 := eq_true q524
    go_wp2
    go_roundg k1
    case measure => have := HK1.out; omega
    case rel => exact ⟨(wrap64 (x3_1 + 1)), rfl, H', ⟨by have := HK1.out; omega⟩, by repeat (first | exact Drawn0.refl _ | apply Drawn0.step)⟩
   rw [if_neg c3] at H
   have c3b0 := decide_eq_false c3
   clear c3
   have H' := Aside0.mk H
   clear H
   go_wp2
   go_loopg [4] k1 (fun kq v4 w' => ∃ (x4_2 : Int), v4 = .int .i64 x4_2 ∧ Aside0 (dancestudioref11_Check.l1 kq l0 x4_2 = some r) ∧ Aside0 (kq ≤ k1) ∧ Drawn0 w w')
   case atStart => exact ⟨(0), rfl, H', ⟨Nat.le_refl _⟩, by repeat (first | exact Drawn0.refl _ | apply Drawn0.step)⟩
   case round =>
    clear H'
    skip
    obtain ⟨x4_2, rfl, HA, HK2, ⟨m2, rfl⟩⟩ := hrel
    cases gk with
    | zero => exact absurd HA.out (by simp [dancestudioref11_Check.l1])
    | succ k2 =>
     have H := HA.out
     clear HA
     simp only [dancestudioref11_Check.l1] at H
     by_cases c6 : x4_2 < (l0.length : Int)
     rotate_left
     ·
      rw [if_neg c6] at H
      have c6b0 := decide_eq_false c6
      clear c6
      obtain rfl := Option.some.inj H
      go_wp2
      go_ret
      exact ⟨by first | rfl | (simp; done) | (simp [*]; done), by repeat (first | exact Drawn0.refl _ | apply Drawn0.step)⟩
     rw [if_pos c6] at H
     have c6b0 := decide_eq_true c6
     clear c6
     have H' := Aside0.mk H
     clear H
     go_wp2
     go_loopg [5] k2 (fun kq v5 w' => ∃ (x5_3 : Int), v5 = .int .i64 x5_3 ∧ Aside0 (dancestudioref11_Check.l2 kq l0 x4_2 x5_3 = some r) ∧ Aside0 (kq ≤ k2) ∧ Drawn0 w w')
     case atStart => exact ⟨(0), rfl, H', ⟨Nat.le_refl _⟩, by repeat (first | exact Drawn0.refl _ | apply Drawn0.step)⟩
     case round =>
      clear H'
      skip
      obtain ⟨x5_3, rfl, HA, HK3, ⟨m3, rfl⟩⟩ := hrel
      cases gk with
      | zero => exact absurd HA.out (by simp [dancestudioref11_Check.l2])
      | succ k3 =>
       have H := HA.out
       clear HA
       simp only [dancestudioref11_Check.l2] at H
       by_cases c7 : x5_3 < (l0.length : Int)
       rotate_left
       ·
        rw [if_neg c7] at H
        have c7b0 := decide_eq_false c7
        clear c7
        have H' := Aside0.mk H
        clear H
        go_wp2
        go_roundg k3
        case measure => have := HK1.out; have := HK2.out; have := HK3.out; omega
        case rel => exact ⟨(wrap64 (x4_2 + 1)), rfl, H', ⟨by have := HK1.out; have := HK2.out; have := HK3.out; omega⟩, by repeat (first | exact Drawn0.refl _ | apply Drawn0.step)⟩
       rw [if_pos c7] at H
       have c7b0 := decide_eq_true c7
       clear c7
       obtain ⟨c8, H⟩ : (0 ≤ x4_2) ∧ _ := mIf H
       have c8b0 := decide_eq_true c8
       clear c8
       obtain ⟨c9, H⟩ : (x4_2 < (l0.length : Int)) ∧ _ := mIf H
       have c9b0 := decide_eq_true c9
       clear c9
       obtain ⟨c10, H⟩ : (0 ≤ x5_3) ∧ _ := mIf H
       have c10b0 := decide_eq_true c10
       clear c10
       obtain ⟨c11, H⟩ : (x5_3 < ((rd_L2 l0 x4_2).length : Int)) ∧ _ := mIf H
       have c11b0 := decide_eq_true c11
       clear c11
       by_cases c12 : (rd (rd_L2 l0 x4_2) x5_3) < 0
       ·
        rw [if_pos c12] at H
        have c12b0 := decide_eq_true c12
        clear c12
        obtain rfl := Option.some.inj H
        have p525 : 0 ≤ (x4_2 : Int) := of_decide_eq_true (by assumption)
        have q525 : x4_2 < (l0.length : Int) := of_decide_eq_true (by assumption)
        obtain ⟨ad525, A525_0, c525_0, e525, hx525_0, hl525_0, hi525_0⟩ := at_L2 HR0.out x4_2 p525 q525
        cases e525
        have HR525_0 := Aside0.mk hi525_0
        have HC525_0 := Aside0.mk hl525_0
        clear hi525_0 hl525_0
        replace p525 := eq_true p525
        replace q525 := eq_true q525
        have p526 : 0 ≤ (x5_3 : Int) := of_decide_eq_true (by assumption)
        have q526 : x5_3 < ((rd_L2 l0 x4_2).length : Int) := of_decide_eq_true (by assumption)
        obtain ⟨ad526, e526, hx526_0⟩ := Kd.at_int HR525_0.out x5_3 p526 q526
        cases e526
        replace p526 := eq_true p526
        replace q526 := eq_true q526
        go_wp2
        go_ret
        exact ⟨by first | rfl | (simp; done) | (simp [*]; done), by repeat (first | exact Drawn0.refl _ | apply Drawn0.step)⟩
       rw [if_neg c12] at H
       have c12b0 := decide_eq_false c12
       clear c12
       by_cases c13 : (rd (rd_L2 l0 x4_2) x5_3) > 1099511627776
       ·
        rw [if_pos c13] at H
        have c13b0 := decide_eq_true c13
        clear c13
        obtain rfl := Option.some.inj H
        have p525 : 0 ≤ (x4_2 : Int) := of_decide_eq_true (by assumption)
        have q525 : x4_2 < (l0.length : Int) := of_decide_eq_true (by assumption)
        obtain ⟨ad525, A525_0, c525_0, e525, hx525_0, hl525_0, hi525_0⟩ := at_L2 HR0.out x4_2 p525 q525
        cases e525
        have HR525_0 := Aside0.mk hi525_0
        have HC525_0 := Aside0.mk hl525_0
        clear hi525_0 hl525_0
        replace p525 := eq_true p525
        replace q525 := eq_true q525
        have p526 : 0 ≤ (x5_3 : Int) := of_decide_eq_true (by assumption)
        have q526 : x5_3 < ((rd_L2 l0 x4_2).length : Int) := of_decide_eq_true (by assumption)
        obtain ⟨ad526, e526, hx526_0⟩ := Kd.at_int HR525_0.out x5_3 p526 q526
        cases e526
        replace p526 := eq_true p526
        replace q526 := eq_true q526
        have p527 : 0 ≤ (x4_2 : Int) := of_decide_eq_true (by assumption)
        have q527 : x4_2 < (l0.length : Int) := of_decide_eq_true (by assumption)
        obtain ⟨ad527, A527_0, c527_0, e527, hx527_0, hl527_0, hi527_0⟩ := at_L2 HR0.out x4_2 p527 q527
        obtain rfl : ad525 = ad527 := (by injection e527)
        have HR527_0 := Aside0.mk hi527_0
        have HC527_0 := Aside0.mk hl527_0
        clear hi527_0 hl527_0
        replace p527 := eq_true p527
        replace q527 := eq_true q527
        have ea_ := Option.some.inj (hx525_0.symm.trans hx527_0)
        injection ea_ with ea_ en_ ec_
        subst ea_
        subst ec_
        clear en_
        have p528 : 0 ≤ (x5_3 : Int) := of_decide_eq_true (by assumption)
        have q528 : x5_3 < ((rd_L2 l0 x4_2).length : Int) := of_decide_eq_true (by assumption)
        obtain ⟨ad528, e528, hx528_0⟩ := Kd.at_int HR527_0.out x5_3 p528 q528
        cases e528
        replace p528 := eq_true p528
        replace q528 := eq_true q528
        go_wp2
        go_ret
        exact ⟨by first | rfl | (simp; done) | (simp [*]; done), by repeat (first | exact Drawn0.refl _ | apply Drawn0.step)⟩
       rw [if_neg c13] at H
       have c13b0 := decide_eq_false c13
       clear c13
       have H' := Aside0.mk H
       clear H
       have p525 : 0 ≤ (x4_2 : Int) := of_decide_eq_true (by assumption)
       have q525 : x4_2 < (l0.length : Int) := of_decide_eq_true (by assumption)
       obtain ⟨ad525, A525_0, c525_0, e525, hx525_0, hl525_0, hi525_0⟩ := at_L2 HR0.out x4_2 p525 q525
       cases e525
       have HR525_0 := Aside0.mk hi525_0
       have HC525_0 := Aside0.mk hl525_0
       clear hi525_0 hl525_0
       replace p525 := eq_true p525
       replace q525 := eq_true q525
       have p526 : 0 ≤ (x5_3 : Int) := of_decide_eq_true (by assumption)
       have q526 : x5_3 < ((rd_L2 l0 x4_2).length : Int) := of_decide_eq_true (by assumption)
       obtain ⟨ad526, e526, hx526_0⟩ := Kd.at_int HR525_0.out x5_3 p526 q526
       cases e526
       replace p526 := eq_true p526
       replace q526 := eq_true q526
       have p527 : 0 ≤ (x4_2 : Int) := of_decide_eq_true (by assumption)
       have q527 : x4_2 < (l0.length : Int) := of_decide_eq_true (by assumption)
       obtain ⟨ad527, A527_0, c527_0, e527, hx527_0, hl527_0, hi527_0⟩ := at_L2 HR0.out x4_2 p527 q527
       obtain rfl : ad525 = ad527 := (by injection e527)
       have HR527_0 := Aside0.mk hi527_0
       have HC527_0 := Aside0.mk hl527_0
       clear hi527_0 hl527_0
       replace p527 := eq_true p527
       replace q527 := eq_true q527
       have ea_ := Option.some.inj (hx525_0.symm.trans hx527_0)
       injection ea_ with ea_ en_ ec_
       subst ea_
       subst ec_
       clear en_
       have p528 : 0 ≤ (x5_3 : Int) := of_decide_eq_true (by assumption)
       have q528 : x5_3 < ((rd_L2 l0 x4_2).length : Int) := of_decide_eq_true (by assumption)
       obtain ⟨ad528, e528, hx528_0⟩ := Kd.at_int HR527_0.out x5_3 p528 q528
       cases e528
       replace p528 := eq_true p528
       replace q528 := eq_true q528
       go_wp2
       go_roundg k3
       case measure => have := HK1.out; have := HK2.out; have := HK3.out; omega
       case rel => exact ⟨(wrap64 (x5_3 + 1)), rfl, H', ⟨by have := HK1.out; have := HK2.out; have := HK3.out; omega⟩, by repeat (first | exact Drawn0.refl _ | apply Drawn0.step)⟩
end Go.Proofs.YtaggccbndmmbhaaDoor.PAll
