-- Written by wip/tools/handprint.py: walks of the functions that the law reaches; Lean checks them.
import Derived.Test.YtaggccbndmmbhaaDoorBase
namespace Go.Proofs.YtaggccbndmmbhaaDoor.PAll
open Go.RowKit Go.Proofs.YtaggccbndmmbhaaDoorW.PrintWords Go.Proofs.YtaggccbndmmbhaaDoorW.PrintLast Go.Proofs.YtaggccbndmmbhaaDoorW.PrintMore
attribute [local go_sem] max2_int min2_int max_two min_two max_three min_three max_four min_four   -- for this text's walks alone
set_option linter.unusedVariables false
set_option linter.unusedSimpArgs false

/-! ### assign_Check: function 56 -/
mutual
def assign_Check.l0 : Nat → List (List Int) → List (List Int) → Int → Int → Option (Int)
 | 0, _, _, _, _ => none
 | k + 1, x0, x12, x13, x14 => if x14 < x13 then (if 0 ≤ x14 then (if x14 < (x12.length : Int) then (if ((rd_L2 x12 x14).length : Int) = (x0.length : Int) then (assign_Check.l0 k x0 x12 x13 (wrap64 (x14 + 1))) else (some 2)) else (none)) else (none)) else (assign_Check.l1 k x0 (x0.length : Int) 0)
def assign_Check.l1 : Nat → List (List Int) → Int → Int → Option (Int)
 | 0, _, _, _ => none
 | k + 1, x24, x25, x26 => if x26 < x25 then (if 0 ≤ x26 then (if x26 < (x24.length : Int) then (assign_Check.l2 k x24 x25 x26 (rd_L2 x24 x26) ((rd_L2 x24 x26).length : Int) 0) else (none)) else (none)) else (some 0)
def assign_Check.l2 : Nat → List (List Int) → Int → Int → List Int → Int → Int → Option (Int)
 | 0, _, _, _, _, _, _ => none
 | k + 1, x24, x25, x26, x30, x31, x32 => if x32 < x31 then (if 0 ≤ x32 then (if x32 < (x30.length : Int) then (if (rd x30 x32) < 0 then (some 1) else (if (rd x30 x32) > 1099511627776 then (some 1) else (assign_Check.l2 k x24 x25 x26 x30 x31 (wrap64 (x32 + 1))))) else (none)) else (none)) else (assign_Check.l1 k x24 x25 (wrap64 (x26 + 1)))
end
def assign_Check.f (k : Nat) (l0 : List (List Int)) : Option (Int) := if (l0.length : Int) > 16 then (some 3) else (assign_Check.l0 k l0 l0 (l0.length : Int) 0)
set_option maxHeartbeats 8000000 in
set_option maxRecDepth 100000 in
theorem assign_Check.calls (k : Nat) (A0 : Option Addr) (c0 : Nat) (l0 : List (List Int)) (r : Int) (w : World) (hr0 : Kd.C (Kd.slice 3 (Kd.int .i64)) w A0 l0.length l0) (hc0 : l0.length ≤ c0) (h : assign_Check.f k l0 = some r) :
  Calls Tryd.prog 56 #[.slice A0 l0.length c0] w fun e w' => e = .returned (.int .i64 r) ∧ Drawn0 w w' := by
 have HR0 := Aside0.mk hr0
 have HC0 := Aside0.mk hc0
 clear hr0 hc0
 have H := h
 unfold assign_Check.f at H
 clear h
 by_cases c2 : (l0.length : Int) > 16
 ·
  rw [if_pos c2] at H
  have c2b0 := decide_eq_true c2
  have c2b1 : decide (16 < l0.length) = true := decide_eq_true (by omega)
  clear c2
  obtain rfl := Option.some.inj H
  go_enter Tryd.func56, Tryd.ntmps56
  go_wp2
  go_ret
  exact ⟨by first | rfl | (simp; done) | (simp [*]; done), by repeat (first | exact Drawn0.refl _ | apply Drawn0.step)⟩
 rw [if_neg c2] at H
 have c2b0 := decide_eq_false c2
 have c2b1 : decide (16 < l0.length) = false := decide_eq_false (by omega)
 clear c2
 have H' := Aside0.mk H
 clear H
 go_enter Tryd.func56, Tryd.ntmps56
 go_wp2
 go_loopg [14] k (fun kq v14 w' => ∃ (x14_1 : Int), v14 = .int .i64 x14_1 ∧ Aside0 (assign_Check.l0 kq l0 l0 (l0.length : Int) x14_1 = some r) ∧ Aside0 (kq ≤ k) ∧ Drawn0 w w')
 case atStart => exact ⟨(0), rfl, H', ⟨Nat.le_refl _⟩, by repeat (first | exact Drawn0.refl _ | apply Drawn0.step)⟩
 case round =>
  clear H'
  skip
  obtain ⟨x14_1, rfl, HA, HK1, ⟨m1, rfl⟩⟩ := hrel
  cases gk with
  | zero => exact absurd HA.out (by simp [assign_Check.l0])
  | succ k1 =>
   have H := HA.out
   clear HA
   simp only [assign_Check.l0] at H
   by_cases c3 : x14_1 < (l0.length : Int)
   ·
    rw [if_pos c3] at H
    have c3b0 := decide_eq_true c3
    clear c3
    obtain ⟨c4, H⟩ : (0 ≤ x14_1) ∧ _ := mIf H
    have c4b0 := decide_eq_true c4
    clear c4
    obtain ⟨c5, H⟩ : (x14_1 < (l0.length : Int)) ∧ _ := mIf H
    have c5b0 := decide_eq_true c5
    clear c5
    by_cases c6 : ((rd_L2 l0 x14_1).length : Int) = (l0.length : Int)
    rotate_left
    ·
     rw [if_neg c6] at H
     have c6b0 := beq_eq_false_iff_ne.mpr c6
     have c6b1 := bne_iff_ne.mpr c6
     have c6b2 : ((rd_L2 l0 x14_1).length == l0.length) = false := by first | simpa using c6 | (simp at c6 ⊢; omega)
     obtain rfl := Option.some.inj H
     have p142 : 0 ≤ (x14_1 : Int) := of_decide_eq_true (by assumption)
     have q142 : x14_1 < (l0.length : Int) := of_decide_eq_true (by assumption)
     obtain ⟨ad142, A142_0, c142_0, e142, hx142_0, hl142_0, hi142_0⟩ := at_L2 HR0.out x14_1 p142 q142
     cases e142
     have HR142_0 := Aside0.mk hi142_0
     have HC142_0 := Aside0.mk hl142_0
     clear hi142_0 hl142_0
     replace p142 := eq_true p142
     replace q142 := eq_true q142
     go_wp2
     go_ret
     exact ⟨by first | rfl | (simp; done) | (simp [*]; done), by repeat (first | exact Drawn0.refl _ | apply Drawn0.step)⟩
    rw [if_pos c6] at H
    have c6b0 := beq_iff_eq.mpr c6
    have c6b1 := bne_eq_false_iff_eq.mpr c6
    have c6b2 : ((rd_L2 l0 x14_1).length == l0.length) = true := by first | simpa using c6 | (simp at c6 ⊢; omega)
    clear c6
    have H' := Aside0.mk H
    clear H
    have p142 : 0 ≤ (x14_1 : Int) := of_decide_eq_true (by assumption)
    have q142 : x14_1 < (l0.length : Int) := of_decide_eq_true (by assumption)
    obtain ⟨ad142, A142_0, c142_0, e142, hx142_0, hl142_0, hi142_0⟩ := at_L2 HR0.out x14_1 p142 q142
    cases e142
    have HR142_0 := Aside0.mk hi142_0
    have HC142_0 := Aside0.mk hl142_0
    clear hi142_0 hl142_0
    replace p142 := eq_true p142
    replace q142 := eq_true q142
    go_wp2
    go_roundg k1
    case measure => have := HK1.out; omega
    case rel => exact ⟨(wrap64 (x14_1 + 1)), rfl, H', ⟨by have := HK1.out; omega⟩, by repeat (first | exact Drawn0.refl _ | apply Drawn0.step)⟩
   rw [if_neg c3] at H
   have c3b0 := decide_eq_false c3
   clear c3
   have H' := Aside0.mk H
   clear H
   go_wp2
   go_loopg [26] k1 (fun kq v26 w' => ∃ (x26_2 : Int), v26 = .int .i64 x26_2 ∧ Aside0 (assign_Check.l1 kq l0 (l0.length : Int) x26_2 = some r) ∧ Aside0 (kq ≤ k1) ∧ Drawn0 w w')
   case atStart => exact ⟨(0), rfl, H', ⟨Nat.le_refl _⟩, by repeat (first | exact Drawn0.refl _ | apply Drawn0.step)⟩
   case round =>
    clear H'
    skip
    obtain ⟨x26_2, rfl, HA, HK2, ⟨m2, rfl⟩⟩ := hrel
    cases gk with
    | zero => exact absurd HA.out (by simp [assign_Check.l1])
    | succ k2 =>
     have H := HA.out
     clear HA
     simp only [assign_Check.l1] at H
     by_cases c7 : x26_2 < (l0.length : Int)
     rotate_left
     ·
      rw [if_neg c7] at H
      have c7b0 := decide_eq_false c7
      clear c7
      obtain rfl := Option.some.inj H
      go_wp2
      go_ret
      exact ⟨by first | rfl | (simp; done) | (simp [*]; done), by repeat (first | exact Drawn0.refl _ | apply Drawn0.step)⟩
     rw [if_pos c7] at H
     have c7b0 := decide_eq_true c7
     clear c7
     obtain ⟨c8, H⟩ : (0 ≤ x26_2) ∧ _ := mIf H
     have c8b0 := decide_eq_true c8
     clear c8
     obtain ⟨c9, H⟩ : (x26_2 < (l0.length : Int)) ∧ _ := mIf H
     have c9b0 := decide_eq_true c9
     clear c9
     have H' := Aside0.mk H
     clear H
     have p143 : 0 ≤ (x26_2 : Int) := of_decide_eq_true (by assumption)
     have q143 : x26_2 < (l0.length : Int) := of_decide_eq_true (by assumption)
     obtain ⟨ad143, A143_0, c143_0, e143, hx143_0, hl143_0, hi143_0⟩ := at_L2 HR0.out x26_2 p143 q143
     cases e143
     have HR143_0 := Aside0.mk hi143_0
     have HC143_0 := Aside0.mk hl143_0
     clear hi143_0 hl143_0
     replace p143 := eq_true p143
     replace q143 := eq_true q143
     go_wp2
     go_loopg [32] k2 (fun kq v32 w' => ∃ (x32_3 : Int), v32 = .int .i64 x32_3 ∧ Aside0 (assign_Check.l2 kq l0 (l0.length : Int) x26_2 (rd_L2 l0 x26_2) ((rd_L2 l0 x26_2).length : Int) x32_3 = some r) ∧ Aside0 (kq ≤ k2) ∧ Drawn0 w w')
     case atStart => exact ⟨(0), rfl, H', ⟨Nat.le_refl _⟩, by repeat (first | exact Drawn0.refl _ | apply Drawn0.step)⟩
     case round =>
      clear H'
      skip
      obtain ⟨x32_3, rfl, HA, HK3, ⟨m3, rfl⟩⟩ := hrel
      cases gk with
      | zero => exact absurd HA.out (by simp [assign_Check.l2])
      | succ k3 =>
       have H := HA.out
       clear HA
       simp only [assign_Check.l2] at H
       by_cases c10 : x32_3 < ((rd_L2 l0 x26_2).length : Int)
       rotate_left
       ·
        rw [if_neg c10] at H
        have c10b0 := decide_eq_false c10
        clear c10
        have H' := Aside0.mk H
        clear H
        go_wp2
        go_roundg k3
        case measure => have := HK1.out; have := HK2.out; have := HK3.out; omega
        case rel => exact ⟨(wrap64 (x26_2 + 1)), rfl, H', ⟨by have := HK1.out; have := HK2.out; have := HK3.out; omega⟩, by repeat (first | exact Drawn0.refl _ | apply Drawn0.step)⟩
       rw [if_pos c10] at H
       have c10b0 := decide_eq_true c10
       clear c10
       obtain ⟨c11, H⟩ : (0 ≤ x32_3) ∧ _ := mIf H
       have c11b0 := decide_eq_true c11
       clear c11
       obtain ⟨c12, H⟩ : (x32_3 < ((rd_L2 l0 x26_2).length : Int)) ∧ _ := mIf H
       have c12b0 := decide_eq_true c12
       clear c12
       by_cases c13 : (rd (rd_L2 l0 x26_2) x32_3) < 0
       ·
        rw [if_pos c13] at H
        have c13b0 := decide_eq_true c13
        clear c13
        obtain rfl := Option.some.inj H
        have p144 : 0 ≤ (x32_3 : Int) := of_decide_eq_true (by assumption)
        have q144 : x32_3 < ((rd_L2 l0 x26_2).length : Int) := of_decide_eq_true (by assumption)
        obtain ⟨ad144, e144, hx144_0⟩ := Kd.at_int HR143_0.out x32_3 p144 q144
        cases e144
        replace p144 := eq_true p144
        replace q144 := eq_true q144
        go_wp2
        go_ret
        exact ⟨by first | rfl | (simp; done) | (simp [*]; done), by repeat (first | exact Drawn0.refl _ | apply Drawn0.step)⟩
       rw [if_neg c13] at H
       have c13b0 := decide_eq_false c13
       clear c13
       by_cases c14 : (rd (rd_L2 l0 x26_2) x32_3) > 1099511627776
       ·
        rw [if_pos c14] at H
        have c14b0 := decide_eq_true c14
        clear c14
        obtain rfl := Option.some.inj H
        have p144 : 0 ≤ (x32_3 : Int) := of_decide_eq_true (by assumption)
        have q144 : x32_3 < ((rd_L2 l0 x26_2).length : Int) := of_decide_eq_true (by assumption)
        obtain ⟨ad144, e144, hx144_0⟩ := Kd.at_int HR143_0.out x32_3 p144 q144
        cases e144
        replace p144 := eq_true p144
        replace q144 := eq_true q144
        go_wp2
        go_ret
        exact ⟨by first | rfl | (simp; done) | (simp [*]; done), by repeat (first | exact Drawn0.refl _ | apply Drawn0.step)⟩
       rw [if_neg c14] at H
       have c14b0 := decide_eq_false c14
       clear c14
       have H' := Aside0.mk H
       clear H
       have p144 : 0 ≤ (x32_3 : Int) := of_decide_eq_true (by assumption)
       have q144 : x32_3 < ((rd_L2 l0 x26_2).length : Int) := of_decide_eq_true (by assumption)
       obtain ⟨ad144, e144, hx144_0⟩ := Kd.at_int HR143_0.out x32_3 p144 q144
       cases e144
       replace p144 := eq_true p144
       replace q144 := eq_true q144
       go_wp2
       go_roundg k3
       case measure => have := HK1.out; have := HK2.out; have := HK3.out; omega
       case rel => exact ⟨(wrap64 (x32_3 + 1)), rfl, H', ⟨by have := HK1.out; have := HK2.out; have := HK3.out; omega⟩, by repeat (first | exact Drawn0.refl _ | apply Drawn0.step)⟩
end Go.Proofs.YtaggccbndmmbhaaDoor.PAll
