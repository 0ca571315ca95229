-- Written by wip/tools/handprint.py: walks of the functions that the law reaches; Lean checks them.
import Derived.Test.YtaggccbndmmbhaaDoorBase
namespace Go.Proofs.YtaggccbndmmbhaaDoor.PAll
open Go.RowKit Go.Proofs.YtaggccbndmmbhaaDoorW.PrintWords Go.Proofs.YtaggccbndmmbhaaDoorW.PrintLast Go.Proofs.YtaggccbndmmbhaaDoorW.PrintMore
attribute [local go_sem] max2_int min2_int max_two min_two max_three min_three max_four min_four   -- for this text's walks alone
set_option linter.unusedVariables false
set_option linter.unusedSimpArgs false
attribute [local go_sem high] eqA55

/-! ### dancestudioref45_Motions: function 20 -/
def dancestudioref45_Motions.l0 : Nat → List (S55) → List (S55) → Int → Option (Bool)
 | 0, _, _, _ => none
 | k + 1, x0, x1, x5 => if x5 < (x0.length : Int) then (if 0 ≤ x5 then (if x5 < (x1.length : Int) then (if ((!(((rd_T55 x0 x5).f0.f0) == ((rd_T55 x1 x5).f0.f0)) || (!(((rd_T55 x0 x5).f0.f1) == ((rd_T55 x1 x5).f0.f1)))) || ((!(((rd_T55 x0 x5).f1.f0) == ((rd_T55 x1 x5).f1.f0)) || (!(((rd_T55 x0 x5).f1.f1) == ((rd_T55 x1 x5).f1.f1)))) || (!(((rd_T55 x0 x5).f2) == ((rd_T55 x1 x5).f2))))) = true then (some false) else (dancestudioref45_Motions.l0 k x0 x1 (wrap64 (x5 + 1)))) else (none)) else (none)) else (some true)
def dancestudioref45_Motions.f (k : Nat) (l0 : List (S55)) (l1 : List (S55)) : Option (Bool) := if (l0.length : Int) = (l1.length : Int) then (dancestudioref45_Motions.l0 k l0 l1 0) else (some false)
set_option maxHeartbeats 8000000 in
set_option maxRecDepth 100000 in
theorem dancestudioref45_Motions.calls (k : Nat) (A0 : Option Addr) (c0 : Nat) (l0 : List (S55)) (A1 : Option Addr) (c1 : Nat) (l1 : List (S55)) (r : Bool) (w : World) (hr0 : Kd.C k55 w A0 l0.length l0) (hc0 : l0.length ≤ c0) (hr1 : Kd.C k55 w A1 l1.length l1) (hc1 : l1.length ≤ c1) (h : dancestudioref45_Motions.f k l0 l1 = some r) :
  Calls Tryd.prog 20 #[.slice A0 l0.length c0, .slice A1 l1.length c1] w fun e w' => e = .returned (.bool r) ∧ Drawn0 w w' := by
 have hu55 := Tryd.underlying55
 have HR0 := Aside0.mk hr0
 have HC0 := Aside0.mk hc0
 clear hr0 hc0
 have HR1 := Aside0.mk hr1
 have HC1 := Aside0.mk hc1
 clear hr1 hc1
 have H := h
 unfold dancestudioref45_Motions.f at H
 clear h
 by_cases c3 : (l0.length : Int) = (l1.length : Int)
 rotate_left
 ·
  rw [if_neg c3] at H
  have c3b0 := beq_eq_false_iff_ne.mpr c3
  have c3b1 := bne_iff_ne.mpr c3
  have c3b2 : (l0.length == l1.length) = false := by first | simpa using c3 | (simp at c3 ⊢; omega)
  obtain rfl := Option.some.inj H
  go_enter Tryd.func20, Tryd.ntmps20
  go_wp2
  repeat (go_quiet (fail); try go_wp2)
  go_ret
  exact ⟨by first | rfl | (simp; done) | (simp [*]; done), by repeat (first | exact Drawn0.refl _ | apply Drawn0.step)⟩
 rw [if_pos c3] at H
 have c3b0 := beq_iff_eq.mpr c3
 have c3b1 := bne_eq_false_iff_eq.mpr c3
 have c3b2 : (l0.length == l1.length) = true := by first | simpa using c3 | (simp at c3 ⊢; omega)
 clear c3
 have H' := Aside0.mk H
 clear H
 go_enter Tryd.func20, Tryd.ntmps20
 go_wp2
 repeat (go_quiet (fail); try go_wp2)
 go_loopg [5] k (fun kq v5 w' => ∃ (x5_1 : Int), v5 = .int .i64 x5_1 ∧ Aside0 (dancestudioref45_Motions.l0 kq l0 l1 x5_1 = some r) ∧ Aside0 (kq ≤ k) ∧ Drawn0 w w')
 case atStart => exact ⟨(0), rfl, H', ⟨Nat.le_refl _⟩, by repeat (first | exact Drawn0.refl _ | apply Drawn0.step)⟩
 case round =>
  clear H'
  skip
  obtain ⟨x5_1, rfl, HA, HK1, ⟨m1, rfl⟩⟩ := hrel
  cases gk with
  | zero => exact absurd HA.out (by simp [dancestudioref45_Motions.l0])
  | succ k1 =>
   have H := HA.out
   clear HA
   simp only [dancestudioref45_Motions.l0] at H
   by_cases c4 : x5_1 < (l0.length : Int)
   rotate_left
   ·
    rw [if_neg c4] at H
    have c4b0 := decide_eq_false c4
    clear c4
    obtain rfl := Option.some.inj H
    go_wp2
    repeat (go_quiet (fail); try go_wp2)
    go_ret
    exact ⟨by first | rfl | (simp; done) | (simp [*]; done), by repeat (first | exact Drawn0.refl _ | apply Drawn0.step)⟩
   rw [if_pos c4] at H
   have c4b0 := decide_eq_true c4
   clear c4
   obtain ⟨c5, H⟩ : (0 ≤ x5_1) ∧ _ := mIf H
   have c5b0 := decide_eq_true c5
   clear c5
   obtain ⟨c6, H⟩ : (x5_1 < (l1.length : Int)) ∧ _ := mIf H
   have c6b0 := decide_eq_true c6
   clear c6
   by_cases c7 : ((!(((rd_T55 l0 x5_1).f0.f0) == ((rd_T55 l1 x5_1).f0.f0)) || (!(((rd_T55 l0 x5_1).f0.f1) == ((rd_T55 l1 x5_1).f0.f1)))) || ((!(((rd_T55 l0 x5_1).f1.f0) == ((rd_T55 l1 x5_1).f1.f0)) || (!(((rd_T55 l0 x5_1).f1.f1) == ((rd_T55 l1 x5_1).f1.f1)))) || (!(((rd_T55 l0 x5_1).f2) == ((rd_T55 l1 x5_1).f2))))) = true
   ·
    rw [if_pos c7] at H
    have c7b0 : ((!(((rd_T55 l0 x5_1).f0.f0) == ((rd_T55 l1 x5_1).f0.f0)) || (!(((rd_T55 l0 x5_1).f0.f1) == ((rd_T55 l1 x5_1).f0.f1)))) || ((!(((rd_T55 l0 x5_1).f1.f0) == ((rd_T55 l1 x5_1).f1.f0)) || (!(((rd_T55 l0 x5_1).f1.f1) == ((rd_T55 l1 x5_1).f1.f1)))) || (!(((rd_T55 l0 x5_1).f2) == ((rd_T55 l1 x5_1).f2))))) = true := c7
    clear c7
    obtain rfl := Option.some.inj H
    have p596 : 0 ≤ (x5_1 : Int) := of_decide_eq_true (by assumption)
    have q596 : x5_1 < (l0.length : Int) := of_decide_eq_true (by assumption)
    obtain ⟨ad596, e596, hx596_0, hx596_1, hx596_2, hx596_3, hx596_4⟩ := at_T55 HR0.out x5_1 p596 q596
    cases e596
    replace p596 := eq_true p596
    replace q596 := eq_true q596
    have p597 : 0 ≤ (x5_1 : Int) := of_decide_eq_true (by assumption)
    have q597 : x5_1 < (l1.length : Int) := of_decide_eq_true (by assumption)
    obtain ⟨ad597, e597, hx597_0, hx597_1, hx597_2, hx597_3, hx597_4⟩ := at_T55 HR1.out x5_1 p597 q597
    cases e597
    replace p597 := eq_true p597
    replace q597 := eq_true q597
    go_wp2
    repeat (go_quiet (fail); try go_wp2)
    go_ret
    exact ⟨by first | rfl | (simp; done) | (simp [*]; done), by repeat (first | exact Drawn0.refl _ | apply Drawn0.step)⟩
   rw [if_neg c7] at H
   have c7b0 : ((!(((rd_T55 l0 x5_1).f0.f0) == ((rd_T55 l1 x5_1).f0.f0)) || (!(((rd_T55 l0 x5_1).f0.f1) == ((rd_T55 l1 x5_1).f0.f1)))) || ((!(((rd_T55 l0 x5_1).f1.f0) == ((rd_T55 l1 x5_1).f1.f0)) || (!(((rd_T55 l0 x5_1).f1.f1) == ((rd_T55 l1 x5_1).f1.f1)))) || (!(((rd_T55 l0 x5_1).f2) == ((rd_T55 l1 x5_1).f2))))) = false := by simpa using c7
   clear c7
   have H' := Aside0.mk H
   clear H
   have p596 : 0 ≤ (x5_1 : Int) := of_decide_eq_true (by assumption)
   have q596 : x5_1 < (l0.length : Int) := of_decide_eq_true (by assumption)
   obtain ⟨ad596, e596, hx596_0, hx596_1, hx596_2, hx596_3, hx596_4⟩ := at_T55 HR0.out x5_1 p596 q596
   cases e596
   replace p596 := eq_true p596
   replace q596 := eq_true q596
   have p597 : 0 ≤ (x5_1 : Int) := of_decide_eq_true (by assumption)
   have q597 : x5_1 < (l1.length : Int) := of_decide_eq_true (by assumption)
   obtain ⟨ad597, e597, hx597_0, hx597_1, hx597_2, hx597_3, hx597_4⟩ := at_T55 HR1.out x5_1 p597 q597
   cases e597
   replace p597 := eq_true p597
   replace q597 := eq_true q597
   go_wp2
   repeat (go_quiet (fail); try go_wp2)
   go_roundg k1
   case measure => have := HK1.out; omega
   case rel => exact ⟨(wrap64 (x5_1 + 1)), rfl, H', ⟨by have := HK1.out; omega⟩, by repeat (first | exact Drawn0.refl _ | apply Drawn0.step)⟩
end Go.Proofs.YtaggccbndmmbhaaDoor.PAll
