-- Written by wip/tools/handprint.py: walks of the functions that the law reaches; Lean checks them.
import Derived.Test.YtbmflpflmjfabaaPAllx0
namespace Go.Proofs.Ytbmflpflmjfabaa.PAll
open Go.RowKit Go.Proofs.YtbmflpflmjfabaaW.PrintWords Go.Proofs.YtbmflpflmjfabaaW.PrintLast Go.Proofs.YtbmflpflmjfabaaW.PrintMore
attribute [local go_sem] max2_int min2_int max_two min_two max_three min_three max_four min_four   -- for this text's walks alone
set_option linter.unusedVariables false
set_option linter.unusedSimpArgs false

/-! ### dancestudiolaw11_square: function 19 -/
def dancestudiolaw11_square.l0 : Nat → List (List Int) → Int → Option (Bool)
 | 0, _, _ => none
 | k + 1, x0, x3 => if x3 < (x0.length : Int) then (if 0 ≤ x3 then (if ((rd_L1 x0 x3).length : Int) = (x0.length : Int) then (dancestudiolaw11_square.l0 k x0 (wrap64 (x3 + 1))) else (some false)) else (none)) else (some true)
def dancestudiolaw11_square.f (k : Nat) (l0 : List (List Int)) : Option (Bool) := dancestudiolaw11_square.l0 k l0 0
theorem dancestudiolaw11_square.mono_l : ∀ k, (∀ y0 y1, LeO (dancestudiolaw11_square.l0 k y0 y1) (dancestudiolaw11_square.l0 (k + 1) y0 y1))
 | 0 => fun _ _ r h => by simp [dancestudiolaw11_square.l0] at h
 | k + 1 => by
  have ih0 := dancestudiolaw11_square.mono_l k
  ·
   intro y0 y1
   unfold dancestudiolaw11_square.l0
   repeat' first
   | (with_reducible exact ih0 _ _)
   | (with_reducible exact LeO.refl _)
   | (with_reducible exact LeO.none _)
   | (with_reducible refine LeO.ite ?_ ?_)
   | (with_reducible refine LeO.bind ?_ (fun _ => ?_))
   | exact ih0 _ _
   | exact LeO.none _
   | refine LeO.ite ?_ ?_
   | refine LeO.bind ?_ (fun _ => ?_)
theorem dancestudiolaw11_square.mono : ∀ a0 k, LeO (dancestudiolaw11_square.f k a0) (dancestudiolaw11_square.f (k + 1) a0) := by
 intro a0 k
 have ih0 := dancestudiolaw11_square.mono_l k
 unfold dancestudiolaw11_square.f
 repeat' first
   | (with_reducible exact ih0 _ _)
   | (with_reducible exact LeO.refl _)
   | (with_reducible exact LeO.none _)
   | (with_reducible refine LeO.ite ?_ ?_)
   | (with_reducible refine LeO.bind ?_ (fun _ => ?_))
   | exact ih0 _ _
   | exact LeO.none _
   | refine LeO.ite ?_ ?_
   | refine LeO.bind ?_ (fun _ => ?_)
set_option maxHeartbeats 8000000 in
set_option maxRecDepth 100000 in
theorem dancestudiolaw11_square.calls (k : Nat) (A0 : Option Addr) (c0 : Nat) (l0 : List (List Int)) (r : Bool) (w : World) (hr0 : Kd.C (Kd.slice 3 (Kd.int .i64)) w A0 l0.length l0) (hc0 : l0.length ≤ c0) (h : dancestudiolaw11_square.f k l0 = some r) :
  Calls Try.prog 19 #[.slice A0 l0.length c0] w fun e w' => e = .returned (.bool r) ∧ Drawn0 w w' := by
 have HR0 := Aside0.mk hr0
 have HC0 := Aside0.mk hc0
 clear hr0 hc0
 have H : (dancestudiolaw11_square.l0 k l0 0) = some r := h
 clear h
 have H' := Aside0.mk H
 clear H
 go_enter Try.func19, Try.ntmps19
 go_wp2
 go_loopg [3] k (fun kq v3 w' => ∃ (x3_1 : Int), v3 = .int .i64 x3_1 ∧ Aside0 (dancestudiolaw11_square.l0 kq l0 x3_1 = some r) ∧ Aside0 (kq ≤ k) ∧ Drawn0 w w')
 case atStart => exact ⟨(0), (by first | rfl | (simp; done) | (simp [*]; done)), H', ⟨Nat.le_refl _⟩, by repeat (first | exact Drawn0.refl _ | apply Drawn0.step)⟩
 case round =>
  clear H'
  try clear c1
  obtain ⟨x3_1, rfl, HA, HK1, ⟨m1, rfl⟩⟩ := hrel
  cases gk with
  | zero => exact absurd HA.out (by simp [dancestudiolaw11_square.l0])
  | succ k1 =>
   have H := HA.out
   clear HA
   simp only [dancestudiolaw11_square.l0] at H
   by_cases c2 : x3_1 < (l0.length : Int)
   ·
    rw [if_pos c2] at H
    have c2b0 : decide (x3_1 < (l0.length : Int)) = true := decide_eq_true c2
    clear c2
    by_cases c3 : 0 ≤ x3_1
    ·
     rw [if_pos c3] at H
     have c3b0 : decide (0 ≤ x3_1) = true := decide_eq_true c3
     clear c3
     by_cases c4 : ((rd_L1 l0 x3_1).length : Int) = (l0.length : Int)
     ·
      rw [if_pos c4] at H
      have c4b0 : (((rd_L1 l0 x3_1).length : Int) == (l0.length : Int)) = true := beq_iff_eq.mpr c4
      have c4b1 : (((rd_L1 l0 x3_1).length : Int) != (l0.length : Int)) = false := bne_eq_false_iff_eq.mpr c4
      have c4b2 : ((rd_L1 l0 x3_1).length == l0.length) = true := by first | simpa using c4 | (simp at c4 ⊢; omega)
      clear c4
      have H' := Aside0.mk H
      clear H
      have p397 : 0 ≤ (x3_1 : Int) := of_decide_eq_true (by first | (with_reducible assumption) | assumption)
      have q397 : x3_1 < (l0.length : Int) := of_decide_eq_true (by first | (with_reducible assumption) | assumption)
      obtain ⟨ad397, A397_0, c397_0, e397, hx397_0, hl397_0, hi397_0⟩ := at_L1 HR0.out x3_1 p397 q397
      cases e397
      have HR397_0 := Aside0.mk hi397_0
      have HC397_0 := Aside0.mk hl397_0
      clear hi397_0 hl397_0
      replace p397 := eq_true p397
      replace q397 := eq_true q397
      go_wp2
      go_roundg k1
      case measure => have := HK1.out; omega
      case rel => exact ⟨(wrap64 (x3_1 + 1)), (by first | rfl | (simp; done) | (simp [*]; done)), H', ⟨by have := HK1.out; omega⟩, by repeat (first | exact Drawn0.refl _ | apply Drawn0.step)⟩
     ·
      rw [if_neg c4] at H
      have c4b0 : (((rd_L1 l0 x3_1).length : Int) == (l0.length : Int)) = false := beq_eq_false_iff_ne.mpr c4
      have c4b1 : (((rd_L1 l0 x3_1).length : Int) != (l0.length : Int)) = true := bne_iff_ne.mpr c4
      have c4b2 : ((rd_L1 l0 x3_1).length == l0.length) = false := by first | simpa using c4 | (simp at c4 ⊢; omega)
      obtain rfl := Option.some.inj H
      have p397 : 0 ≤ (x3_1 : Int) := of_decide_eq_true (by first | (with_reducible assumption) | assumption)
      have q397 : x3_1 < (l0.length : Int) := of_decide_eq_true (by first | (with_reducible assumption) | assumption)
      obtain ⟨ad397, A397_0, c397_0, e397, hx397_0, hl397_0, hi397_0⟩ := at_L1 HR0.out x3_1 p397 q397
      cases e397
      have HR397_0 := Aside0.mk hi397_0
      have HC397_0 := Aside0.mk hl397_0
      clear hi397_0 hl397_0
      replace p397 := eq_true p397
      replace q397 := eq_true q397
      go_wp2
      go_ret
      exact ⟨by first | rfl | (simp; done) | (simp [*]; done), by repeat (first | exact Drawn0.refl _ | apply Drawn0.step)⟩
    ·
     rw [if_neg c3] at H
     exact absurd H (by simp)
   ·
    rw [if_neg c2] at H
    have c2b0 : decide (x3_1 < (l0.length : Int)) = false := decide_eq_false c2
    clear c2
    obtain rfl := Option.some.inj H
    go_wp2
    go_ret
    exact ⟨by first | rfl | (simp; done) | (simp [*]; done), by repeat (first | exact Drawn0.refl _ | apply Drawn0.step)⟩
end Go.Proofs.Ytbmflpflmjfabaa.PAll
