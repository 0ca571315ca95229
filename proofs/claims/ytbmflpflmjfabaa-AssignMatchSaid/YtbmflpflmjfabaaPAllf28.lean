-- Written by wip/tools/handprint.py: walks of the functions that the law reaches; Lean checks them.
import Derived.Test.YtbmflpflmjfabaaPAllx0
namespace Go.Proofs.Ytbmflpflmjfabaa.PAll
open Go.RowKit Go.Proofs.YtbmflpflmjfabaaW.PrintWords Go.Proofs.YtbmflpflmjfabaaW.PrintLast Go.Proofs.YtbmflpflmjfabaaW.PrintMore
attribute [local go_sem] max2_int min2_int max_two min_two max_three min_three max_four min_four   -- for this text's walks alone
set_option linter.unusedVariables false
set_option linter.unusedSimpArgs false

/-! ### match_Check: function 28 -/
mutual
def match_Check.j0 : Nat → List (List Bool) → Bool → Option (Int)
 | 0, _, _ => none
 | k + 1, x0, x19 => if x19 = true then (some 3) else (match_Check.l0 k x0 x0 (x0.length : Int) 0)
def match_Check.l0 : Nat → List (List Bool) → List (List Bool) → Int → Int → Option (Int)
 | 0, _, _, _, _ => none
 | k + 1, x0, x20, x21, x22 => if x22 < x21 then (if 0 ≤ x22 then (if x22 < (x20.length : Int) then (if 0 < (x0.length : Int) then (if ((rd_L3 x20 x22).length : Int) = ((rd_L3 x0 0).length : Int) then (match_Check.l0 k x0 x20 x21 (wrap64 (x22 + 1))) else (some 2)) else (none)) else (none)) else (none)) else (some 0)
end
def match_Check.f (k : Nat) (l0 : List (List Bool)) : Option (Int) := if (l0.length : Int) > 24 then (match_Check.j0 k l0 true) else (if (l0.length : Int) > 0 then (if 0 < (l0.length : Int) then (match_Check.j0 k l0 (decide (((rd_L3 l0 0).length : Int) > 24))) else (none)) else (match_Check.j0 k l0 false))
theorem match_Check.mono_l : ∀ k, (∀ y0 y1, LeO (match_Check.j0 k y0 y1) (match_Check.j0 (k + 1) y0 y1)) ∧ (∀ y0 y1 y2 y3, LeO (match_Check.l0 k y0 y1 y2 y3) (match_Check.l0 (k + 1) y0 y1 y2 y3))
 | 0 => ⟨fun _ _ r h => by simp [match_Check.j0] at h, fun _ _ _ _ r h => by simp [match_Check.l0] at h⟩
 | k + 1 => by
  obtain ⟨ih0, ih1⟩ := match_Check.mono_l k
  refine ⟨?_, ?_⟩
  ·
   intro y0 y1
   unfold match_Check.j0
   repeat' first
   | (with_reducible exact ih0 _ _)
   | (with_reducible exact ih1 _ _ _ _)
   | (with_reducible exact LeO.refl _)
   | (with_reducible exact LeO.none _)
   | (with_reducible refine LeO.ite ?_ ?_)
   | (with_reducible refine LeO.bind ?_ (fun _ => ?_))
   | exact ih0 _ _
   | exact ih1 _ _ _ _
   | exact LeO.none _
   | refine LeO.ite ?_ ?_
   | refine LeO.bind ?_ (fun _ => ?_)
  ·
   intro y0 y1 y2 y3
   unfold match_Check.l0
   repeat' first
   | (with_reducible exact ih0 _ _)
   | (with_reducible exact ih1 _ _ _ _)
   | (with_reducible exact LeO.refl _)
   | (with_reducible exact LeO.none _)
   | (with_reducible refine LeO.ite ?_ ?_)
   | (with_reducible refine LeO.bind ?_ (fun _ => ?_))
   | exact ih0 _ _
   | exact ih1 _ _ _ _
   | exact LeO.none _
   | refine LeO.ite ?_ ?_
   | refine LeO.bind ?_ (fun _ => ?_)
theorem match_Check.mono : ∀ a0 k, LeO (match_Check.f k a0) (match_Check.f (k + 1) a0) := by
 intro a0 k
 obtain ⟨ih0, ih1⟩ := match_Check.mono_l k
 unfold match_Check.f
 repeat' first
   | (with_reducible exact ih0 _ _)
   | (with_reducible exact ih1 _ _ _ _)
   | (with_reducible exact LeO.refl _)
   | (with_reducible exact LeO.none _)
   | (with_reducible refine LeO.ite ?_ ?_)
   | (with_reducible refine LeO.bind ?_ (fun _ => ?_))
   | exact ih0 _ _
   | exact ih1 _ _ _ _
   | exact LeO.none _
   | refine LeO.ite ?_ ?_
   | refine LeO.bind ?_ (fun _ => ?_)
set_option maxHeartbeats 8000000 in
set_option maxRecDepth 100000 in
theorem match_Check.calls (k : Nat) (A0 : Option Addr) (c0 : Nat) (l0 : List (List Bool)) (r : Int) (w : World) (hr0 : Kd.C (Kd.slice 4 Kd.bool) w A0 l0.length l0) (hc0 : l0.length ≤ c0) (h : match_Check.f k l0 = some r) :
  Calls Try.prog 28 #[.slice A0 l0.length c0] w fun e w' => e = .returned (.int .i64 r) ∧ Drawn0 w w' := by
 have HR0 := Aside0.mk hr0
 have HC0 := Aside0.mk hc0
 clear hr0 hc0
 have H : (if (l0.length : Int) > 24 then (match_Check.j0 k l0 true) else (if (l0.length : Int) > 0 then (if 0 < (l0.length : Int) then (match_Check.j0 k l0 (decide (((rd_L3 l0 0).length : Int) > 24))) else (none)) else (match_Check.j0 k l0 false))) = some r := h
 clear h
 have HC2 := Aside0.mk H
 clear H
 go_enter Try.func28, Try.ntmps28
 go_upto_region 1 with (fail)
 go_cut [19] (fun v19 wc => ∃ (kq : Nat) (x19_1 : Bool), v19 = .bool x19_1 ∧ Aside0 (match_Check.j0 kq l0 x19_1 = some r) ∧ Aside0 (kq ≤ k) ∧ Drawn0 w wc)
 case first =>
  have H := HC2.out
  clear HC2
  by_cases c3 : (l0.length : Int) > 24
  ·
   rw [if_pos c3] at H
   have c3b0 : decide (24 < (l0.length : Int)) = true := decide_eq_true c3
   have c3b1 : decide (24 < l0.length) = true := decide_eq_true (by omega)
   clear c3
   (first | rw [c3b0] | (simp only [i64_w, i32_w]; rw [c3b0]) | skip)
   have H' := Aside0.mk H
   clear H
   go_wp2
   go_meet
   case rel => exact ⟨_, (true), (by first | rfl | (simp; done) | (simp [*]; done)), H', ⟨by first | omega | exact Nat.le_refl _⟩, by repeat (first | exact Drawn0.refl _ | apply Drawn0.step)⟩
  ·
   rw [if_neg c3] at H
   have c3b0 : decide (24 < (l0.length : Int)) = false := decide_eq_false c3
   have c3b1 : decide (24 < l0.length) = false := decide_eq_false (by omega)
   clear c3
   (first | rw [c3b0] | (simp only [i64_w, i32_w]; rw [c3b0]) | skip)
   by_cases c4 : (l0.length : Int) > 0
   ·
    rw [if_pos c4] at H
    have c4b0 : decide (0 < (l0.length : Int)) = true := decide_eq_true c4
    have c4b1 : decide (0 < l0.length) = true := decide_eq_true (by omega)
    clear c4
    by_cases c5 : 0 < (l0.length : Int)
    ·
     rw [if_pos c5] at H
     have c5b0 : decide (0 < (l0.length : Int)) = true := decide_eq_true c5
     have c5b1 : decide (0 < l0.length) = true := decide_eq_true (by omega)
     clear c5
     have H' := Aside0.mk H
     clear H
     have p485 : 0 ≤ (0 : Int) := (by omega)
     have q485 : 0 < (l0.length : Int) := of_decide_eq_true (by first | (with_reducible assumption) | assumption)
     obtain ⟨ad485, A485_0, c485_0, e485, hx485_0, hl485_0, hi485_0⟩ := at_L3 HR0.out 0 p485 q485
     cases e485
     have qi485 : (0 < l0.length) = True := eq_true (by omega)
     (try rw [show ((0 : Int)).toNat = 0 from rfl] at hx485_0)
     (try rw [Addr.add_zero'] at hx485_0)
     have HR485_0 := Aside0.mk hi485_0
     have HC485_0 := Aside0.mk hl485_0
     clear hi485_0 hl485_0
     replace p485 := eq_true p485
     replace q485 := eq_true q485
     go_wp2
     go_meet
     case rel => exact ⟨_, (decide (((rd_L3 l0 0).length : Int) > 24)), (by first | rfl | (simp; done) | (simp [*]; done)), H', ⟨by first | omega | exact Nat.le_refl _⟩, by repeat (first | exact Drawn0.refl _ | apply Drawn0.step)⟩
    ·
     rw [if_neg c5] at H
     exact absurd H (by simp)
   ·
    rw [if_neg c4] at H
    have c4b0 : decide (0 < (l0.length : Int)) = false := decide_eq_false c4
    have c4b1 : decide (0 < l0.length) = false := decide_eq_false (by omega)
    clear c4
    have H' := Aside0.mk H
    clear H
    go_wp2
    go_meet
    case rel => exact ⟨_, (false), (by first | rfl | (simp; done) | (simp [*]; done)), H', ⟨by first | omega | exact Nat.le_refl _⟩, by repeat (first | exact Drawn0.refl _ | apply Drawn0.step)⟩
 case rest =>
  clear HC2
  try clear c2
  try clear p2
  try clear c3
  try clear c3b0
  try clear c3b1
  try clear c4
  try clear c4b0
  try clear c4b1
  try clear p4
  try clear q4
  try clear hx4
  try clear qi4
  try clear c5
  try clear c5b0
  try clear c5b1
  try clear hx485_0
  try clear p485
  try clear q485
  obtain ⟨kq, x19_1, rfl, HA, HJ1, ⟨mc1, rfl⟩⟩ := hcut
  cases kq with
  | zero => exact absurd HA.out (by simp [match_Check.j0])
  | succ kj1 =>
   have H := HA.out
   clear HA
   simp only [match_Check.j0] at H
   by_cases c6 : x19_1 = true
   ·
    subst c6
    have H1 : (some 3) = some r := by rw [if_pos rfl] at H; exact H
    clear H
    have H := H1
    clear H1
    obtain rfl := Option.some.inj H
    go_wp2
    go_ret
    exact ⟨by first | rfl | (simp; done) | (simp [*]; done), by repeat (first | exact Drawn0.refl _ | apply Drawn0.step)⟩
   ·
    replace c6 := Bool.eq_false_iff.mpr c6
    subst c6
    have H1 : (match_Check.l0 kj1 l0 l0 (l0.length : Int) 0) = some r := by rw [if_neg (show ¬ (false = true) by decide)] at H; exact H
    clear H
    have H := H1
    clear H1
    have H' := Aside0.mk H
    clear H
    go_wp2
    go_loopg [22] kj1 (fun kq v22 w' => ∃ (x22_2 : Int), v22 = .int .i64 x22_2 ∧ Aside0 (match_Check.l0 kq l0 l0 (l0.length : Int) x22_2 = some r) ∧ Aside0 (kq ≤ kj1) ∧ Drawn0 w w')
    case atStart => exact ⟨(0), (by first | rfl | (simp; done) | (simp [*]; done)), H', ⟨Nat.le_refl _⟩, by repeat (first | exact Drawn0.refl _ | apply Drawn0.step)⟩
    case round =>
     clear H'
     try clear c1
     try clear c2
     try clear p2
     try clear c3
     try clear c3b0
     try clear c3b1
     try clear c4
     try clear c4b0
     try clear c4b1
     try clear p4
     try clear q4
     try clear hx4
     try clear qi4
     try clear c5
     try clear c5b0
     try clear c5b1
     try clear c6
     try clear hx485_0
     try clear p2
     try clear p4
     try clear p485
     try clear q4
     try clear q485
     obtain ⟨x22_2, rfl, HA, HK2, ⟨m2, rfl⟩⟩ := hrel
     cases gk with
     | zero => exact absurd HA.out (by simp [match_Check.l0])
     | succ k2 =>
      have H := HA.out
      clear HA
      simp only [match_Check.l0] at H
      by_cases c7 : x22_2 < (l0.length : Int)
      ·
       rw [if_pos c7] at H
       have c7b0 : decide (x22_2 < (l0.length : Int)) = true := decide_eq_true c7
       clear c7
       by_cases c8 : 0 ≤ x22_2
       ·
        rw [if_pos c8] at H
        have c8b0 : decide (0 ≤ x22_2) = true := decide_eq_true c8
        clear c8
        by_cases c9 : x22_2 < (l0.length : Int)
        ·
         rw [if_pos c9] at H
         have c9b0 : decide (x22_2 < (l0.length : Int)) = true := decide_eq_true c9
         clear c9
         by_cases c10 : 0 < (l0.length : Int)
         ·
          rw [if_pos c10] at H
          have c10b0 : decide (0 < (l0.length : Int)) = true := decide_eq_true c10
          have c10b1 : decide (0 < l0.length) = true := decide_eq_true (by omega)
          clear c10
          by_cases c11 : ((rd_L3 l0 x22_2).length : Int) = ((rd_L3 l0 0).length : Int)
          ·
           rw [if_pos c11] at H
           have c11b0 : (((rd_L3 l0 x22_2).length : Int) == ((rd_L3 l0 0).length : Int)) = true := beq_iff_eq.mpr c11
           have c11b1 : (((rd_L3 l0 x22_2).length : Int) != ((rd_L3 l0 0).length : Int)) = false := bne_eq_false_iff_eq.mpr c11
           have c11b2 : ((rd_L3 l0 x22_2).length == (rd_L3 l0 0).length) = true := by first | simpa using c11 | (simp at c11 ⊢; omega)
           clear c11
           have H' := Aside0.mk H
           clear H
           have p486 : 0 ≤ (x22_2 : Int) := of_decide_eq_true (by first | (with_reducible assumption) | assumption)
           have q486 : x22_2 < (l0.length : Int) := of_decide_eq_true (by first | (with_reducible assumption) | assumption)
           obtain ⟨ad486, A486_0, c486_0, e486, hx486_0, hl486_0, hi486_0⟩ := at_L3 HR0.out x22_2 p486 q486
           cases e486
           have HR486_0 := Aside0.mk hi486_0
           have HC486_0 := Aside0.mk hl486_0
           clear hi486_0 hl486_0
           replace p486 := eq_true p486
           replace q486 := eq_true q486
           have p487 : 0 ≤ (0 : Int) := (by omega)
           have q487 : 0 < (l0.length : Int) := of_decide_eq_true (by first | (with_reducible assumption) | assumption)
           obtain ⟨ad487, A487_0, c487_0, e487, hx487_0, hl487_0, hi487_0⟩ := at_L3 HR0.out 0 p487 q487
           obtain rfl : ad486 = ad487 := (by injection e487)
           have qi487 : (0 < l0.length) = True := eq_true (by omega)
           (try rw [show ((0 : Int)).toNat = 0 from rfl] at hx487_0)
           (try rw [Addr.add_zero'] at hx487_0)
           have HR487_0 := Aside0.mk hi487_0
           have HC487_0 := Aside0.mk hl487_0
           clear hi487_0 hl487_0
           replace p487 := eq_true p487
           replace q487 := eq_true q487
           go_wp2
           go_roundg k2
           case measure => have := HJ1.out; have := HK2.out; omega
           case rel => exact ⟨(wrap64 (x22_2 + 1)), (by first | rfl | (simp; done) | (simp [*]; done)), H', ⟨by have := HJ1.out; have := HK2.out; omega⟩, by repeat (first | exact Drawn0.refl _ | apply Drawn0.step)⟩
          ·
           rw [if_neg c11] at H
           have c11b0 : (((rd_L3 l0 x22_2).length : Int) == ((rd_L3 l0 0).length : Int)) = false := beq_eq_false_iff_ne.mpr c11
           have c11b1 : (((rd_L3 l0 x22_2).length : Int) != ((rd_L3 l0 0).length : Int)) = true := bne_iff_ne.mpr c11
           have c11b2 : ((rd_L3 l0 x22_2).length == (rd_L3 l0 0).length) = false := by first | simpa using c11 | (simp at c11 ⊢; omega)
           obtain rfl := Option.some.inj H
           have p486 : 0 ≤ (x22_2 : Int) := of_decide_eq_true (by first | (with_reducible assumption) | assumption)
           have q486 : x22_2 < (l0.length : Int) := of_decide_eq_true (by first | (with_reducible assumption) | assumption)
           obtain ⟨ad486, A486_0, c486_0, e486, hx486_0, hl486_0, hi486_0⟩ := at_L3 HR0.out x22_2 p486 q486
           cases e486
           have HR486_0 := Aside0.mk hi486_0
           have HC486_0 := Aside0.mk hl486_0
           clear hi486_0 hl486_0
           replace p486 := eq_true p486
           replace q486 := eq_true q486
           have p487 : 0 ≤ (0 : Int) := (by omega)
           have q487 : 0 < (l0.length : Int) := of_decide_eq_true (by first | (with_reducible assumption) | assumption)
           obtain ⟨ad487, A487_0, c487_0, e487, hx487_0, hl487_0, hi487_0⟩ := at_L3 HR0.out 0 p487 q487
           obtain rfl : ad486 = ad487 := (by injection e487)
           have qi487 : (0 < l0.length) = True := eq_true (by omega)
           (try rw [show ((0 : Int)).toNat = 0 from rfl] at hx487_0)
           (try rw [Addr.add_zero'] at hx487_0)
           have HR487_0 := Aside0.mk hi487_0
           have HC487_0 := Aside0.mk hl487_0
           clear hi487_0 hl487_0
           replace p487 := eq_true p487
           replace q487 := eq_true q487
           go_wp2
           go_ret
           exact ⟨by first | rfl | (simp; done) | (simp [*]; done), by repeat (first | exact Drawn0.refl _ | apply Drawn0.step)⟩
         ·
          rw [if_neg c10] at H
          exact absurd H (by simp)
        ·
         rw [if_neg c9] at H
         exact absurd H (by simp)
       ·
        rw [if_neg c8] at H
        exact absurd H (by simp)
      ·
       rw [if_neg c7] at H
       have c7b0 : decide (x22_2 < (l0.length : Int)) = false := decide_eq_false c7
       clear c7
       obtain rfl := Option.some.inj H
       go_wp2
       go_ret
       exact ⟨by first | rfl | (simp; done) | (simp [*]; done), by repeat (first | exact Drawn0.refl _ | apply Drawn0.step)⟩
end Go.Proofs.Ytbmflpflmjfabaa.PAll
