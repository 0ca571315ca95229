-- Written by wip/tools/handprint.py: walks of the functions that the law reaches; Lean checks them.
import Derived.Test.YtbmflpflmjfabaaPAllx0
import Derived.Test.YtbmflpflmjfabaaPAllf12
import Derived.Test.YtbmflpflmjfabaaPAllf13
import Derived.Test.YtbmflpflmjfabaaPAllf14
import Derived.Test.YtbmflpflmjfabaaPAllf18
import Derived.Test.YtbmflpflmjfabaaPAllf19
namespace Go.Proofs.Ytbmflpflmjfabaa.PAll
open Go.RowKit Go.Proofs.YtbmflpflmjfabaaW.PrintWords Go.Proofs.YtbmflpflmjfabaaW.PrintLast Go.Proofs.YtbmflpflmjfabaaW.PrintMore
attribute [local go_sem] max2_int min2_int max_two min_two max_three min_three max_four min_four   -- for this text's walks alone
set_option linter.unusedVariables false
set_option linter.unusedSimpArgs false

/-! ### dancestudiolaw11_AssignRows: function 8 -/
mutual
def dancestudiolaw11_AssignRows.j0 : Nat → List (List Int) → Int → Int → Bool → Bool → Option (Bool)
 | 0, _, _, _, _, _ => none
 | k + 1, x0, x1, x2, x3, x41 => if x41 = true then ((dancestudiolaw11_awake.f k).bind fun t429 => (some t429)) else (dancestudiolaw11_AssignRows.l0 k x0 x1 x2 x3 ([] : List (List Int)) 0)
def dancestudiolaw11_AssignRows.l0 : Nat → List (List Int) → Int → Int → Bool → List (List Int) → Int → Option (Bool)
 | 0, _, _, _, _, _, _ => none
 | k + 1, x0, x1, x2, x3, x9, x10 => if x10 < (x0.length : Int) then (dancestudiolaw11_AssignRows.l1 k x0 x1 x2 x3 x9 x10 ([] : List Int) 0) else ((assign_Check.f k x9).bind fun t447 => (if t447 = 0 then ((assign_Solve.f k x0).bind fun bt449 => ((assign_Solve.f k x9).bind fun bt454 => (if bt449.2.2 = 0 then (if bt454.2.2 = 0 then ((dancestudiolaw11_same.f k bt449.1 bt454.1).bind fun t459 => (if t459 = true then (if (wrap64 (bt454.2.1 - bt449.2.1)) = (wrap64 (x2)) then ((dancestudiolaw11_awake.f k).bind fun t460 => (some t460)) else (none)) else (none))) else (none)) else (none)))) else ((dancestudiolaw11_awake.f k).bind fun t448 => (some t448))))
def dancestudiolaw11_AssignRows.l1 : Nat → List (List Int) → Int → Int → Bool → List (List Int) → Int → List Int → Int → Option (Bool)
 | 0, _, _, _, _, _, _, _, _ => none
 | k + 1, x0, x1, x2, x3, x9, x10, x11, x12 => if x12 < (x0.length : Int) then (if 0 ≤ x10 then (if x10 < (x0.length : Int) then (if 0 ≤ x12 then (if x12 < ((rd_L1 x0 x10).length : Int) then (if x3 = true then (if x12 = x1 then (if x11.length < 17592186044416 then (dancestudiolaw11_AssignRows.l1 k x0 x1 x2 x3 x9 x10 (x11 ++ [wrap64 ((rd (rd_L1 x0 x10) x12) + (wrap64 (x2)))]) (wrap64 (x12 + 1))) else (none)) else (if x11.length < 17592186044416 then (dancestudiolaw11_AssignRows.l1 k x0 x1 x2 x3 x9 x10 (x11 ++ [rd (rd_L1 x0 x10) x12]) (wrap64 (x12 + 1))) else (none))) else (if x10 = x1 then (if x11.length < 17592186044416 then (dancestudiolaw11_AssignRows.l1 k x0 x1 x2 x3 x9 x10 (x11 ++ [wrap64 ((rd (rd_L1 x0 x10) x12) + (wrap64 (x2)))]) (wrap64 (x12 + 1))) else (none)) else (if x11.length < 17592186044416 then (dancestudiolaw11_AssignRows.l1 k x0 x1 x2 x3 x9 x10 (x11 ++ [rd (rd_L1 x0 x10) x12]) (wrap64 (x12 + 1))) else (none)))) else (none)) else (none)) else (none)) else (none)) else (if x9.length < 5864062014805 then (dancestudiolaw11_AssignRows.l0 k x0 x1 x2 x3 (x9 ++ [x11]) (wrap64 (x10 + 1))) else (none))
end
def dancestudiolaw11_AssignRows.f (k : Nat) (l0 : List (List Int)) (a1 : Int) (a2 : Int) (a3 : Bool) : Option (Bool) := (dancestudiolaw11_square.f k l0).bind fun t427 => (if t427 = true then ((assign_Check.f k l0).bind fun t428 => (if t428 = 0 then (if a1 < 0 then (dancestudiolaw11_AssignRows.j0 k l0 a1 a2 a3 true) else (if a1 ≥ (l0.length : Int) then (dancestudiolaw11_AssignRows.j0 k l0 a1 a2 a3 true) else (dancestudiolaw11_AssignRows.j0 k l0 a1 a2 a3 (decide (a2 > 1000))))) else (dancestudiolaw11_AssignRows.j0 k l0 a1 a2 a3 true))) else (dancestudiolaw11_AssignRows.j0 k l0 a1 a2 a3 true))
theorem dancestudiolaw11_AssignRows.mono_l : ∀ k, (∀ y0 y1 y2 y3 y4, LeO (dancestudiolaw11_AssignRows.j0 k y0 y1 y2 y3 y4) (dancestudiolaw11_AssignRows.j0 (k + 1) y0 y1 y2 y3 y4)) ∧ (∀ y0 y1 y2 y3 y4 y5, LeO (dancestudiolaw11_AssignRows.l0 k y0 y1 y2 y3 y4 y5) (dancestudiolaw11_AssignRows.l0 (k + 1) y0 y1 y2 y3 y4 y5)) ∧ (∀ y0 y1 y2 y3 y4 y5 y6 y7, LeO (dancestudiolaw11_AssignRows.l1 k y0 y1 y2 y3 y4 y5 y6 y7) (dancestudiolaw11_AssignRows.l1 (k + 1) y0 y1 y2 y3 y4 y5 y6 y7))
 | 0 => ⟨fun _ _ _ _ _ r h => by simp [dancestudiolaw11_AssignRows.j0] at h, fun _ _ _ _ _ _ r h => by simp [dancestudiolaw11_AssignRows.l0] at h, fun _ _ _ _ _ _ _ _ r h => by simp [dancestudiolaw11_AssignRows.l1] at h⟩
 | k + 1 => by
  obtain ⟨ih0, ih1, ih2⟩ := dancestudiolaw11_AssignRows.mono_l k
  refine ⟨?_, ?_, ?_⟩
  ·
   intro y0 y1 y2 y3 y4
   unfold dancestudiolaw11_AssignRows.j0
   repeat' first
   | (with_reducible exact ih0 _ _ _ _ _)
   | (with_reducible exact ih1 _ _ _ _ _ _)
   | (with_reducible exact ih2 _ _ _ _ _ _ _ _)
   | (with_reducible exact assign_Check.mono _ _)
   | (with_reducible exact assign_Solve.mono _ _)
   | (with_reducible exact dancestudiolaw11_awake.mono _)
   | (with_reducible exact dancestudiolaw11_same.mono _ _ _)
   | (with_reducible exact dancestudiolaw11_square.mono _ _)
   | (with_reducible exact LeO.refl _)
   | (with_reducible exact LeO.none _)
   | (with_reducible refine LeO.ite ?_ ?_)
   | (with_reducible refine LeO.bind ?_ (fun _ => ?_))
   | exact ih0 _ _ _ _ _
   | exact ih1 _ _ _ _ _ _
   | exact ih2 _ _ _ _ _ _ _ _
   | exact assign_Check.mono _ _
   | exact assign_Solve.mono _ _
   | exact dancestudiolaw11_awake.mono _
   | exact dancestudiolaw11_same.mono _ _ _
   | exact dancestudiolaw11_square.mono _ _
   | exact LeO.none _
   | refine LeO.ite ?_ ?_
   | refine LeO.bind ?_ (fun _ => ?_)
  ·
   intro y0 y1 y2 y3 y4 y5
   unfold dancestudiolaw11_AssignRows.l0
   repeat' first
   | (with_reducible exact ih0 _ _ _ _ _)
   | (with_reducible exact ih1 _ _ _ _ _ _)
   | (with_reducible exact ih2 _ _ _ _ _ _ _ _)
   | (with_reducible exact assign_Check.mono _ _)
   | (with_reducible exact assign_Solve.mono _ _)
   | (with_reducible exact dancestudiolaw11_awake.mono _)
   | (with_reducible exact dancestudiolaw11_same.mono _ _ _)
   | (with_reducible exact dancestudiolaw11_square.mono _ _)
   | (with_reducible exact LeO.refl _)
   | (with_reducible exact LeO.none _)
   | (with_reducible refine LeO.ite ?_ ?_)
   | (with_reducible refine LeO.bind ?_ (fun _ => ?_))
   | exact ih0 _ _ _ _ _
   | exact ih1 _ _ _ _ _ _
   | exact ih2 _ _ _ _ _ _ _ _
   | exact assign_Check.mono _ _
   | exact assign_Solve.mono _ _
   | exact dancestudiolaw11_awake.mono _
   | exact dancestudiolaw11_same.mono _ _ _
   | exact dancestudiolaw11_square.mono _ _
   | exact LeO.none _
   | refine LeO.ite ?_ ?_
   | refine LeO.bind ?_ (fun _ => ?_)
  ·
   intro y0 y1 y2 y3 y4 y5 y6 y7
   unfold dancestudiolaw11_AssignRows.l1
   repeat' first
   | (with_reducible exact ih0 _ _ _ _ _)
   | (with_reducible exact ih1 _ _ _ _ _ _)
   | (with_reducible exact ih2 _ _ _ _ _ _ _ _)
   | (with_reducible exact assign_Check.mono _ _)
   | (with_reducible exact assign_Solve.mono _ _)
   | (with_reducible exact dancestudiolaw11_awake.mono _)
   | (with_reducible exact dancestudiolaw11_same.mono _ _ _)
   | (with_reducible exact dancestudiolaw11_square.mono _ _)
   | (with_reducible exact LeO.refl _)
   | (with_reducible exact LeO.none _)
   | (with_reducible refine LeO.ite ?_ ?_)
   | (with_reducible refine LeO.bind ?_ (fun _ => ?_))
   | exact ih0 _ _ _ _ _
   | exact ih1 _ _ _ _ _ _
   | exact ih2 _ _ _ _ _ _ _ _
   | exact assign_Check.mono _ _
   | exact assign_Solve.mono _ _
   | exact dancestudiolaw11_awake.mono _
   | exact dancestudiolaw11_same.mono _ _ _
   | exact dancestudiolaw11_square.mono _ _
   | exact LeO.none _
   | refine LeO.ite ?_ ?_
   | refine LeO.bind ?_ (fun _ => ?_)
theorem dancestudiolaw11_AssignRows.mono : ∀ a0 a1 a2 a3 k, LeO (dancestudiolaw11_AssignRows.f k a0 a1 a2 a3) (dancestudiolaw11_AssignRows.f (k + 1) a0 a1 a2 a3) := by
 intro a0 a1 a2 a3 k
 obtain ⟨ih0, ih1, ih2⟩ := dancestudiolaw11_AssignRows.mono_l k
 unfold dancestudiolaw11_AssignRows.f
 repeat' first
   | (with_reducible exact ih0 _ _ _ _ _)
   | (with_reducible exact ih1 _ _ _ _ _ _)
   | (with_reducible exact ih2 _ _ _ _ _ _ _ _)
   | (with_reducible exact assign_Check.mono _ _)
   | (with_reducible exact assign_Solve.mono _ _)
   | (with_reducible exact dancestudiolaw11_awake.mono _)
   | (with_reducible exact dancestudiolaw11_same.mono _ _ _)
   | (with_reducible exact dancestudiolaw11_square.mono _ _)
   | (with_reducible exact LeO.refl _)
   | (with_reducible exact LeO.none _)
   | (with_reducible refine LeO.ite ?_ ?_)
   | (with_reducible refine LeO.bind ?_ (fun _ => ?_))
   | exact ih0 _ _ _ _ _
   | exact ih1 _ _ _ _ _ _
   | exact ih2 _ _ _ _ _ _ _ _
   | exact assign_Check.mono _ _
   | exact assign_Solve.mono _ _
   | exact dancestudiolaw11_awake.mono _
   | exact dancestudiolaw11_same.mono _ _ _
   | exact dancestudiolaw11_square.mono _ _
   | exact LeO.none _
   | refine LeO.ite ?_ ?_
   | refine LeO.bind ?_ (fun _ => ?_)
set_option maxHeartbeats 8000000 in
set_option maxRecDepth 100000 in
theorem dancestudiolaw11_AssignRows.calls (k : Nat) (A0 : Option Addr) (c0 : Nat) (l0 : List (List Int)) (a1 : Int) (a2 : Int) (a3 : Bool) (r : Bool) (w : World) (hr0 : Kd.C (Kd.slice 3 (Kd.int .i64)) w A0 l0.length l0) (hc0 : l0.length ≤ c0) (h : dancestudiolaw11_AssignRows.f k l0 a1 a2 a3 = some r) :
  Calls Try.prog 8 #[.slice A0 l0.length c0, .int .i64 a1, .int .u16 a2, .bool a3] w fun e w' => e = .returned (.bool r) ∧ Below w.heap.size w w' := by
 have HR0 := Aside0.mk hr0
 have HC0 := Aside0.mk hc0
 clear hr0 hc0
 have HB := Aside0.mk (Below.refl w.heap.size w)
 have H : ((dancestudiolaw11_square.f k l0).bind fun t427 => (if t427 = true then ((assign_Check.f k l0).bind fun t428 => (if t428 = 0 then (if a1 < 0 then (dancestudiolaw11_AssignRows.j0 k l0 a1 a2 a3 true) else (if a1 ≥ (l0.length : Int) then (dancestudiolaw11_AssignRows.j0 k l0 a1 a2 a3 true) else (dancestudiolaw11_AssignRows.j0 k l0 a1 a2 a3 (decide (a2 > 1000))))) else (dancestudiolaw11_AssignRows.j0 k l0 a1 a2 a3 true))) else (dancestudiolaw11_AssignRows.j0 k l0 a1 a2 a3 true))) = some r := h
 clear h
 have HC5 := Aside0.mk H
 clear H
 go_enter Try.func8, Try.ntmps8
 go_upto_region 1 with (fail)
 go_cut [41] (fun v41 wc => ∃ (kq : Nat) (x41_4 : Bool), v41 = .bool x41_4 ∧ Aside0 (dancestudiolaw11_AssignRows.j0 kq l0 a1 a2 a3 x41_4 = some r) ∧ Aside0 (kq ≤ k) ∧ Aside0 (Below w.heap.size w wc))
 case first =>
  have H := HC5.out
  clear HC5
  replace H := Option.bind_eq_some_iff.mp H
  obtain ⟨t427, A60, H⟩ := H
  replace H : (if t427 = true then ((assign_Check.f k l0).bind fun t428 => (if t428 = 0 then (if a1 < 0 then (dancestudiolaw11_AssignRows.j0 k l0 a1 a2 a3 true) else (if a1 ≥ (l0.length : Int) then (dancestudiolaw11_AssignRows.j0 k l0 a1 a2 a3 true) else (dancestudiolaw11_AssignRows.j0 k l0 a1 a2 a3 (decide (a2 > 1000))))) else (dancestudiolaw11_AssignRows.j0 k l0 a1 a2 a3 true))) else (dancestudiolaw11_AssignRows.j0 k l0 a1 a2 a3 true)) = some r := H
  have A6 := Aside0.mk A60
  clear A60
  by_cases c7 : t427 = true
  ·
   subst c7
   have H1 : ((assign_Check.f k l0).bind fun t428 => (if t428 = 0 then (if a1 < 0 then (dancestudiolaw11_AssignRows.j0 k l0 a1 a2 a3 true) else (if a1 ≥ (l0.length : Int) then (dancestudiolaw11_AssignRows.j0 k l0 a1 a2 a3 true) else (dancestudiolaw11_AssignRows.j0 k l0 a1 a2 a3 (decide (a2 > 1000))))) else (dancestudiolaw11_AssignRows.j0 k l0 a1 a2 a3 true))) = some r := by rw [if_pos rfl] at H; exact H
   clear H
   have H := H1
   clear H1
   replace H := Option.bind_eq_some_iff.mp H
   obtain ⟨t428, A80, H⟩ := H
   replace H : (if t428 = 0 then (if a1 < 0 then (dancestudiolaw11_AssignRows.j0 k l0 a1 a2 a3 true) else (if a1 ≥ (l0.length : Int) then (dancestudiolaw11_AssignRows.j0 k l0 a1 a2 a3 true) else (dancestudiolaw11_AssignRows.j0 k l0 a1 a2 a3 (decide (a2 > 1000))))) else (dancestudiolaw11_AssignRows.j0 k l0 a1 a2 a3 true)) = some r := H
   have A8 := Aside0.mk A80
   clear A80
   by_cases c9 : t428 = 0
   ·
    rw [if_pos c9] at H
    have c9b0 : (t428 == 0) = true := beq_iff_eq.mpr c9
    have c9b1 : (t428 != 0) = false := bne_eq_false_iff_eq.mpr c9
    clear c9
    (first | rw [c9b0] | (simp only [i64_w, i32_w]; rw [c9b0]) | skip)
    by_cases c10 : a1 < 0
    ·
     rw [if_pos c10] at H
     have c10b0 : decide (a1 < 0) = true := decide_eq_true c10
     clear c10
     have H' := Aside0.mk H
     clear H
     go_wp2_with (first | ((with_reducible refine gate_callee (f := 19) rfl ?_); refine goesL_ (some 21) rfl rfl Try.func19 (by kernel_rfl) rfl #[.slice A0 l0.length c0] rfl (by (try simp only [List.map_toArray, List.map_cons, List.map_nil]); first | done | rfl | (simp only [List.length_drop, List.length_take]; rfl)) ?_; (with_reducible refine (dancestudiolaw11_square.calls k _ _ l0 true _ ?side1 ?side2 A6.out).mono ?_); (case side1 => repeat (first | exact (Kd.C_below HR0.out HB.out) | (with_reducible refine Kd.C_alloc ?_ _) | (with_reducible refine Kd.C_drewN ?_ _) | (with_reducible refine Kd.C_drew ?_))); (case side2 => exact HC0.out); rintro e w' ⟨rfl, ⟨nd, rfl⟩⟩; refine ⟨_, rfl, ?_⟩) | (go_at_call 12; (with_reducible refine (assign_Check.calls k _ _ l0 t428 _ ?side1 ?side2 A8.out).mono ?_); (case side1 => repeat (first | exact (Kd.C_below HR0.out (by repeat (first | (with_reducible first | exact HB.out | apply below_alloc | apply pw_below_drewN | apply below_drew1) | exact HB.out))) | (with_reducible refine Kd.C_alloc ?_ _) | (with_reducible refine Kd.C_drewN ?_ _) | (with_reducible refine Kd.C_drew ?_))); (case side2 => exact HC0.out); rintro e w' ⟨rfl, ⟨nd, rfl⟩⟩))
     go_meet
     case rel => exact ⟨_, (true), (by first | rfl | (simp; done) | (simp [*]; done)), H', ⟨by first | omega | exact Nat.le_refl _⟩, ⟨by repeat (first | (with_reducible first | exact HB.out | apply below_alloc | apply pw_below_drewN | apply below_drew1) | exact HB.out)⟩⟩
    ·
     rw [if_neg c10] at H
     have c10b0 : decide (a1 < 0) = false := decide_eq_false c10
     clear c10
     by_cases c11 : a1 ≥ (l0.length : Int)
     ·
      rw [if_pos c11] at H
      have c11b0 : decide ((l0.length : Int) ≤ a1) = true := decide_eq_true c11
      clear c11
      have H' := Aside0.mk H
      clear H
      go_wp2_with (first | ((with_reducible refine gate_callee (f := 19) rfl ?_); refine goesL_ (some 21) rfl rfl Try.func19 (by kernel_rfl) rfl #[.slice A0 l0.length c0] rfl (by (try simp only [List.map_toArray, List.map_cons, List.map_nil]); first | done | rfl | (simp only [List.length_drop, List.length_take]; rfl)) ?_; (with_reducible refine (dancestudiolaw11_square.calls k _ _ l0 true _ ?side1 ?side2 A6.out).mono ?_); (case side1 => repeat (first | exact (Kd.C_below HR0.out HB.out) | (with_reducible refine Kd.C_alloc ?_ _) | (with_reducible refine Kd.C_drewN ?_ _) | (with_reducible refine Kd.C_drew ?_))); (case side2 => exact HC0.out); rintro e w' ⟨rfl, ⟨nd, rfl⟩⟩; refine ⟨_, rfl, ?_⟩) | (go_at_call 12; (with_reducible refine (assign_Check.calls k _ _ l0 t428 _ ?side1 ?side2 A8.out).mono ?_); (case side1 => repeat (first | exact (Kd.C_below HR0.out (by repeat (first | (with_reducible first | exact HB.out | apply below_alloc | apply pw_below_drewN | apply below_drew1) | exact HB.out))) | (with_reducible refine Kd.C_alloc ?_ _) | (with_reducible refine Kd.C_drewN ?_ _) | (with_reducible refine Kd.C_drew ?_))); (case side2 => exact HC0.out); rintro e w' ⟨rfl, ⟨nd, rfl⟩⟩))
      go_meet
      case rel => exact ⟨_, (true), (by first | rfl | (simp; done) | (simp [*]; done)), H', ⟨by first | omega | exact Nat.le_refl _⟩, ⟨by repeat (first | (with_reducible first | exact HB.out | apply below_alloc | apply pw_below_drewN | apply below_drew1) | exact HB.out)⟩⟩
     ·
      rw [if_neg c11] at H
      have c11b0 : decide ((l0.length : Int) ≤ a1) = false := decide_eq_false c11
      clear c11
      have H' := Aside0.mk H
      clear H
      go_wp2_with (first | ((with_reducible refine gate_callee (f := 19) rfl ?_); refine goesL_ (some 21) rfl rfl Try.func19 (by kernel_rfl) rfl #[.slice A0 l0.length c0] rfl (by (try simp only [List.map_toArray, List.map_cons, List.map_nil]); first | done | rfl | (simp only [List.length_drop, List.length_take]; rfl)) ?_; (with_reducible refine (dancestudiolaw11_square.calls k _ _ l0 true _ ?side1 ?side2 A6.out).mono ?_); (case side1 => repeat (first | exact (Kd.C_below HR0.out HB.out) | (with_reducible refine Kd.C_alloc ?_ _) | (with_reducible refine Kd.C_drewN ?_ _) | (with_reducible refine Kd.C_drew ?_))); (case side2 => exact HC0.out); rintro e w' ⟨rfl, ⟨nd, rfl⟩⟩; refine ⟨_, rfl, ?_⟩) | (go_at_call 12; (with_reducible refine (assign_Check.calls k _ _ l0 t428 _ ?side1 ?side2 A8.out).mono ?_); (case side1 => repeat (first | exact (Kd.C_below HR0.out (by repeat (first | (with_reducible first | exact HB.out | apply below_alloc | apply pw_below_drewN | apply below_drew1) | exact HB.out))) | (with_reducible refine Kd.C_alloc ?_ _) | (with_reducible refine Kd.C_drewN ?_ _) | (with_reducible refine Kd.C_drew ?_))); (case side2 => exact HC0.out); rintro e w' ⟨rfl, ⟨nd, rfl⟩⟩))
      go_meet
      case rel => exact ⟨_, (decide (a2 > 1000)), (by first | rfl | (simp; done) | (simp [*]; done)), H', ⟨by first | omega | exact Nat.le_refl _⟩, ⟨by repeat (first | (with_reducible first | exact HB.out | apply below_alloc | apply pw_below_drewN | apply below_drew1) | exact HB.out)⟩⟩
   ·
    rw [if_neg c9] at H
    have c9b0 : (t428 == 0) = false := beq_eq_false_iff_ne.mpr c9
    have c9b1 : (t428 != 0) = true := bne_iff_ne.mpr c9
    (first | rw [c9b0] | (simp only [i64_w, i32_w]; rw [c9b0]) | skip)
    have H' := Aside0.mk H
    clear H
    go_wp2_with (first | ((with_reducible refine gate_callee (f := 19) rfl ?_); refine goesL_ (some 21) rfl rfl Try.func19 (by kernel_rfl) rfl #[.slice A0 l0.length c0] rfl (by (try simp only [List.map_toArray, List.map_cons, List.map_nil]); first | done | rfl | (simp only [List.length_drop, List.length_take]; rfl)) ?_; (with_reducible refine (dancestudiolaw11_square.calls k _ _ l0 true _ ?side1 ?side2 A6.out).mono ?_); (case side1 => repeat (first | exact (Kd.C_below HR0.out HB.out) | (with_reducible refine Kd.C_alloc ?_ _) | (with_reducible refine Kd.C_drewN ?_ _) | (with_reducible refine Kd.C_drew ?_))); (case side2 => exact HC0.out); rintro e w' ⟨rfl, ⟨nd, rfl⟩⟩; refine ⟨_, rfl, ?_⟩) | (go_at_call 12; (with_reducible refine (assign_Check.calls k _ _ l0 t428 _ ?side1 ?side2 A8.out).mono ?_); (case side1 => repeat (first | exact (Kd.C_below HR0.out (by repeat (first | (with_reducible first | exact HB.out | apply below_alloc | apply pw_below_drewN | apply below_drew1) | exact HB.out))) | (with_reducible refine Kd.C_alloc ?_ _) | (with_reducible refine Kd.C_drewN ?_ _) | (with_reducible refine Kd.C_drew ?_))); (case side2 => exact HC0.out); rintro e w' ⟨rfl, ⟨nd, rfl⟩⟩))
    go_meet
    case rel => exact ⟨_, (true), (by first | rfl | (simp; done) | (simp [*]; done)), H', ⟨by first | omega | exact Nat.le_refl _⟩, ⟨by repeat (first | (with_reducible first | exact HB.out | apply below_alloc | apply pw_below_drewN | apply below_drew1) | exact HB.out)⟩⟩
  ·
   replace c7 := Bool.eq_false_iff.mpr c7
   subst c7
   have H1 : (dancestudiolaw11_AssignRows.j0 k l0 a1 a2 a3 true) = some r := by rw [if_neg (show ¬ (false = true) by decide)] at H; exact H
   clear H
   have H := H1
   clear H1
   have H' := Aside0.mk H
   clear H
   go_wp2_with (first | ((with_reducible refine gate_callee (f := 19) rfl ?_); refine goesL_ (some 21) rfl rfl Try.func19 (by kernel_rfl) rfl #[.slice A0 l0.length c0] rfl (by (try simp only [List.map_toArray, List.map_cons, List.map_nil]); first | done | rfl | (simp only [List.length_drop, List.length_take]; rfl)) ?_; (with_reducible refine (dancestudiolaw11_square.calls k _ _ l0 false _ ?side1 ?side2 A6.out).mono ?_); (case side1 => repeat (first | exact (Kd.C_below HR0.out HB.out) | (with_reducible refine Kd.C_alloc ?_ _) | (with_reducible refine Kd.C_drewN ?_ _) | (with_reducible refine Kd.C_drew ?_))); (case side2 => exact HC0.out); rintro e w' ⟨rfl, ⟨nd, rfl⟩⟩; refine ⟨_, rfl, ?_⟩))
   go_meet
   case rel => exact ⟨_, (true), (by first | rfl | (simp; done) | (simp [*]; done)), H', ⟨by first | omega | exact Nat.le_refl _⟩, ⟨by repeat (first | (with_reducible first | exact HB.out | apply below_alloc | apply pw_below_drewN | apply below_drew1) | exact HB.out)⟩⟩
 case rest =>
  clear HC5
  try clear c1
  try clear p2
  try clear c7
  try clear c8
  try clear c9
  try clear c9b0
  try clear c9b1
  try clear c10
  try clear c10b0
  try clear c11
  try clear c11b0
  obtain ⟨kq, x41_4, rfl, HA, HJ4, HB⟩ := hcut
  cases kq with
  | zero => exact absurd HA.out (by simp [dancestudiolaw11_AssignRows.j0])
  | succ kj4 =>
   have H := HA.out
   clear HA
   simp only [dancestudiolaw11_AssignRows.j0] at H
   by_cases c12 : x41_4 = true
   ·
    subst c12
    have H1 : ((dancestudiolaw11_awake.f kj4).bind fun t429 => (some t429)) = some r := by rw [if_pos rfl] at H; exact H
    clear H
    have H := H1
    clear H1
    replace H := Option.bind_eq_some_iff.mp H
    obtain ⟨t429, A130, H⟩ := H
    replace H : (some t429) = some r := H
    have A13 := Aside0.mk A130
    clear A130
    obtain rfl := Option.some.inj H
    go_wp2_with (first | ((with_reducible refine gate_callee (f := 13) rfl ?_); refine goesL_ (some 42) rfl rfl Try.func13 (by kernel_rfl) rfl #[] rfl (by (try simp only [List.map_toArray, List.map_cons, List.map_nil]); first | done | rfl | (simp only [List.length_drop, List.length_take]; rfl)) ?_; (with_reducible refine (dancestudiolaw11_awake.calls kj4  t429 _ A13.out).mono ?_); rintro e w14 ⟨rfl, hb⟩; refine ⟨_, rfl, ?_⟩; have n0_ := Aside0.mk (below_step (by repeat (first | (with_reducible first | exact HB.out | apply below_alloc | apply pw_below_drewN | apply below_drew1) | exact HB.out)) hb); clear HB; have HB := n0_; clear n0_; (try clear hb); (try clear hb2); (try clear hk); (try clear hi)))
    go_ret
    exact ⟨by first | rfl | (simp [errW_none, errW_some] <;> rfl) | (simp [*, errW_none, errW_some] <;> rfl), by repeat (first | (with_reducible first | exact HB.out | apply below_alloc | apply pw_below_drewN | apply below_drew1) | exact HB.out)⟩
   ·
    replace c12 := Bool.eq_false_iff.mpr c12
    subst c12
    have H1 : (dancestudiolaw11_AssignRows.l0 kj4 l0 a1 a2 a3 ([] : List (List Int)) 0) = some r := by rw [if_neg (show ¬ (false = true) by decide)] at H; exact H
    clear H
    have H := H1
    clear H1
    have H' := Aside0.mk H
    clear H
    go_wp2
    go_loopg [9, 10] kj4 (fun kq v9 v10 w' => ∃ (x9_2 : List (List Int)) (x10_2 : Int), v10 = .int .i64 x10_2 ∧ Aside0 (dancestudiolaw11_AssignRows.l0 kq l0 a1 a2 a3 x9_2 x10_2 = some r) ∧ Aside0 (kq ≤ kj4) ∧ Aside0 (Kd.S (Kd.slice 3 (Kd.int .i64)) 23 w' w.heap.size (fun _ => True) v9 x9_2) ∧ Aside0 (Below w.heap.size w w'))
    case atStart => exact ⟨(([] : List (List Int))), (0), (by first | rfl | (simp; done) | (simp [*]; done)), H', ⟨Nat.le_refl _⟩, ⟨by first | exact Kd.S_nil _ _ _ _ _ | exact Kd.N_nil _ _ _ _ _ | exact Kd.V_nil _ _ _ _ _ | exact Kd.Q_nil _ _ _ _ _ | exact Kd.R_nil _ _ _ _ _⟩, ⟨by repeat (first | (with_reducible first | exact HB.out | apply below_alloc | apply pw_below_drewN | apply below_drew1) | exact HB.out)⟩⟩
    case round =>
     clear H'
     try clear c1
     try clear p2
     try clear c7
     try clear c8
     try clear c9
     try clear c9b0
     try clear c9b1
     try clear c10
     try clear c10b0
     try clear c11
     try clear c11b0
     try clear c12
     try clear c13
     try clear p2
     obtain ⟨x9_2, x10_2, rfl, HA, HK2, HO_9, HB⟩ := hrel
     cases gk with
     | zero => exact absurd HA.out (by simp [dancestudiolaw11_AssignRows.l0])
     | succ k2 =>
      have H := HA.out
      clear HA
      simp only [dancestudiolaw11_AssignRows.l0] at H
      by_cases c15 : x10_2 < (l0.length : Int)
      ·
       rw [if_pos c15] at H
       have c15b0 : decide (x10_2 < (l0.length : Int)) = true := decide_eq_true c15
       clear c15
       have H' := Aside0.mk H
       clear H
       go_wp2
       go_loopg [11, 12] k2 (fun kq v11 v12 w' => ∃ (x11_3 : List Int) (x12_3 : Int), v12 = .int .i64 x12_3 ∧ Aside0 (dancestudiolaw11_AssignRows.l1 kq l0 a1 a2 a3 x9_2 x10_2 x11_3 x12_3 = some r) ∧ Aside0 (kq ≤ k2) ∧ Aside0 (Kd.S (Kd.slice 3 (Kd.int .i64)) 23 w' w.heap.size (fun k_ => some k_ ≠ (v11 : Value).ownBlock) u9 x9_2) ∧ Aside0 (Kd.R (Kd.int .i64) 3 w' w.heap.size (fun _ => True) v11 x11_3) ∧ Aside0 (Below w.heap.size w w'))
       case atStart => exact ⟨(([] : List Int)), (0), (by first | rfl | (simp; done) | (simp [*]; done)), H', ⟨Nat.le_refl _⟩, ⟨by (with_reducible repeat (first | apply Kd.S_alloc | apply Kd.S_drewN | apply Kd.S_drew)); exact Kd.S_mono HO_9.out (fun _ hk => (by simp [Value.ownBlock]))⟩, ⟨by first | exact Kd.R_nil _ _ _ _ _ | exact Kd.N_nil _ _ _ _ _ | exact Kd.V_nil _ _ _ _ _ | exact Kd.Q_nil _ _ _ _ _ | exact Kd.S_nil _ _ _ _ _⟩, ⟨by repeat (first | (with_reducible first | exact HB.out | apply below_alloc | apply pw_below_drewN | apply below_drew1) | exact HB.out)⟩⟩
       case round =>
        clear H'
        try clear c1
        try clear p2
        try clear c7
        try clear c8
        try clear c9
        try clear c9b0
        try clear c9b1
        try clear c10
        try clear c10b0
        try clear c11
        try clear c11b0
        try clear c12
        try clear c13
        try clear c15
        try clear c15b0
        try clear p2
        obtain ⟨x11_3, x12_3, rfl, HA, HK3, HO_9, HO_11, HB⟩ := hrel
        cases gk with
        | zero => exact absurd HA.out (by simp [dancestudiolaw11_AssignRows.l1])
        | succ k3 =>
         have H := HA.out
         clear HA
         simp only [dancestudiolaw11_AssignRows.l1] at H
         by_cases c16 : x12_3 < (l0.length : Int)
         ·
          rw [if_pos c16] at H
          have c16b0 : decide (x12_3 < (l0.length : Int)) = true := decide_eq_true c16
          clear c16
          by_cases c17 : 0 ≤ x10_2
          ·
           rw [if_pos c17] at H
           have c17b0 : decide (0 ≤ x10_2) = true := decide_eq_true c17
           clear c17
           by_cases c18 : x10_2 < (l0.length : Int)
           ·
            rw [if_pos c18] at H
            have c18b0 : decide (x10_2 < (l0.length : Int)) = true := decide_eq_true c18
            clear c18
            by_cases c19 : 0 ≤ x12_3
            ·
             rw [if_pos c19] at H
             have c19b0 : decide (0 ≤ x12_3) = true := decide_eq_true c19
             clear c19
             by_cases c20 : x12_3 < ((rd_L1 l0 x10_2).length : Int)
             ·
              rw [if_pos c20] at H
              have c20b0 : decide (x12_3 < ((rd_L1 l0 x10_2).length : Int)) = true := decide_eq_true c20
              clear c20
              by_cases c21 : a3 = true
              ·
               subst c21
               have H1 : (if x12_3 = a1 then (if x11_3.length < 17592186044416 then (dancestudiolaw11_AssignRows.l1 k3 l0 a1 a2 true x9_2 x10_2 (x11_3 ++ [wrap64 ((rd (rd_L1 l0 x10_2) x12_3) + (wrap64 (a2)))]) (wrap64 (x12_3 + 1))) else (none)) else (if x11_3.length < 17592186044416 then (dancestudiolaw11_AssignRows.l1 k3 l0 a1 a2 true x9_2 x10_2 (x11_3 ++ [rd (rd_L1 l0 x10_2) x12_3]) (wrap64 (x12_3 + 1))) else (none))) = some r := by rw [if_pos rfl] at H; exact H
               clear H
               have H := H1
               clear H1
               by_cases c22 : x12_3 = a1
               ·
                rw [if_pos c22] at H
                have c22b0 : (x12_3 == a1) = true := beq_iff_eq.mpr c22
                have c22b1 : (x12_3 != a1) = false := bne_eq_false_iff_eq.mpr c22
                clear c22
                by_cases c23 : x11_3.length < 17592186044416
                ·
                 rw [if_pos c23] at H
                 have LMc23 := Aside0.mk c23
                 clear c23
                 obtain ⟨y432, hy432⟩ : ∃ y_ : List Int, y_ = (x11_3 ++ [wrap64 ((rd (rd_L1 l0 x10_2) x12_3) + (wrap64 (a2)))]) := ⟨_, rfl⟩
                 replace H : (dancestudiolaw11_AssignRows.l1 k3 l0 a1 a2 true x9_2 x10_2 y432 (wrap64 (x12_3 + 1))) = some r := by first | (rw [hy432]; with_reducible exact H) | (have H2_ := (Option.bind_some _ _).symm.trans H; rw [hy432]; with_reducible exact H2_) | (have H2_ := (Option.bind_some _ _).symm.trans H; with_reducible exact H2_) | with_reducible exact H | (rw [hy432]; exact H) | exact H
                 have Ny432 := Aside0.mk hy432
                 clear hy432
                 have H' := Aside0.mk H
                 clear H
                 have p430 : 0 ≤ (x10_2 : Int) := of_decide_eq_true (by first | (with_reducible assumption) | assumption)
                 have q430 : x10_2 < (l0.length : Int) := of_decide_eq_true (by first | (with_reducible assumption) | assumption)
                 obtain ⟨ad430, A430_0, c430_0, e430, hx430_0, hl430_0, hi430_0⟩ := at_L1 HR0.out x10_2 p430 q430
                 cases e430
                 replace hx430_0 := (HB.out.cell (World.block_lt_of_cell? w _ hx430_0)).trans hx430_0
                 have HR430_0 := Aside0.mk hi430_0
                 have HC430_0 := Aside0.mk hl430_0
                 clear hi430_0 hl430_0
                 replace p430 := eq_true p430
                 replace q430 := eq_true q430
                 have p431 : 0 ≤ (x12_3 : Int) := of_decide_eq_true (by first | (with_reducible assumption) | assumption)
                 have q431 : x12_3 < ((rd_L1 l0 x10_2).length : Int) := of_decide_eq_true (by first | (with_reducible assumption) | assumption)
                 obtain ⟨ad431, e431, hx431_0⟩ := Kd.at_int HR430_0.out x12_3 p431 q431
                 cases e431
                 replace hx431_0 := (HB.out.cell (World.block_lt_of_cell? w _ hx431_0)).trans hx431_0
                 replace p431 := eq_true p431
                 replace q431 := eq_true q431
                 go_wp2_with (first | ((with_reducible refine gate_builtin (b := .append) (xs := #[.tmp 81, .tmp 83]) rfl ?_); (try (refine gate_guard (by rfl) ?_; dsimp only)); at_builtin; refine Kd.R_append (Kd.int .i64) (w0 := w) w.heap.size rfl (.tmp 81) (.tmp 83) 23 3 (.int .i64 0) 8 rfl Try.underlying23 info3 rfl (by decide) (by omega) u11 x11_3 (wrap64 ((rd (rd_L1 l0 x10_2) x12_3) + (wrap64 (a2)))) [.int .i64 (wrap64 ((rd (rd_L1 l0 x10_2) x12_3) + (wrap64 (a2))))] (fun _ => True) (fun _ => False) rfl rfl ?aP (fun _ hk => hk.elim) ?aF ?aO ?aB ?aS ?aL ?_; (case aP => exact rfl); (case aB => exact (by repeat (first | (with_reducible first | exact HB.out | apply below_alloc | apply pw_below_drewN | apply below_drew1) | exact HB.out))); (case aF => exact (fun _ _ => trivial)); (case aO => exact (by (with_reducible repeat (first | apply Kd.R_alloc | apply Kd.R_drewN | apply Kd.R_drew)); exact HO_11.out)); (case aS => exact (below_size (by repeat (first | (with_reducible first | exact HB.out | apply below_alloc | apply pw_below_drewN | apply below_drew1) | exact HB.out)))); (case aL => have := LMc23.out; omega); intro v433 w24 ho hb hg hat; rw [← Ny432.out] at ho; have n0_ := Aside0.mk (Kd.S_after (ok := (fun _ => True)) (by (with_reducible repeat (first | apply Kd.S_alloc | apply Kd.S_drewN | apply Kd.S_drew)); exact Kd.S_mono HO_9.out (fun _ hk => ⟨trivial, hk⟩)) hg hat); have n1_ := Aside0.mk (hb); have n2_ := Aside0.mk (ho); clear HO_9; clear HB; clear HO_11; have HO_9 := n0_; have HB := n1_; have HO434 := n2_; clear n0_ n1_ n2_; clear ho hb hg hat))
                 go_roundg k3
                 case measure => have := HJ4.out; have := HK2.out; have := HK3.out; omega
                 case rel => exact ⟨(y432), (wrap64 (x12_3 + 1)), (by first | rfl | (simp; done) | (simp [*]; done)), H', ⟨by have := HJ4.out; have := HK2.out; have := HK3.out; omega⟩, ⟨by (with_reducible repeat (first | apply Kd.S_alloc | apply Kd.S_drewN | apply Kd.S_drew)); exact Kd.S_mono HO_9.out (fun _ hk => hk.2)⟩, ⟨by (with_reducible repeat (first | apply Kd.R_alloc | apply Kd.R_drewN | apply Kd.R_drew)); exact HO434.out⟩, ⟨by repeat (first | (with_reducible first | exact HB.out | apply below_alloc | apply pw_below_drewN | apply below_drew1) | exact HB.out)⟩⟩
                ·
                 rw [if_neg c23] at H
                 exact absurd H (by simp)
               ·
                rw [if_neg c22] at H
                have c22b0 : (x12_3 == a1) = false := beq_eq_false_iff_ne.mpr c22
                have c22b1 : (x12_3 != a1) = true := bne_iff_ne.mpr c22
                by_cases c25 : x11_3.length < 17592186044416
                ·
                 rw [if_pos c25] at H
                 have LMc25 := Aside0.mk c25
                 clear c25
                 obtain ⟨y435, hy435⟩ : ∃ y_ : List Int, y_ = (x11_3 ++ [rd (rd_L1 l0 x10_2) x12_3]) := ⟨_, rfl⟩
                 replace H : (dancestudiolaw11_AssignRows.l1 k3 l0 a1 a2 true x9_2 x10_2 y435 (wrap64 (x12_3 + 1))) = some r := by first | (rw [hy435]; with_reducible exact H) | (have H2_ := (Option.bind_some _ _).symm.trans H; rw [hy435]; with_reducible exact H2_) | (have H2_ := (Option.bind_some _ _).symm.trans H; with_reducible exact H2_) | with_reducible exact H | (rw [hy435]; exact H) | exact H
                 have Ny435 := Aside0.mk hy435
                 clear hy435
                 have H' := Aside0.mk H
                 clear H
                 have p430 : 0 ≤ (x10_2 : Int) := of_decide_eq_true (by first | (with_reducible assumption) | assumption)
                 have q430 : x10_2 < (l0.length : Int) := of_decide_eq_true (by first | (with_reducible assumption) | assumption)
                 obtain ⟨ad430, A430_0, c430_0, e430, hx430_0, hl430_0, hi430_0⟩ := at_L1 HR0.out x10_2 p430 q430
                 cases e430
                 replace hx430_0 := (HB.out.cell (World.block_lt_of_cell? w _ hx430_0)).trans hx430_0
                 have HR430_0 := Aside0.mk hi430_0
                 have HC430_0 := Aside0.mk hl430_0
                 clear hi430_0 hl430_0
                 replace p430 := eq_true p430
                 replace q430 := eq_true q430
                 have p431 : 0 ≤ (x12_3 : Int) := of_decide_eq_true (by first | (with_reducible assumption) | assumption)
                 have q431 : x12_3 < ((rd_L1 l0 x10_2).length : Int) := of_decide_eq_true (by first | (with_reducible assumption) | assumption)
                 obtain ⟨ad431, e431, hx431_0⟩ := Kd.at_int HR430_0.out x12_3 p431 q431
                 cases e431
                 replace hx431_0 := (HB.out.cell (World.block_lt_of_cell? w _ hx431_0)).trans hx431_0
                 replace p431 := eq_true p431
                 replace q431 := eq_true q431
                 go_wp2_with (first | ((with_reducible refine gate_builtin (b := .append) (xs := #[.tmp 81, .tmp 83]) rfl ?_); (try (refine gate_guard (by rfl) ?_; dsimp only)); at_builtin; refine Kd.R_append (Kd.int .i64) (w0 := w) w.heap.size rfl (.tmp 81) (.tmp 83) 23 3 (.int .i64 0) 8 rfl Try.underlying23 info3 rfl (by decide) (by omega) u11 x11_3 (rd (rd_L1 l0 x10_2) x12_3) [.int .i64 (rd (rd_L1 l0 x10_2) x12_3)] (fun _ => True) (fun _ => False) rfl rfl ?aP (fun _ hk => hk.elim) ?aF ?aO ?aB ?aS ?aL ?_; (case aP => exact rfl); (case aB => exact (by repeat (first | (with_reducible first | exact HB.out | apply below_alloc | apply pw_below_drewN | apply below_drew1) | exact HB.out))); (case aF => exact (fun _ _ => trivial)); (case aO => exact (by (with_reducible repeat (first | apply Kd.R_alloc | apply Kd.R_drewN | apply Kd.R_drew)); exact HO_11.out)); (case aS => exact (below_size (by repeat (first | (with_reducible first | exact HB.out | apply below_alloc | apply pw_below_drewN | apply below_drew1) | exact HB.out)))); (case aL => have := LMc25.out; omega); intro v436 w26 ho hb hg hat; rw [← Ny435.out] at ho; have n0_ := Aside0.mk (Kd.S_after (ok := (fun _ => True)) (by (with_reducible repeat (first | apply Kd.S_alloc | apply Kd.S_drewN | apply Kd.S_drew)); exact Kd.S_mono HO_9.out (fun _ hk => ⟨trivial, hk⟩)) hg hat); have n1_ := Aside0.mk (hb); have n2_ := Aside0.mk (ho); clear HO_9; clear HB; clear HO_11; have HO_9 := n0_; have HB := n1_; have HO437 := n2_; clear n0_ n1_ n2_; clear ho hb hg hat))
                 go_roundg k3
                 case measure => have := HJ4.out; have := HK2.out; have := HK3.out; omega
                 case rel => exact ⟨(y435), (wrap64 (x12_3 + 1)), (by first | rfl | (simp; done) | (simp [*]; done)), H', ⟨by have := HJ4.out; have := HK2.out; have := HK3.out; omega⟩, ⟨by (with_reducible repeat (first | apply Kd.S_alloc | apply Kd.S_drewN | apply Kd.S_drew)); exact Kd.S_mono HO_9.out (fun _ hk => hk.2)⟩, ⟨by (with_reducible repeat (first | apply Kd.R_alloc | apply Kd.R_drewN | apply Kd.R_drew)); exact HO437.out⟩, ⟨by repeat (first | (with_reducible first | exact HB.out | apply below_alloc | apply pw_below_drewN | apply below_drew1) | exact HB.out)⟩⟩
                ·
                 rw [if_neg c25] at H
                 exact absurd H (by simp)
              ·
               replace c21 := Bool.eq_false_iff.mpr c21
               subst c21
               have H1 : (if x10_2 = a1 then (if x11_3.length < 17592186044416 then (dancestudiolaw11_AssignRows.l1 k3 l0 a1 a2 false x9_2 x10_2 (x11_3 ++ [wrap64 ((rd (rd_L1 l0 x10_2) x12_3) + (wrap64 (a2)))]) (wrap64 (x12_3 + 1))) else (none)) else (if x11_3.length < 17592186044416 then (dancestudiolaw11_AssignRows.l1 k3 l0 a1 a2 false x9_2 x10_2 (x11_3 ++ [rd (rd_L1 l0 x10_2) x12_3]) (wrap64 (x12_3 + 1))) else (none))) = some r := by rw [if_neg (show ¬ (false = true) by decide)] at H; exact H
               clear H
               have H := H1
               clear H1
               by_cases c27 : x10_2 = a1
               ·
                rw [if_pos c27] at H
                have c27b0 : (x10_2 == a1) = true := beq_iff_eq.mpr c27
                have c27b1 : (x10_2 != a1) = false := bne_eq_false_iff_eq.mpr c27
                clear c27
                by_cases c28 : x11_3.length < 17592186044416
                ·
                 rw [if_pos c28] at H
                 have LMc28 := Aside0.mk c28
                 clear c28
                 obtain ⟨y438, hy438⟩ : ∃ y_ : List Int, y_ = (x11_3 ++ [wrap64 ((rd (rd_L1 l0 x10_2) x12_3) + (wrap64 (a2)))]) := ⟨_, rfl⟩
                 replace H : (dancestudiolaw11_AssignRows.l1 k3 l0 a1 a2 false x9_2 x10_2 y438 (wrap64 (x12_3 + 1))) = some r := by first | (rw [hy438]; with_reducible exact H) | (have H2_ := (Option.bind_some _ _).symm.trans H; rw [hy438]; with_reducible exact H2_) | (have H2_ := (Option.bind_some _ _).symm.trans H; with_reducible exact H2_) | with_reducible exact H | (rw [hy438]; exact H) | exact H
                 have Ny438 := Aside0.mk hy438
                 clear hy438
                 have H' := Aside0.mk H
                 clear H
                 have p430 : 0 ≤ (x10_2 : Int) := of_decide_eq_true (by first | (with_reducible assumption) | assumption)
                 have q430 : x10_2 < (l0.length : Int) := of_decide_eq_true (by first | (with_reducible assumption) | assumption)
                 obtain ⟨ad430, A430_0, c430_0, e430, hx430_0, hl430_0, hi430_0⟩ := at_L1 HR0.out x10_2 p430 q430
                 cases e430
                 replace hx430_0 := (HB.out.cell (World.block_lt_of_cell? w _ hx430_0)).trans hx430_0
                 have HR430_0 := Aside0.mk hi430_0
                 have HC430_0 := Aside0.mk hl430_0
                 clear hi430_0 hl430_0
                 replace p430 := eq_true p430
                 replace q430 := eq_true q430
                 have p431 : 0 ≤ (x12_3 : Int) := of_decide_eq_true (by first | (with_reducible assumption) | assumption)
                 have q431 : x12_3 < ((rd_L1 l0 x10_2).length : Int) := of_decide_eq_true (by first | (with_reducible assumption) | assumption)
                 obtain ⟨ad431, e431, hx431_0⟩ := Kd.at_int HR430_0.out x12_3 p431 q431
                 cases e431
                 replace hx431_0 := (HB.out.cell (World.block_lt_of_cell? w _ hx431_0)).trans hx431_0
                 replace p431 := eq_true p431
                 replace q431 := eq_true q431
                 go_wp2_with (first | ((with_reducible refine gate_builtin (b := .append) (xs := #[.tmp 81, .tmp 83]) rfl ?_); (try (refine gate_guard (by rfl) ?_; dsimp only)); at_builtin; refine Kd.R_append (Kd.int .i64) (w0 := w) w.heap.size rfl (.tmp 81) (.tmp 83) 23 3 (.int .i64 0) 8 rfl Try.underlying23 info3 rfl (by decide) (by omega) u11 x11_3 (wrap64 ((rd (rd_L1 l0 x10_2) x12_3) + (wrap64 (a2)))) [.int .i64 (wrap64 ((rd (rd_L1 l0 x10_2) x12_3) + (wrap64 (a2))))] (fun _ => True) (fun _ => False) rfl rfl ?aP (fun _ hk => hk.elim) ?aF ?aO ?aB ?aS ?aL ?_; (case aP => exact rfl); (case aB => exact (by repeat (first | (with_reducible first | exact HB.out | apply below_alloc | apply pw_below_drewN | apply below_drew1) | exact HB.out))); (case aF => exact (fun _ _ => trivial)); (case aO => exact (by (with_reducible repeat (first | apply Kd.R_alloc | apply Kd.R_drewN | apply Kd.R_drew)); exact HO_11.out)); (case aS => exact (below_size (by repeat (first | (with_reducible first | exact HB.out | apply below_alloc | apply pw_below_drewN | apply below_drew1) | exact HB.out)))); (case aL => have := LMc28.out; omega); intro v439 w29 ho hb hg hat; rw [← Ny438.out] at ho; have n0_ := Aside0.mk (Kd.S_after (ok := (fun _ => True)) (by (with_reducible repeat (first | apply Kd.S_alloc | apply Kd.S_drewN | apply Kd.S_drew)); exact Kd.S_mono HO_9.out (fun _ hk => ⟨trivial, hk⟩)) hg hat); have n1_ := Aside0.mk (hb); have n2_ := Aside0.mk (ho); clear HO_9; clear HB; clear HO_11; have HO_9 := n0_; have HB := n1_; have HO440 := n2_; clear n0_ n1_ n2_; clear ho hb hg hat))
                 go_roundg k3
                 case measure => have := HJ4.out; have := HK2.out; have := HK3.out; omega
                 case rel => exact ⟨(y438), (wrap64 (x12_3 + 1)), (by first | rfl | (simp; done) | (simp [*]; done)), H', ⟨by have := HJ4.out; have := HK2.out; have := HK3.out; omega⟩, ⟨by (with_reducible repeat (first | apply Kd.S_alloc | apply Kd.S_drewN | apply Kd.S_drew)); exact Kd.S_mono HO_9.out (fun _ hk => hk.2)⟩, ⟨by (with_reducible repeat (first | apply Kd.R_alloc | apply Kd.R_drewN | apply Kd.R_drew)); exact HO440.out⟩, ⟨by repeat (first | (with_reducible first | exact HB.out | apply below_alloc | apply pw_below_drewN | apply below_drew1) | exact HB.out)⟩⟩
                ·
                 rw [if_neg c28] at H
                 exact absurd H (by simp)
               ·
                rw [if_neg c27] at H
                have c27b0 : (x10_2 == a1) = false := beq_eq_false_iff_ne.mpr c27
                have c27b1 : (x10_2 != a1) = true := bne_iff_ne.mpr c27
                by_cases c30 : x11_3.length < 17592186044416
                ·
                 rw [if_pos c30] at H
                 have LMc30 := Aside0.mk c30
                 clear c30
                 obtain ⟨y441, hy441⟩ : ∃ y_ : List Int, y_ = (x11_3 ++ [rd (rd_L1 l0 x10_2) x12_3]) := ⟨_, rfl⟩
                 replace H : (dancestudiolaw11_AssignRows.l1 k3 l0 a1 a2 false x9_2 x10_2 y441 (wrap64 (x12_3 + 1))) = some r := by first | (rw [hy441]; with_reducible exact H) | (have H2_ := (Option.bind_some _ _).symm.trans H; rw [hy441]; with_reducible exact H2_) | (have H2_ := (Option.bind_some _ _).symm.trans H; with_reducible exact H2_) | with_reducible exact H | (rw [hy441]; exact H) | exact H
                 have Ny441 := Aside0.mk hy441
                 clear hy441
                 have H' := Aside0.mk H
                 clear H
                 have p430 : 0 ≤ (x10_2 : Int) := of_decide_eq_true (by first | (with_reducible assumption) | assumption)
                 have q430 : x10_2 < (l0.length : Int) := of_decide_eq_true (by first | (with_reducible assumption) | assumption)
                 obtain ⟨ad430, A430_0, c430_0, e430, hx430_0, hl430_0, hi430_0⟩ := at_L1 HR0.out x10_2 p430 q430
                 cases e430
                 replace hx430_0 := (HB.out.cell (World.block_lt_of_cell? w _ hx430_0)).trans hx430_0
                 have HR430_0 := Aside0.mk hi430_0
                 have HC430_0 := Aside0.mk hl430_0
                 clear hi430_0 hl430_0
                 replace p430 := eq_true p430
                 replace q430 := eq_true q430
                 have p431 : 0 ≤ (x12_3 : Int) := of_decide_eq_true (by first | (with_reducible assumption) | assumption)
                 have q431 : x12_3 < ((rd_L1 l0 x10_2).length : Int) := of_decide_eq_true (by first | (with_reducible assumption) | assumption)
                 obtain ⟨ad431, e431, hx431_0⟩ := Kd.at_int HR430_0.out x12_3 p431 q431
                 cases e431
                 replace hx431_0 := (HB.out.cell (World.block_lt_of_cell? w _ hx431_0)).trans hx431_0
                 replace p431 := eq_true p431
                 replace q431 := eq_true q431
                 go_wp2_with (first | ((with_reducible refine gate_builtin (b := .append) (xs := #[.tmp 81, .tmp 83]) rfl ?_); (try (refine gate_guard (by rfl) ?_; dsimp only)); at_builtin; refine Kd.R_append (Kd.int .i64) (w0 := w) w.heap.size rfl (.tmp 81) (.tmp 83) 23 3 (.int .i64 0) 8 rfl Try.underlying23 info3 rfl (by decide) (by omega) u11 x11_3 (rd (rd_L1 l0 x10_2) x12_3) [.int .i64 (rd (rd_L1 l0 x10_2) x12_3)] (fun _ => True) (fun _ => False) rfl rfl ?aP (fun _ hk => hk.elim) ?aF ?aO ?aB ?aS ?aL ?_; (case aP => exact rfl); (case aB => exact (by repeat (first | (with_reducible first | exact HB.out | apply below_alloc | apply pw_below_drewN | apply below_drew1) | exact HB.out))); (case aF => exact (fun _ _ => trivial)); (case aO => exact (by (with_reducible repeat (first | apply Kd.R_alloc | apply Kd.R_drewN | apply Kd.R_drew)); exact HO_11.out)); (case aS => exact (below_size (by repeat (first | (with_reducible first | exact HB.out | apply below_alloc | apply pw_below_drewN | apply below_drew1) | exact HB.out)))); (case aL => have := LMc30.out; omega); intro v442 w31 ho hb hg hat; rw [← Ny441.out] at ho; have n0_ := Aside0.mk (Kd.S_after (ok := (fun _ => True)) (by (with_reducible repeat (first | apply Kd.S_alloc | apply Kd.S_drewN | apply Kd.S_drew)); exact Kd.S_mono HO_9.out (fun _ hk => ⟨trivial, hk⟩)) hg hat); have n1_ := Aside0.mk (hb); have n2_ := Aside0.mk (ho); clear HO_9; clear HB; clear HO_11; have HO_9 := n0_; have HB := n1_; have HO443 := n2_; clear n0_ n1_ n2_; clear ho hb hg hat))
                 go_roundg k3
                 case measure => have := HJ4.out; have := HK2.out; have := HK3.out; omega
                 case rel => exact ⟨(y441), (wrap64 (x12_3 + 1)), (by first | rfl | (simp; done) | (simp [*]; done)), H', ⟨by have := HJ4.out; have := HK2.out; have := HK3.out; omega⟩, ⟨by (with_reducible repeat (first | apply Kd.S_alloc | apply Kd.S_drewN | apply Kd.S_drew)); exact Kd.S_mono HO_9.out (fun _ hk => hk.2)⟩, ⟨by (with_reducible repeat (first | apply Kd.R_alloc | apply Kd.R_drewN | apply Kd.R_drew)); exact HO443.out⟩, ⟨by repeat (first | (with_reducible first | exact HB.out | apply below_alloc | apply pw_below_drewN | apply below_drew1) | exact HB.out)⟩⟩
                ·
                 rw [if_neg c30] at H
                 exact absurd H (by simp)
             ·
              rw [if_neg c20] at H
              exact absurd H (by simp)
            ·
             rw [if_neg c19] at H
             exact absurd H (by simp)
           ·
            rw [if_neg c18] at H
            exact absurd H (by simp)
          ·
           rw [if_neg c17] at H
           exact absurd H (by simp)
         ·
          rw [if_neg c16] at H
          have c16b0 : decide (x12_3 < (l0.length : Int)) = false := decide_eq_false c16
          clear c16
          by_cases c32 : x9_2.length < 5864062014805
          ·
           rw [if_pos c32] at H
           have LMc32 := Aside0.mk c32
           clear c32
           obtain ⟨y444, hy444⟩ : ∃ y_ : List (List Int), y_ = (x9_2 ++ [x11_3]) := ⟨_, rfl⟩
           replace H : (dancestudiolaw11_AssignRows.l0 k3 l0 a1 a2 a3 y444 (wrap64 (x10_2 + 1))) = some r := by first | (rw [hy444]; with_reducible exact H) | (have H2_ := (Option.bind_some _ _).symm.trans H; rw [hy444]; with_reducible exact H2_) | (have H2_ := (Option.bind_some _ _).symm.trans H; with_reducible exact H2_) | with_reducible exact H | (rw [hy444]; exact H) | exact H
           have Ny444 := Aside0.mk hy444
           clear hy444
           have H' := Aside0.mk H
           clear H
           obtain ⟨Ao34, co34, eo34⟩ := Kd.R_slice HO_11.out
           subst eo34
           go_wp2_with (first | ((with_reducible refine gate_builtin (b := .append) (xs := #[.tmp 85, .tmp 87]) rfl ?_); (try (refine gate_guard (by rfl) ?_; dsimp only)); at_builtin; refine Kd.S_append (Kd.slice 3 (Kd.int .i64)) (w0 := w) w.heap.size rfl (.tmp 85) (.tmp 87) 22 23 (.slice none 0 0) 24 rfl Try.underlying22 info23 rfl (by decide) (by omega) u9 x9_2 x11_3 [.slice Ao34 x11_3.length co34] (fun _ => True) (fun k_ => some k_ = (.slice Ao34 x11_3.length co34 : Value).ownBlock) rfl rfl ?aP (fun k_ hk_ => ((Kd.R_mono (ok' := fun k_ => ((fun _ => True)) k_ ∧ some k_ ≠ (u9 : Value).ownBlock) (Kd.R_apart' (HO_11.out) (Kd.S_typed HO_9.out) (by decide)) (fun k_ hk => ⟨trivial, hk.2⟩))).1 k_ hk_.symm) ?aF ?aO ?aB ?aS ?aL ?_; (case aP => exact Kd.M_row (Kd.R_mono (Kd.R_tight rfl (Kd.R_mono (ok' := fun k_ => ((fun _ => True)) k_ ∧ some k_ ≠ (u9 : Value).ownBlock) (Kd.R_apart' (HO_11.out) (Kd.S_typed HO_9.out) (by decide)) (fun k_ hk => ⟨trivial, hk.2⟩))) (fun _ h_ => h_))); (case aB => exact (by repeat (first | (with_reducible first | exact HB.out | apply below_alloc | apply pw_below_drewN | apply below_drew1) | exact HB.out))); (case aF => exact (fun _ _ => trivial)); (case aO => exact (by (with_reducible repeat (first | apply Kd.S_alloc | apply Kd.S_drewN | apply Kd.S_drew)); exact Kd.S_mono HO_9.out (fun k_ hk => ⟨trivial, fun e_ => hk e_⟩))); (case aS => exact (below_size (by repeat (first | (with_reducible first | exact HB.out | apply below_alloc | apply pw_below_drewN | apply below_drew1) | exact HB.out)))); (case aL => have := LMc32.out; omega); intro v445 w33 ho hb hg hat; rw [← Ny444.out] at ho; have n0_ := Aside0.mk (hb); have n1_ := Aside0.mk (ho); clear HB; clear HO_9; clear HO_11; have HB := n0_; have HO446 := n1_; clear n0_ n1_; clear ho hb hg hat))
           go_roundg k3
           case measure => have := HJ4.out; have := HK2.out; have := HK3.out; omega
           case rel => exact ⟨(y444), (wrap64 (x10_2 + 1)), (by first | rfl | (simp; done) | (simp [*]; done)), H', ⟨by have := HJ4.out; have := HK2.out; have := HK3.out; omega⟩, ⟨by (with_reducible repeat (first | apply Kd.S_alloc | apply Kd.S_drewN | apply Kd.S_drew)); exact HO446.out⟩, ⟨by repeat (first | (with_reducible first | exact HB.out | apply below_alloc | apply pw_below_drewN | apply below_drew1) | exact HB.out)⟩⟩
          ·
           rw [if_neg c32] at H
           exact absurd H (by simp)
      ·
       rw [if_neg c15] at H
       have c15b0 : decide (x10_2 < (l0.length : Int)) = false := decide_eq_false c15
       clear c15
       replace H := Option.bind_eq_some_iff.mp H
       obtain ⟨t447, A350, H⟩ := H
       replace H : (if t447 = 0 then ((assign_Solve.f k2 l0).bind fun bt449 => ((assign_Solve.f k2 x9_2).bind fun bt454 => (if bt449.2.2 = 0 then (if bt454.2.2 = 0 then ((dancestudiolaw11_same.f k2 bt449.1 bt454.1).bind fun t459 => (if t459 = true then (if (wrap64 (bt454.2.1 - bt449.2.1)) = (wrap64 (a2)) then ((dancestudiolaw11_awake.f k2).bind fun t460 => (some t460)) else (none)) else (none))) else (none)) else (none)))) else ((dancestudiolaw11_awake.f k2).bind fun t448 => (some t448))) = some r := H
       have A35 := Aside0.mk A350
       clear A350
       by_cases c36 : t447 = 0
       ·
        rw [if_pos c36] at H
        have c36b0 : (t447 == 0) = true := beq_iff_eq.mpr c36
        have c36b1 : (t447 != 0) = false := bne_eq_false_iff_eq.mpr c36
        clear c36
        replace H := Option.bind_eq_some_iff.mp H
        obtain ⟨⟨t449, t452, t453⟩, A370, H⟩ := H
        replace H : ((assign_Solve.f k2 x9_2).bind fun bt454 => (if t453 = 0 then (if bt454.2.2 = 0 then ((dancestudiolaw11_same.f k2 t449 bt454.1).bind fun t459 => (if t459 = true then (if (wrap64 (bt454.2.1 - t452)) = (wrap64 (a2)) then ((dancestudiolaw11_awake.f k2).bind fun t460 => (some t460)) else (none)) else (none))) else (none)) else (none))) = some r := H
        have A37 := Aside0.mk A370
        clear A370
        replace H := Option.bind_eq_some_iff.mp H
        obtain ⟨⟨t454, t457, t458⟩, A380, H⟩ := H
        replace H : (if t453 = 0 then (if t458 = 0 then ((dancestudiolaw11_same.f k2 t449 t454).bind fun t459 => (if t459 = true then (if (wrap64 (t457 - t452)) = (wrap64 (a2)) then ((dancestudiolaw11_awake.f k2).bind fun t460 => (some t460)) else (none)) else (none))) else (none)) else (none)) = some r := H
        have A38 := Aside0.mk A380
        clear A380
        by_cases c39 : t453 = 0
        ·
         rw [if_pos c39] at H
         have c39b0 : (t453 == 0) = true := beq_iff_eq.mpr c39
         have c39b1 : (t453 != 0) = false := bne_eq_false_iff_eq.mpr c39
         clear c39
         by_cases c40 : t458 = 0
         ·
          rw [if_pos c40] at H
          have c40b0 : (t458 == 0) = true := beq_iff_eq.mpr c40
          have c40b1 : (t458 != 0) = false := bne_eq_false_iff_eq.mpr c40
          clear c40
          replace H := Option.bind_eq_some_iff.mp H
          obtain ⟨t459, A410, H⟩ := H
          replace H : (if t459 = true then (if (wrap64 (t457 - t452)) = (wrap64 (a2)) then ((dancestudiolaw11_awake.f k2).bind fun t460 => (some t460)) else (none)) else (none)) = some r := H
          have A41 := Aside0.mk A410
          clear A410
          by_cases c42 : t459 = true
          ·
           subst c42
           have H1 : (if (wrap64 (t457 - t452)) = (wrap64 (a2)) then ((dancestudiolaw11_awake.f k2).bind fun t460 => (some t460)) else (none)) = some r := by rw [if_pos rfl] at H; exact H
           clear H
           have H := H1
           clear H1
           by_cases c43 : (wrap64 (t457 - t452)) = (wrap64 (a2))
           ·
            rw [if_pos c43] at H
            have c43b0 : ((wrap64 (t457 - t452)) == (wrap64 (a2))) = true := beq_iff_eq.mpr c43
            have c43b1 : ((wrap64 (t457 - t452)) != (wrap64 (a2))) = false := bne_eq_false_iff_eq.mpr c43
            clear c43
            replace H := Option.bind_eq_some_iff.mp H
            obtain ⟨t460, A440, H⟩ := H
            replace H : (some t460) = some r := H
            have A44 := Aside0.mk A440
            clear A440
            obtain rfl := Option.some.inj H
            obtain ⟨Ao45, co45, eo45⟩ := Kd.S_slice HO_9.out
            subst eo45
            go_wp2_with (first | ((with_reducible refine gate_callee (f := 12) rfl ?_); refine goesL_ (some 90) rfl rfl Try.func12 (by kernel_rfl) rfl #[.slice Ao45 x9_2.length co45] rfl (by (try simp only [List.map_toArray, List.map_cons, List.map_nil]); first | done | rfl | (simp only [List.length_drop, List.length_take]; rfl)) ?_; (with_reducible refine (assign_Check.calls k2 _ _ x9_2 t447 _ ?side1 ?side2 A35.out).mono ?_); (case side1 => repeat (first | exact (Kd.S_reads' HO_9.out).2.2 | (with_reducible refine Kd.C_alloc ?_ _) | (with_reducible refine Kd.C_drewN ?_ _) | (with_reducible refine Kd.C_drew ?_))); (case side2 => exact (Kd.S_reads' HO_9.out).2.1); rintro e w' ⟨rfl, ⟨nd, rfl⟩⟩; refine ⟨_, rfl, ?_⟩) | ((with_reducible refine gate_callee (f := 14) rfl ?_); refine goesL_ (some 95) rfl rfl Try.func14 (by kernel_rfl) rfl #[.slice A0 l0.length c0] rfl (by (try simp only [List.map_toArray, List.map_cons, List.map_nil]); first | done | rfl | (simp only [List.length_drop, List.length_take]; rfl)) ?_; (with_reducible refine (assign_Solve.calls k2 (fun k_ => k_ < w.heap.size) _ _ l0 t449 t452 t453 _ ?side1 A37.out).mono ?_); (case side1 => exact Kd.V_mk HC0.out (Kd.F_below (Kd.C_F (Kd.heap_slice 3 (Kd.heap_int .i64)) HR0.out) (by repeat (first | (with_reducible first | exact HB.out | apply below_alloc | apply pw_below_drewN | apply below_drew1) | exact HB.out)))); rintro e w46 ⟨v450, rfl, ho0, hb⟩; refine ⟨_, rfl, ?_⟩; have n0_ := Aside0.mk (Kd.S_elder' (by (with_reducible repeat (first | apply Kd.S_alloc | apply Kd.S_drewN | apply Kd.S_drew)); exact HO_9.out) (Kd.R_base ho0) hb); have n1_ := Aside0.mk (Kd.R_lower (Kd.R_mono (ok' := fun k_ => True) ho0 (fun _ hk_ => trivial)) (below_size (by repeat (first | (with_reducible first | exact HB.out | apply below_alloc | apply pw_below_drewN | apply below_drew1) | exact HB.out)))); have n2_ := Aside0.mk (below_step (by repeat (first | (with_reducible first | exact HB.out | apply below_alloc | apply pw_below_drewN | apply below_drew1) | exact HB.out)) hb); clear HO_9; clear HB; have HO_9 := n0_; have HO451 := n1_; have HB := n2_; clear n0_ n1_ n2_; (try clear hb); (try clear hb2); (try clear hk); (try clear hi); (try clear ho0)) | ((with_reducible refine gate_callee (f := 14) rfl ?_); refine goesL_ (some 101) rfl rfl Try.func14 (by kernel_rfl) rfl #[.slice Ao45 x9_2.length co45] rfl (by (try simp only [List.map_toArray, List.map_cons, List.map_nil]); first | done | rfl | (simp only [List.length_drop, List.length_take]; rfl)) ?_; (with_reducible refine (assign_Solve.calls k2 (fun k_ => (True ∧ some k_ ≠ (v450 : Value).ownBlock)) _ _ x9_2 t454 t457 t458 _ ?side1 A38.out).mono ?_); (case side1 => exact Kd.S_V (HO_9.out)); rintro e w47 ⟨v455, rfl, ho0, hb⟩; refine ⟨_, rfl, ?_⟩; have n0_ := Aside0.mk (Kd.S_elder' (by (with_reducible repeat (first | apply Kd.S_alloc | apply Kd.S_drewN | apply Kd.S_drew)); exact HO_9.out) (Kd.R_base ho0) hb); have n1_ := Aside0.mk (Kd.R_elder' (by (with_reducible repeat (first | apply Kd.R_alloc | apply Kd.R_drewN | apply Kd.R_drew)); exact HO451.out) (Kd.R_base ho0) hb); have n2_ := Aside0.mk (Kd.R_lower (Kd.R_new' (Kd.R_mono (ok' := fun k_ => True) ho0 (fun _ hk_ => trivial)) (Kd.R_lt (by (with_reducible repeat (first | apply Kd.R_alloc | apply Kd.R_drewN | apply Kd.R_drew)); exact HO451.out))) (below_size (by repeat (first | (with_reducible first | exact HB.out | apply below_alloc | apply pw_below_drewN | apply below_drew1) | exact HB.out)))); have n3_ := Aside0.mk (below_step (by repeat (first | (with_reducible first | exact HB.out | apply below_alloc | apply pw_below_drewN | apply below_drew1) | exact HB.out)) hb); clear HO_9; clear HO451; clear HB; have HO_9 := n0_; have HO451 := n1_; have HO456 := n2_; have HB := n3_; clear n0_ n1_ n2_ n3_; (try clear hb); (try clear hb2); (try clear hk); (try clear hi); (try clear ho0); obtain ⟨Ao48, co48, eo48⟩ := Kd.R_slice HO451.out; subst eo48; obtain ⟨Ao49, co49, eo49⟩ := Kd.R_slice HO456.out; subst eo49) | (go_at_call 18; (with_reducible refine (dancestudiolaw11_same.calls k2 _ _ t449 _ _ t454 true _ ?side1 ?side2 ?side3 ?side4 A41.out).mono ?_); (case side1 => repeat (first | exact (Kd.R_reads' HO451.out).2.2 | (with_reducible refine Kd.C_alloc ?_ _) | (with_reducible refine Kd.C_drewN ?_ _) | (with_reducible refine Kd.C_drew ?_))); (case side2 => exact (Kd.R_reads' HO451.out).2.1); (case side3 => repeat (first | exact (Kd.R_reads' HO456.out).2.2 | (with_reducible refine Kd.C_alloc ?_ _) | (with_reducible refine Kd.C_drewN ?_ _) | (with_reducible refine Kd.C_drew ?_))); (case side4 => exact (Kd.R_reads' HO456.out).2.1); rintro e w' ⟨rfl, ⟨nd, rfl⟩⟩) | (go_at_call 13; (with_reducible refine (dancestudiolaw11_awake.calls k2  t460 _ A44.out).mono ?_); rintro e w50 ⟨rfl, hb⟩; have n0_ := Aside0.mk (Kd.S_below (by (with_reducible repeat (first | apply Kd.S_alloc | apply Kd.S_drewN | apply Kd.S_drew)); exact HO_9.out) hb); have n1_ := Aside0.mk (Kd.R_below (by (with_reducible repeat (first | apply Kd.R_alloc | apply Kd.R_drewN | apply Kd.R_drew)); exact HO451.out) hb); have n2_ := Aside0.mk (Kd.R_below (by (with_reducible repeat (first | apply Kd.R_alloc | apply Kd.R_drewN | apply Kd.R_drew)); exact HO456.out) hb); have n3_ := Aside0.mk (below_step (by repeat (first | (with_reducible first | exact HB.out | apply below_alloc | apply pw_below_drewN | apply below_drew1) | exact HB.out)) hb); clear HO_9; clear HO451; clear HO456; clear HB; have HO_9 := n0_; have HO451 := n1_; have HO456 := n2_; have HB := n3_; clear n0_ n1_ n2_ n3_; (try clear hb); (try clear hb2); (try clear hk); (try clear hi)))
            go_ret
            exact ⟨by first | rfl | (simp [errW_none, errW_some] <;> rfl) | (simp [*, errW_none, errW_some] <;> rfl), by repeat (first | (with_reducible first | exact HB.out | apply below_alloc | apply pw_below_drewN | apply below_drew1) | exact HB.out)⟩
           ·
            rw [if_neg c43] at H
            exact absurd H (by simp)
          ·
           replace c42 := Bool.eq_false_iff.mpr c42
           subst c42
           have H1 : (none) = some r := by rw [if_neg (show ¬ (false = true) by decide)] at H; exact H
           clear H
           have H := H1
           clear H1
           exact absurd H (by simp)
         ·
          rw [if_neg c40] at H
          exact absurd H (by simp)
        ·
         rw [if_neg c39] at H
         exact absurd H (by simp)
       ·
        rw [if_neg c36] at H
        have c36b0 : (t447 == 0) = false := beq_eq_false_iff_ne.mpr c36
        have c36b1 : (t447 != 0) = true := bne_iff_ne.mpr c36
        replace H := Option.bind_eq_some_iff.mp H
        obtain ⟨t448, A510, H⟩ := H
        replace H : (some t448) = some r := H
        have A51 := Aside0.mk A510
        clear A510
        obtain rfl := Option.some.inj H
        obtain ⟨Ao52, co52, eo52⟩ := Kd.S_slice HO_9.out
        subst eo52
        go_wp2_with (first | ((with_reducible refine gate_callee (f := 12) rfl ?_); refine goesL_ (some 90) rfl rfl Try.func12 (by kernel_rfl) rfl #[.slice Ao52 x9_2.length co52] rfl (by (try simp only [List.map_toArray, List.map_cons, List.map_nil]); first | done | rfl | (simp only [List.length_drop, List.length_take]; rfl)) ?_; (with_reducible refine (assign_Check.calls k2 _ _ x9_2 t447 _ ?side1 ?side2 A35.out).mono ?_); (case side1 => repeat (first | exact (Kd.S_reads' HO_9.out).2.2 | (with_reducible refine Kd.C_alloc ?_ _) | (with_reducible refine Kd.C_drewN ?_ _) | (with_reducible refine Kd.C_drew ?_))); (case side2 => exact (Kd.S_reads' HO_9.out).2.1); rintro e w' ⟨rfl, ⟨nd, rfl⟩⟩; refine ⟨_, rfl, ?_⟩) | ((with_reducible refine gate_callee (f := 13) rfl ?_); refine goesL_ (some 92) rfl rfl Try.func13 (by kernel_rfl) rfl #[] rfl (by (try simp only [List.map_toArray, List.map_cons, List.map_nil]); first | done | rfl | (simp only [List.length_drop, List.length_take]; rfl)) ?_; (with_reducible refine (dancestudiolaw11_awake.calls k2  t448 _ A51.out).mono ?_); rintro e w53 ⟨rfl, hb⟩; refine ⟨_, rfl, ?_⟩; have n0_ := Aside0.mk (Kd.S_below (by (with_reducible repeat (first | apply Kd.S_alloc | apply Kd.S_drewN | apply Kd.S_drew)); exact HO_9.out) hb); have n1_ := Aside0.mk (below_step (by repeat (first | (with_reducible first | exact HB.out | apply below_alloc | apply pw_below_drewN | apply below_drew1) | exact HB.out)) hb); clear HO_9; clear HB; have HO_9 := n0_; have HB := n1_; clear n0_ n1_; (try clear hb); (try clear hb2); (try clear hk); (try clear hi)))
        go_ret
        exact ⟨by first | rfl | (simp [errW_none, errW_some] <;> rfl) | (simp [*, errW_none, errW_some] <;> rfl), by repeat (first | (with_reducible first | exact HB.out | apply below_alloc | apply pw_below_drewN | apply below_drew1) | exact HB.out)⟩
end Go.Proofs.Ytbmflpflmjfabaa.PAll
