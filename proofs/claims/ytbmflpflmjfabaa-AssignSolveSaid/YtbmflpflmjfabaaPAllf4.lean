-- Written by wip/tools/handprint.py: walks of the functions that the law reaches; Lean checks them.
import Derived.Test.YtbmflpflmjfabaaPAllx0
import Derived.Test.YtbmflpflmjfabaaPAllf13
import Derived.Test.YtbmflpflmjfabaaPAllf14
import Derived.Test.YtbmflpflmjfabaaPAllf17
import Derived.Test.YtbmflpflmjfabaaPAllf18
namespace Go.Proofs.Ytbmflpflmjfabaa.PAll
open Go.RowKit Go.Proofs.YtbmflpflmjfabaaW.PrintWords Go.Proofs.YtbmflpflmjfabaaW.PrintLast Go.Proofs.YtbmflpflmjfabaaW.PrintMore
attribute [local go_sem] max2_int min2_int max_two min_two max_three min_three max_four min_four   -- for this text's walks alone
set_option linter.unusedVariables false
set_option linter.unusedSimpArgs false

/-! ### dancestudiolaw11_AssignSolve: function 4 -/
def dancestudiolaw11_AssignSolve.f (k : Nat) (l0 : List (List Int)) : Option (Bool) := if (l0.length : Int) > 8 then ((dancestudiolaw11_awake.f k).bind fun t384 => (some t384)) else ((assign_Solve.f k l0).bind fun bt385 => ((dancestudioref11_Solve.f k l0).bind fun bt390 => ((dancestudiolaw11_same.f k bt385.1 bt390.1).bind fun t395 => (if t395 = true then (if bt385.2.1 = bt390.2.1 then (if bt385.2.2 = bt390.2.2 then ((dancestudiolaw11_awake.f k).bind fun t396 => (some t396)) else (none)) else (none)) else (none)))))
theorem dancestudiolaw11_AssignSolve.mono : ∀ a0 k, LeO (dancestudiolaw11_AssignSolve.f k a0) (dancestudiolaw11_AssignSolve.f (k + 1) a0) := by
 intro a0 k
 unfold dancestudiolaw11_AssignSolve.f
 repeat' first
   | (with_reducible exact assign_Solve.mono _ _)
   | (with_reducible exact dancestudiolaw11_awake.mono _)
   | (with_reducible exact dancestudiolaw11_same.mono _ _ _)
   | (with_reducible exact dancestudioref11_Solve.mono _ _)
   | (with_reducible exact LeO.refl _)
   | (with_reducible exact LeO.none _)
   | (with_reducible refine LeO.ite ?_ ?_)
   | (with_reducible refine LeO.bind ?_ (fun _ => ?_))
   | exact assign_Solve.mono _ _
   | exact dancestudiolaw11_awake.mono _
   | exact dancestudiolaw11_same.mono _ _ _
   | exact dancestudioref11_Solve.mono _ _
   | exact LeO.none _
   | refine LeO.ite ?_ ?_
   | refine LeO.bind ?_ (fun _ => ?_)
set_option maxHeartbeats 8000000 in
set_option maxRecDepth 100000 in
theorem dancestudiolaw11_AssignSolve.calls (k : Nat) (A0 : Option Addr) (c0 : Nat) (l0 : List (List Int)) (r : Bool) (w : World) (hr0 : Kd.C (Kd.slice 3 (Kd.int .i64)) w A0 l0.length l0) (hc0 : l0.length ≤ c0) (h : dancestudiolaw11_AssignSolve.f k l0 = some r) :
  Calls Try.prog 4 #[.slice A0 l0.length c0] w fun e w' => e = .returned (.bool r) ∧ Below w.heap.size w w' := by
 have HR0 := Aside0.mk hr0
 have HC0 := Aside0.mk hc0
 clear hr0 hc0
 have HB := Aside0.mk (Below.refl w.heap.size w)
 have H : (if (l0.length : Int) > 8 then ((dancestudiolaw11_awake.f k).bind fun t384 => (some t384)) else ((assign_Solve.f k l0).bind fun bt385 => ((dancestudioref11_Solve.f k l0).bind fun bt390 => ((dancestudiolaw11_same.f k bt385.1 bt390.1).bind fun t395 => (if t395 = true then (if bt385.2.1 = bt390.2.1 then (if bt385.2.2 = bt390.2.2 then ((dancestudiolaw11_awake.f k).bind fun t396 => (some t396)) else (none)) else (none)) else (none)))))) = some r := h
 clear h
 by_cases c2 : (l0.length : Int) > 8
 ·
  rw [if_pos c2] at H
  have c2b0 : decide (8 < (l0.length : Int)) = true := decide_eq_true c2
  have c2b1 : decide (8 < l0.length) = true := decide_eq_true (by omega)
  clear c2
  replace H := Option.bind_eq_some_iff.mp H
  obtain ⟨t384, A30, H⟩ := H
  replace H : (some t384) = some r := H
  have A3 := Aside0.mk A30
  clear A30
  obtain rfl := Option.some.inj H
  go_enter Try.func4, Try.ntmps4
  go_wp2_with (first | ((with_reducible refine gate_callee (f := 13) rfl ?_); refine goesL_ (some 12) rfl rfl Try.func13 (by kernel_rfl) rfl #[] rfl (by (try simp only [List.map_toArray, List.map_cons, List.map_nil]); first | done | rfl | (simp only [List.length_drop, List.length_take]; rfl)) ?_; (with_reducible refine (dancestudiolaw11_awake.calls k  t384 _ A3.out).mono ?_); rintro e w4 ⟨rfl, hb⟩; refine ⟨_, rfl, ?_⟩; have n0_ := Aside0.mk (below_step (by repeat (first | (with_reducible first | exact HB.out | apply below_alloc | apply pw_below_drewN | apply below_drew1) | exact HB.out)) hb); clear HB; have HB := n0_; clear n0_; (try clear hb); (try clear hb2); (try clear hk); (try clear hi)))
  go_ret
  exact ⟨by first | rfl | (simp [errW_none, errW_some] <;> rfl) | (simp [*, errW_none, errW_some] <;> rfl), by repeat (first | (with_reducible first | exact HB.out | apply below_alloc | apply pw_below_drewN | apply below_drew1) | exact HB.out)⟩
 ·
  rw [if_neg c2] at H
  have c2b0 : decide (8 < (l0.length : Int)) = false := decide_eq_false c2
  have c2b1 : decide (8 < l0.length) = false := decide_eq_false (by omega)
  clear c2
  replace H := Option.bind_eq_some_iff.mp H
  obtain ⟨⟨t385, t388, t389⟩, A50, H⟩ := H
  replace H : ((dancestudioref11_Solve.f k l0).bind fun bt390 => ((dancestudiolaw11_same.f k t385 bt390.1).bind fun t395 => (if t395 = true then (if t388 = bt390.2.1 then (if t389 = bt390.2.2 then ((dancestudiolaw11_awake.f k).bind fun t396 => (some t396)) else (none)) else (none)) else (none)))) = some r := H
  have A5 := Aside0.mk A50
  clear A50
  replace H := Option.bind_eq_some_iff.mp H
  obtain ⟨⟨t390, t391, t392⟩, A60, H⟩ := H
  replace H : ((dancestudiolaw11_same.f k t385 t390).bind fun t395 => (if t395 = true then (if t388 = t391 then (if t389 = t392 then ((dancestudiolaw11_awake.f k).bind fun t396 => (some t396)) else (none)) else (none)) else (none))) = some r := H
  have A6 := Aside0.mk A60
  clear A60
  replace H := Option.bind_eq_some_iff.mp H
  obtain ⟨t395, A70, H⟩ := H
  replace H : (if t395 = true then (if t388 = t391 then (if t389 = t392 then ((dancestudiolaw11_awake.f k).bind fun t396 => (some t396)) else (none)) else (none)) else (none)) = some r := H
  have A7 := Aside0.mk A70
  clear A70
  by_cases c8 : t395 = true
  ·
   subst c8
   have H1 : (if t388 = t391 then (if t389 = t392 then ((dancestudiolaw11_awake.f k).bind fun t396 => (some t396)) else (none)) else (none)) = some r := by rw [if_pos rfl] at H; exact H
   clear H
   have H := H1
   clear H1
   by_cases c9 : t388 = t391
   ·
    rw [if_pos c9] at H
    have c9b0 : (t388 == t391) = true := beq_iff_eq.mpr c9
    have c9b1 : (t388 != t391) = false := bne_eq_false_iff_eq.mpr c9
    clear c9
    by_cases c10 : t389 = t392
    ·
     rw [if_pos c10] at H
     have c10b0 : (t389 == t392) = true := beq_iff_eq.mpr c10
     have c10b1 : (t389 != t392) = false := bne_eq_false_iff_eq.mpr c10
     clear c10
     replace H := Option.bind_eq_some_iff.mp H
     obtain ⟨t396, A110, H⟩ := H
     replace H : (some t396) = some r := H
     have A11 := Aside0.mk A110
     clear A110
     obtain rfl := Option.some.inj H
     go_enter Try.func4, Try.ntmps4
     go_wp2_with (first | ((with_reducible refine gate_callee (f := 14) rfl ?_); refine goesL_ (some 15) rfl rfl Try.func14 (by kernel_rfl) rfl #[.slice A0 l0.length c0] rfl (by (try simp only [List.map_toArray, List.map_cons, List.map_nil]); first | done | rfl | (simp only [List.length_drop, List.length_take]; rfl)) ?_; (with_reducible refine (assign_Solve.calls k (fun k_ => k_ < w.heap.size) _ _ l0 t385 t388 t389 _ ?side1 A5.out).mono ?_); (case side1 => exact Kd.V_mk HC0.out (Kd.F_below (Kd.C_F (Kd.heap_slice 3 (Kd.heap_int .i64)) HR0.out) (by repeat (first | (with_reducible first | exact HB.out | apply below_alloc | apply pw_below_drewN | apply below_drew1) | exact HB.out)))); rintro e w12 ⟨v386, rfl, ho0, hb⟩; refine ⟨_, rfl, ?_⟩; have n0_ := Aside0.mk (Kd.R_lower (Kd.R_mono (ok' := fun k_ => True) ho0 (fun _ hk_ => trivial)) (below_size (by repeat (first | (with_reducible first | exact HB.out | apply below_alloc | apply pw_below_drewN | apply below_drew1) | exact HB.out)))); have n1_ := Aside0.mk (below_step (by repeat (first | (with_reducible first | exact HB.out | apply below_alloc | apply pw_below_drewN | apply below_drew1) | exact HB.out)) hb); clear HB; have HO387 := n0_; have HB := n1_; clear n0_ n1_; (try clear hb); (try clear hb2); (try clear hk); (try clear hi); (try clear ho0)) | ((with_reducible refine gate_callee (f := 17) rfl ?_); refine goesL_ (some 21) rfl rfl Try.func17 (by kernel_rfl) rfl #[.slice A0 l0.length c0] rfl (by (try simp only [List.map_toArray, List.map_cons, List.map_nil]); first | done | rfl | (simp only [List.length_drop, List.length_take]; rfl)) ?_; (with_reducible refine (dancestudioref11_Solve.calls k _ _ l0 t390 t391 t392 _ ?side1 ?side2 A6.out).mono ?_); (case side1 => repeat (first | exact (Kd.C_below HR0.out HB.out) | (with_reducible refine Kd.C_alloc ?_ _) | (with_reducible refine Kd.C_drewN ?_ _) | (with_reducible refine Kd.C_drew ?_))); (case side2 => exact HC0.out); rintro e w13 ⟨v393, rfl, ho0, hb⟩; refine ⟨_, rfl, ?_⟩; have n0_ := Aside0.mk (Kd.R_elder' (by (with_reducible repeat (first | apply Kd.R_alloc | apply Kd.R_drewN | apply Kd.R_drew)); exact HO387.out) (Kd.R_base ho0) hb); have n1_ := Aside0.mk (Kd.R_lower (Kd.R_new' ho0 (Kd.R_lt (by (with_reducible repeat (first | apply Kd.R_alloc | apply Kd.R_drewN | apply Kd.R_drew)); exact HO387.out))) (below_size (by repeat (first | (with_reducible first | exact HB.out | apply below_alloc | apply pw_below_drewN | apply below_drew1) | exact HB.out)))); have n2_ := Aside0.mk (below_step (by repeat (first | (with_reducible first | exact HB.out | apply below_alloc | apply pw_below_drewN | apply below_drew1) | exact HB.out)) hb); clear HO387; clear HB; have HO387 := n0_; have HO394 := n1_; have HB := n2_; clear n0_ n1_ n2_; (try clear hb); (try clear hb2); (try clear hk); (try clear hi); (try clear ho0); obtain ⟨Ao14, co14, eo14⟩ := Kd.R_slice HO387.out; subst eo14; obtain ⟨Ao15, co15, eo15⟩ := Kd.R_slice HO394.out; subst eo15) | ((with_reducible refine gate_callee (f := 18) rfl ?_); refine goesL_ (some 27) rfl rfl Try.func18 (by kernel_rfl) rfl #[.slice Ao14 t385.length co14, .slice Ao15 t390.length co15] rfl (by (try simp only [List.map_toArray, List.map_cons, List.map_nil]); first | done | rfl | (simp only [List.length_drop, List.length_take]; rfl)) ?_; (with_reducible refine (dancestudiolaw11_same.calls k _ _ t385 _ _ t390 true _ ?side1 ?side2 ?side3 ?side4 A7.out).mono ?_); (case side1 => repeat (first | exact (Kd.R_reads' HO387.out).2.2 | (with_reducible refine Kd.C_alloc ?_ _) | (with_reducible refine Kd.C_drewN ?_ _) | (with_reducible refine Kd.C_drew ?_))); (case side2 => exact (Kd.R_reads' HO387.out).2.1); (case side3 => repeat (first | exact (Kd.R_reads' HO394.out).2.2 | (with_reducible refine Kd.C_alloc ?_ _) | (with_reducible refine Kd.C_drewN ?_ _) | (with_reducible refine Kd.C_drew ?_))); (case side4 => exact (Kd.R_reads' HO394.out).2.1); rintro e w' ⟨rfl, ⟨nd, rfl⟩⟩; refine ⟨_, rfl, ?_⟩) | (go_at_call 13; (with_reducible refine (dancestudiolaw11_awake.calls k  t396 _ A11.out).mono ?_); rintro e w16 ⟨rfl, hb⟩; have n0_ := Aside0.mk (Kd.R_below (by (with_reducible repeat (first | apply Kd.R_alloc | apply Kd.R_drewN | apply Kd.R_drew)); exact HO387.out) hb); have n1_ := Aside0.mk (Kd.R_below (by (with_reducible repeat (first | apply Kd.R_alloc | apply Kd.R_drewN | apply Kd.R_drew)); exact HO394.out) hb); have n2_ := Aside0.mk (below_step (by repeat (first | (with_reducible first | exact HB.out | apply below_alloc | apply pw_below_drewN | apply below_drew1) | exact HB.out)) hb); clear HO387; clear HO394; clear HB; have HO387 := n0_; have HO394 := n1_; have HB := n2_; clear n0_ n1_ n2_; (try clear hb); (try clear hb2); (try clear hk); (try clear hi)))
     go_ret
     exact ⟨by first | rfl | (simp [errW_none, errW_some] <;> rfl) | (simp [*, errW_none, errW_some] <;> rfl), by repeat (first | (with_reducible first | exact HB.out | apply below_alloc | apply pw_below_drewN | apply below_drew1) | exact HB.out)⟩
    ·
     rw [if_neg c10] at H
     exact absurd H (by simp)
   ·
    rw [if_neg c9] at H
    exact absurd H (by simp)
  ·
   replace c8 := Bool.eq_false_iff.mpr c8
   subst c8
   have H1 : (none) = some r := by rw [if_neg (show ¬ (false = true) by decide)] at H; exact H
   clear H
   have H := H1
   clear H1
   exact absurd H (by simp)
end Go.Proofs.Ytbmflpflmjfabaa.PAll
