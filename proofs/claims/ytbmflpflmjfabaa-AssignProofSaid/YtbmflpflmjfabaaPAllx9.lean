-- Written by wip/tools/handprint.py: walks of the functions that the law reaches; Lean checks them.
import Derived.Test.YtbmflpflmjfabaaPAllx0
import Derived.Test.YtbmflpflmjfabaaPAllx1
import Derived.Test.YtbmflpflmjfabaaPAllx5
import Derived.Test.YtbmflpflmjfabaaPAllx6
import Derived.Test.YtbmflpflmjfabaaPAllx8
namespace Go.Proofs.Ytbmflpflmjfabaa.PAll
open Go.RowKit Go.Proofs.YtbmflpflmjfabaaW.PrintWords Go.Proofs.YtbmflpflmjfabaaW.PrintLast Go.Proofs.YtbmflpflmjfabaaW.PrintMore
attribute [local go_sem] max2_int min2_int max_two min_two max_three min_three max_four min_four   -- for this text's walks alone
set_option linter.unusedVariables false
set_option linter.unusedSimpArgs false

/-! ### dancestudiolaw11_awake: function 13 -/
def dancestudiolaw11_awake.j0 : Nat → List (List Int) → Bool → Option (Bool)
 | 0, _, _ => none
 | k + 1, x1, x33 => if x33 = true then (none) else ((assign_Cost.f k x1 (([0, 1, 2] : List Int))).bind fun bt310 => ((assign_Cost.f k x1 (([0, 0, 2] : List Int))).bind fun bt315 => ((assign_Solve.f k (([(([1, 1] : List Int)), (([1, 1] : List Int))] : List (List Int)))).bind fun bt326 => (if bt310.1 = 6 then (if bt310.2 = 0 then (if bt315.2 = 2 then ((dancestudiolaw11_same.f k bt326.1 (([0, 1] : List Int))).bind fun t334 => (if t334 = true then (if bt326.2.1 = 2 then (if bt326.2.2 = 0 then ((assign_Check.f k (([(([(-1), 2] : List Int)), (([3] : List Int))] : List (List Int)))).bind fun t344 => (if t344 = 2 then ((dancestudiolaw11_proves.f k x1).bind fun t345 => (some t345)) else (none))) else (none)) else (none)) else (none))) else (none)) else (none)) else (none)))))
def dancestudiolaw11_awake.f (k : Nat)  : Option (Bool) := (some (([(([4, 1, 3] : List Int)), (([2, 0, 5] : List Int)), (([3, 2, 2] : List Int))] : List (List Int)) : List (List Int))).bind fun y295 => ((assign_Solve.f k y295).bind fun bt298 => ((dancestudiolaw11_same.f k bt298.1 (([1, 0, 2] : List Int))).bind fun t306 => (if t306 = true then (if bt298.2.1 = 5 then (dancestudiolaw11_awake.j0 k y295 (bt298.2.2 != 0)) else (dancestudiolaw11_awake.j0 k y295 true)) else (dancestudiolaw11_awake.j0 k y295 true))))
theorem dancestudiolaw11_awake.mono_l : ∀ k, (∀ y0 y1, LeO (dancestudiolaw11_awake.j0 k y0 y1) (dancestudiolaw11_awake.j0 (k + 1) y0 y1))
 | 0 => fun _ _ r h => by simp [dancestudiolaw11_awake.j0] at h
 | k + 1 => by
  have ih0 := dancestudiolaw11_awake.mono_l k
  ·
   intro y0 y1
   unfold dancestudiolaw11_awake.j0
   repeat' first
   | (with_reducible exact ih0 _ _)
   | (with_reducible exact assign_Check.mono _ _)
   | (with_reducible exact assign_Cost.mono _ _ _)
   | (with_reducible exact assign_Solve.mono _ _)
   | (with_reducible exact dancestudiolaw11_proves.mono _ _)
   | (with_reducible exact dancestudiolaw11_same.mono _ _ _)
   | (with_reducible exact LeO.refl _)
   | (with_reducible exact LeO.none _)
   | (with_reducible refine LeO.ite ?_ ?_)
   | (with_reducible refine LeO.bind ?_ (fun _ => ?_))
   | exact ih0 _ _
   | exact assign_Check.mono _ _
   | exact assign_Cost.mono _ _ _
   | exact assign_Solve.mono _ _
   | exact dancestudiolaw11_proves.mono _ _
   | exact dancestudiolaw11_same.mono _ _ _
   | exact LeO.none _
   | refine LeO.ite ?_ ?_
   | refine LeO.bind ?_ (fun _ => ?_)
theorem dancestudiolaw11_awake.mono : ∀ k, LeO (dancestudiolaw11_awake.f k ) (dancestudiolaw11_awake.f (k + 1) ) := by
 intro  k
 have ih0 := dancestudiolaw11_awake.mono_l k
 unfold dancestudiolaw11_awake.f
 repeat' first
   | (with_reducible exact ih0 _ _)
   | (with_reducible exact assign_Check.mono _ _)
   | (with_reducible exact assign_Cost.mono _ _ _)
   | (with_reducible exact assign_Solve.mono _ _)
   | (with_reducible exact dancestudiolaw11_proves.mono _ _)
   | (with_reducible exact dancestudiolaw11_same.mono _ _ _)
   | (with_reducible exact LeO.refl _)
   | (with_reducible exact LeO.none _)
   | (with_reducible refine LeO.ite ?_ ?_)
   | (with_reducible refine LeO.bind ?_ (fun _ => ?_))
   | exact ih0 _ _
   | exact assign_Check.mono _ _
   | exact assign_Cost.mono _ _ _
   | exact assign_Solve.mono _ _
   | exact dancestudiolaw11_proves.mono _ _
   | exact dancestudiolaw11_same.mono _ _ _
   | exact LeO.none _
   | refine LeO.ite ?_ ?_
   | refine LeO.bind ?_ (fun _ => ?_)
set_option maxHeartbeats 8000000 in
set_option maxRecDepth 100000 in
theorem dancestudiolaw11_awake.calls (k : Nat)  (r : Bool) (w : World) (h : dancestudiolaw11_awake.f k  = some r) :
  Calls Try.prog 13 #[] w fun e w' => e = .returned (.bool r) ∧ Below w.heap.size w w' := by
 have HB := Aside0.mk (Below.refl w.heap.size w)
 have H : ((some (([(([4, 1, 3] : List Int)), (([2, 0, 5] : List Int)), (([3, 2, 2] : List Int))] : List (List Int)) : List (List Int))).bind fun y295 => ((assign_Solve.f k y295).bind fun bt298 => ((dancestudiolaw11_same.f k bt298.1 (([1, 0, 2] : List Int))).bind fun t306 => (if t306 = true then (if bt298.2.1 = 5 then (dancestudiolaw11_awake.j0 k y295 (bt298.2.2 != 0)) else (dancestudiolaw11_awake.j0 k y295 true)) else (dancestudiolaw11_awake.j0 k y295 true))))) = some r := h
 clear h
 obtain ⟨y286, hy286⟩ : ∃ y_ : List Int, y_ = (([4, 1, 3] : List Int)) := ⟨_, rfl⟩
 replace H : ((some (([y286, (([2, 0, 5] : List Int)), (([3, 2, 2] : List Int))] : List (List Int)) : List (List Int))).bind fun y295 => ((assign_Solve.f k y295).bind fun bt298 => ((dancestudiolaw11_same.f k bt298.1 (([1, 0, 2] : List Int))).bind fun t306 => (if t306 = true then (if bt298.2.1 = 5 then (dancestudiolaw11_awake.j0 k y295 (bt298.2.2 != 0)) else (dancestudiolaw11_awake.j0 k y295 true)) else (dancestudiolaw11_awake.j0 k y295 true))))) = some r := by first | (rw [hy286]; with_reducible exact H) | (have H2_ := (Option.bind_some _ _).symm.trans H; rw [hy286]; with_reducible exact H2_) | (have H2_ := (Option.bind_some _ _).symm.trans H; with_reducible exact H2_) | with_reducible exact H | (rw [hy286]; exact H) | exact H
 have Ny286 := Aside0.mk hy286
 clear hy286
 obtain ⟨y289, hy289⟩ : ∃ y_ : List Int, y_ = (([2, 0, 5] : List Int)) := ⟨_, rfl⟩
 replace H : ((some (([y286, y289, (([3, 2, 2] : List Int))] : List (List Int)) : List (List Int))).bind fun y295 => ((assign_Solve.f k y295).bind fun bt298 => ((dancestudiolaw11_same.f k bt298.1 (([1, 0, 2] : List Int))).bind fun t306 => (if t306 = true then (if bt298.2.1 = 5 then (dancestudiolaw11_awake.j0 k y295 (bt298.2.2 != 0)) else (dancestudiolaw11_awake.j0 k y295 true)) else (dancestudiolaw11_awake.j0 k y295 true))))) = some r := by first | (rw [hy289]; with_reducible exact H) | (have H2_ := (Option.bind_some _ _).symm.trans H; rw [hy289]; with_reducible exact H2_) | (have H2_ := (Option.bind_some _ _).symm.trans H; with_reducible exact H2_) | with_reducible exact H | (rw [hy289]; exact H) | exact H
 have Ny289 := Aside0.mk hy289
 clear hy289
 obtain ⟨y292, hy292⟩ : ∃ y_ : List Int, y_ = (([3, 2, 2] : List Int)) := ⟨_, rfl⟩
 replace H : ((some (([y286, y289, y292] : List (List Int)) : List (List Int))).bind fun y295 => ((assign_Solve.f k y295).bind fun bt298 => ((dancestudiolaw11_same.f k bt298.1 (([1, 0, 2] : List Int))).bind fun t306 => (if t306 = true then (if bt298.2.1 = 5 then (dancestudiolaw11_awake.j0 k y295 (bt298.2.2 != 0)) else (dancestudiolaw11_awake.j0 k y295 true)) else (dancestudiolaw11_awake.j0 k y295 true))))) = some r := by first | (rw [hy292]; with_reducible exact H) | (have H2_ := (Option.bind_some _ _).symm.trans H; rw [hy292]; with_reducible exact H2_) | (have H2_ := (Option.bind_some _ _).symm.trans H; with_reducible exact H2_) | with_reducible exact H | (rw [hy292]; exact H) | exact H
 have Ny292 := Aside0.mk hy292
 clear hy292
 obtain ⟨y295, hy295⟩ : ∃ y_ : List (List Int), y_ = (([y286, y289, y292] : List (List Int))) := ⟨_, rfl⟩
 replace H : ((assign_Solve.f k y295).bind fun bt298 => ((dancestudiolaw11_same.f k bt298.1 (([1, 0, 2] : List Int))).bind fun t306 => (if t306 = true then (if bt298.2.1 = 5 then (dancestudiolaw11_awake.j0 k y295 (bt298.2.2 != 0)) else (dancestudiolaw11_awake.j0 k y295 true)) else (dancestudiolaw11_awake.j0 k y295 true)))) = some r := by first | (rw [hy295]; with_reducible exact H) | (have H2_ := (Option.bind_some _ _).symm.trans H; rw [hy295]; with_reducible exact H2_) | (have H2_ := (Option.bind_some _ _).symm.trans H; with_reducible exact H2_) | with_reducible exact H | (rw [hy295]; exact H) | exact H
 have Ny295 := Aside0.mk hy295
 clear hy295
 replace H := Option.bind_eq_some_iff.mp H
 obtain ⟨⟨t298, t301, t302⟩, A10, H⟩ := H
 replace H : ((dancestudiolaw11_same.f k t298 (([1, 0, 2] : List Int))).bind fun t306 => (if t306 = true then (if t301 = 5 then (dancestudiolaw11_awake.j0 k y295 (t302 != 0)) else (dancestudiolaw11_awake.j0 k y295 true)) else (dancestudiolaw11_awake.j0 k y295 true))) = some r := H
 have A1 := Aside0.mk A10
 clear A10
 have HC2 := Aside0.mk H
 clear H
 go_enter Try.func13, Try.ntmps13
 go_upto_region 3 with (first | ((with_reducible refine gate_dst (N := 12) rfl ?_); (try (refine gate_guard (by rfl) ?_; dsimp only)); refine Kd.R_lit (Kd.int .i64) _ 3 ?hg (N := 12) ?hd (xs := ([4, 1, 3] : List Int)) (inner := [.int .i64 4, .int .i64 1, .int .i64 3]) (ok := fun _ => True) (okp := fun _ => True) ?hr ?hp (fun _ hk => hk) trivial (Below.refl _ _) (Nat.le_refl _) (by simp) ?_; (case hd => rfl); (case hg => rfl); (case hr => first | (go_simp; done) | (go_simp; rfl)); (case hp => exact (Reps.one (show Kd.M (Kd.int .i64) _ _ _ 4 [.int .i64 4] from rfl) (Reps.one (show Kd.M (Kd.int .i64) _ _ _ 1 [.int .i64 1] from rfl) (Reps.one (show Kd.M (Kd.int .i64) _ _ _ 3 [.int .i64 3] from rfl) (Reps.none _ _))))); intro v287 w3 ho4 hb hg_ hnew_; clear hg_ hnew_; (first | rw [← Ny286.out] at ho4 | (simp only [Int.reduceToNat] at ho4; rw [← Ny286.out] at ho4)); have n0_ := Aside0.mk (Kd.R_lower ho4 (below_size (by repeat (first | (with_reducible first | exact HB.out | apply below_alloc | apply pw_below_drewN | apply below_drew1) | exact HB.out)))); have n1_ := Aside0.mk (below_step (by repeat (first | (with_reducible first | exact HB.out | apply below_alloc | apply pw_below_drewN | apply below_drew1) | exact HB.out)) hb); clear HB; have HO288 := n0_; have HB := n1_; clear n0_ n1_; clear hb ho4) | ((with_reducible refine gate_dst (N := 13) rfl ?_); (try (refine gate_guard (by rfl) ?_; dsimp only)); refine Kd.R_lit (Kd.int .i64) _ 3 ?hg (N := 13) ?hd (xs := ([2, 0, 5] : List Int)) (inner := [.int .i64 2, .int .i64 0, .int .i64 5]) (ok := fun _ => True) (okp := fun _ => True) ?hr ?hp (fun _ hk => hk) trivial (Below.refl _ _) (Nat.le_refl _) (by simp) ?_; (case hd => rfl); (case hg => rfl); (case hr => first | (go_simp; done) | (go_simp; rfl)); (case hp => exact (Reps.one (show Kd.M (Kd.int .i64) _ _ _ 2 [.int .i64 2] from rfl) (Reps.one (show Kd.M (Kd.int .i64) _ _ _ 0 [.int .i64 0] from rfl) (Reps.one (show Kd.M (Kd.int .i64) _ _ _ 5 [.int .i64 5] from rfl) (Reps.none _ _))))); intro v290 w5 ho6 hb hg_ hnew_; clear hg_ hnew_; (first | rw [← Ny289.out] at ho6 | (simp only [Int.reduceToNat] at ho6; rw [← Ny289.out] at ho6)); have n0_ := Aside0.mk (Kd.R_elder' (by (with_reducible repeat (first | apply Kd.R_alloc | apply Kd.R_drewN | apply Kd.R_drew)); exact HO288.out) (Kd.R_base ho6) hb); have n1_ := Aside0.mk (Kd.R_lower (Kd.R_new' ho6 (Kd.R_lt (by (with_reducible repeat (first | apply Kd.R_alloc | apply Kd.R_drewN | apply Kd.R_drew)); exact HO288.out))) (below_size (by repeat (first | (with_reducible first | exact HB.out | apply below_alloc | apply pw_below_drewN | apply below_drew1) | exact HB.out)))); have n2_ := Aside0.mk (below_step (by repeat (first | (with_reducible first | exact HB.out | apply below_alloc | apply pw_below_drewN | apply below_drew1) | exact HB.out)) hb); clear HO288; clear HB; have HO288 := n0_; have HO291 := n1_; have HB := n2_; clear n0_ n1_ n2_; clear hb ho6) | ((with_reducible refine gate_dst (N := 14) rfl ?_); (try (refine gate_guard (by rfl) ?_; dsimp only)); refine Kd.R_lit (Kd.int .i64) _ 3 ?hg (N := 14) ?hd (xs := ([3, 2, 2] : List Int)) (inner := [.int .i64 3, .int .i64 2, .int .i64 2]) (ok := fun _ => True) (okp := fun _ => True) ?hr ?hp (fun _ hk => hk) trivial (Below.refl _ _) (Nat.le_refl _) (by simp) ?_; (case hd => rfl); (case hg => rfl); (case hr => first | (go_simp; done) | (go_simp; rfl)); (case hp => exact (Reps.one (show Kd.M (Kd.int .i64) _ _ _ 3 [.int .i64 3] from rfl) (Reps.one (show Kd.M (Kd.int .i64) _ _ _ 2 [.int .i64 2] from rfl) (Reps.one (show Kd.M (Kd.int .i64) _ _ _ 2 [.int .i64 2] from rfl) (Reps.none _ _))))); intro v293 w7 ho8 hb hg_ hnew_; clear hg_ hnew_; (first | rw [← Ny292.out] at ho8 | (simp only [Int.reduceToNat] at ho8; rw [← Ny292.out] at ho8)); have n0_ := Aside0.mk (Kd.R_elder' (by (with_reducible repeat (first | apply Kd.R_alloc | apply Kd.R_drewN | apply Kd.R_drew)); exact HO288.out) (Kd.R_base ho8) hb); have n1_ := Aside0.mk (Kd.R_elder' (by (with_reducible repeat (first | apply Kd.R_alloc | apply Kd.R_drewN | apply Kd.R_drew)); exact HO291.out) (Kd.R_base ho8) hb); have n2_ := Aside0.mk (Kd.R_lower (Kd.R_new' (Kd.R_new' ho8 (Kd.R_lt (by (with_reducible repeat (first | apply Kd.R_alloc | apply Kd.R_drewN | apply Kd.R_drew)); exact HO288.out))) (Kd.R_lt (by (with_reducible repeat (first | apply Kd.R_alloc | apply Kd.R_drewN | apply Kd.R_drew)); exact HO291.out))) (below_size (by repeat (first | (with_reducible first | exact HB.out | apply below_alloc | apply pw_below_drewN | apply below_drew1) | exact HB.out)))); have n3_ := Aside0.mk (below_step (by repeat (first | (with_reducible first | exact HB.out | apply below_alloc | apply pw_below_drewN | apply below_drew1) | exact HB.out)) hb); clear HO288; clear HO291; clear HB; have HO288 := n0_; have HO291 := n1_; have HO294 := n2_; have HB := n3_; clear n0_ n1_ n2_ n3_; clear hb ho8; obtain ⟨Ao9, co9, eo9⟩ := Kd.R_slice HO288.out; subst eo9; obtain ⟨Ao10, co10, eo10⟩ := Kd.R_slice HO291.out; subst eo10; obtain ⟨Ao11, co11, eo11⟩ := Kd.R_slice HO294.out; subst eo11) | ((with_reducible refine gate_dst (N := 15) rfl ?_); (try (refine gate_guard (by rfl) ?_; dsimp only)); refine Kd.N_lit (Kd.slice 3 (Kd.int .i64)) _ 23 ?hg (N' := 15) ?hd (xs := ([y286, y289, y292] : List (List Int))) (inner := [.slice Ao9 y286.length co9, .slice Ao10 y289.length co10, .slice Ao11 y292.length co11]) (ok := (fun _ => True)) (okp := (fun _ => True)) ?hr ?hp (fun _ hk => hk) ((show ∀ k_, w7.heap.size ≤ k_ → (fun _ => True) k_ from fun k_ hk => trivial) _ (Nat.le_refl _)) (Below.refl _ _) (Nat.le_refl _) (by simp) ?_; (case hd => rfl); (case hg => rfl); (case hr => first | (go_simp; done) | (go_simp; rfl)); (case hp => exact (Reps.one (show Kd.FK (Kd.slice 3 (Kd.int .i64)) _ _ y286 [.slice Ao9 y286.length co9] from (Kd.FK_slice_mk (Kd.R_reads' (Kd.R_mono (ok' := (fun _ => True)) (HO288.out) (fun k_ hk => trivial))).2.1 (Kd.R_F (Kd.R_mono (ok' := (fun _ => True)) (HO288.out) (fun k_ hk => trivial))))) (Reps.one (show Kd.FK (Kd.slice 3 (Kd.int .i64)) _ _ y289 [.slice Ao10 y289.length co10] from (Kd.FK_slice_mk (Kd.R_reads' (Kd.R_mono (ok' := (fun _ => True)) (HO291.out) (fun k_ hk => trivial))).2.1 (Kd.R_F (Kd.R_mono (ok' := (fun _ => True)) (HO291.out) (fun k_ hk => trivial))))) (Reps.one (show Kd.FK (Kd.slice 3 (Kd.int .i64)) _ _ y292 [.slice Ao11 y292.length co11] from (Kd.FK_slice_mk (Kd.R_reads' (Kd.R_mono (ok' := (fun _ => True)) (HO294.out) (fun k_ hk => trivial))).2.1 (Kd.R_F (Kd.R_mono (ok' := (fun _ => True)) (HO294.out) (fun k_ hk => trivial))))) (Reps.none _ _))))); intro v296 w12 ho13 hb hg_ hnew_; clear hg_ hnew_; (first | rw [← Ny295.out] at ho13 | (simp only [Int.reduceToNat] at ho13; rw [← Ny295.out] at ho13)); have n0_ := Aside0.mk (Kd.N_lower ho13 (below_size (by repeat (first | (with_reducible first | exact HB.out | apply below_alloc | apply pw_below_drewN | apply below_drew1) | exact HB.out)))); have n1_ := Aside0.mk (below_step (by repeat (first | (with_reducible first | exact HB.out | apply below_alloc | apply pw_below_drewN | apply below_drew1) | exact HB.out)) hb); clear HB; clear HO288; clear HO291; clear HO294; have HO297 := n0_; have HB := n1_; clear n0_ n1_; clear hb ho13; obtain ⟨Ao14, co14, eo14⟩ := Kd.N_slice HO297.out; subst eo14) | ((with_reducible refine gate_callee (f := 14) rfl ?_); refine goesL_ (some 18) rfl rfl Try.func14 (by kernel_rfl) rfl #[.slice Ao14 y295.length co14] rfl (by (try simp only [List.map_toArray, List.map_cons, List.map_nil]); first | done | rfl | (simp only [List.length_drop, List.length_take]; rfl)) ?_; (with_reducible refine (assign_Solve.calls k (fun k_ => True) _ _ y295 t298 t301 t302 _ ?side1 A1.out).mono ?_); (case side1 => exact Kd.N_V (HO297.out)); rintro e w15 ⟨v299, rfl, ho0, hb⟩; refine ⟨_, rfl, ?_⟩; have n0_ := Aside0.mk (Kd.N_elder' (by (with_reducible repeat (first | apply Kd.N_alloc | apply Kd.N_drewN | apply Kd.N_drew)); exact HO297.out) (Kd.R_base ho0) hb); have n1_ := Aside0.mk (Kd.R_lower (Kd.R_mono (ok' := fun k_ => True) ho0 (fun _ hk_ => trivial)) (below_size (by repeat (first | (with_reducible first | exact HB.out | apply below_alloc | apply pw_below_drewN | apply below_drew1) | exact HB.out)))); have n2_ := Aside0.mk (below_step (by repeat (first | (with_reducible first | exact HB.out | apply below_alloc | apply pw_below_drewN | apply below_drew1) | exact HB.out)) hb); clear HO297; clear HB; have HO297 := n0_; have HO300 := n1_; have HB := n2_; clear n0_ n1_ n2_; (try clear hb); (try clear hb2); (try clear hk); (try clear hi); (try clear ho0)))
 (try simp only [Act.put, List.setIfInBounds_toArray, List.set_cons_zero, List.set_cons_succ])
 go_cut [33] (fun v33 wc => ∃ (kq : Nat) (x33_1 : Bool), v33 = .bool x33_1 ∧ Aside0 (dancestudiolaw11_awake.j0 kq y295 x33_1 = some r) ∧ Aside0 (kq ≤ k) ∧ Aside0 (Kd.N (Kd.slice 3 (Kd.int .i64)) 23 wc w.heap.size (fun _ => True) (.slice Ao14 y295.length co14) y295) ∧ Aside0 (Below w.heap.size w wc))
 case first =>
  have H := HC2.out
  clear HC2
  obtain ⟨y303, hy303⟩ : ∃ y_ : List Int, y_ = (([1, 0, 2] : List Int)) := ⟨_, rfl⟩
  replace H : ((dancestudiolaw11_same.f k t298 y303).bind fun t306 => (if t306 = true then (if t301 = 5 then (dancestudiolaw11_awake.j0 k y295 (t302 != 0)) else (dancestudiolaw11_awake.j0 k y295 true)) else (dancestudiolaw11_awake.j0 k y295 true))) = some r := by first | (rw [hy303]; with_reducible exact H) | (have H2_ := (Option.bind_some _ _).symm.trans H; rw [hy303]; with_reducible exact H2_) | (have H2_ := (Option.bind_some _ _).symm.trans H; with_reducible exact H2_) | with_reducible exact H | (rw [hy303]; exact H) | exact H
  have Ny303 := Aside0.mk hy303
  clear hy303
  replace H := Option.bind_eq_some_iff.mp H
  obtain ⟨t306, A160, H⟩ := H
  replace H : (if t306 = true then (if t301 = 5 then (dancestudiolaw11_awake.j0 k y295 (t302 != 0)) else (dancestudiolaw11_awake.j0 k y295 true)) else (dancestudiolaw11_awake.j0 k y295 true)) = some r := H
  have A16 := Aside0.mk A160
  clear A160
  by_cases c17 : t306 = true
  ·
   subst c17
   have H1 : (if t301 = 5 then (dancestudiolaw11_awake.j0 k y295 (t302 != 0)) else (dancestudiolaw11_awake.j0 k y295 true)) = some r := by rw [if_pos rfl] at H; exact H
   clear H
   have H := H1
   clear H1
   by_cases c18 : t301 = 5
   ·
    rw [if_pos c18] at H
    have c18b0 : (t301 == 5) = true := beq_iff_eq.mpr c18
    have c18b1 : (t301 != 5) = false := bne_eq_false_iff_eq.mpr c18
    clear c18
    (first | rw [c18b0] | (simp only [i64_w, i32_w]; rw [c18b0]) | skip)
    have H' := Aside0.mk H
    clear H
    go_wp2_with (first | ((with_reducible refine gate_dst (N := 23) rfl ?_); (try (refine gate_guard (by rfl) ?_; dsimp only)); refine Kd.R_lit (Kd.int .i64) _ 3 ?hg (N := 23) ?hd (xs := ([1, 0, 2] : List Int)) (inner := [.int .i64 1, .int .i64 0, .int .i64 2]) (ok := fun _ => True) (okp := fun _ => True) ?hr ?hp (fun _ hk => hk) trivial (Below.refl _ _) (Nat.le_refl _) (by simp) ?_; (case hd => rfl); (case hg => rfl); (case hr => first | (go_simp; done) | (go_simp; rfl)); (case hp => exact (Reps.one (show Kd.M (Kd.int .i64) _ _ _ 1 [.int .i64 1] from rfl) (Reps.one (show Kd.M (Kd.int .i64) _ _ _ 0 [.int .i64 0] from rfl) (Reps.one (show Kd.M (Kd.int .i64) _ _ _ 2 [.int .i64 2] from rfl) (Reps.none _ _))))); intro v304 w19 ho20 hb hg_ hnew_; clear hg_ hnew_; (first | rw [← Ny303.out] at ho20 | (simp only [Int.reduceToNat] at ho20; rw [← Ny303.out] at ho20)); have n0_ := Aside0.mk (Kd.N_elder' (by (with_reducible repeat (first | apply Kd.N_alloc | apply Kd.N_drewN | apply Kd.N_drew)); exact HO297.out) (Kd.R_base ho20) hb); have n1_ := Aside0.mk (Kd.R_elder' (by (with_reducible repeat (first | apply Kd.R_alloc | apply Kd.R_drewN | apply Kd.R_drew)); exact HO300.out) (Kd.R_base ho20) hb); have n2_ := Aside0.mk (Kd.R_lower (Kd.R_new' ho20 (Kd.R_lt (by (with_reducible repeat (first | apply Kd.R_alloc | apply Kd.R_drewN | apply Kd.R_drew)); exact HO300.out))) (below_size (by repeat (first | (with_reducible first | exact HB.out | apply below_alloc | apply pw_below_drewN | apply below_drew1) | exact HB.out)))); have n3_ := Aside0.mk (below_step (by repeat (first | (with_reducible first | exact HB.out | apply below_alloc | apply pw_below_drewN | apply below_drew1) | exact HB.out)) hb); clear HO297; clear HO300; clear HB; have HO297 := n0_; have HO300 := n1_; have HO305 := n2_; have HB := n3_; clear n0_ n1_ n2_ n3_; clear hb ho20; obtain ⟨Ao21, co21, eo21⟩ := Kd.R_slice HO300.out; subst eo21; obtain ⟨Ao22, co22, eo22⟩ := Kd.R_slice HO305.out; subst eo22) | ((with_reducible refine gate_callee (f := 18) rfl ?_); refine goesL_ (some 24) rfl rfl Try.func18 (by kernel_rfl) rfl #[.slice Ao21 t298.length co21, .slice Ao22 y303.length co22] rfl (by (try simp only [List.map_toArray, List.map_cons, List.map_nil]); first | done | rfl | (simp only [List.length_drop, List.length_take]; rfl)) ?_; (with_reducible refine (dancestudiolaw11_same.calls k _ _ t298 _ _ y303 true _ ?side1 ?side2 ?side3 ?side4 A16.out).mono ?_); (case side1 => repeat (first | exact (Kd.R_reads' HO300.out).2.2 | (with_reducible refine Kd.C_alloc ?_ _) | (with_reducible refine Kd.C_drewN ?_ _) | (with_reducible refine Kd.C_drew ?_))); (case side2 => exact (Kd.R_reads' HO300.out).2.1); (case side3 => repeat (first | exact (Kd.R_reads' HO305.out).2.2 | (with_reducible refine Kd.C_alloc ?_ _) | (with_reducible refine Kd.C_drewN ?_ _) | (with_reducible refine Kd.C_drew ?_))); (case side4 => exact (Kd.R_reads' HO305.out).2.1); rintro e w' ⟨rfl, ⟨nd, rfl⟩⟩; refine ⟨_, rfl, ?_⟩))
    go_meet
    case rel => exact ⟨_, ((t302 != 0)), (by first | rfl | (simp; done) | (simp [*]; done)), H', ⟨by first | omega | exact Nat.le_refl _⟩, ⟨by (with_reducible repeat (first | apply Kd.N_alloc | apply Kd.N_drewN | apply Kd.N_drew)); exact Kd.N_mono HO297.out (fun _ hk => trivial)⟩, ⟨by repeat (first | (with_reducible first | exact HB.out | apply below_alloc | apply pw_below_drewN | apply below_drew1) | exact HB.out)⟩⟩
   ·
    rw [if_neg c18] at H
    have c18b0 : (t301 == 5) = false := beq_eq_false_iff_ne.mpr c18
    have c18b1 : (t301 != 5) = true := bne_iff_ne.mpr c18
    (first | rw [c18b0] | (simp only [i64_w, i32_w]; rw [c18b0]) | skip)
    have H' := Aside0.mk H
    clear H
    go_wp2_with (first | ((with_reducible refine gate_dst (N := 23) rfl ?_); (try (refine gate_guard (by rfl) ?_; dsimp only)); refine Kd.R_lit (Kd.int .i64) _ 3 ?hg (N := 23) ?hd (xs := ([1, 0, 2] : List Int)) (inner := [.int .i64 1, .int .i64 0, .int .i64 2]) (ok := fun _ => True) (okp := fun _ => True) ?hr ?hp (fun _ hk => hk) trivial (Below.refl _ _) (Nat.le_refl _) (by simp) ?_; (case hd => rfl); (case hg => rfl); (case hr => first | (go_simp; done) | (go_simp; rfl)); (case hp => exact (Reps.one (show Kd.M (Kd.int .i64) _ _ _ 1 [.int .i64 1] from rfl) (Reps.one (show Kd.M (Kd.int .i64) _ _ _ 0 [.int .i64 0] from rfl) (Reps.one (show Kd.M (Kd.int .i64) _ _ _ 2 [.int .i64 2] from rfl) (Reps.none _ _))))); intro v304 w23 ho24 hb hg_ hnew_; clear hg_ hnew_; (first | rw [← Ny303.out] at ho24 | (simp only [Int.reduceToNat] at ho24; rw [← Ny303.out] at ho24)); have n0_ := Aside0.mk (Kd.N_elder' (by (with_reducible repeat (first | apply Kd.N_alloc | apply Kd.N_drewN | apply Kd.N_drew)); exact HO297.out) (Kd.R_base ho24) hb); have n1_ := Aside0.mk (Kd.R_elder' (by (with_reducible repeat (first | apply Kd.R_alloc | apply Kd.R_drewN | apply Kd.R_drew)); exact HO300.out) (Kd.R_base ho24) hb); have n2_ := Aside0.mk (Kd.R_lower (Kd.R_new' ho24 (Kd.R_lt (by (with_reducible repeat (first | apply Kd.R_alloc | apply Kd.R_drewN | apply Kd.R_drew)); exact HO300.out))) (below_size (by repeat (first | (with_reducible first | exact HB.out | apply below_alloc | apply pw_below_drewN | apply below_drew1) | exact HB.out)))); have n3_ := Aside0.mk (below_step (by repeat (first | (with_reducible first | exact HB.out | apply below_alloc | apply pw_below_drewN | apply below_drew1) | exact HB.out)) hb); clear HO297; clear HO300; clear HB; have HO297 := n0_; have HO300 := n1_; have HO305 := n2_; have HB := n3_; clear n0_ n1_ n2_ n3_; clear hb ho24; obtain ⟨Ao25, co25, eo25⟩ := Kd.R_slice HO300.out; subst eo25; obtain ⟨Ao26, co26, eo26⟩ := Kd.R_slice HO305.out; subst eo26) | ((with_reducible refine gate_callee (f := 18) rfl ?_); refine goesL_ (some 24) rfl rfl Try.func18 (by kernel_rfl) rfl #[.slice Ao25 t298.length co25, .slice Ao26 y303.length co26] rfl (by (try simp only [List.map_toArray, List.map_cons, List.map_nil]); first | done | rfl | (simp only [List.length_drop, List.length_take]; rfl)) ?_; (with_reducible refine (dancestudiolaw11_same.calls k _ _ t298 _ _ y303 true _ ?side1 ?side2 ?side3 ?side4 A16.out).mono ?_); (case side1 => repeat (first | exact (Kd.R_reads' HO300.out).2.2 | (with_reducible refine Kd.C_alloc ?_ _) | (with_reducible refine Kd.C_drewN ?_ _) | (with_reducible refine Kd.C_drew ?_))); (case side2 => exact (Kd.R_reads' HO300.out).2.1); (case side3 => repeat (first | exact (Kd.R_reads' HO305.out).2.2 | (with_reducible refine Kd.C_alloc ?_ _) | (with_reducible refine Kd.C_drewN ?_ _) | (with_reducible refine Kd.C_drew ?_))); (case side4 => exact (Kd.R_reads' HO305.out).2.1); rintro e w' ⟨rfl, ⟨nd, rfl⟩⟩; refine ⟨_, rfl, ?_⟩))
    go_meet
    case rel => exact ⟨_, (true), (by first | rfl | (simp; done) | (simp [*]; done)), H', ⟨by first | omega | exact Nat.le_refl _⟩, ⟨by (with_reducible repeat (first | apply Kd.N_alloc | apply Kd.N_drewN | apply Kd.N_drew)); exact Kd.N_mono HO297.out (fun _ hk => trivial)⟩, ⟨by repeat (first | (with_reducible first | exact HB.out | apply below_alloc | apply pw_below_drewN | apply below_drew1) | exact HB.out)⟩⟩
  ·
   replace c17 := Bool.eq_false_iff.mpr c17
   subst c17
   have H1 : (dancestudiolaw11_awake.j0 k y295 true) = some r := by rw [if_neg (show ¬ (false = true) by decide)] at H; exact H
   clear H
   have H := H1
   clear H1
   have H' := Aside0.mk H
   clear H
   go_wp2_with (first | ((with_reducible refine gate_dst (N := 23) rfl ?_); (try (refine gate_guard (by rfl) ?_; dsimp only)); refine Kd.R_lit (Kd.int .i64) _ 3 ?hg (N := 23) ?hd (xs := ([1, 0, 2] : List Int)) (inner := [.int .i64 1, .int .i64 0, .int .i64 2]) (ok := fun _ => True) (okp := fun _ => True) ?hr ?hp (fun _ hk => hk) trivial (Below.refl _ _) (Nat.le_refl _) (by simp) ?_; (case hd => rfl); (case hg => rfl); (case hr => first | (go_simp; done) | (go_simp; rfl)); (case hp => exact (Reps.one (show Kd.M (Kd.int .i64) _ _ _ 1 [.int .i64 1] from rfl) (Reps.one (show Kd.M (Kd.int .i64) _ _ _ 0 [.int .i64 0] from rfl) (Reps.one (show Kd.M (Kd.int .i64) _ _ _ 2 [.int .i64 2] from rfl) (Reps.none _ _))))); intro v304 w27 ho28 hb hg_ hnew_; clear hg_ hnew_; (first | rw [← Ny303.out] at ho28 | (simp only [Int.reduceToNat] at ho28; rw [← Ny303.out] at ho28)); have n0_ := Aside0.mk (Kd.N_elder' (by (with_reducible repeat (first | apply Kd.N_alloc | apply Kd.N_drewN | apply Kd.N_drew)); exact HO297.out) (Kd.R_base ho28) hb); have n1_ := Aside0.mk (Kd.R_elder' (by (with_reducible repeat (first | apply Kd.R_alloc | apply Kd.R_drewN | apply Kd.R_drew)); exact HO300.out) (Kd.R_base ho28) hb); have n2_ := Aside0.mk (Kd.R_lower (Kd.R_new' ho28 (Kd.R_lt (by (with_reducible repeat (first | apply Kd.R_alloc | apply Kd.R_drewN | apply Kd.R_drew)); exact HO300.out))) (below_size (by repeat (first | (with_reducible first | exact HB.out | apply below_alloc | apply pw_below_drewN | apply below_drew1) | exact HB.out)))); have n3_ := Aside0.mk (below_step (by repeat (first | (with_reducible first | exact HB.out | apply below_alloc | apply pw_below_drewN | apply below_drew1) | exact HB.out)) hb); clear HO297; clear HO300; clear HB; have HO297 := n0_; have HO300 := n1_; have HO305 := n2_; have HB := n3_; clear n0_ n1_ n2_ n3_; clear hb ho28; obtain ⟨Ao29, co29, eo29⟩ := Kd.R_slice HO300.out; subst eo29; obtain ⟨Ao30, co30, eo30⟩ := Kd.R_slice HO305.out; subst eo30) | ((with_reducible refine gate_callee (f := 18) rfl ?_); refine goesL_ (some 24) rfl rfl Try.func18 (by kernel_rfl) rfl #[.slice Ao29 t298.length co29, .slice Ao30 y303.length co30] rfl (by (try simp only [List.map_toArray, List.map_cons, List.map_nil]); first | done | rfl | (simp only [List.length_drop, List.length_take]; rfl)) ?_; (with_reducible refine (dancestudiolaw11_same.calls k _ _ t298 _ _ y303 false _ ?side1 ?side2 ?side3 ?side4 A16.out).mono ?_); (case side1 => repeat (first | exact (Kd.R_reads' HO300.out).2.2 | (with_reducible refine Kd.C_alloc ?_ _) | (with_reducible refine Kd.C_drewN ?_ _) | (with_reducible refine Kd.C_drew ?_))); (case side2 => exact (Kd.R_reads' HO300.out).2.1); (case side3 => repeat (first | exact (Kd.R_reads' HO305.out).2.2 | (with_reducible refine Kd.C_alloc ?_ _) | (with_reducible refine Kd.C_drewN ?_ _) | (with_reducible refine Kd.C_drew ?_))); (case side4 => exact (Kd.R_reads' HO305.out).2.1); rintro e w' ⟨rfl, ⟨nd, rfl⟩⟩; refine ⟨_, rfl, ?_⟩))
   go_meet
   case rel => exact ⟨_, (true), (by first | rfl | (simp; done) | (simp [*]; done)), H', ⟨by first | omega | exact Nat.le_refl _⟩, ⟨by (with_reducible repeat (first | apply Kd.N_alloc | apply Kd.N_drewN | apply Kd.N_drew)); exact Kd.N_mono HO297.out (fun _ hk => trivial)⟩, ⟨by repeat (first | (with_reducible first | exact HB.out | apply below_alloc | apply pw_below_drewN | apply below_drew1) | exact HB.out)⟩⟩
 case rest =>
  clear HC2
  try clear c1
  try clear p2
  try clear c13
  try clear c14
  try clear c17
  try clear c18
  try clear c18b0
  try clear c18b1
  obtain ⟨kq, x33_1, rfl, HA, HJ1, HO_1, HB⟩ := hcut
  cases kq with
  | zero => exact absurd HA.out (by simp [dancestudiolaw11_awake.j0])
  | succ kj1 =>
   have H := HA.out
   clear HA
   simp only [dancestudiolaw11_awake.j0] at H
   by_cases c31 : x33_1 = true
   ·
    subst c31
    have H1 : (none) = some r := by rw [if_pos rfl] at H; exact H
    clear H
    have H := H1
    clear H1
    exact absurd H (by simp)
   ·
    replace c31 := Bool.eq_false_iff.mpr c31
    subst c31
    have H1 : ((assign_Cost.f kj1 y295 (([0, 1, 2] : List Int))).bind fun bt310 => ((assign_Cost.f kj1 y295 (([0, 0, 2] : List Int))).bind fun bt315 => ((assign_Solve.f kj1 (([(([1, 1] : List Int)), (([1, 1] : List Int))] : List (List Int)))).bind fun bt326 => (if bt310.1 = 6 then (if bt310.2 = 0 then (if bt315.2 = 2 then ((dancestudiolaw11_same.f kj1 bt326.1 (([0, 1] : List Int))).bind fun t334 => (if t334 = true then (if bt326.2.1 = 2 then (if bt326.2.2 = 0 then ((assign_Check.f kj1 (([(([(-1), 2] : List Int)), (([3] : List Int))] : List (List Int)))).bind fun t344 => (if t344 = 2 then ((dancestudiolaw11_proves.f kj1 y295).bind fun t345 => (some t345)) else (none))) else (none)) else (none)) else (none))) else (none)) else (none)) else (none))))) = some r := by rw [if_neg (show ¬ (false = true) by decide)] at H; exact H
    clear H
    have H := H1
    clear H1
    obtain ⟨y307, hy307⟩ : ∃ y_ : List Int, y_ = (([0, 1, 2] : List Int)) := ⟨_, rfl⟩
    replace H : ((assign_Cost.f kj1 y295 y307).bind fun bt310 => ((assign_Cost.f kj1 y295 (([0, 0, 2] : List Int))).bind fun bt315 => ((assign_Solve.f kj1 (([(([1, 1] : List Int)), (([1, 1] : List Int))] : List (List Int)))).bind fun bt326 => (if bt310.1 = 6 then (if bt310.2 = 0 then (if bt315.2 = 2 then ((dancestudiolaw11_same.f kj1 bt326.1 (([0, 1] : List Int))).bind fun t334 => (if t334 = true then (if bt326.2.1 = 2 then (if bt326.2.2 = 0 then ((assign_Check.f kj1 (([(([(-1), 2] : List Int)), (([3] : List Int))] : List (List Int)))).bind fun t344 => (if t344 = 2 then ((dancestudiolaw11_proves.f kj1 y295).bind fun t345 => (some t345)) else (none))) else (none)) else (none)) else (none))) else (none)) else (none)) else (none))))) = some r := by first | (rw [hy307]; with_reducible exact H) | (have H2_ := (Option.bind_some _ _).symm.trans H; rw [hy307]; with_reducible exact H2_) | (have H2_ := (Option.bind_some _ _).symm.trans H; with_reducible exact H2_) | with_reducible exact H | (rw [hy307]; exact H) | exact H
    have Ny307 := Aside0.mk hy307
    clear hy307
    replace H := Option.bind_eq_some_iff.mp H
    obtain ⟨⟨t310, t311⟩, A320, H⟩ := H
    replace H : ((assign_Cost.f kj1 y295 (([0, 0, 2] : List Int))).bind fun bt315 => ((assign_Solve.f kj1 (([(([1, 1] : List Int)), (([1, 1] : List Int))] : List (List Int)))).bind fun bt326 => (if t310 = 6 then (if t311 = 0 then (if bt315.2 = 2 then ((dancestudiolaw11_same.f kj1 bt326.1 (([0, 1] : List Int))).bind fun t334 => (if t334 = true then (if bt326.2.1 = 2 then (if bt326.2.2 = 0 then ((assign_Check.f kj1 (([(([(-1), 2] : List Int)), (([3] : List Int))] : List (List Int)))).bind fun t344 => (if t344 = 2 then ((dancestudiolaw11_proves.f kj1 y295).bind fun t345 => (some t345)) else (none))) else (none)) else (none)) else (none))) else (none)) else (none)) else (none)))) = some r := H
    have A32 := Aside0.mk A320
    clear A320
    obtain ⟨y312, hy312⟩ : ∃ y_ : List Int, y_ = (([0, 0, 2] : List Int)) := ⟨_, rfl⟩
    replace H : ((assign_Cost.f kj1 y295 y312).bind fun bt315 => ((assign_Solve.f kj1 (([(([1, 1] : List Int)), (([1, 1] : List Int))] : List (List Int)))).bind fun bt326 => (if t310 = 6 then (if t311 = 0 then (if bt315.2 = 2 then ((dancestudiolaw11_same.f kj1 bt326.1 (([0, 1] : List Int))).bind fun t334 => (if t334 = true then (if bt326.2.1 = 2 then (if bt326.2.2 = 0 then ((assign_Check.f kj1 (([(([(-1), 2] : List Int)), (([3] : List Int))] : List (List Int)))).bind fun t344 => (if t344 = 2 then ((dancestudiolaw11_proves.f kj1 y295).bind fun t345 => (some t345)) else (none))) else (none)) else (none)) else (none))) else (none)) else (none)) else (none)))) = some r := by first | (rw [hy312]; with_reducible exact H) | (have H2_ := (Option.bind_some _ _).symm.trans H; rw [hy312]; with_reducible exact H2_) | (have H2_ := (Option.bind_some _ _).symm.trans H; with_reducible exact H2_) | with_reducible exact H | (rw [hy312]; exact H) | exact H
    have Ny312 := Aside0.mk hy312
    clear hy312
    replace H := Option.bind_eq_some_iff.mp H
    obtain ⟨⟨t315, t316⟩, A330, H⟩ := H
    replace H : ((assign_Solve.f kj1 (([(([1, 1] : List Int)), (([1, 1] : List Int))] : List (List Int)))).bind fun bt326 => (if t310 = 6 then (if t311 = 0 then (if t316 = 2 then ((dancestudiolaw11_same.f kj1 bt326.1 (([0, 1] : List Int))).bind fun t334 => (if t334 = true then (if bt326.2.1 = 2 then (if bt326.2.2 = 0 then ((assign_Check.f kj1 (([(([(-1), 2] : List Int)), (([3] : List Int))] : List (List Int)))).bind fun t344 => (if t344 = 2 then ((dancestudiolaw11_proves.f kj1 y295).bind fun t345 => (some t345)) else (none))) else (none)) else (none)) else (none))) else (none)) else (none)) else (none))) = some r := H
    have A33 := Aside0.mk A330
    clear A330
    obtain ⟨y317, hy317⟩ : ∃ y_ : List Int, y_ = (([1, 1] : List Int)) := ⟨_, rfl⟩
    replace H : ((assign_Solve.f kj1 (([y317, (([1, 1] : List Int))] : List (List Int)))).bind fun bt326 => (if t310 = 6 then (if t311 = 0 then (if t316 = 2 then ((dancestudiolaw11_same.f kj1 bt326.1 (([0, 1] : List Int))).bind fun t334 => (if t334 = true then (if bt326.2.1 = 2 then (if bt326.2.2 = 0 then ((assign_Check.f kj1 (([(([(-1), 2] : List Int)), (([3] : List Int))] : List (List Int)))).bind fun t344 => (if t344 = 2 then ((dancestudiolaw11_proves.f kj1 y295).bind fun t345 => (some t345)) else (none))) else (none)) else (none)) else (none))) else (none)) else (none)) else (none))) = some r := by first | (rw [hy317]; with_reducible exact H) | (have H2_ := (Option.bind_some _ _).symm.trans H; rw [hy317]; with_reducible exact H2_) | (have H2_ := (Option.bind_some _ _).symm.trans H; with_reducible exact H2_) | with_reducible exact H | (rw [hy317]; exact H) | exact H
    have Ny317 := Aside0.mk hy317
    clear hy317
    obtain ⟨y320, hy320⟩ : ∃ y_ : List Int, y_ = (([1, 1] : List Int)) := ⟨_, rfl⟩
    replace H : ((assign_Solve.f kj1 (([y317, y320] : List (List Int)))).bind fun bt326 => (if t310 = 6 then (if t311 = 0 then (if t316 = 2 then ((dancestudiolaw11_same.f kj1 bt326.1 (([0, 1] : List Int))).bind fun t334 => (if t334 = true then (if bt326.2.1 = 2 then (if bt326.2.2 = 0 then ((assign_Check.f kj1 (([(([(-1), 2] : List Int)), (([3] : List Int))] : List (List Int)))).bind fun t344 => (if t344 = 2 then ((dancestudiolaw11_proves.f kj1 y295).bind fun t345 => (some t345)) else (none))) else (none)) else (none)) else (none))) else (none)) else (none)) else (none))) = some r := by first | (rw [hy320]; with_reducible exact H) | (have H2_ := (Option.bind_some _ _).symm.trans H; rw [hy320]; with_reducible exact H2_) | (have H2_ := (Option.bind_some _ _).symm.trans H; with_reducible exact H2_) | with_reducible exact H | (rw [hy320]; exact H) | exact H
    have Ny320 := Aside0.mk hy320
    clear hy320
    obtain ⟨y323, hy323⟩ : ∃ y_ : List (List Int), y_ = (([y317, y320] : List (List Int))) := ⟨_, rfl⟩
    replace H : ((assign_Solve.f kj1 y323).bind fun bt326 => (if t310 = 6 then (if t311 = 0 then (if t316 = 2 then ((dancestudiolaw11_same.f kj1 bt326.1 (([0, 1] : List Int))).bind fun t334 => (if t334 = true then (if bt326.2.1 = 2 then (if bt326.2.2 = 0 then ((assign_Check.f kj1 (([(([(-1), 2] : List Int)), (([3] : List Int))] : List (List Int)))).bind fun t344 => (if t344 = 2 then ((dancestudiolaw11_proves.f kj1 y295).bind fun t345 => (some t345)) else (none))) else (none)) else (none)) else (none))) else (none)) else (none)) else (none))) = some r := by first | (rw [hy323]; with_reducible exact H) | (have H2_ := (Option.bind_some _ _).symm.trans H; rw [hy323]; with_reducible exact H2_) | (have H2_ := (Option.bind_some _ _).symm.trans H; with_reducible exact H2_) | with_reducible exact H | (rw [hy323]; exact H) | exact H
    have Ny323 := Aside0.mk hy323
    clear hy323
    replace H := Option.bind_eq_some_iff.mp H
    obtain ⟨⟨t326, t329, t330⟩, A340, H⟩ := H
    replace H : (if t310 = 6 then (if t311 = 0 then (if t316 = 2 then ((dancestudiolaw11_same.f kj1 t326 (([0, 1] : List Int))).bind fun t334 => (if t334 = true then (if t329 = 2 then (if t330 = 0 then ((assign_Check.f kj1 (([(([(-1), 2] : List Int)), (([3] : List Int))] : List (List Int)))).bind fun t344 => (if t344 = 2 then ((dancestudiolaw11_proves.f kj1 y295).bind fun t345 => (some t345)) else (none))) else (none)) else (none)) else (none))) else (none)) else (none)) else (none)) = some r := H
    have A34 := Aside0.mk A340
    clear A340
    by_cases c35 : t310 = 6
    ·
     rw [if_pos c35] at H
     have c35b0 : (t310 == 6) = true := beq_iff_eq.mpr c35
     have c35b1 : (t310 != 6) = false := bne_eq_false_iff_eq.mpr c35
     clear c35
     by_cases c36 : t311 = 0
     ·
      rw [if_pos c36] at H
      have c36b0 : (t311 == 0) = true := beq_iff_eq.mpr c36
      have c36b1 : (t311 != 0) = false := bne_eq_false_iff_eq.mpr c36
      clear c36
      by_cases c37 : t316 = 2
      ·
       rw [if_pos c37] at H
       have c37b0 : (t316 == 2) = true := beq_iff_eq.mpr c37
       have c37b1 : (t316 != 2) = false := bne_eq_false_iff_eq.mpr c37
       clear c37
       obtain ⟨y331, hy331⟩ : ∃ y_ : List Int, y_ = (([0, 1] : List Int)) := ⟨_, rfl⟩
       replace H : ((dancestudiolaw11_same.f kj1 t326 y331).bind fun t334 => (if t334 = true then (if t329 = 2 then (if t330 = 0 then ((assign_Check.f kj1 (([(([(-1), 2] : List Int)), (([3] : List Int))] : List (List Int)))).bind fun t344 => (if t344 = 2 then ((dancestudiolaw11_proves.f kj1 y295).bind fun t345 => (some t345)) else (none))) else (none)) else (none)) else (none))) = some r := by first | (rw [hy331]; with_reducible exact H) | (have H2_ := (Option.bind_some _ _).symm.trans H; rw [hy331]; with_reducible exact H2_) | (have H2_ := (Option.bind_some _ _).symm.trans H; with_reducible exact H2_) | with_reducible exact H | (rw [hy331]; exact H) | exact H
       have Ny331 := Aside0.mk hy331
       clear hy331
       replace H := Option.bind_eq_some_iff.mp H
       obtain ⟨t334, A380, H⟩ := H
       replace H : (if t334 = true then (if t329 = 2 then (if t330 = 0 then ((assign_Check.f kj1 (([(([(-1), 2] : List Int)), (([3] : List Int))] : List (List Int)))).bind fun t344 => (if t344 = 2 then ((dancestudiolaw11_proves.f kj1 y295).bind fun t345 => (some t345)) else (none))) else (none)) else (none)) else (none)) = some r := H
       have A38 := Aside0.mk A380
       clear A380
       by_cases c39 : t334 = true
       ·
        subst c39
        have H1 : (if t329 = 2 then (if t330 = 0 then ((assign_Check.f kj1 (([(([(-1), 2] : List Int)), (([3] : List Int))] : List (List Int)))).bind fun t344 => (if t344 = 2 then ((dancestudiolaw11_proves.f kj1 y295).bind fun t345 => (some t345)) else (none))) else (none)) else (none)) = some r := by rw [if_pos rfl] at H; exact H
        clear H
        have H := H1
        clear H1
        by_cases c40 : t329 = 2
        ·
         rw [if_pos c40] at H
         have c40b0 : (t329 == 2) = true := beq_iff_eq.mpr c40
         have c40b1 : (t329 != 2) = false := bne_eq_false_iff_eq.mpr c40
         clear c40
         by_cases c41 : t330 = 0
         ·
          rw [if_pos c41] at H
          have c41b0 : (t330 == 0) = true := beq_iff_eq.mpr c41
          have c41b1 : (t330 != 0) = false := bne_eq_false_iff_eq.mpr c41
          clear c41
          obtain ⟨y335, hy335⟩ : ∃ y_ : List Int, y_ = (([(-1), 2] : List Int)) := ⟨_, rfl⟩
          replace H : ((assign_Check.f kj1 (([y335, (([3] : List Int))] : List (List Int)))).bind fun t344 => (if t344 = 2 then ((dancestudiolaw11_proves.f kj1 y295).bind fun t345 => (some t345)) else (none))) = some r := by first | (rw [hy335]; with_reducible exact H) | (have H2_ := (Option.bind_some _ _).symm.trans H; rw [hy335]; with_reducible exact H2_) | (have H2_ := (Option.bind_some _ _).symm.trans H; with_reducible exact H2_) | with_reducible exact H | (rw [hy335]; exact H) | exact H
          have Ny335 := Aside0.mk hy335
          clear hy335
          obtain ⟨y338, hy338⟩ : ∃ y_ : List Int, y_ = (([3] : List Int)) := ⟨_, rfl⟩
          replace H : ((assign_Check.f kj1 (([y335, y338] : List (List Int)))).bind fun t344 => (if t344 = 2 then ((dancestudiolaw11_proves.f kj1 y295).bind fun t345 => (some t345)) else (none))) = some r := by first | (rw [hy338]; with_reducible exact H) | (have H2_ := (Option.bind_some _ _).symm.trans H; rw [hy338]; with_reducible exact H2_) | (have H2_ := (Option.bind_some _ _).symm.trans H; with_reducible exact H2_) | with_reducible exact H | (rw [hy338]; exact H) | exact H
          have Ny338 := Aside0.mk hy338
          clear hy338
          obtain ⟨y341, hy341⟩ : ∃ y_ : List (List Int), y_ = (([y335, y338] : List (List Int))) := ⟨_, rfl⟩
          replace H : ((assign_Check.f kj1 y341).bind fun t344 => (if t344 = 2 then ((dancestudiolaw11_proves.f kj1 y295).bind fun t345 => (some t345)) else (none))) = some r := by first | (rw [hy341]; with_reducible exact H) | (have H2_ := (Option.bind_some _ _).symm.trans H; rw [hy341]; with_reducible exact H2_) | (have H2_ := (Option.bind_some _ _).symm.trans H; with_reducible exact H2_) | with_reducible exact H | (rw [hy341]; exact H) | exact H
          have Ny341 := Aside0.mk hy341
          clear hy341
          replace H := Option.bind_eq_some_iff.mp H
          obtain ⟨t344, A420, H⟩ := H
          replace H : (if t344 = 2 then ((dancestudiolaw11_proves.f kj1 y295).bind fun t345 => (some t345)) else (none)) = some r := H
          have A42 := Aside0.mk A420
          clear A420
          by_cases c43 : t344 = 2
          ·
           rw [if_pos c43] at H
           have c43b0 : (t344 == 2) = true := beq_iff_eq.mpr c43
           have c43b1 : (t344 != 2) = false := bne_eq_false_iff_eq.mpr c43
           clear c43
           replace H := Option.bind_eq_some_iff.mp H
           obtain ⟨t345, A440, H⟩ := H
           replace H : (some t345) = some r := H
           have A44 := Aside0.mk A440
           clear A440
           obtain rfl := Option.some.inj H
           go_wp2_with (first | ((with_reducible refine gate_dst (N := 36) rfl ?_); (try (refine gate_guard (by rfl) ?_; dsimp only)); refine Kd.R_lit (Kd.int .i64) _ 3 ?hg (N := 36) ?hd (xs := ([0, 1, 2] : List Int)) (inner := [.int .i64 0, .int .i64 1, .int .i64 2]) (ok := fun _ => True) (okp := fun _ => True) ?hr ?hp (fun _ hk => hk) trivial (Below.refl _ _) (Nat.le_refl _) (by simp) ?_; (case hd => rfl); (case hg => rfl); (case hr => first | (go_simp; done) | (go_simp; rfl)); (case hp => exact (Reps.one (show Kd.M (Kd.int .i64) _ _ _ 0 [.int .i64 0] from rfl) (Reps.one (show Kd.M (Kd.int .i64) _ _ _ 1 [.int .i64 1] from rfl) (Reps.one (show Kd.M (Kd.int .i64) _ _ _ 2 [.int .i64 2] from rfl) (Reps.none _ _))))); intro v308 w45 ho46 hb hg_ hnew_; clear hg_ hnew_; (first | rw [← Ny307.out] at ho46 | (simp only [Int.reduceToNat] at ho46; rw [← Ny307.out] at ho46)); have n0_ := Aside0.mk (Kd.N_elder' (by (with_reducible repeat (first | apply Kd.N_alloc | apply Kd.N_drewN | apply Kd.N_drew)); exact HO_1.out) (Kd.R_base ho46) hb); have n1_ := Aside0.mk (Kd.R_lower ho46 (below_size (by repeat (first | (with_reducible first | exact HB.out | apply below_alloc | apply pw_below_drewN | apply below_drew1) | exact HB.out)))); have n2_ := Aside0.mk (below_step (by repeat (first | (with_reducible first | exact HB.out | apply below_alloc | apply pw_below_drewN | apply below_drew1) | exact HB.out)) hb); clear HO_1; clear HB; have HO_1 := n0_; have HO309 := n1_; have HB := n2_; clear n0_ n1_ n2_; clear hb ho46; obtain ⟨Ao47, co47, eo47⟩ := Kd.R_slice HO309.out; subst eo47) | ((with_reducible refine gate_callee (f := 16) rfl ?_); refine goesL_ (some 37) rfl rfl Try.func16 (by kernel_rfl) rfl #[.slice Ao14 y295.length co14, .slice Ao47 y307.length co47] rfl (by (try simp only [List.map_toArray, List.map_cons, List.map_nil]); first | done | rfl | (simp only [List.length_drop, List.length_take]; rfl)) ?_; (with_reducible refine (assign_Cost.calls kj1 _ _ y295 _ _ y307 t310 t311 _ ?side1 ?side2 ?side3 ?side4 A32.out).mono ?_); (case side1 => repeat (first | exact (Kd.N_reads' HO_1.out).2.2 | (with_reducible refine Kd.C_alloc ?_ _) | (with_reducible refine Kd.C_drewN ?_ _) | (with_reducible refine Kd.C_drew ?_))); (case side2 => exact (Kd.N_reads' HO_1.out).2.1); (case side3 => repeat (first | exact (Kd.R_reads' HO309.out).2.2 | (with_reducible refine Kd.C_alloc ?_ _) | (with_reducible refine Kd.C_drewN ?_ _) | (with_reducible refine Kd.C_drew ?_))); (case side4 => exact (Kd.R_reads' HO309.out).2.1); rintro e w48 ⟨rfl, hb⟩; refine ⟨_, rfl, ?_⟩; have n0_ := Aside0.mk (Kd.N_below (by (with_reducible repeat (first | apply Kd.N_alloc | apply Kd.N_drewN | apply Kd.N_drew)); exact HO_1.out) hb); have n1_ := Aside0.mk (Kd.R_below (by (with_reducible repeat (first | apply Kd.R_alloc | apply Kd.R_drewN | apply Kd.R_drew)); exact HO309.out) hb); have n2_ := Aside0.mk (below_step (by repeat (first | (with_reducible first | exact HB.out | apply below_alloc | apply pw_below_drewN | apply below_drew1) | exact HB.out)) hb); clear HO_1; clear HO309; clear HB; have HO_1 := n0_; have HO309 := n1_; have HB := n2_; clear n0_ n1_ n2_; (try clear hb); (try clear hb2); (try clear hk); (try clear hi)) | ((with_reducible refine gate_dst (N := 42) rfl ?_); (try (refine gate_guard (by rfl) ?_; dsimp only)); refine Kd.R_lit (Kd.int .i64) _ 3 ?hg (N := 42) ?hd (xs := ([0, 0, 2] : List Int)) (inner := [.int .i64 0, .int .i64 0, .int .i64 2]) (ok := fun _ => True) (okp := fun _ => True) ?hr ?hp (fun _ hk => hk) trivial (Below.refl _ _) (Nat.le_refl _) (by simp) ?_; (case hd => rfl); (case hg => rfl); (case hr => first | (go_simp; done) | (go_simp; rfl)); (case hp => exact (Reps.one (show Kd.M (Kd.int .i64) _ _ _ 0 [.int .i64 0] from rfl) (Reps.one (show Kd.M (Kd.int .i64) _ _ _ 0 [.int .i64 0] from rfl) (Reps.one (show Kd.M (Kd.int .i64) _ _ _ 2 [.int .i64 2] from rfl) (Reps.none _ _))))); intro v313 w49 ho50 hb hg_ hnew_; clear hg_ hnew_; (first | rw [← Ny312.out] at ho50 | (simp only [Int.reduceToNat] at ho50; rw [← Ny312.out] at ho50)); have n0_ := Aside0.mk (Kd.N_elder' (by (with_reducible repeat (first | apply Kd.N_alloc | apply Kd.N_drewN | apply Kd.N_drew)); exact HO_1.out) (Kd.R_base ho50) hb); have n1_ := Aside0.mk (Kd.R_elder' (by (with_reducible repeat (first | apply Kd.R_alloc | apply Kd.R_drewN | apply Kd.R_drew)); exact HO309.out) (Kd.R_base ho50) hb); have n2_ := Aside0.mk (Kd.R_lower (Kd.R_new' ho50 (Kd.R_lt (by (with_reducible repeat (first | apply Kd.R_alloc | apply Kd.R_drewN | apply Kd.R_drew)); exact HO309.out))) (below_size (by repeat (first | (with_reducible first | exact HB.out | apply below_alloc | apply pw_below_drewN | apply below_drew1) | exact HB.out)))); have n3_ := Aside0.mk (below_step (by repeat (first | (with_reducible first | exact HB.out | apply below_alloc | apply pw_below_drewN | apply below_drew1) | exact HB.out)) hb); clear HO_1; clear HO309; clear HB; have HO_1 := n0_; have HO309 := n1_; have HO314 := n2_; have HB := n3_; clear n0_ n1_ n2_ n3_; clear hb ho50; obtain ⟨Ao51, co51, eo51⟩ := Kd.R_slice HO314.out; subst eo51) | ((with_reducible refine gate_callee (f := 16) rfl ?_); refine goesL_ (some 43) rfl rfl Try.func16 (by kernel_rfl) rfl #[.slice Ao14 y295.length co14, .slice Ao51 y312.length co51] rfl (by (try simp only [List.map_toArray, List.map_cons, List.map_nil]); first | done | rfl | (simp only [List.length_drop, List.length_take]; rfl)) ?_; (with_reducible refine (assign_Cost.calls kj1 _ _ y295 _ _ y312 t315 t316 _ ?side1 ?side2 ?side3 ?side4 A33.out).mono ?_); (case side1 => repeat (first | exact (Kd.N_reads' HO_1.out).2.2 | (with_reducible refine Kd.C_alloc ?_ _) | (with_reducible refine Kd.C_drewN ?_ _) | (with_reducible refine Kd.C_drew ?_))); (case side2 => exact (Kd.N_reads' HO_1.out).2.1); (case side3 => repeat (first | exact (Kd.R_reads' HO314.out).2.2 | (with_reducible refine Kd.C_alloc ?_ _) | (with_reducible refine Kd.C_drewN ?_ _) | (with_reducible refine Kd.C_drew ?_))); (case side4 => exact (Kd.R_reads' HO314.out).2.1); rintro e w52 ⟨rfl, hb⟩; refine ⟨_, rfl, ?_⟩; have n0_ := Aside0.mk (Kd.N_below (by (with_reducible repeat (first | apply Kd.N_alloc | apply Kd.N_drewN | apply Kd.N_drew)); exact HO_1.out) hb); have n1_ := Aside0.mk (Kd.R_below (by (with_reducible repeat (first | apply Kd.R_alloc | apply Kd.R_drewN | apply Kd.R_drew)); exact HO309.out) hb); have n2_ := Aside0.mk (Kd.R_below (by (with_reducible repeat (first | apply Kd.R_alloc | apply Kd.R_drewN | apply Kd.R_drew)); exact HO314.out) hb); have n3_ := Aside0.mk (below_step (by repeat (first | (with_reducible first | exact HB.out | apply below_alloc | apply pw_below_drewN | apply below_drew1) | exact HB.out)) hb); clear HO_1; clear HO309; clear HO314; clear HB; have HO_1 := n0_; have HO309 := n1_; have HO314 := n2_; have HB := n3_; clear n0_ n1_ n2_ n3_; (try clear hb); (try clear hb2); (try clear hk); (try clear hi)) | ((with_reducible refine gate_dst (N := 47) rfl ?_); (try (refine gate_guard (by rfl) ?_; dsimp only)); refine Kd.R_lit (Kd.int .i64) _ 3 ?hg (N := 47) ?hd (xs := ([1, 1] : List Int)) (inner := [.int .i64 1, .int .i64 1]) (ok := fun _ => True) (okp := fun _ => True) ?hr ?hp (fun _ hk => hk) trivial (Below.refl _ _) (Nat.le_refl _) (by simp) ?_; (case hd => rfl); (case hg => rfl); (case hr => first | (go_simp; done) | (go_simp; rfl)); (case hp => exact (Reps.one (show Kd.M (Kd.int .i64) _ _ _ 1 [.int .i64 1] from rfl) (Reps.one (show Kd.M (Kd.int .i64) _ _ _ 1 [.int .i64 1] from rfl) (Reps.none _ _)))); intro v318 w53 ho54 hb hg_ hnew_; clear hg_ hnew_; (first | rw [← Ny317.out] at ho54 | (simp only [Int.reduceToNat] at ho54; rw [← Ny317.out] at ho54)); have n0_ := Aside0.mk (Kd.N_elder' (by (with_reducible repeat (first | apply Kd.N_alloc | apply Kd.N_drewN | apply Kd.N_drew)); exact HO_1.out) (Kd.R_base ho54) hb); have n1_ := Aside0.mk (Kd.R_elder' (by (with_reducible repeat (first | apply Kd.R_alloc | apply Kd.R_drewN | apply Kd.R_drew)); exact HO309.out) (Kd.R_base ho54) hb); have n2_ := Aside0.mk (Kd.R_elder' (by (with_reducible repeat (first | apply Kd.R_alloc | apply Kd.R_drewN | apply Kd.R_drew)); exact HO314.out) (Kd.R_base ho54) hb); have n3_ := Aside0.mk (Kd.R_lower (Kd.R_new' (Kd.R_new' ho54 (Kd.R_lt (by (with_reducible repeat (first | apply Kd.R_alloc | apply Kd.R_drewN | apply Kd.R_drew)); exact HO309.out))) (Kd.R_lt (by (with_reducible repeat (first | apply Kd.R_alloc | apply Kd.R_drewN | apply Kd.R_drew)); exact HO314.out))) (below_size (by repeat (first | (with_reducible first | exact HB.out | apply below_alloc | apply pw_below_drewN | apply below_drew1) | exact HB.out)))); have n4_ := Aside0.mk (below_step (by repeat (first | (with_reducible first | exact HB.out | apply below_alloc | apply pw_below_drewN | apply below_drew1) | exact HB.out)) hb); clear HO_1; clear HO309; clear HO314; clear HB; have HO_1 := n0_; have HO309 := n1_; have HO314 := n2_; have HO319 := n3_; have HB := n4_; clear n0_ n1_ n2_ n3_ n4_; clear hb ho54) | ((with_reducible refine gate_dst (N := 48) rfl ?_); (try (refine gate_guard (by rfl) ?_; dsimp only)); refine Kd.R_lit (Kd.int .i64) _ 3 ?hg (N := 48) ?hd (xs := ([1, 1] : List Int)) (inner := [.int .i64 1, .int .i64 1]) (ok := fun _ => True) (okp := fun _ => True) ?hr ?hp (fun _ hk => hk) trivial (Below.refl _ _) (Nat.le_refl _) (by simp) ?_; (case hd => rfl); (case hg => rfl); (case hr => first | (go_simp; done) | (go_simp; rfl)); (case hp => exact (Reps.one (show Kd.M (Kd.int .i64) _ _ _ 1 [.int .i64 1] from rfl) (Reps.one (show Kd.M (Kd.int .i64) _ _ _ 1 [.int .i64 1] from rfl) (Reps.none _ _)))); intro v321 w55 ho56 hb hg_ hnew_; clear hg_ hnew_; (first | rw [← Ny320.out] at ho56 | (simp only [Int.reduceToNat] at ho56; rw [← Ny320.out] at ho56)); have n0_ := Aside0.mk (Kd.N_elder' (by (with_reducible repeat (first | apply Kd.N_alloc | apply Kd.N_drewN | apply Kd.N_drew)); exact HO_1.out) (Kd.R_base ho56) hb); have n1_ := Aside0.mk (Kd.R_elder' (by (with_reducible repeat (first | apply Kd.R_alloc | apply Kd.R_drewN | apply Kd.R_drew)); exact HO309.out) (Kd.R_base ho56) hb); have n2_ := Aside0.mk (Kd.R_elder' (by (with_reducible repeat (first | apply Kd.R_alloc | apply Kd.R_drewN | apply Kd.R_drew)); exact HO314.out) (Kd.R_base ho56) hb); have n3_ := Aside0.mk (Kd.R_elder' (by (with_reducible repeat (first | apply Kd.R_alloc | apply Kd.R_drewN | apply Kd.R_drew)); exact HO319.out) (Kd.R_base ho56) hb); have n4_ := Aside0.mk (Kd.R_lower (Kd.R_new' (Kd.R_new' (Kd.R_new' ho56 (Kd.R_lt (by (with_reducible repeat (first | apply Kd.R_alloc | apply Kd.R_drewN | apply Kd.R_drew)); exact HO309.out))) (Kd.R_lt (by (with_reducible repeat (first | apply Kd.R_alloc | apply Kd.R_drewN | apply Kd.R_drew)); exact HO314.out))) (Kd.R_lt (by (with_reducible repeat (first | apply Kd.R_alloc | apply Kd.R_drewN | apply Kd.R_drew)); exact HO319.out))) (below_size (by repeat (first | (with_reducible first | exact HB.out | apply below_alloc | apply pw_below_drewN | apply below_drew1) | exact HB.out)))); have n5_ := Aside0.mk (below_step (by repeat (first | (with_reducible first | exact HB.out | apply below_alloc | apply pw_below_drewN | apply below_drew1) | exact HB.out)) hb); clear HO_1; clear HO309; clear HO314; clear HO319; clear HB; have HO_1 := n0_; have HO309 := n1_; have HO314 := n2_; have HO319 := n3_; have HO322 := n4_; have HB := n5_; clear n0_ n1_ n2_ n3_ n4_ n5_; clear hb ho56; obtain ⟨Ao57, co57, eo57⟩ := Kd.R_slice HO319.out; subst eo57; obtain ⟨Ao58, co58, eo58⟩ := Kd.R_slice HO322.out; subst eo58) | ((with_reducible refine gate_dst (N := 49) rfl ?_); (try (refine gate_guard (by rfl) ?_; dsimp only)); refine Kd.N_lit (Kd.slice 3 (Kd.int .i64)) _ 23 ?hg (N' := 49) ?hd (xs := ([y317, y320] : List (List Int))) (inner := [.slice Ao57 y317.length co57, .slice Ao58 y320.length co58]) (ok := (fun k_ => some k_ ≠ (.slice Ao14 y295.length co14 : Value).ownBlock ∧ some k_ ≠ (.slice Ao47 y307.length co47 : Value).ownBlock ∧ some k_ ≠ (.slice Ao51 y312.length co51 : Value).ownBlock)) (okp := (fun k_ => some k_ ≠ (.slice Ao14 y295.length co14 : Value).ownBlock ∧ some k_ ≠ (.slice Ao47 y307.length co47 : Value).ownBlock ∧ some k_ ≠ (.slice Ao51 y312.length co51 : Value).ownBlock)) ?hr ?hp (fun _ hk => hk) ((show ∀ k_, w55.heap.size ≤ k_ → (fun k_ => some k_ ≠ (.slice Ao14 y295.length co14 : Value).ownBlock ∧ some k_ ≠ (.slice Ao47 y307.length co47 : Value).ownBlock ∧ some k_ ≠ (.slice Ao51 y312.length co51 : Value).ownBlock) k_ from fun k_ hk => ⟨Kd.fresh' (Kd.N_lt (by (with_reducible repeat (first | apply Kd.N_alloc | apply Kd.N_drewN | apply Kd.N_drew)); exact HO_1.out)) k_ hk, Kd.fresh' (Kd.R_lt (by (with_reducible repeat (first | apply Kd.R_alloc | apply Kd.R_drewN | apply Kd.R_drew)); exact HO309.out)) k_ hk, Kd.fresh' (Kd.R_lt (by (with_reducible repeat (first | apply Kd.R_alloc | apply Kd.R_drewN | apply Kd.R_drew)); exact HO314.out)) k_ hk⟩) _ (Nat.le_refl _)) (Below.refl _ _) (Nat.le_refl _) (by simp) ?_; (case hd => rfl); (case hg => rfl); (case hr => first | (go_simp; done) | (go_simp; rfl)); (case hp => exact (Reps.one (show Kd.FK (Kd.slice 3 (Kd.int .i64)) _ _ y317 [.slice Ao57 y317.length co57] from (Kd.FK_slice_mk (Kd.R_reads' (Kd.R_mono (ok' := (fun k_ => some k_ ≠ (.slice Ao14 y295.length co14 : Value).ownBlock ∧ some k_ ≠ (.slice Ao47 y307.length co47 : Value).ownBlock ∧ some k_ ≠ (.slice Ao51 y312.length co51 : Value).ownBlock)) (Kd.R_apart' (HO319.out) (Kd.N_typed HO_1.out) (by decide)) (fun k_ hk => ⟨hk.2, ⟨hk.1.1.1.2, hk.1.1.2⟩⟩))).2.1 (Kd.R_F (Kd.R_mono (ok' := (fun k_ => some k_ ≠ (.slice Ao14 y295.length co14 : Value).ownBlock ∧ some k_ ≠ (.slice Ao47 y307.length co47 : Value).ownBlock ∧ some k_ ≠ (.slice Ao51 y312.length co51 : Value).ownBlock)) (Kd.R_apart' (HO319.out) (Kd.N_typed HO_1.out) (by decide)) (fun k_ hk => ⟨hk.2, ⟨hk.1.1.1.2, hk.1.1.2⟩⟩))))) (Reps.one (show Kd.FK (Kd.slice 3 (Kd.int .i64)) _ _ y320 [.slice Ao58 y320.length co58] from (Kd.FK_slice_mk (Kd.R_reads' (Kd.R_mono (ok' := (fun k_ => some k_ ≠ (.slice Ao14 y295.length co14 : Value).ownBlock ∧ some k_ ≠ (.slice Ao47 y307.length co47 : Value).ownBlock ∧ some k_ ≠ (.slice Ao51 y312.length co51 : Value).ownBlock)) (Kd.R_apart' (HO322.out) (Kd.N_typed HO_1.out) (by decide)) (fun k_ hk => ⟨hk.2, ⟨hk.1.1.1.2, hk.1.1.2⟩⟩))).2.1 (Kd.R_F (Kd.R_mono (ok' := (fun k_ => some k_ ≠ (.slice Ao14 y295.length co14 : Value).ownBlock ∧ some k_ ≠ (.slice Ao47 y307.length co47 : Value).ownBlock ∧ some k_ ≠ (.slice Ao51 y312.length co51 : Value).ownBlock)) (Kd.R_apart' (HO322.out) (Kd.N_typed HO_1.out) (by decide)) (fun k_ hk => ⟨hk.2, ⟨hk.1.1.1.2, hk.1.1.2⟩⟩))))) (Reps.none _ _)))); intro v324 w59 ho60 hb hg_ hnew_; clear hg_ hnew_; (first | rw [← Ny323.out] at ho60 | (simp only [Int.reduceToNat] at ho60; rw [← Ny323.out] at ho60)); have n0_ := Aside0.mk (Kd.N_elder' (by (with_reducible repeat (first | apply Kd.N_alloc | apply Kd.N_drewN | apply Kd.N_drew)); exact HO_1.out) (Kd.N_base ho60) hb); have n1_ := Aside0.mk (Kd.R_below (by (with_reducible repeat (first | apply Kd.R_alloc | apply Kd.R_drewN | apply Kd.R_drew)); exact HO309.out) hb); have n2_ := Aside0.mk (Kd.R_below (by (with_reducible repeat (first | apply Kd.R_alloc | apply Kd.R_drewN | apply Kd.R_drew)); exact HO314.out) hb); have n3_ := Aside0.mk (Kd.N_lower ho60 (below_size (by repeat (first | (with_reducible first | exact HB.out | apply below_alloc | apply pw_below_drewN | apply below_drew1) | exact HB.out)))); have n4_ := Aside0.mk (below_step (by repeat (first | (with_reducible first | exact HB.out | apply below_alloc | apply pw_below_drewN | apply below_drew1) | exact HB.out)) hb); clear HO_1; clear HO309; clear HO314; clear HB; clear HO319; clear HO322; have HO_1 := n0_; have HO309 := n1_; have HO314 := n2_; have HO325 := n3_; have HB := n4_; clear n0_ n1_ n2_ n3_ n4_; clear hb ho60; obtain ⟨Ao61, co61, eo61⟩ := Kd.N_slice HO325.out; subst eo61) | ((with_reducible refine gate_callee (f := 14) rfl ?_); refine goesL_ (some 50) rfl rfl Try.func14 (by kernel_rfl) rfl #[.slice Ao61 y323.length co61] rfl (by (try simp only [List.map_toArray, List.map_cons, List.map_nil]); first | done | rfl | (simp only [List.length_drop, List.length_take]; rfl)) ?_; (with_reducible refine (assign_Solve.calls kj1 (fun k_ => (some k_ ≠ (.slice Ao14 y295.length co14 : Value).ownBlock ∧ (some k_ ≠ (.slice Ao47 y307.length co47 : Value).ownBlock ∧ some k_ ≠ (.slice Ao51 y312.length co51 : Value).ownBlock))) _ _ y323 t326 t329 t330 _ ?side1 A34.out).mono ?_); (case side1 => exact Kd.N_V (HO325.out)); rintro e w62 ⟨v327, rfl, ho0, hb⟩; refine ⟨_, rfl, ?_⟩; have n0_ := Aside0.mk (Kd.N_elder' (by (with_reducible repeat (first | apply Kd.N_alloc | apply Kd.N_drewN | apply Kd.N_drew)); exact HO_1.out) (Kd.R_base ho0) hb); have n1_ := Aside0.mk (Kd.R_elder' (by (with_reducible repeat (first | apply Kd.R_alloc | apply Kd.R_drewN | apply Kd.R_drew)); exact HO309.out) (Kd.R_base ho0) hb); have n2_ := Aside0.mk (Kd.R_elder' (by (with_reducible repeat (first | apply Kd.R_alloc | apply Kd.R_drewN | apply Kd.R_drew)); exact HO314.out) (Kd.R_base ho0) hb); have n3_ := Aside0.mk (Kd.N_elder' (by (with_reducible repeat (first | apply Kd.N_alloc | apply Kd.N_drewN | apply Kd.N_drew)); exact HO325.out) (Kd.R_base ho0) hb); have n4_ := Aside0.mk (Kd.R_lower (Kd.R_new' (Kd.R_new' (Kd.R_mono (ok' := fun k_ => True) ho0 (fun _ hk_ => trivial)) (Kd.R_lt (by (with_reducible repeat (first | apply Kd.R_alloc | apply Kd.R_drewN | apply Kd.R_drew)); exact HO309.out))) (Kd.R_lt (by (with_reducible repeat (first | apply Kd.R_alloc | apply Kd.R_drewN | apply Kd.R_drew)); exact HO314.out))) (below_size (by repeat (first | (with_reducible first | exact HB.out | apply below_alloc | apply pw_below_drewN | apply below_drew1) | exact HB.out)))); have n5_ := Aside0.mk (below_step (by repeat (first | (with_reducible first | exact HB.out | apply below_alloc | apply pw_below_drewN | apply below_drew1) | exact HB.out)) hb); clear HO_1; clear HO309; clear HO314; clear HO325; clear HB; have HO_1 := n0_; have HO309 := n1_; have HO314 := n2_; have HO325 := n3_; have HO328 := n4_; have HB := n5_; clear n0_ n1_ n2_ n3_ n4_ n5_; (try clear hb); (try clear hb2); (try clear hk); (try clear hi); (try clear ho0)) | ((with_reducible refine gate_dst (N := 66) rfl ?_); (try (refine gate_guard (by rfl) ?_; dsimp only)); refine Kd.R_lit (Kd.int .i64) _ 3 ?hg (N := 66) ?hd (xs := ([0, 1] : List Int)) (inner := [.int .i64 0, .int .i64 1]) (ok := fun _ => True) (okp := fun _ => True) ?hr ?hp (fun _ hk => hk) trivial (Below.refl _ _) (Nat.le_refl _) (by simp) ?_; (case hd => rfl); (case hg => rfl); (case hr => first | (go_simp; done) | (go_simp; rfl)); (case hp => exact (Reps.one (show Kd.M (Kd.int .i64) _ _ _ 0 [.int .i64 0] from rfl) (Reps.one (show Kd.M (Kd.int .i64) _ _ _ 1 [.int .i64 1] from rfl) (Reps.none _ _)))); intro v332 w63 ho64 hb hg_ hnew_; clear hg_ hnew_; (first | rw [← Ny331.out] at ho64 | (simp only [Int.reduceToNat] at ho64; rw [← Ny331.out] at ho64)); have n0_ := Aside0.mk (Kd.N_elder' (by (with_reducible repeat (first | apply Kd.N_alloc | apply Kd.N_drewN | apply Kd.N_drew)); exact HO_1.out) (Kd.R_base ho64) hb); have n1_ := Aside0.mk (Kd.R_elder' (by (with_reducible repeat (first | apply Kd.R_alloc | apply Kd.R_drewN | apply Kd.R_drew)); exact HO309.out) (Kd.R_base ho64) hb); have n2_ := Aside0.mk (Kd.R_elder' (by (with_reducible repeat (first | apply Kd.R_alloc | apply Kd.R_drewN | apply Kd.R_drew)); exact HO314.out) (Kd.R_base ho64) hb); have n3_ := Aside0.mk (Kd.N_elder' (by (with_reducible repeat (first | apply Kd.N_alloc | apply Kd.N_drewN | apply Kd.N_drew)); exact HO325.out) (Kd.R_base ho64) hb); have n4_ := Aside0.mk (Kd.R_elder' (by (with_reducible repeat (first | apply Kd.R_alloc | apply Kd.R_drewN | apply Kd.R_drew)); exact HO328.out) (Kd.R_base ho64) hb); have n5_ := Aside0.mk (Kd.R_lower (Kd.R_new' (Kd.R_new' (Kd.R_new' ho64 (Kd.R_lt (by (with_reducible repeat (first | apply Kd.R_alloc | apply Kd.R_drewN | apply Kd.R_drew)); exact HO309.out))) (Kd.R_lt (by (with_reducible repeat (first | apply Kd.R_alloc | apply Kd.R_drewN | apply Kd.R_drew)); exact HO314.out))) (Kd.R_lt (by (with_reducible repeat (first | apply Kd.R_alloc | apply Kd.R_drewN | apply Kd.R_drew)); exact HO328.out))) (below_size (by repeat (first | (with_reducible first | exact HB.out | apply below_alloc | apply pw_below_drewN | apply below_drew1) | exact HB.out)))); have n6_ := Aside0.mk (below_step (by repeat (first | (with_reducible first | exact HB.out | apply below_alloc | apply pw_below_drewN | apply below_drew1) | exact HB.out)) hb); clear HO_1; clear HO309; clear HO314; clear HO325; clear HO328; clear HB; have HO_1 := n0_; have HO309 := n1_; have HO314 := n2_; have HO325 := n3_; have HO328 := n4_; have HO333 := n5_; have HB := n6_; clear n0_ n1_ n2_ n3_ n4_ n5_ n6_; clear hb ho64; obtain ⟨Ao65, co65, eo65⟩ := Kd.R_slice HO328.out; subst eo65; obtain ⟨Ao66, co66, eo66⟩ := Kd.R_slice HO333.out; subst eo66) | (go_at_call 18; (with_reducible refine (dancestudiolaw11_same.calls kj1 _ _ t326 _ _ y331 true _ ?side1 ?side2 ?side3 ?side4 A38.out).mono ?_); (case side1 => repeat (first | exact (Kd.R_reads' HO328.out).2.2 | (with_reducible refine Kd.C_alloc ?_ _) | (with_reducible refine Kd.C_drewN ?_ _) | (with_reducible refine Kd.C_drew ?_))); (case side2 => exact (Kd.R_reads' HO328.out).2.1); (case side3 => repeat (first | exact (Kd.R_reads' HO333.out).2.2 | (with_reducible refine Kd.C_alloc ?_ _) | (with_reducible refine Kd.C_drewN ?_ _) | (with_reducible refine Kd.C_drew ?_))); (case side4 => exact (Kd.R_reads' HO333.out).2.1); rintro e w' ⟨rfl, ⟨nd, rfl⟩⟩) | ((with_reducible refine gate_dst (N := 78) rfl ?_); (try (refine gate_guard (by rfl) ?_; dsimp only)); refine Kd.R_lit (Kd.int .i64) _ 3 ?hg (N := 78) ?hd (xs := ([(-1), 2] : List Int)) (inner := [.int .i64 (-1), .int .i64 2]) (ok := fun _ => True) (okp := fun _ => True) ?hr ?hp (fun _ hk => hk) trivial (Below.refl _ _) (Nat.le_refl _) (by simp) ?_; (case hd => rfl); (case hg => rfl); (case hr => first | (go_simp; done) | (go_simp; rfl)); (case hp => exact (Reps.one (show Kd.M (Kd.int .i64) _ _ _ (-1) [.int .i64 (-1)] from rfl) (Reps.one (show Kd.M (Kd.int .i64) _ _ _ 2 [.int .i64 2] from rfl) (Reps.none _ _)))); intro v336 w67 ho68 hb hg_ hnew_; clear hg_ hnew_; (first | rw [← Ny335.out] at ho68 | (simp only [Int.reduceToNat] at ho68; rw [← Ny335.out] at ho68)); have n0_ := Aside0.mk (Kd.N_elder' (by (with_reducible repeat (first | apply Kd.N_alloc | apply Kd.N_drewN | apply Kd.N_drew)); exact HO_1.out) (Kd.R_base ho68) hb); have n1_ := Aside0.mk (Kd.R_elder' (by (with_reducible repeat (first | apply Kd.R_alloc | apply Kd.R_drewN | apply Kd.R_drew)); exact HO309.out) (Kd.R_base ho68) hb); have n2_ := Aside0.mk (Kd.R_elder' (by (with_reducible repeat (first | apply Kd.R_alloc | apply Kd.R_drewN | apply Kd.R_drew)); exact HO314.out) (Kd.R_base ho68) hb); have n3_ := Aside0.mk (Kd.N_elder' (by (with_reducible repeat (first | apply Kd.N_alloc | apply Kd.N_drewN | apply Kd.N_drew)); exact HO325.out) (Kd.R_base ho68) hb); have n4_ := Aside0.mk (Kd.R_elder' (by (with_reducible repeat (first | apply Kd.R_alloc | apply Kd.R_drewN | apply Kd.R_drew)); exact HO328.out) (Kd.R_base ho68) hb); have n5_ := Aside0.mk (Kd.R_elder' (by (with_reducible repeat (first | apply Kd.R_alloc | apply Kd.R_drewN | apply Kd.R_drew)); exact HO333.out) (Kd.R_base ho68) hb); have n6_ := Aside0.mk (Kd.R_lower (Kd.R_new' (Kd.R_new' (Kd.R_new' (Kd.R_new' ho68 (Kd.R_lt (by (with_reducible repeat (first | apply Kd.R_alloc | apply Kd.R_drewN | apply Kd.R_drew)); exact HO309.out))) (Kd.R_lt (by (with_reducible repeat (first | apply Kd.R_alloc | apply Kd.R_drewN | apply Kd.R_drew)); exact HO314.out))) (Kd.R_lt (by (with_reducible repeat (first | apply Kd.R_alloc | apply Kd.R_drewN | apply Kd.R_drew)); exact HO328.out))) (Kd.R_lt (by (with_reducible repeat (first | apply Kd.R_alloc | apply Kd.R_drewN | apply Kd.R_drew)); exact HO333.out))) (below_size (by repeat (first | (with_reducible first | exact HB.out | apply below_alloc | apply pw_below_drewN | apply below_drew1) | exact HB.out)))); have n7_ := Aside0.mk (below_step (by repeat (first | (with_reducible first | exact HB.out | apply below_alloc | apply pw_below_drewN | apply below_drew1) | exact HB.out)) hb); clear HO_1; clear HO309; clear HO314; clear HO325; clear HO328; clear HO333; clear HB; have HO_1 := n0_; have HO309 := n1_; have HO314 := n2_; have HO325 := n3_; have HO328 := n4_; have HO333 := n5_; have HO337 := n6_; have HB := n7_; clear n0_ n1_ n2_ n3_ n4_ n5_ n6_ n7_; clear hb ho68) | ((with_reducible refine gate_dst (N := 79) rfl ?_); (try (refine gate_guard (by rfl) ?_; dsimp only)); refine Kd.R_lit (Kd.int .i64) _ 3 ?hg (N := 79) ?hd (xs := ([3] : List Int)) (inner := [.int .i64 3]) (ok := fun _ => True) (okp := fun _ => True) ?hr ?hp (fun _ hk => hk) trivial (Below.refl _ _) (Nat.le_refl _) (by simp) ?_; (case hd => rfl); (case hg => rfl); (case hr => first | (go_simp; done) | (go_simp; rfl)); (case hp => exact (Reps.one (show Kd.M (Kd.int .i64) _ _ _ 3 [.int .i64 3] from rfl) (Reps.none _ _))); intro v339 w69 ho70 hb hg_ hnew_; clear hg_ hnew_; (first | rw [← Ny338.out] at ho70 | (simp only [Int.reduceToNat] at ho70; rw [← Ny338.out] at ho70)); have n0_ := Aside0.mk (Kd.N_elder' (by (with_reducible repeat (first | apply Kd.N_alloc | apply Kd.N_drewN | apply Kd.N_drew)); exact HO_1.out) (Kd.R_base ho70) hb); have n1_ := Aside0.mk (Kd.R_elder' (by (with_reducible repeat (first | apply Kd.R_alloc | apply Kd.R_drewN | apply Kd.R_drew)); exact HO309.out) (Kd.R_base ho70) hb); have n2_ := Aside0.mk (Kd.R_elder' (by (with_reducible repeat (first | apply Kd.R_alloc | apply Kd.R_drewN | apply Kd.R_drew)); exact HO314.out) (Kd.R_base ho70) hb); have n3_ := Aside0.mk (Kd.N_elder' (by (with_reducible repeat (first | apply Kd.N_alloc | apply Kd.N_drewN | apply Kd.N_drew)); exact HO325.out) (Kd.R_base ho70) hb); have n4_ := Aside0.mk (Kd.R_elder' (by (with_reducible repeat (first | apply Kd.R_alloc | apply Kd.R_drewN | apply Kd.R_drew)); exact HO328.out) (Kd.R_base ho70) hb); have n5_ := Aside0.mk (Kd.R_elder' (by (with_reducible repeat (first | apply Kd.R_alloc | apply Kd.R_drewN | apply Kd.R_drew)); exact HO333.out) (Kd.R_base ho70) hb); have n6_ := Aside0.mk (Kd.R_elder' (by (with_reducible repeat (first | apply Kd.R_alloc | apply Kd.R_drewN | apply Kd.R_drew)); exact HO337.out) (Kd.R_base ho70) hb); have n7_ := Aside0.mk (Kd.R_lower (Kd.R_new' (Kd.R_new' (Kd.R_new' (Kd.R_new' (Kd.R_new' ho70 (Kd.R_lt (by (with_reducible repeat (first | apply Kd.R_alloc | apply Kd.R_drewN | apply Kd.R_drew)); exact HO309.out))) (Kd.R_lt (by (with_reducible repeat (first | apply Kd.R_alloc | apply Kd.R_drewN | apply Kd.R_drew)); exact HO314.out))) (Kd.R_lt (by (with_reducible repeat (first | apply Kd.R_alloc | apply Kd.R_drewN | apply Kd.R_drew)); exact HO328.out))) (Kd.R_lt (by (with_reducible repeat (first | apply Kd.R_alloc | apply Kd.R_drewN | apply Kd.R_drew)); exact HO333.out))) (Kd.R_lt (by (with_reducible repeat (first | apply Kd.R_alloc | apply Kd.R_drewN | apply Kd.R_drew)); exact HO337.out))) (below_size (by repeat (first | (with_reducible first | exact HB.out | apply below_alloc | apply pw_below_drewN | apply below_drew1) | exact HB.out)))); have n8_ := Aside0.mk (below_step (by repeat (first | (with_reducible first | exact HB.out | apply below_alloc | apply pw_below_drewN | apply below_drew1) | exact HB.out)) hb); clear HO_1; clear HO309; clear HO314; clear HO325; clear HO328; clear HO333; clear HO337; clear HB; have HO_1 := n0_; have HO309 := n1_; have HO314 := n2_; have HO325 := n3_; have HO328 := n4_; have HO333 := n5_; have HO337 := n6_; have HO340 := n7_; have HB := n8_; clear n0_ n1_ n2_ n3_ n4_ n5_ n6_ n7_ n8_; clear hb ho70; obtain ⟨Ao71, co71, eo71⟩ := Kd.R_slice HO337.out; subst eo71; obtain ⟨Ao72, co72, eo72⟩ := Kd.R_slice HO340.out; subst eo72) | ((with_reducible refine gate_dst (N := 80) rfl ?_); (try (refine gate_guard (by rfl) ?_; dsimp only)); refine Kd.N_lit (Kd.slice 3 (Kd.int .i64)) _ 23 ?hg (N' := 80) ?hd (xs := ([y335, y338] : List (List Int))) (inner := [.slice Ao71 y335.length co71, .slice Ao72 y338.length co72]) (ok := (fun k_ => some k_ ≠ (.slice Ao14 y295.length co14 : Value).ownBlock ∧ some k_ ≠ (.slice Ao47 y307.length co47 : Value).ownBlock ∧ some k_ ≠ (.slice Ao51 y312.length co51 : Value).ownBlock ∧ some k_ ≠ (.slice Ao61 y323.length co61 : Value).ownBlock ∧ some k_ ≠ (.slice Ao65 t326.length co65 : Value).ownBlock ∧ some k_ ≠ (.slice Ao66 y331.length co66 : Value).ownBlock)) (okp := (fun k_ => some k_ ≠ (.slice Ao14 y295.length co14 : Value).ownBlock ∧ some k_ ≠ (.slice Ao47 y307.length co47 : Value).ownBlock ∧ some k_ ≠ (.slice Ao51 y312.length co51 : Value).ownBlock ∧ some k_ ≠ (.slice Ao61 y323.length co61 : Value).ownBlock ∧ some k_ ≠ (.slice Ao65 t326.length co65 : Value).ownBlock ∧ some k_ ≠ (.slice Ao66 y331.length co66 : Value).ownBlock)) ?hr ?hp (fun _ hk => hk) ((show ∀ k_, w69.heap.size ≤ k_ → (fun k_ => some k_ ≠ (.slice Ao14 y295.length co14 : Value).ownBlock ∧ some k_ ≠ (.slice Ao47 y307.length co47 : Value).ownBlock ∧ some k_ ≠ (.slice Ao51 y312.length co51 : Value).ownBlock ∧ some k_ ≠ (.slice Ao61 y323.length co61 : Value).ownBlock ∧ some k_ ≠ (.slice Ao65 t326.length co65 : Value).ownBlock ∧ some k_ ≠ (.slice Ao66 y331.length co66 : Value).ownBlock) k_ from fun k_ hk => ⟨Kd.fresh' (Kd.N_lt (by (with_reducible repeat (first | apply Kd.N_alloc | apply Kd.N_drewN | apply Kd.N_drew)); exact HO_1.out)) k_ hk, Kd.fresh' (Kd.R_lt (by (with_reducible repeat (first | apply Kd.R_alloc | apply Kd.R_drewN | apply Kd.R_drew)); exact HO309.out)) k_ hk, Kd.fresh' (Kd.R_lt (by (with_reducible repeat (first | apply Kd.R_alloc | apply Kd.R_drewN | apply Kd.R_drew)); exact HO314.out)) k_ hk, Kd.fresh' (Kd.N_lt (by (with_reducible repeat (first | apply Kd.N_alloc | apply Kd.N_drewN | apply Kd.N_drew)); exact HO325.out)) k_ hk, Kd.fresh' (Kd.R_lt (by (with_reducible repeat (first | apply Kd.R_alloc | apply Kd.R_drewN | apply Kd.R_drew)); exact HO328.out)) k_ hk, Kd.fresh' (Kd.R_lt (by (with_reducible repeat (first | apply Kd.R_alloc | apply Kd.R_drewN | apply Kd.R_drew)); exact HO333.out)) k_ hk⟩) _ (Nat.le_refl _)) (Below.refl _ _) (Nat.le_refl _) (by simp) ?_; (case hd => rfl); (case hg => rfl); (case hr => first | (go_simp; done) | (go_simp; rfl)); (case hp => exact (Reps.one (show Kd.FK (Kd.slice 3 (Kd.int .i64)) _ _ y335 [.slice Ao71 y335.length co71] from (Kd.FK_slice_mk (Kd.R_reads' (Kd.R_mono (ok' := (fun k_ => some k_ ≠ (.slice Ao14 y295.length co14 : Value).ownBlock ∧ some k_ ≠ (.slice Ao47 y307.length co47 : Value).ownBlock ∧ some k_ ≠ (.slice Ao51 y312.length co51 : Value).ownBlock ∧ some k_ ≠ (.slice Ao61 y323.length co61 : Value).ownBlock ∧ some k_ ≠ (.slice Ao65 t326.length co65 : Value).ownBlock ∧ some k_ ≠ (.slice Ao66 y331.length co66 : Value).ownBlock)) (Kd.R_apart' (Kd.R_apart' (HO337.out) (Kd.N_typed HO_1.out) (by decide)) (Kd.N_typed HO325.out) (by decide)) (fun k_ hk => ⟨hk.1.2, ⟨hk.1.1.1.1.1.1.2, ⟨hk.1.1.1.1.1.2, ⟨hk.2, ⟨hk.1.1.1.1.2, hk.1.1.1.2⟩⟩⟩⟩⟩))).2.1 (Kd.R_F (Kd.R_mono (ok' := (fun k_ => some k_ ≠ (.slice Ao14 y295.length co14 : Value).ownBlock ∧ some k_ ≠ (.slice Ao47 y307.length co47 : Value).ownBlock ∧ some k_ ≠ (.slice Ao51 y312.length co51 : Value).ownBlock ∧ some k_ ≠ (.slice Ao61 y323.length co61 : Value).ownBlock ∧ some k_ ≠ (.slice Ao65 t326.length co65 : Value).ownBlock ∧ some k_ ≠ (.slice Ao66 y331.length co66 : Value).ownBlock)) (Kd.R_apart' (Kd.R_apart' (HO337.out) (Kd.N_typed HO_1.out) (by decide)) (Kd.N_typed HO325.out) (by decide)) (fun k_ hk => ⟨hk.1.2, ⟨hk.1.1.1.1.1.1.2, ⟨hk.1.1.1.1.1.2, ⟨hk.2, ⟨hk.1.1.1.1.2, hk.1.1.1.2⟩⟩⟩⟩⟩))))) (Reps.one (show Kd.FK (Kd.slice 3 (Kd.int .i64)) _ _ y338 [.slice Ao72 y338.length co72] from (Kd.FK_slice_mk (Kd.R_reads' (Kd.R_mono (ok' := (fun k_ => some k_ ≠ (.slice Ao14 y295.length co14 : Value).ownBlock ∧ some k_ ≠ (.slice Ao47 y307.length co47 : Value).ownBlock ∧ some k_ ≠ (.slice Ao51 y312.length co51 : Value).ownBlock ∧ some k_ ≠ (.slice Ao61 y323.length co61 : Value).ownBlock ∧ some k_ ≠ (.slice Ao65 t326.length co65 : Value).ownBlock ∧ some k_ ≠ (.slice Ao66 y331.length co66 : Value).ownBlock)) (Kd.R_apart' (Kd.R_apart' (HO340.out) (Kd.N_typed HO_1.out) (by decide)) (Kd.N_typed HO325.out) (by decide)) (fun k_ hk => ⟨hk.1.2, ⟨hk.1.1.1.1.1.1.2, ⟨hk.1.1.1.1.1.2, ⟨hk.2, ⟨hk.1.1.1.1.2, hk.1.1.1.2⟩⟩⟩⟩⟩))).2.1 (Kd.R_F (Kd.R_mono (ok' := (fun k_ => some k_ ≠ (.slice Ao14 y295.length co14 : Value).ownBlock ∧ some k_ ≠ (.slice Ao47 y307.length co47 : Value).ownBlock ∧ some k_ ≠ (.slice Ao51 y312.length co51 : Value).ownBlock ∧ some k_ ≠ (.slice Ao61 y323.length co61 : Value).ownBlock ∧ some k_ ≠ (.slice Ao65 t326.length co65 : Value).ownBlock ∧ some k_ ≠ (.slice Ao66 y331.length co66 : Value).ownBlock)) (Kd.R_apart' (Kd.R_apart' (HO340.out) (Kd.N_typed HO_1.out) (by decide)) (Kd.N_typed HO325.out) (by decide)) (fun k_ hk => ⟨hk.1.2, ⟨hk.1.1.1.1.1.1.2, ⟨hk.1.1.1.1.1.2, ⟨hk.2, ⟨hk.1.1.1.1.2, hk.1.1.1.2⟩⟩⟩⟩⟩))))) (Reps.none _ _)))); intro v342 w73 ho74 hb hg_ hnew_; clear hg_ hnew_; (first | rw [← Ny341.out] at ho74 | (simp only [Int.reduceToNat] at ho74; rw [← Ny341.out] at ho74)); have n0_ := Aside0.mk (Kd.N_elder' (by (with_reducible repeat (first | apply Kd.N_alloc | apply Kd.N_drewN | apply Kd.N_drew)); exact HO_1.out) (Kd.N_base ho74) hb); have n1_ := Aside0.mk (Kd.R_below (by (with_reducible repeat (first | apply Kd.R_alloc | apply Kd.R_drewN | apply Kd.R_drew)); exact HO309.out) hb); have n2_ := Aside0.mk (Kd.R_below (by (with_reducible repeat (first | apply Kd.R_alloc | apply Kd.R_drewN | apply Kd.R_drew)); exact HO314.out) hb); have n3_ := Aside0.mk (Kd.N_elder' (by (with_reducible repeat (first | apply Kd.N_alloc | apply Kd.N_drewN | apply Kd.N_drew)); exact HO325.out) (Kd.N_base ho74) hb); have n4_ := Aside0.mk (Kd.R_below (by (with_reducible repeat (first | apply Kd.R_alloc | apply Kd.R_drewN | apply Kd.R_drew)); exact HO328.out) hb); have n5_ := Aside0.mk (Kd.R_below (by (with_reducible repeat (first | apply Kd.R_alloc | apply Kd.R_drewN | apply Kd.R_drew)); exact HO333.out) hb); have n6_ := Aside0.mk (Kd.N_lower ho74 (below_size (by repeat (first | (with_reducible first | exact HB.out | apply below_alloc | apply pw_below_drewN | apply below_drew1) | exact HB.out)))); have n7_ := Aside0.mk (below_step (by repeat (first | (with_reducible first | exact HB.out | apply below_alloc | apply pw_below_drewN | apply below_drew1) | exact HB.out)) hb); clear HO_1; clear HO309; clear HO314; clear HO325; clear HO328; clear HO333; clear HB; clear HO337; clear HO340; have HO_1 := n0_; have HO309 := n1_; have HO314 := n2_; have HO325 := n3_; have HO328 := n4_; have HO333 := n5_; have HO343 := n6_; have HB := n7_; clear n0_ n1_ n2_ n3_ n4_ n5_ n6_ n7_; clear hb ho74; obtain ⟨Ao75, co75, eo75⟩ := Kd.N_slice HO343.out; subst eo75) | (go_at_call 12; (with_reducible refine (assign_Check.calls kj1 _ _ y341 t344 _ ?side1 ?side2 A42.out).mono ?_); (case side1 => repeat (first | exact (Kd.N_reads' HO343.out).2.2 | (with_reducible refine Kd.C_alloc ?_ _) | (with_reducible refine Kd.C_drewN ?_ _) | (with_reducible refine Kd.C_drew ?_))); (case side2 => exact (Kd.N_reads' HO343.out).2.1); rintro e w' ⟨rfl, ⟨nd, rfl⟩⟩) | (go_at_call 20; (with_reducible refine (dancestudiolaw11_proves.calls kj1 _ _ y295 t345 _ ?side1 ?side2 A44.out).mono ?_); (case side1 => repeat (first | exact (Kd.N_reads' HO_1.out).2.2 | (with_reducible refine Kd.C_alloc ?_ _) | (with_reducible refine Kd.C_drewN ?_ _) | (with_reducible refine Kd.C_drew ?_))); (case side2 => exact (Kd.N_reads' HO_1.out).2.1); rintro e w76 ⟨rfl, hb⟩; have n0_ := Aside0.mk (Kd.N_below (by (with_reducible repeat (first | apply Kd.N_alloc | apply Kd.N_drewN | apply Kd.N_drew)); exact HO_1.out) hb); have n1_ := Aside0.mk (Kd.R_below (by (with_reducible repeat (first | apply Kd.R_alloc | apply Kd.R_drewN | apply Kd.R_drew)); exact HO309.out) hb); have n2_ := Aside0.mk (Kd.R_below (by (with_reducible repeat (first | apply Kd.R_alloc | apply Kd.R_drewN | apply Kd.R_drew)); exact HO314.out) hb); have n3_ := Aside0.mk (Kd.N_below (by (with_reducible repeat (first | apply Kd.N_alloc | apply Kd.N_drewN | apply Kd.N_drew)); exact HO325.out) hb); have n4_ := Aside0.mk (Kd.R_below (by (with_reducible repeat (first | apply Kd.R_alloc | apply Kd.R_drewN | apply Kd.R_drew)); exact HO328.out) hb); have n5_ := Aside0.mk (Kd.R_below (by (with_reducible repeat (first | apply Kd.R_alloc | apply Kd.R_drewN | apply Kd.R_drew)); exact HO333.out) hb); have n6_ := Aside0.mk (Kd.N_below (by (with_reducible repeat (first | apply Kd.N_alloc | apply Kd.N_drewN | apply Kd.N_drew)); exact HO343.out) hb); have n7_ := Aside0.mk (below_step (by repeat (first | (with_reducible first | exact HB.out | apply below_alloc | apply pw_below_drewN | apply below_drew1) | exact HB.out)) hb); clear HO_1; clear HO309; clear HO314; clear HO325; clear HO328; clear HO333; clear HO343; clear HB; have HO_1 := n0_; have HO309 := n1_; have HO314 := n2_; have HO325 := n3_; have HO328 := n4_; have HO333 := n5_; have HO343 := n6_; have HB := n7_; clear n0_ n1_ n2_ n3_ n4_ n5_ n6_ n7_; (try clear hb); (try clear hb2); (try clear hk); (try clear hi)))
           go_ret
           exact ⟨by first | rfl | (simp [errW_none, errW_some] <;> rfl) | (simp [*, errW_none, errW_some] <;> rfl), by repeat (first | (with_reducible first | exact HB.out | apply below_alloc | apply pw_below_drewN | apply below_drew1) | exact HB.out)⟩
          ·
           rw [if_neg c43] at H
           exact absurd H (by simp)
         ·
          rw [if_neg c41] at H
          exact absurd H (by simp)
        ·
         rw [if_neg c40] at H
         exact absurd H (by simp)
       ·
        replace c39 := Bool.eq_false_iff.mpr c39
        subst c39
        have H1 : (none) = some r := by rw [if_neg (show ¬ (false = true) by decide)] at H; exact H
        clear H
        have H := H1
        clear H1
        exact absurd H (by simp)
      ·
       rw [if_neg c37] at H
       exact absurd H (by simp)
     ·
      rw [if_neg c36] at H
      exact absurd H (by simp)
    ·
     rw [if_neg c35] at H
     exact absurd H (by simp)
/-! ### dancestudiolaw11_AssignCheck: function 3 -/
def dancestudiolaw11_AssignCheck.f (k : Nat) (l0 : List (List Int)) (l1 : List Int) : Option (Bool) := (dancestudioref11_Check.f k l0).bind fun t346 => ((assign_Check.f k l0).bind fun t347 => (if t347 = t346 then (if t346 = 0 then ((dancestudiolaw11_awake.f k).bind fun t348 => (some t348)) else ((assign_Solve.f k l0).bind fun bt349 => ((assign_Prices.f k l0).bind fun bt354 => ((assign_Cost.f k l0 l1).bind fun bt361 => (if (bt349.1.length : Int) = 0 then (if bt349.2.1 = 0 then (if bt349.2.2 = t346 then (if (bt354.1.length : Int) = 0 then (if (bt354.2.1.length : Int) = 0 then (if bt354.2.2 = t346 then (if bt361.1 = 0 then (if bt361.2 = t346 then ((dancestudiolaw11_awake.f k).bind fun t363 => (some t363)) else (none)) else (none)) else (none)) else (none)) else (none)) else (none)) else (none)) else (none)))))) else (none)))
theorem dancestudiolaw11_AssignCheck.mono : ∀ a0 a1 k, LeO (dancestudiolaw11_AssignCheck.f k a0 a1) (dancestudiolaw11_AssignCheck.f (k + 1) a0 a1) := by
 intro a0 a1 k
 unfold dancestudiolaw11_AssignCheck.f
 repeat' first
   | (with_reducible exact assign_Check.mono _ _)
   | (with_reducible exact assign_Cost.mono _ _ _)
   | (with_reducible exact assign_Prices.mono _ _)
   | (with_reducible exact assign_Solve.mono _ _)
   | (with_reducible exact dancestudiolaw11_awake.mono _)
   | (with_reducible exact dancestudioref11_Check.mono _ _)
   | (with_reducible exact LeO.refl _)
   | (with_reducible exact LeO.none _)
   | (with_reducible refine LeO.ite ?_ ?_)
   | (with_reducible refine LeO.bind ?_ (fun _ => ?_))
   | exact assign_Check.mono _ _
   | exact assign_Cost.mono _ _ _
   | exact assign_Prices.mono _ _
   | exact assign_Solve.mono _ _
   | exact dancestudiolaw11_awake.mono _
   | exact dancestudioref11_Check.mono _ _
   | exact LeO.none _
   | refine LeO.ite ?_ ?_
   | refine LeO.bind ?_ (fun _ => ?_)
set_option maxHeartbeats 8000000 in
set_option maxRecDepth 100000 in
theorem dancestudiolaw11_AssignCheck.calls (k : Nat) (A0 : Option Addr) (c0 : Nat) (l0 : List (List Int)) (A1 : Option Addr) (c1 : Nat) (l1 : List Int) (r : Bool) (w : World) (hr0 : Kd.C (Kd.slice 3 (Kd.int .i64)) w A0 l0.length l0) (hc0 : l0.length ≤ c0) (hr1 : Kd.C (Kd.int .i64) w A1 l1.length l1) (hc1 : l1.length ≤ c1) (h : dancestudiolaw11_AssignCheck.f k l0 l1 = some r) :
  Calls Try.prog 3 #[.slice A0 l0.length c0, .slice A1 l1.length c1] w fun e w' => e = .returned (.bool r) ∧ Below w.heap.size w w' := by
 have HR0 := Aside0.mk hr0
 have HC0 := Aside0.mk hc0
 clear hr0 hc0
 have HR1 := Aside0.mk hr1
 have HC1 := Aside0.mk hc1
 clear hr1 hc1
 have HB := Aside0.mk (Below.refl w.heap.size w)
 have H : ((dancestudioref11_Check.f k l0).bind fun t346 => ((assign_Check.f k l0).bind fun t347 => (if t347 = t346 then (if t346 = 0 then ((dancestudiolaw11_awake.f k).bind fun t348 => (some t348)) else ((assign_Solve.f k l0).bind fun bt349 => ((assign_Prices.f k l0).bind fun bt354 => ((assign_Cost.f k l0 l1).bind fun bt361 => (if (bt349.1.length : Int) = 0 then (if bt349.2.1 = 0 then (if bt349.2.2 = t346 then (if (bt354.1.length : Int) = 0 then (if (bt354.2.1.length : Int) = 0 then (if bt354.2.2 = t346 then (if bt361.1 = 0 then (if bt361.2 = t346 then ((dancestudiolaw11_awake.f k).bind fun t363 => (some t363)) else (none)) else (none)) else (none)) else (none)) else (none)) else (none)) else (none)) else (none)))))) else (none)))) = some r := h
 clear h
 replace H := Option.bind_eq_some_iff.mp H
 obtain ⟨t346, A30, H⟩ := H
 replace H : ((assign_Check.f k l0).bind fun t347 => (if t347 = t346 then (if t346 = 0 then ((dancestudiolaw11_awake.f k).bind fun t348 => (some t348)) else ((assign_Solve.f k l0).bind fun bt349 => ((assign_Prices.f k l0).bind fun bt354 => ((assign_Cost.f k l0 l1).bind fun bt361 => (if (bt349.1.length : Int) = 0 then (if bt349.2.1 = 0 then (if bt349.2.2 = t346 then (if (bt354.1.length : Int) = 0 then (if (bt354.2.1.length : Int) = 0 then (if bt354.2.2 = t346 then (if bt361.1 = 0 then (if bt361.2 = t346 then ((dancestudiolaw11_awake.f k).bind fun t363 => (some t363)) else (none)) else (none)) else (none)) else (none)) else (none)) else (none)) else (none)) else (none)))))) else (none))) = some r := H
 have A3 := Aside0.mk A30
 clear A30
 replace H := Option.bind_eq_some_iff.mp H
 obtain ⟨t347, A40, H⟩ := H
 replace H : (if t347 = t346 then (if t346 = 0 then ((dancestudiolaw11_awake.f k).bind fun t348 => (some t348)) else ((assign_Solve.f k l0).bind fun bt349 => ((assign_Prices.f k l0).bind fun bt354 => ((assign_Cost.f k l0 l1).bind fun bt361 => (if (bt349.1.length : Int) = 0 then (if bt349.2.1 = 0 then (if bt349.2.2 = t346 then (if (bt354.1.length : Int) = 0 then (if (bt354.2.1.length : Int) = 0 then (if bt354.2.2 = t346 then (if bt361.1 = 0 then (if bt361.2 = t346 then ((dancestudiolaw11_awake.f k).bind fun t363 => (some t363)) else (none)) else (none)) else (none)) else (none)) else (none)) else (none)) else (none)) else (none)))))) else (none)) = some r := H
 have A4 := Aside0.mk A40
 clear A40
 by_cases c5 : t347 = t346
 ·
  rw [if_pos c5] at H
  have c5b0 : (t347 == t346) = true := beq_iff_eq.mpr c5
  have c5b1 : (t347 != t346) = false := bne_eq_false_iff_eq.mpr c5
  clear c5
  by_cases c6 : t346 = 0
  ·
   rw [if_pos c6] at H
   have c6b0 : (t346 == 0) = true := beq_iff_eq.mpr c6
   have c6b1 : (t346 != 0) = false := bne_eq_false_iff_eq.mpr c6
   clear c6
   replace H := Option.bind_eq_some_iff.mp H
   obtain ⟨t348, A70, H⟩ := H
   replace H : (some t348) = some r := H
   have A7 := Aside0.mk A70
   clear A70
   obtain rfl := Option.some.inj H
   go_enter Try.func3, Try.ntmps3
   go_wp2_with (first | ((with_reducible refine gate_callee (f := 11) rfl ?_); refine goesL_ (some 15) rfl rfl Try.func11 (by kernel_rfl) rfl #[.slice A0 l0.length c0] rfl (by (try simp only [List.map_toArray, List.map_cons, List.map_nil]); first | done | rfl | (simp only [List.length_drop, List.length_take]; rfl)) ?_; (with_reducible refine (dancestudioref11_Check.calls k _ _ l0 t346 _ ?side1 ?side2 A3.out).mono ?_); (case side1 => repeat (first | exact HR0.out | (with_reducible refine Kd.C_alloc ?_ _) | (with_reducible refine Kd.C_drewN ?_ _) | (with_reducible refine Kd.C_drew ?_))); (case side2 => exact HC0.out); rintro e w' ⟨rfl, ⟨nd, rfl⟩⟩; refine ⟨_, rfl, ?_⟩) | ((with_reducible refine gate_callee (f := 12) rfl ?_); refine goesL_ (some 17) rfl rfl Try.func12 (by kernel_rfl) rfl #[.slice A0 l0.length c0] rfl (by (try simp only [List.map_toArray, List.map_cons, List.map_nil]); first | done | rfl | (simp only [List.length_drop, List.length_take]; rfl)) ?_; (with_reducible refine (assign_Check.calls k _ _ l0 t347 _ ?side1 ?side2 A4.out).mono ?_); (case side1 => repeat (first | exact HR0.out | (with_reducible refine Kd.C_alloc ?_ _) | (with_reducible refine Kd.C_drewN ?_ _) | (with_reducible refine Kd.C_drew ?_))); (case side2 => exact HC0.out); rintro e w' ⟨rfl, ⟨nd, rfl⟩⟩; refine ⟨_, rfl, ?_⟩) | ((with_reducible refine gate_callee (f := 13) rfl ?_); refine goesL_ (some 22) rfl rfl Try.func13 (by kernel_rfl) rfl #[] rfl (by (try simp only [List.map_toArray, List.map_cons, List.map_nil]); first | done | rfl | (simp only [List.length_drop, List.length_take]; rfl)) ?_; (with_reducible refine (dancestudiolaw11_awake.calls k  t348 _ A7.out).mono ?_); rintro e w8 ⟨rfl, hb⟩; refine ⟨_, rfl, ?_⟩; have n0_ := Aside0.mk (below_step (by repeat (first | (with_reducible first | exact HB.out | apply below_alloc | apply pw_below_drewN | apply below_drew1) | exact HB.out)) hb); clear HB; have HB := n0_; clear n0_; (try clear hb); (try clear hb2); (try clear hk); (try clear hi)))
   go_ret
   exact ⟨by first | rfl | (simp [errW_none, errW_some] <;> rfl) | (simp [*, errW_none, errW_some] <;> rfl), by repeat (first | (with_reducible first | exact HB.out | apply below_alloc | apply pw_below_drewN | apply below_drew1) | exact HB.out)⟩
  ·
   rw [if_neg c6] at H
   have c6b0 : (t346 == 0) = false := beq_eq_false_iff_ne.mpr c6
   have c6b1 : (t346 != 0) = true := bne_iff_ne.mpr c6
   replace H := Option.bind_eq_some_iff.mp H
   obtain ⟨⟨t349, t352, t353⟩, A90, H⟩ := H
   replace H : ((assign_Prices.f k l0).bind fun bt354 => ((assign_Cost.f k l0 l1).bind fun bt361 => (if (t349.length : Int) = 0 then (if t352 = 0 then (if t353 = t346 then (if (bt354.1.length : Int) = 0 then (if (bt354.2.1.length : Int) = 0 then (if bt354.2.2 = t346 then (if bt361.1 = 0 then (if bt361.2 = t346 then ((dancestudiolaw11_awake.f k).bind fun t363 => (some t363)) else (none)) else (none)) else (none)) else (none)) else (none)) else (none)) else (none)) else (none)))) = some r := H
   have A9 := Aside0.mk A90
   clear A90
   replace H := Option.bind_eq_some_iff.mp H
   obtain ⟨⟨t354, t355, t356⟩, A100, H⟩ := H
   replace H : ((assign_Cost.f k l0 l1).bind fun bt361 => (if (t349.length : Int) = 0 then (if t352 = 0 then (if t353 = t346 then (if (t354.length : Int) = 0 then (if (t355.length : Int) = 0 then (if t356 = t346 then (if bt361.1 = 0 then (if bt361.2 = t346 then ((dancestudiolaw11_awake.f k).bind fun t363 => (some t363)) else (none)) else (none)) else (none)) else (none)) else (none)) else (none)) else (none)) else (none))) = some r := H
   have A10 := Aside0.mk A100
   clear A100
   replace H := Option.bind_eq_some_iff.mp H
   obtain ⟨⟨t361, t362⟩, A110, H⟩ := H
   replace H : (if (t349.length : Int) = 0 then (if t352 = 0 then (if t353 = t346 then (if (t354.length : Int) = 0 then (if (t355.length : Int) = 0 then (if t356 = t346 then (if t361 = 0 then (if t362 = t346 then ((dancestudiolaw11_awake.f k).bind fun t363 => (some t363)) else (none)) else (none)) else (none)) else (none)) else (none)) else (none)) else (none)) else (none)) = some r := H
   have A11 := Aside0.mk A110
   clear A110
   by_cases c12 : (t349.length : Int) = 0
   ·
    rw [if_pos c12] at H
    have c12b0 : ((t349.length : Int) == 0) = true := beq_iff_eq.mpr c12
    have c12b1 : ((t349.length : Int) != 0) = false := bne_eq_false_iff_eq.mpr c12
    clear c12
    by_cases c13 : t352 = 0
    ·
     rw [if_pos c13] at H
     have c13b0 : (t352 == 0) = true := beq_iff_eq.mpr c13
     have c13b1 : (t352 != 0) = false := bne_eq_false_iff_eq.mpr c13
     clear c13
     by_cases c14 : t353 = t346
     ·
      rw [if_pos c14] at H
      have c14b0 : (t353 == t346) = true := beq_iff_eq.mpr c14
      have c14b1 : (t353 != t346) = false := bne_eq_false_iff_eq.mpr c14
      clear c14
      by_cases c15 : (t354.length : Int) = 0
      ·
       rw [if_pos c15] at H
       have c15b0 : ((t354.length : Int) == 0) = true := beq_iff_eq.mpr c15
       have c15b1 : ((t354.length : Int) != 0) = false := bne_eq_false_iff_eq.mpr c15
       clear c15
       by_cases c16 : (t355.length : Int) = 0
       ·
        rw [if_pos c16] at H
        have c16b0 : ((t355.length : Int) == 0) = true := beq_iff_eq.mpr c16
        have c16b1 : ((t355.length : Int) != 0) = false := bne_eq_false_iff_eq.mpr c16
        clear c16
        by_cases c17 : t356 = t346
        ·
         rw [if_pos c17] at H
         have c17b0 : (t356 == t346) = true := beq_iff_eq.mpr c17
         have c17b1 : (t356 != t346) = false := bne_eq_false_iff_eq.mpr c17
         clear c17
         by_cases c18 : t361 = 0
         ·
          rw [if_pos c18] at H
          have c18b0 : (t361 == 0) = true := beq_iff_eq.mpr c18
          have c18b1 : (t361 != 0) = false := bne_eq_false_iff_eq.mpr c18
          clear c18
          by_cases c19 : t362 = t346
          ·
           rw [if_pos c19] at H
           have c19b0 : (t362 == t346) = true := beq_iff_eq.mpr c19
           have c19b1 : (t362 != t346) = false := bne_eq_false_iff_eq.mpr c19
           clear c19
           replace H := Option.bind_eq_some_iff.mp H
           obtain ⟨t363, A200, H⟩ := H
           replace H : (some t363) = some r := H
           have A20 := Aside0.mk A200
           clear A200
           obtain rfl := Option.some.inj H
           go_enter Try.func3, Try.ntmps3
           go_wp2_with (first | ((with_reducible refine gate_callee (f := 11) rfl ?_); refine goesL_ (some 15) rfl rfl Try.func11 (by kernel_rfl) rfl #[.slice A0 l0.length c0] rfl (by (try simp only [List.map_toArray, List.map_cons, List.map_nil]); first | done | rfl | (simp only [List.length_drop, List.length_take]; rfl)) ?_; (with_reducible refine (dancestudioref11_Check.calls k _ _ l0 t346 _ ?side1 ?side2 A3.out).mono ?_); (case side1 => repeat (first | exact HR0.out | (with_reducible refine Kd.C_alloc ?_ _) | (with_reducible refine Kd.C_drewN ?_ _) | (with_reducible refine Kd.C_drew ?_))); (case side2 => exact HC0.out); rintro e w' ⟨rfl, ⟨nd, rfl⟩⟩; refine ⟨_, rfl, ?_⟩) | ((with_reducible refine gate_callee (f := 12) rfl ?_); refine goesL_ (some 17) rfl rfl Try.func12 (by kernel_rfl) rfl #[.slice A0 l0.length c0] rfl (by (try simp only [List.map_toArray, List.map_cons, List.map_nil]); first | done | rfl | (simp only [List.length_drop, List.length_take]; rfl)) ?_; (with_reducible refine (assign_Check.calls k _ _ l0 t347 _ ?side1 ?side2 A4.out).mono ?_); (case side1 => repeat (first | exact HR0.out | (with_reducible refine Kd.C_alloc ?_ _) | (with_reducible refine Kd.C_drewN ?_ _) | (with_reducible refine Kd.C_drew ?_))); (case side2 => exact HC0.out); rintro e w' ⟨rfl, ⟨nd, rfl⟩⟩; refine ⟨_, rfl, ?_⟩) | ((with_reducible refine gate_callee (f := 14) rfl ?_); refine goesL_ (some 25) rfl rfl Try.func14 (by kernel_rfl) rfl #[.slice A0 l0.length c0] rfl (by (try simp only [List.map_toArray, List.map_cons, List.map_nil]); first | done | rfl | (simp only [List.length_drop, List.length_take]; rfl)) ?_; (with_reducible refine (assign_Solve.calls k (fun k_ => k_ < w.heap.size) _ _ l0 t349 t352 t353 _ ?side1 A9.out).mono ?_); (case side1 => exact Kd.V_mk HC0.out (Kd.F_below (Kd.C_F (Kd.heap_slice 3 (Kd.heap_int .i64)) HR0.out) (by repeat (first | (with_reducible first | exact HB.out | apply below_alloc | apply pw_below_drewN | apply below_drew1) | exact HB.out)))); rintro e w21 ⟨v350, rfl, ho0, hb⟩; refine ⟨_, rfl, ?_⟩; have n0_ := Aside0.mk (Kd.R_lower (Kd.R_mono (ok' := fun k_ => True) ho0 (fun _ hk_ => trivial)) (below_size (by repeat (first | (with_reducible first | exact HB.out | apply below_alloc | apply pw_below_drewN | apply below_drew1) | exact HB.out)))); have n1_ := Aside0.mk (below_step (by repeat (first | (with_reducible first | exact HB.out | apply below_alloc | apply pw_below_drewN | apply below_drew1) | exact HB.out)) hb); clear HB; have HO351 := n0_; have HB := n1_; clear n0_ n1_; (try clear hb); (try clear hb2); (try clear hk); (try clear hi); (try clear ho0)) | ((with_reducible refine gate_callee (f := 15) rfl ?_); refine goesL_ (some 31) rfl rfl Try.func15 (by kernel_rfl) rfl #[.slice A0 l0.length c0] rfl (by (try simp only [List.map_toArray, List.map_cons, List.map_nil]); first | done | rfl | (simp only [List.length_drop, List.length_take]; rfl)) ?_; (with_reducible refine (assign_Prices.calls k _ _ l0 t354 t355 t356 _ ?side1 ?side2 A10.out).mono ?_); (case side1 => repeat (first | exact (Kd.C_below HR0.out HB.out) | (with_reducible refine Kd.C_alloc ?_ _) | (with_reducible refine Kd.C_drewN ?_ _) | (with_reducible refine Kd.C_drew ?_))); (case side2 => exact HC0.out); rintro e w22 ⟨v357, v359, rfl, ho0, ho1, hb⟩; refine ⟨_, rfl, ?_⟩; have n0_ := Aside0.mk (Kd.R_mono (Kd.R_told (Kd.R_told (Kd.R_old (by (with_reducible repeat (first | apply Kd.R_alloc | apply Kd.R_drewN | apply Kd.R_drew)); exact HO351.out) hb) (Kd.Q_base ho0)) (Kd.Q_base ho1)) (fun _ h_ => h_.1)); have n1_ := Aside0.mk (Kd.Q_lower (Kd.Q_new' ho0 (Kd.R_lt (by (with_reducible repeat (first | apply Kd.R_alloc | apply Kd.R_drewN | apply Kd.R_drew)); exact HO351.out))) (below_size (by repeat (first | (with_reducible first | exact HB.out | apply below_alloc | apply pw_below_drewN | apply below_drew1) | exact HB.out)))); have n2_ := Aside0.mk (Kd.Q_lower (Kd.Q_new' ho1 (Kd.R_lt (by (with_reducible repeat (first | apply Kd.R_alloc | apply Kd.R_drewN | apply Kd.R_drew)); exact HO351.out))) (below_size (by repeat (first | (with_reducible first | exact HB.out | apply below_alloc | apply pw_below_drewN | apply below_drew1) | exact HB.out)))); have n3_ := Aside0.mk (below_step (by repeat (first | (with_reducible first | exact HB.out | apply below_alloc | apply pw_below_drewN | apply below_drew1) | exact HB.out)) hb); clear HO351; clear HB; have HO351 := n0_; have HO358 := n1_; have HO360 := n2_; have HB := n3_; clear n0_ n1_ n2_ n3_; (try clear hb); (try clear hb2); (try clear hk); (try clear hi); (try clear ho0); (try clear ho1)) | ((with_reducible refine gate_callee (f := 16) rfl ?_); refine goesL_ (some 38) rfl rfl Try.func16 (by kernel_rfl) rfl #[.slice A0 l0.length c0, .slice A1 l1.length c1] rfl (by (try simp only [List.map_toArray, List.map_cons, List.map_nil]); first | done | rfl | (simp only [List.length_drop, List.length_take]; rfl)) ?_; (with_reducible refine (assign_Cost.calls k _ _ l0 _ _ l1 t361 t362 _ ?side1 ?side2 ?side3 ?side4 A11.out).mono ?_); (case side1 => repeat (first | exact (Kd.C_below HR0.out HB.out) | (with_reducible refine Kd.C_alloc ?_ _) | (with_reducible refine Kd.C_drewN ?_ _) | (with_reducible refine Kd.C_drew ?_))); (case side2 => exact HC0.out); (case side3 => repeat (first | exact (Kd.C_below HR1.out HB.out) | (with_reducible refine Kd.C_alloc ?_ _) | (with_reducible refine Kd.C_drewN ?_ _) | (with_reducible refine Kd.C_drew ?_))); (case side4 => exact HC1.out); rintro e w23 ⟨rfl, hb⟩; refine ⟨_, rfl, ?_⟩; have n0_ := Aside0.mk (Kd.R_below (by (with_reducible repeat (first | apply Kd.R_alloc | apply Kd.R_drewN | apply Kd.R_drew)); exact HO351.out) hb); have n1_ := Aside0.mk (Kd.Q_below (by (with_reducible repeat (first | apply Kd.Q_alloc | apply Kd.Q_drewN | apply Kd.Q_drew)); exact HO358.out) hb); have n2_ := Aside0.mk (Kd.Q_below (by (with_reducible repeat (first | apply Kd.Q_alloc | apply Kd.Q_drewN | apply Kd.Q_drew)); exact HO360.out) hb); have n3_ := Aside0.mk (below_step (by repeat (first | (with_reducible first | exact HB.out | apply below_alloc | apply pw_below_drewN | apply below_drew1) | exact HB.out)) hb); clear HO351; clear HO358; clear HO360; clear HB; have HO351 := n0_; have HO358 := n1_; have HO360 := n2_; have HB := n3_; clear n0_ n1_ n2_ n3_; (try clear hb); (try clear hb2); (try clear hk); (try clear hi); obtain ⟨Ao24, co24, eo24⟩ := Kd.R_slice HO351.out; subst eo24; obtain ⟨Ao25, co25, eo25, _⟩ := Kd.Q_slice HO358.out; subst eo25; obtain ⟨Ao26, co26, eo26, _⟩ := Kd.Q_slice HO360.out; subst eo26) | (go_at_call 13; (with_reducible refine (dancestudiolaw11_awake.calls k  t363 _ A20.out).mono ?_); rintro e w27 ⟨rfl, hb⟩; have n0_ := Aside0.mk (Kd.R_below (by (with_reducible repeat (first | apply Kd.R_alloc | apply Kd.R_drewN | apply Kd.R_drew)); exact HO351.out) hb); have n1_ := Aside0.mk (Kd.Q_below (by (with_reducible repeat (first | apply Kd.Q_alloc | apply Kd.Q_drewN | apply Kd.Q_drew)); exact HO358.out) hb); have n2_ := Aside0.mk (Kd.Q_below (by (with_reducible repeat (first | apply Kd.Q_alloc | apply Kd.Q_drewN | apply Kd.Q_drew)); exact HO360.out) hb); have n3_ := Aside0.mk (below_step (by repeat (first | (with_reducible first | exact HB.out | apply below_alloc | apply pw_below_drewN | apply below_drew1) | exact HB.out)) hb); clear HO351; clear HO358; clear HO360; clear HB; have HO351 := n0_; have HO358 := n1_; have HO360 := n2_; have HB := n3_; clear n0_ n1_ n2_ n3_; (try clear hb); (try clear hb2); (try clear hk); (try clear hi)))
           go_ret
           exact ⟨by first | rfl | (simp [errW_none, errW_some] <;> rfl) | (simp [*, errW_none, errW_some] <;> rfl), by repeat (first | (with_reducible first | exact HB.out | apply below_alloc | apply pw_below_drewN | apply below_drew1) | exact HB.out)⟩
          ·
           rw [if_neg c19] at H
           exact absurd H (by simp)
         ·
          rw [if_neg c18] at H
          exact absurd H (by simp)
        ·
         rw [if_neg c17] at H
         exact absurd H (by simp)
       ·
        rw [if_neg c16] at H
        exact absurd H (by simp)
      ·
       rw [if_neg c15] at H
       exact absurd H (by simp)
     ·
      rw [if_neg c14] at H
      exact absurd H (by simp)
    ·
     rw [if_neg c13] at H
     exact absurd H (by simp)
   ·
    rw [if_neg c12] at H
    exact absurd H (by simp)
 ·
  rw [if_neg c5] at H
  exact absurd H (by simp)
/-! ### dancestudioref11_size: function 32 -/
def dancestudioref11_size.l0 : Nat → Int → Int → Option (Int)
 | 0, _, _ => none
 | k + 1, x0, x3 => if x0 > 0 then (dancestudioref11_size.l0 k (wrap64 (Int.tdiv x0 2)) (wrap64 (x3 + (Int.tmod x0 2)))) else (some x3)
def dancestudioref11_size.f (k : Nat) (a0 : Int) : Option (Int) := dancestudioref11_size.l0 k a0 0
theorem dancestudioref11_size.mono_l : ∀ k, (∀ y0 y1, LeO (dancestudioref11_size.l0 k y0 y1) (dancestudioref11_size.l0 (k + 1) y0 y1))
 | 0 => fun _ _ r h => by simp [dancestudioref11_size.l0] at h
 | k + 1 => by
  have ih0 := dancestudioref11_size.mono_l k
  ·
   intro y0 y1
   unfold dancestudioref11_size.l0
   repeat' first
   | (with_reducible exact ih0 _ _)
   | (with_reducible exact LeO.refl _)
   | (with_reducible exact LeO.none _)
   | (with_reducible refine LeO.ite ?_ ?_)
   | (with_reducible refine LeO.bind ?_ (fun _ => ?_))
   | exact ih0 _ _
   | exact LeO.none _
   | refine LeO.ite ?_ ?_
   | refine LeO.bind ?_ (fun _ => ?_)
theorem dancestudioref11_size.mono : ∀ a0 k, LeO (dancestudioref11_size.f k a0) (dancestudioref11_size.f (k + 1) a0) := by
 intro a0 k
 have ih0 := dancestudioref11_size.mono_l k
 unfold dancestudioref11_size.f
 repeat' first
   | (with_reducible exact ih0 _ _)
   | (with_reducible exact LeO.refl _)
   | (with_reducible exact LeO.none _)
   | (with_reducible refine LeO.ite ?_ ?_)
   | (with_reducible refine LeO.bind ?_ (fun _ => ?_))
   | exact ih0 _ _
   | exact LeO.none _
   | refine LeO.ite ?_ ?_
   | refine LeO.bind ?_ (fun _ => ?_)
set_option maxHeartbeats 8000000 in
set_option maxRecDepth 100000 in
theorem dancestudioref11_size.calls (k : Nat) (a0 : Int) (r : Int) (w : World) (h : dancestudioref11_size.f k a0 = some r) :
  Calls Try.prog 32 #[.int .i64 a0] w fun e w' => e = .returned (.int .i64 r) ∧ Drawn0 w w' := by
 have H : (dancestudioref11_size.l0 k a0 0) = some r := h
 clear h
 have H' := Aside0.mk H
 clear H
 go_enter Try.func32, Try.ntmps32
 go_wp2
 go_loopg [0, 3] k (fun kq v0 v3 w' => ∃ (x0_1 : Int) (x3_1 : Int), v0 = .int .i64 x0_1 ∧ v3 = .int .i64 x3_1 ∧ Aside0 (dancestudioref11_size.l0 kq x0_1 x3_1 = some r) ∧ Aside0 (kq ≤ k) ∧ Drawn0 w w')
 case atStart => exact ⟨(a0), (0), (by first | rfl | (simp; done) | (simp [*]; done)), (by first | rfl | (simp; done) | (simp [*]; done)), H', ⟨Nat.le_refl _⟩, by repeat (first | exact Drawn0.refl _ | apply Drawn0.step)⟩
 case round =>
  clear H'
  obtain ⟨x0_1, x3_1, rfl, rfl, HA, HK1, ⟨m1, rfl⟩⟩ := hrel
  cases gk with
  | zero => exact absurd HA.out (by simp [dancestudioref11_size.l0])
  | succ k1 =>
   have H := HA.out
   clear HA
   simp only [dancestudioref11_size.l0] at H
   by_cases c2 : x0_1 > 0
   ·
    rw [if_pos c2] at H
    have c2b0 : decide (0 < x0_1) = true := decide_eq_true c2
    clear c2
    have H' := Aside0.mk H
    clear H
    go_wp2
    go_roundg k1
    case measure => have := HK1.out; omega
    case rel => exact ⟨(wrap64 (Int.tdiv x0_1 2)), (wrap64 (x3_1 + (Int.tmod x0_1 2))), (by first | rfl | (simp; done) | (simp [*]; done)), (by first | rfl | (simp; done) | (simp [*]; done)), H', ⟨by have := HK1.out; omega⟩, by repeat (first | exact Drawn0.refl _ | apply Drawn0.step)⟩
   ·
    rw [if_neg c2] at H
    have c2b0 : decide (0 < x0_1) = false := decide_eq_false c2
    clear c2
    obtain rfl := Option.some.inj H
    go_wp2
    go_ret
    exact ⟨by first | rfl | (simp; done) | (simp [*]; done), by repeat (first | exact Drawn0.refl _ | apply Drawn0.step)⟩
end Go.Proofs.Ytbmflpflmjfabaa.PAll
