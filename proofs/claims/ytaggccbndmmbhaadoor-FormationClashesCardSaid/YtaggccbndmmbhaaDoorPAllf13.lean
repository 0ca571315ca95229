-- Written by wip/tools/handprint.py: walks of the functions that the law reaches; Lean checks them.
import Derived.Test.YtaggccbndmmbhaaDoorBase
import Derived.Test.YtaggccbndmmbhaaDoorPAllf11
import Derived.Test.YtaggccbndmmbhaaDoorPAllf15
import Derived.Test.YtaggccbndmmbhaaDoorPAllf18
import Derived.Test.YtaggccbndmmbhaaDoorPAllf21
import Derived.Test.YtaggccbndmmbhaaDoorPAllf23
import Derived.Test.YtaggccbndmmbhaaDoorPAllf25
namespace Go.Proofs.YtaggccbndmmbhaaDoor.PAll
open Go.RowKit Go.Proofs.YtaggccbndmmbhaaDoorW.PrintWords Go.Proofs.YtaggccbndmmbhaaDoorW.PrintLast Go.Proofs.YtaggccbndmmbhaaDoorW.PrintMore
attribute [local go_sem] max2_int min2_int max_two min_two max_three min_three max_four min_four   -- for this text's walks alone
set_option linter.unusedVariables false
set_option linter.unusedSimpArgs false
attribute [local go_sem high] eqA52

/-! ### dancestudiolaw45_awake: function 13 -/
mutual
def dancestudiolaw45_awake.j0 : Nat → List (S52) → Bool → Option (Bool)
 | 0, _, _ => none
 | k + 1, x1, x64 => if x64 = true then (none) else ((dancestudiolaw45_row.f).bind fun bt458 => ((formation_Ways.f k bt458.1 bt458.2 x1 30).bind fun bt462 => ((dancestudiolaw45_row.f).bind fun bt466 => ((formation_Ways.f k bt466.1 bt466.2 x1 51).bind fun bt470 => ((formation_Clash.f k bt462.1).bind fun bt474 => ((formation_Clash.f k bt470.1).bind fun bt477 => (if bt462.2 = 0 then (if bt470.2 = 0 then (if bt474.2.2 = 0 then (if bt477.2.2 = 0 then (if (bt462.1.length : Int) = 3 then (if 1 < (bt462.1.length : Int) then (if (!(((rd_T55 bt462.1 1).f1.f0) == 0) || (!(((rd_T55 bt462.1 1).f1.f1) == 0))) = true then (dancestudiolaw45_awake.j1 k true) else (if bt474.1 = (-1) then (if bt474.2.1 = (-1) then (if bt477.1 = 0 then (dancestudiolaw45_awake.j1 k (bt477.2.1 != 2)) else (dancestudiolaw45_awake.j1 k true)) else (dancestudiolaw45_awake.j1 k true)) else (dancestudiolaw45_awake.j1 k true))) else (none)) else (dancestudiolaw45_awake.j1 k true)) else (dancestudiolaw45_awake.j1 k true)) else (dancestudiolaw45_awake.j1 k true)) else (dancestudiolaw45_awake.j1 k true)) else (dancestudiolaw45_awake.j1 k true))))))))
def dancestudiolaw45_awake.j1 : Nat → Bool → Option (Bool)
 | 0, _ => none
 | k + 1, x131 => if x131 = true then (none) else ((dancestudiolaw45_row.f).bind fun bt481 => ((formation_Rotate.f k bt481.1 bt481.2 1).bind fun bt485 => ((dancestudiolaw45_row.f).bind fun bt491 => ((formation_Mirror.f k bt491.1 bt491.2).bind fun bt495 => (if bt485.2.2 = 0 then (if bt495.2.2 = 0 then ((dancestudioref45_Same.f k bt485.1 bt485.2.1 (⟨#[114, 111, 119]⟩ : ByteArray) (([(⟨0, 0⟩ : S52), (⟨0, (-100)⟩ : S52), (⟨0, (-200)⟩ : S52)] : List (S52)))).bind fun t504 => (if t504 = true then ((dancestudioref45_Same.f k bt495.1 bt495.2.1 (⟨#[114, 111, 119]⟩ : ByteArray) (([(⟨0, 0⟩ : S52), (⟨(-100), 0⟩ : S52), (⟨(-200), 0⟩ : S52)] : List (S52)))).bind fun t508 => (if t508 = true then ((formation_Check.f k (⟨#[114, 111, 119]⟩ : ByteArray) ([] : List (S52))).bind fun t509 => (some (t509 == 4))) else (none))) else (none))) else (none)) else (none))))))
end
def dancestudiolaw45_awake.f (k : Nat)  : Option (Bool) := (some (([(⟨210, 0⟩ : S52), (⟨0, 10⟩ : S52), (⟨90, 0⟩ : S52)] : List (S52)) : List (S52))).bind fun y426 => ((dancestudiolaw45_row.f).bind fun bt429 => ((formation_Fit.f k bt429.1 bt429.2 y426).bind fun bt433 => ((dancestudiolaw45_row.f).bind fun bt438 => ((formation_Fit.f k bt438.1 bt438.2 (([(⟨50, 0⟩ : S52), (⟨50, 0⟩ : S52), (⟨200, 0⟩ : S52)] : List (S52)))).bind fun bt445 => (if bt433.2.2 = 0 then (if bt445.2.2 = 0 then (if bt433.2.1 = 300 then (if bt445.2.1 = 5000 then ((dancestudioref45_Ints.f k bt433.1 (([2, 0, 1] : List Int))).bind fun t453 => (if t453 = true then ((dancestudioref45_Ints.f k bt445.1 (([0, 1, 2] : List Int))).bind fun t457 => (dancestudiolaw45_awake.j0 k y426 (!t457))) else (dancestudiolaw45_awake.j0 k y426 true))) else (dancestudiolaw45_awake.j0 k y426 true)) else (dancestudiolaw45_awake.j0 k y426 true)) else (dancestudiolaw45_awake.j0 k y426 true)) else (dancestudiolaw45_awake.j0 k y426 true))))))
set_option maxHeartbeats 8000000 in
set_option maxRecDepth 100000 in
theorem dancestudiolaw45_awake.calls (k : Nat)  (r : Bool) (w : World) (hmx : Mx w) (h : dancestudiolaw45_awake.f k  = some r) :
  Calls Tryd.prog 13 #[] w fun e w' => e = .returned (.bool r) ∧ Below w.heap.size w w' := by
 have HMX_ := Aside0.mk hmx
 clear hmx
 have hu52 := Tryd.underlying52
 have hu24 := Tryd.underlying24
 have HB := Aside0.mk (Below.refl w.heap.size w)
 have H := h
 unfold dancestudiolaw45_awake.f at H
 clear h
 obtain ⟨y426, hy426⟩ : ∃ y_ : List (S52), y_ = (([(⟨210, 0⟩ : S52), (⟨0, 10⟩ : S52), (⟨90, 0⟩ : S52)] : List (S52))) := ⟨_, rfl⟩
 replace H : ((dancestudiolaw45_row.f).bind fun bt429 => ((formation_Fit.f k bt429.1 bt429.2 y426).bind fun bt433 => ((dancestudiolaw45_row.f).bind fun bt438 => ((formation_Fit.f k bt438.1 bt438.2 (([(⟨50, 0⟩ : S52), (⟨50, 0⟩ : S52), (⟨200, 0⟩ : S52)] : List (S52)))).bind fun bt445 => (if bt433.2.2 = 0 then (if bt445.2.2 = 0 then (if bt433.2.1 = 300 then (if bt445.2.1 = 5000 then ((dancestudioref45_Ints.f k bt433.1 (([2, 0, 1] : List Int))).bind fun t453 => (if t453 = true then ((dancestudioref45_Ints.f k bt445.1 (([0, 1, 2] : List Int))).bind fun t457 => (dancestudiolaw45_awake.j0 k y426 (!t457))) else (dancestudiolaw45_awake.j0 k y426 true))) else (dancestudiolaw45_awake.j0 k y426 true)) else (dancestudiolaw45_awake.j0 k y426 true)) else (dancestudiolaw45_awake.j0 k y426 true)) else (dancestudiolaw45_awake.j0 k y426 true)))))) = some r := by first | (rw [hy426]; with_reducible exact H) | (have H2_ := (Option.bind_some _ _).symm.trans H; rw [hy426]; with_reducible exact H2_) | (have H2_ := (Option.bind_some _ _).symm.trans H; with_reducible exact H2_) | with_reducible exact H | (rw [hy426]; exact H) | exact H
 have Ny426 := Aside0.mk hy426
 clear hy426
 replace H := Option.bind_eq_some_iff.mp H
 obtain ⟨⟨t429, t430⟩, A10, H⟩ := H
 replace H : ((formation_Fit.f k t429 t430 y426).bind fun bt433 => ((dancestudiolaw45_row.f).bind fun bt438 => ((formation_Fit.f k bt438.1 bt438.2 (([(⟨50, 0⟩ : S52), (⟨50, 0⟩ : S52), (⟨200, 0⟩ : S52)] : List (S52)))).bind fun bt445 => (if bt433.2.2 = 0 then (if bt445.2.2 = 0 then (if bt433.2.1 = 300 then (if bt445.2.1 = 5000 then ((dancestudioref45_Ints.f k bt433.1 (([2, 0, 1] : List Int))).bind fun t453 => (if t453 = true then ((dancestudioref45_Ints.f k bt445.1 (([0, 1, 2] : List Int))).bind fun t457 => (dancestudiolaw45_awake.j0 k y426 (!t457))) else (dancestudiolaw45_awake.j0 k y426 true))) else (dancestudiolaw45_awake.j0 k y426 true)) else (dancestudiolaw45_awake.j0 k y426 true)) else (dancestudiolaw45_awake.j0 k y426 true)) else (dancestudiolaw45_awake.j0 k y426 true))))) = some r := H
 have A1 := Aside0.mk A10
 clear A10
 replace H := Option.bind_eq_some_iff.mp H
 obtain ⟨⟨t433, t436, t437⟩, A20, H⟩ := H
 replace H : ((dancestudiolaw45_row.f).bind fun bt438 => ((formation_Fit.f k bt438.1 bt438.2 (([(⟨50, 0⟩ : S52), (⟨50, 0⟩ : S52), (⟨200, 0⟩ : S52)] : List (S52)))).bind fun bt445 => (if t437 = 0 then (if bt445.2.2 = 0 then (if t436 = 300 then (if bt445.2.1 = 5000 then ((dancestudioref45_Ints.f k t433 (([2, 0, 1] : List Int))).bind fun t453 => (if t453 = true then ((dancestudioref45_Ints.f k bt445.1 (([0, 1, 2] : List Int))).bind fun t457 => (dancestudiolaw45_awake.j0 k y426 (!t457))) else (dancestudiolaw45_awake.j0 k y426 true))) else (dancestudiolaw45_awake.j0 k y426 true)) else (dancestudiolaw45_awake.j0 k y426 true)) else (dancestudiolaw45_awake.j0 k y426 true)) else (dancestudiolaw45_awake.j0 k y426 true)))) = some r := H
 have A2 := Aside0.mk A20
 clear A20
 replace H := Option.bind_eq_some_iff.mp H
 obtain ⟨⟨t438, t439⟩, A30, H⟩ := H
 replace H : ((formation_Fit.f k t438 t439 (([(⟨50, 0⟩ : S52), (⟨50, 0⟩ : S52), (⟨200, 0⟩ : S52)] : List (S52)))).bind fun bt445 => (if t437 = 0 then (if bt445.2.2 = 0 then (if t436 = 300 then (if bt445.2.1 = 5000 then ((dancestudioref45_Ints.f k t433 (([2, 0, 1] : List Int))).bind fun t453 => (if t453 = true then ((dancestudioref45_Ints.f k bt445.1 (([0, 1, 2] : List Int))).bind fun t457 => (dancestudiolaw45_awake.j0 k y426 (!t457))) else (dancestudiolaw45_awake.j0 k y426 true))) else (dancestudiolaw45_awake.j0 k y426 true)) else (dancestudiolaw45_awake.j0 k y426 true)) else (dancestudiolaw45_awake.j0 k y426 true)) else (dancestudiolaw45_awake.j0 k y426 true))) = some r := H
 have A3 := Aside0.mk A30
 clear A30
 obtain ⟨y442, hy442⟩ : ∃ y_ : List (S52), y_ = (([(⟨50, 0⟩ : S52), (⟨50, 0⟩ : S52), (⟨200, 0⟩ : S52)] : List (S52))) := ⟨_, rfl⟩
 replace H : ((formation_Fit.f k t438 t439 y442).bind fun bt445 => (if t437 = 0 then (if bt445.2.2 = 0 then (if t436 = 300 then (if bt445.2.1 = 5000 then ((dancestudioref45_Ints.f k t433 (([2, 0, 1] : List Int))).bind fun t453 => (if t453 = true then ((dancestudioref45_Ints.f k bt445.1 (([0, 1, 2] : List Int))).bind fun t457 => (dancestudiolaw45_awake.j0 k y426 (!t457))) else (dancestudiolaw45_awake.j0 k y426 true))) else (dancestudiolaw45_awake.j0 k y426 true)) else (dancestudiolaw45_awake.j0 k y426 true)) else (dancestudiolaw45_awake.j0 k y426 true)) else (dancestudiolaw45_awake.j0 k y426 true))) = some r := by first | (rw [hy442]; with_reducible exact H) | (have H2_ := (Option.bind_some _ _).symm.trans H; rw [hy442]; with_reducible exact H2_) | (have H2_ := (Option.bind_some _ _).symm.trans H; with_reducible exact H2_) | with_reducible exact H | (rw [hy442]; exact H) | exact H
 have Ny442 := Aside0.mk hy442
 clear hy442
 replace H := Option.bind_eq_some_iff.mp H
 obtain ⟨⟨t445, t448, t449⟩, A40, H⟩ := H
 replace H : (if t437 = 0 then (if t449 = 0 then (if t436 = 300 then (if t448 = 5000 then ((dancestudioref45_Ints.f k t433 (([2, 0, 1] : List Int))).bind fun t453 => (if t453 = true then ((dancestudioref45_Ints.f k t445 (([0, 1, 2] : List Int))).bind fun t457 => (dancestudiolaw45_awake.j0 k y426 (!t457))) else (dancestudiolaw45_awake.j0 k y426 true))) else (dancestudiolaw45_awake.j0 k y426 true)) else (dancestudiolaw45_awake.j0 k y426 true)) else (dancestudiolaw45_awake.j0 k y426 true)) else (dancestudiolaw45_awake.j0 k y426 true)) = some r := H
 have A4 := Aside0.mk A40
 clear A40
 have HC5 := Aside0.mk H
 clear H
 go_enter Tryd.func13, Tryd.ntmps13
 go_upto_region 4 with (first | ((with_reducible refine gate_dst (N := 21) rfl ?_); (try (refine gate_guard (by rfl) ?_; dsimp only)); refine Kd.R_lit k52 _ 52 ?hg (N := 21) ?hd (xs := ([(⟨210, 0⟩ : S52), (⟨0, 10⟩ : S52), (⟨90, 0⟩ : S52)] : List (S52))) (inner := [.int .i64 210, .int .i64 0, .int .i64 0, .int .i64 10, .int .i64 90, .int .i64 0]) (ok := fun _ => True) (okp := fun _ => True) ?hr ?hp (fun _ hk => hk) trivial (Below.refl _ _) (Nat.le_refl _) (by simp) ?_; (case hd => rfl); (case hg => rfl); (case hr => first | (go_simp; done) | (go_simp; rfl)); (case hp => exact (Reps.c2 (show Kd.M k52 _ _ _ (⟨210, 0⟩ : S52) [.int .i64 210, .int .i64 0] from (k52_mkM _ _ _ (⟨210, 0⟩ : S52) )) (Reps.c2 (show Kd.M k52 _ _ _ (⟨0, 10⟩ : S52) [.int .i64 0, .int .i64 10] from (k52_mkM _ _ _ (⟨0, 10⟩ : S52) )) (Reps.c2 (show Kd.M k52 _ _ _ (⟨90, 0⟩ : S52) [.int .i64 90, .int .i64 0] from (k52_mkM _ _ _ (⟨90, 0⟩ : S52) )) (Reps.none _ _))))); intro v427 w6 ho7 hb hg_ hnew_; clear hg_ hnew_; (first | rw [← Ny426.out] at ho7 | (simp only [Int.reduceToNat] at ho7; rw [← Ny426.out] at ho7)); have n0_ := Aside0.mk (Kd.R_lower ho7 (below_size (hO HB))); have n1_ := mSx HB hb; clear HB; have HO428 := n0_; have HB := n1_; clear n0_ n1_; clear hb ho7) | ((with_reducible refine gate_callee (f := 34) rfl ?_); refine goesL_ (some 23) rfl rfl Tryd.func34 (by kernel_rfl) rfl #[] rfl (mA0) ?_; (with_reducible refine (dancestudiolaw45_row.calls  t429 t430 _ A1.out).mono ?_); rintro e w8 ⟨v431, rfl, ho0, hb⟩; refine ⟨_, rfl, ?_⟩; have n0_ := Aside0.mk (Kd.R_elder' (rO HO428) (Kd.R_base ho0) hb); have n1_ := Aside0.mk (Kd.R_lower (Kd.R_new' ho0 (Kd.R_lt (rO HO428))) (below_size (hO HB))); have n2_ := mSx HB hb; clear HO428; clear HB; have HO428 := n0_; have HO432 := n1_; have HB := n2_; clear n0_ n1_ n2_; (try clear hb); (try clear hb2); (try clear hk); (try clear hi); (try clear ho0); obtain ⟨Ao9, co9, eo9⟩ := Kd.R_slice HO432.out; subst eo9; obtain ⟨Ao10, co10, eo10⟩ := Kd.R_slice HO428.out; subst eo10) | ((with_reducible refine gate_callee (f := 15) rfl ?_); refine goesL_ (some 25) rfl rfl Tryd.func15 (by kernel_rfl) rfl #[.agg #[.string t429, .slice Ao9 t430.length co9], .slice Ao10 y426.length co10] rfl (mA2 rfl rfl) ?_; (with_reducible refine (formation_Fit.calls k t429 _ _ t430 _ _ y426 t433 t436 t437 _ ((Kd.R_reads' HO432.out).2.2) ((Kd.R_reads' HO432.out).2.1) ((Kd.R_reads' HO428.out).2.2) ((Kd.R_reads' HO428.out).2.1) (Mx.below HMX_.out HB.out) A2.out).mono ?_); rintro e w11 ⟨v434, rfl, ho0, hb⟩; refine ⟨_, rfl, ?_⟩; have n0_ := Aside0.mk (Kd.R_below (rO HO428) hb); have n1_ := Aside0.mk (Kd.R_below (rO HO432) hb); have n2_ := Aside0.mk (Kd.R_lower ho0 (below_size (hO HB))); have n3_ := mSx HB hb; clear HO428; clear HO432; clear HB; have HO428 := n0_; have HO432 := n1_; have HO435 := n2_; have HB := n3_; clear n0_ n1_ n2_ n3_; (try clear hb); (try clear hb2); (try clear hk); (try clear hi); (try clear ho0)) | ((with_reducible refine gate_callee (f := 34) rfl ?_); refine goesL_ (some 30) rfl rfl Tryd.func34 (by kernel_rfl) rfl #[] rfl (mA0) ?_; (with_reducible refine (dancestudiolaw45_row.calls  t438 t439 _ A3.out).mono ?_); rintro e w12 ⟨v440, rfl, ho0, hb⟩; refine ⟨_, rfl, ?_⟩; have n0_ := Aside0.mk (Kd.R_elder' (rO HO428) (Kd.R_base ho0) hb); have n1_ := Aside0.mk (Kd.R_elder' (rO HO432) (Kd.R_base ho0) hb); have n2_ := Aside0.mk (Kd.R_below (rO HO435) hb); have n3_ := Aside0.mk (Kd.R_lower (Kd.R_new' (Kd.R_new' ho0 (Kd.R_lt (rO HO428))) (Kd.R_lt (rO HO432))) (below_size (hO HB))); have n4_ := mSx HB hb; clear HO428; clear HO432; clear HO435; clear HB; have HO428 := n0_; have HO432 := n1_; have HO435 := n2_; have HO441 := n3_; have HB := n4_; clear n0_ n1_ n2_ n3_ n4_; (try clear hb); (try clear hb2); (try clear hk); (try clear hi); (try clear ho0)) | ((with_reducible refine gate_dst (N := 34) rfl ?_); (try (refine gate_guard (by rfl) ?_; dsimp only)); refine Kd.R_lit k52 _ 52 ?hg (N := 34) ?hd (xs := ([(⟨50, 0⟩ : S52), (⟨50, 0⟩ : S52), (⟨200, 0⟩ : S52)] : List (S52))) (inner := [.int .i64 50, .int .i64 0, .int .i64 50, .int .i64 0, .int .i64 200, .int .i64 0]) (ok := fun _ => True) (okp := fun _ => True) ?hr ?hp (fun _ hk => hk) trivial (Below.refl _ _) (Nat.le_refl _) (by simp) ?_; (case hd => rfl); (case hg => rfl); (case hr => first | (go_simp; done) | (go_simp; rfl)); (case hp => exact (Reps.c2 (show Kd.M k52 _ _ _ (⟨50, 0⟩ : S52) [.int .i64 50, .int .i64 0] from (k52_mkM _ _ _ (⟨50, 0⟩ : S52) )) (Reps.c2 (show Kd.M k52 _ _ _ (⟨50, 0⟩ : S52) [.int .i64 50, .int .i64 0] from (k52_mkM _ _ _ (⟨50, 0⟩ : S52) )) (Reps.c2 (show Kd.M k52 _ _ _ (⟨200, 0⟩ : S52) [.int .i64 200, .int .i64 0] from (k52_mkM _ _ _ (⟨200, 0⟩ : S52) )) (Reps.none _ _))))); intro v443 w13 ho14 hb hg_ hnew_; clear hg_ hnew_; (first | rw [← Ny442.out] at ho14 | (simp only [Int.reduceToNat] at ho14; rw [← Ny442.out] at ho14)); have n0_ := Aside0.mk (Kd.R_elder' (rO HO428) (Kd.R_base ho14) hb); have n1_ := Aside0.mk (Kd.R_elder' (rO HO432) (Kd.R_base ho14) hb); have n2_ := Aside0.mk (Kd.R_below (rO HO435) hb); have n3_ := Aside0.mk (Kd.R_elder' (rO HO441) (Kd.R_base ho14) hb); have n4_ := Aside0.mk (Kd.R_lower (Kd.R_new' (Kd.R_new' (Kd.R_new' ho14 (Kd.R_lt (rO HO428))) (Kd.R_lt (rO HO432))) (Kd.R_lt (rO HO441))) (below_size (hO HB))); have n5_ := mSx HB hb; clear HO428; clear HO432; clear HO435; clear HO441; clear HB; have HO428 := n0_; have HO432 := n1_; have HO435 := n2_; have HO441 := n3_; have HO444 := n4_; have HB := n5_; clear n0_ n1_ n2_ n3_ n4_ n5_; clear hb ho14; obtain ⟨Ao15, co15, eo15⟩ := Kd.R_slice HO441.out; subst eo15; obtain ⟨Ao16, co16, eo16⟩ := Kd.R_slice HO444.out; subst eo16) | ((with_reducible refine gate_callee (f := 15) rfl ?_); refine goesL_ (some 35) rfl rfl Tryd.func15 (by kernel_rfl) rfl #[.agg #[.string t438, .slice Ao15 t439.length co15], .slice Ao16 y442.length co16] rfl (mA2 rfl rfl) ?_; (with_reducible refine (formation_Fit.calls k t438 _ _ t439 _ _ y442 t445 t448 t449 _ ((Kd.R_reads' HO441.out).2.2) ((Kd.R_reads' HO441.out).2.1) ((Kd.R_reads' HO444.out).2.2) ((Kd.R_reads' HO444.out).2.1) (Mx.below HMX_.out HB.out) A4.out).mono ?_); rintro e w17 ⟨v446, rfl, ho0, hb⟩; refine ⟨_, rfl, ?_⟩; have n0_ := Aside0.mk (Kd.R_below (rO HO428) hb); have n1_ := Aside0.mk (Kd.R_below (rO HO432) hb); have n2_ := Aside0.mk (Kd.R_elder' (rO HO435) (Kd.R_base ho0) hb); have n3_ := Aside0.mk (Kd.R_below (rO HO441) hb); have n4_ := Aside0.mk (Kd.R_below (rO HO444) hb); have n5_ := Aside0.mk (Kd.R_lower (Kd.R_new' ho0 (Kd.R_lt (rO HO435))) (below_size (hO HB))); have n6_ := mSx HB hb; clear HO428; clear HO432; clear HO435; clear HO441; clear HO444; clear HB; have HO428 := n0_; have HO432 := n1_; have HO435 := n2_; have HO441 := n3_; have HO444 := n4_; have HO447 := n5_; have HB := n6_; clear n0_ n1_ n2_ n3_ n4_ n5_ n6_; (try clear hb); (try clear hb2); (try clear hk); (try clear hi); (try clear ho0)))
 (try simp only [Act.put, List.setIfInBounds_toArray, List.set_cons_zero, List.set_cons_succ])
 go_cut [64] (fun v64 wc => ∃ (kq : Nat) (x64_4 : Bool), v64 = .bool x64_4 ∧ Aside0 (dancestudiolaw45_awake.j0 kq y426 x64_4 = some r) ∧ Aside0 (kq ≤ k) ∧ Aside0 (Kd.R k52 52 wc w.heap.size (fun _ => True) (.slice Ao10 y426.length co10) y426) ∧ Aside0 (Below w.heap.size w wc))
 case first =>
  have H := HC5.out
  clear HC5
  by_cases c18 : t437 = 0
  rotate_left
  ·
   rw [if_neg c18] at H
   have c18b0 := beq_eq_false_iff_ne.mpr c18
   have c18b1 := bne_iff_ne.mpr c18
   (first | rw [c18b0] | (simp only [i64_w, i32_w]; rw [c18b0]) | skip)
   have H' := Aside0.mk H
   clear H
   go_wp2
   go_meet
   case rel => exact ⟨_, (true), rfl, H', ⟨by first | omega | exact Nat.le_refl _⟩, ⟨Kd.R_mono HO428.out (fun _ hk => trivial)⟩, ⟨HB.out⟩⟩
  rw [if_pos c18] at H
  have c18b0 := beq_iff_eq.mpr c18
  have c18b1 := bne_eq_false_iff_eq.mpr c18
  clear c18
  (first | rw [c18b0] | (simp only [i64_w, i32_w]; rw [c18b0]) | skip)
  by_cases c19 : t449 = 0
  rotate_left
  ·
   rw [if_neg c19] at H
   have c19b0 := beq_eq_false_iff_ne.mpr c19
   have c19b1 := bne_iff_ne.mpr c19
   have H' := Aside0.mk H
   clear H
   go_wp2
   go_meet
   case rel => exact ⟨_, (true), rfl, H', ⟨by first | omega | exact Nat.le_refl _⟩, ⟨Kd.R_mono HO428.out (fun _ hk => trivial)⟩, ⟨HB.out⟩⟩
  rw [if_pos c19] at H
  have c19b0 := beq_iff_eq.mpr c19
  have c19b1 := bne_eq_false_iff_eq.mpr c19
  clear c19
  by_cases c20 : t436 = 300
  rotate_left
  ·
   rw [if_neg c20] at H
   have c20b0 := beq_eq_false_iff_ne.mpr c20
   have c20b1 := bne_iff_ne.mpr c20
   have H' := Aside0.mk H
   clear H
   go_wp2
   go_meet
   case rel => exact ⟨_, (true), rfl, H', ⟨by first | omega | exact Nat.le_refl _⟩, ⟨Kd.R_mono HO428.out (fun _ hk => trivial)⟩, ⟨HB.out⟩⟩
  rw [if_pos c20] at H
  have c20b0 := beq_iff_eq.mpr c20
  have c20b1 := bne_eq_false_iff_eq.mpr c20
  clear c20
  by_cases c21 : t448 = 5000
  rotate_left
  ·
   rw [if_neg c21] at H
   have c21b0 := beq_eq_false_iff_ne.mpr c21
   have c21b1 := bne_iff_ne.mpr c21
   have H' := Aside0.mk H
   clear H
   go_wp2
   go_meet
   case rel => exact ⟨_, (true), rfl, H', ⟨by first | omega | exact Nat.le_refl _⟩, ⟨Kd.R_mono HO428.out (fun _ hk => trivial)⟩, ⟨HB.out⟩⟩
  rw [if_pos c21] at H
  have c21b0 := beq_iff_eq.mpr c21
  have c21b1 := bne_eq_false_iff_eq.mpr c21
  clear c21
  obtain ⟨y450, hy450⟩ : ∃ y_ : List Int, y_ = (([2, 0, 1] : List Int)) := ⟨_, rfl⟩
  rw [← hy450] at H
  have Ny450 := Aside0.mk hy450
  clear hy450
  replace H := Option.bind_eq_some_iff.mp H
  obtain ⟨t453, A220, H⟩ := H
  try dsimp only at H
  have A22 := Aside0.mk A220
  clear A220
  by_cases c23 : t453 = true
  rotate_left
  ·
   replace c23 := Bool.eq_false_iff.mpr c23
   subst c23
   rw [if_neg (show ¬ (false = true) by decide)] at H
   have H' := Aside0.mk H
   clear H
   go_wp2_with (first | ((with_reducible refine gate_dst (N := 55) rfl ?_); (try (refine gate_guard (by rfl) ?_; dsimp only)); refine Kd.R_lit (Kd.int .i64) _ 3 ?hg (N := 55) ?hd (xs := ([2, 0, 1] : List Int)) (inner := [.int .i64 2, .int .i64 0, .int .i64 1]) (ok := fun _ => True) (okp := fun _ => True) ?hr ?hp (fun _ hk => hk) trivial (Below.refl _ _) (Nat.le_refl _) (by simp) ?_; (case hd => rfl); (case hg => rfl); (case hr => first | (go_simp; done) | (go_simp; rfl)); (case hp => exact (Reps.one (show Kd.M (Kd.int .i64) _ _ _ 2 [.int .i64 2] from rfl) (Reps.one (show Kd.M (Kd.int .i64) _ _ _ 0 [.int .i64 0] from rfl) (Reps.one (show Kd.M (Kd.int .i64) _ _ _ 1 [.int .i64 1] from rfl) (Reps.none _ _))))); intro v451 w33 ho34 hb hg_ hnew_; clear hg_ hnew_; (first | rw [← Ny450.out] at ho34 | (simp only [Int.reduceToNat] at ho34; rw [← Ny450.out] at ho34)); replace HO428 := Aside0.mk (Kd.R_below HO428.out hb); replace HO432 := Aside0.mk (Kd.R_below HO432.out hb); replace HO441 := Aside0.mk (Kd.R_below HO441.out hb); replace HO444 := Aside0.mk (Kd.R_below HO444.out hb); have HO452 := Aside0.mk (Kd.R_lower (Kd.R_new' (Kd.R_new' ho34 (Kd.R_lt HO435.out)) (Kd.R_lt HO447.out)) (below_size HB.out)); replace HO435 := Aside0.mk (Kd.R_elder' HO435.out (Kd.R_base ho34) hb); replace HO447 := Aside0.mk (Kd.R_elder' HO447.out (Kd.R_base ho34) hb); replace HB := mSt HB hb; clear hb ho34; obtain ⟨Ao35, co35, eo35⟩ := Kd.R_slice HO435.out; subst eo35; obtain ⟨Ao36, co36, eo36⟩ := Kd.R_slice HO452.out; subst eo36) | (go_at_call 17; (with_reducible refine (dancestudioref45_Ints.calls k _ _ t433 _ _ y450 false _ ((Kd.R_reads' HO435.out).2.2) ((Kd.R_reads' HO435.out).2.1) ((Kd.R_reads' HO452.out).2.2) ((Kd.R_reads' HO452.out).2.1) A22.out).mono ?_); rintro e w' ⟨rfl, ⟨nd, rfl⟩⟩))
   go_meet
   case rel => exact ⟨_, (true), rfl, H', ⟨by first | omega | exact Nat.le_refl _⟩, ⟨Kd.R_mono HO428.out (fun _ hk => trivial)⟩, ⟨hO HB⟩⟩
  subst c23
  rw [if_pos rfl] at H
  obtain ⟨y454, hy454⟩ : ∃ y_ : List Int, y_ = (([0, 1, 2] : List Int)) := ⟨_, rfl⟩
  rw [← hy454] at H
  have Ny454 := Aside0.mk hy454
  clear hy454
  replace H := Option.bind_eq_some_iff.mp H
  obtain ⟨t457, A240, H⟩ := H
  try dsimp only at H
  have A24 := Aside0.mk A240
  clear A240
  have H' := Aside0.mk H
  clear H
  go_wp2_with (first | ((with_reducible refine gate_dst (N := 55) rfl ?_); (try (refine gate_guard (by rfl) ?_; dsimp only)); refine Kd.R_lit (Kd.int .i64) _ 3 ?hg (N := 55) ?hd (xs := ([2, 0, 1] : List Int)) (inner := [.int .i64 2, .int .i64 0, .int .i64 1]) (ok := fun _ => True) (okp := fun _ => True) ?hr ?hp (fun _ hk => hk) trivial (Below.refl _ _) (Nat.le_refl _) (by simp) ?_; (case hd => rfl); (case hg => rfl); (case hr => first | (go_simp; done) | (go_simp; rfl)); (case hp => exact (Reps.one (show Kd.M (Kd.int .i64) _ _ _ 2 [.int .i64 2] from rfl) (Reps.one (show Kd.M (Kd.int .i64) _ _ _ 0 [.int .i64 0] from rfl) (Reps.one (show Kd.M (Kd.int .i64) _ _ _ 1 [.int .i64 1] from rfl) (Reps.none _ _))))); intro v451 w25 ho26 hb hg_ hnew_; clear hg_ hnew_; (first | rw [← Ny450.out] at ho26 | (simp only [Int.reduceToNat] at ho26; rw [← Ny450.out] at ho26)); replace HO428 := Aside0.mk (Kd.R_below (rO HO428) hb); replace HO432 := Aside0.mk (Kd.R_below (rO HO432) hb); replace HO441 := Aside0.mk (Kd.R_below (rO HO441) hb); replace HO444 := Aside0.mk (Kd.R_below (rO HO444) hb); have HO452 := Aside0.mk (Kd.R_lower (Kd.R_new' (Kd.R_new' ho26 (Kd.R_lt (rO HO435))) (Kd.R_lt (rO HO447))) (below_size (hO HB))); replace HO435 := Aside0.mk (Kd.R_elder' (rO HO435) (Kd.R_base ho26) hb); replace HO447 := Aside0.mk (Kd.R_elder' (rO HO447) (Kd.R_base ho26) hb); replace HB := mSx HB hb; clear hb ho26; obtain ⟨Ao27, co27, eo27⟩ := Kd.R_slice HO435.out; subst eo27; obtain ⟨Ao28, co28, eo28⟩ := Kd.R_slice HO452.out; subst eo28) | (go_at_call 17; (with_reducible refine (dancestudioref45_Ints.calls k _ _ t433 _ _ y450 true _ ((Kd.R_reads' HO435.out).2.2) ((Kd.R_reads' HO435.out).2.1) ((Kd.R_reads' HO452.out).2.2) ((Kd.R_reads' HO452.out).2.1) A22.out).mono ?_); rintro e w' ⟨rfl, ⟨nd, rfl⟩⟩) | ((with_reducible refine gate_dst (N := 61) rfl ?_); (try (refine gate_guard (by rfl) ?_; dsimp only)); refine Kd.R_lit (Kd.int .i64) _ 3 ?hg (N := 61) ?hd (xs := ([0, 1, 2] : List Int)) (inner := [.int .i64 0, .int .i64 1, .int .i64 2]) (ok := fun _ => True) (okp := fun _ => True) ?hr ?hp (fun _ hk => hk) trivial (Below.refl _ _) (Nat.le_refl _) (by simp) ?_; (case hd => rfl); (case hg => rfl); (case hr => first | (go_simp; done) | (go_simp; rfl)); (case hp => exact (Reps.one (show Kd.M (Kd.int .i64) _ _ _ 0 [.int .i64 0] from rfl) (Reps.one (show Kd.M (Kd.int .i64) _ _ _ 1 [.int .i64 1] from rfl) (Reps.one (show Kd.M (Kd.int .i64) _ _ _ 2 [.int .i64 2] from rfl) (Reps.none _ _))))); intro v455 w29 ho30 hb hg_ hnew_; clear hg_ hnew_; (first | rw [← Ny454.out] at ho30 | (simp only [Int.reduceToNat] at ho30; rw [← Ny454.out] at ho30)); replace HO428 := Aside0.mk (Kd.R_below (rO HO428) hb); replace HO432 := Aside0.mk (Kd.R_below (rO HO432) hb); replace HO441 := Aside0.mk (Kd.R_below (rO HO441) hb); replace HO444 := Aside0.mk (Kd.R_below (rO HO444) hb); have HO456 := Aside0.mk (Kd.R_lower (Kd.R_new' (Kd.R_new' (Kd.R_new' ho30 (Kd.R_lt (rO HO435))) (Kd.R_lt (rO HO447))) (Kd.R_lt (rO HO452))) (below_size (hO HB))); replace HO435 := Aside0.mk (Kd.R_elder' (rO HO435) (Kd.R_base ho30) hb); replace HO447 := Aside0.mk (Kd.R_elder' (rO HO447) (Kd.R_base ho30) hb); replace HO452 := Aside0.mk (Kd.R_elder' (rO HO452) (Kd.R_base ho30) hb); replace HB := mSx HB hb; clear hb ho30; obtain ⟨Ao31, co31, eo31⟩ := Kd.R_slice HO447.out; subst eo31; obtain ⟨Ao32, co32, eo32⟩ := Kd.R_slice HO456.out; subst eo32) | (go_at_call 17; (with_reducible refine (dancestudioref45_Ints.calls k _ _ t445 _ _ y454 t457 _ ((Kd.R_reads' HO447.out).2.2) ((Kd.R_reads' HO447.out).2.1) ((Kd.R_reads' HO456.out).2.2) ((Kd.R_reads' HO456.out).2.1) A24.out).mono ?_); rintro e w' ⟨rfl, ⟨nd, rfl⟩⟩))
  go_meet
  case rel => exact ⟨_, (!t457), rfl, H', ⟨by first | omega | exact Nat.le_refl _⟩, ⟨Kd.R_mono HO428.out (fun _ hk => trivial)⟩, ⟨hO HB⟩⟩
 case rest =>
  clear HC5; try clear c1; try clear c2; try clear p2; try clear c3; try clear c13; try clear c15; try clear c18; try clear c18b0; try clear c18b1; try clear c19; try clear c19b0; try clear c19b1; try clear c20; try clear c20b0; try clear c20b1; try clear c21; try clear c21b0; try clear c21b1; try clear c23; try clear c34
  obtain ⟨kq, x64_4, rfl, HA, HJ4, HO_1, HB⟩ := hcut
  cases kq with
  | zero => exact absurd HA.out (by simp [dancestudiolaw45_awake.j0])
  | succ kj4 =>
   have H := HA.out
   clear HA
   simp only [dancestudiolaw45_awake.j0] at H
   by_cases c37 : x64_4 = true
   ·
    subst c37
    rw [if_pos rfl] at H
    exact absurd H (by simp)
   replace c37 := Bool.eq_false_iff.mpr c37
   subst c37
   rw [if_neg (show ¬ (false = true) by decide)] at H
   replace H := Option.bind_eq_some_iff.mp H
   obtain ⟨⟨t458, t459⟩, A380, H⟩ := H
   try dsimp only at H
   have A38 := Aside0.mk A380
   clear A380
   replace H := Option.bind_eq_some_iff.mp H
   obtain ⟨⟨t462, t465⟩, A390, H⟩ := H
   try dsimp only at H
   have A39 := Aside0.mk A390
   clear A390
   replace H := Option.bind_eq_some_iff.mp H
   obtain ⟨⟨t466, t467⟩, A400, H⟩ := H
   try dsimp only at H
   have A40 := Aside0.mk A400
   clear A400
   replace H := Option.bind_eq_some_iff.mp H
   obtain ⟨⟨t470, t473⟩, A410, H⟩ := H
   try dsimp only at H
   have A41 := Aside0.mk A410
   clear A410
   replace H := Option.bind_eq_some_iff.mp H
   obtain ⟨⟨t474, t475, t476⟩, A420, H⟩ := H
   try dsimp only at H
   have A42 := Aside0.mk A420
   clear A420
   replace H := Option.bind_eq_some_iff.mp H
   obtain ⟨⟨t477, t478, t479⟩, A430, H⟩ := H
   try dsimp only at H
   have A43 := Aside0.mk A430
   clear A430
   have HC44 := Aside0.mk H
   clear H
   go_upto_region 10 with (first | ((with_reducible refine gate_callee (f := 34) rfl ?_); refine goesL_ (some 66) rfl rfl Tryd.func34 (by kernel_rfl) rfl #[] rfl (mA0) ?_; (with_reducible refine (dancestudiolaw45_row.calls  t458 t459 _ A38.out).mono ?_); rintro e w45 ⟨v460, rfl, ho0, hb⟩; refine ⟨_, rfl, ?_⟩; have HO461 := Aside0.mk (Kd.R_lower (Kd.R_new' ho0 (Kd.R_lt HO_1.out)) (below_size HB.out)); replace HO_1 := Aside0.mk (Kd.R_elder' HO_1.out (Kd.R_base ho0) hb); replace HB := mSt HB hb; (try clear hb); (try clear ho0); obtain ⟨Ao46, co46, eo46⟩ := Kd.R_slice HO461.out; subst eo46) | ((with_reducible refine gate_callee (f := 18) rfl ?_); refine goesL_ (some 68) rfl rfl Tryd.func18 (by kernel_rfl) rfl #[.agg #[.string t458, .slice Ao46 t459.length co46], .slice Ao10 y426.length co10, .int .i64 30] rfl (mA3 rfl rfl rfl) ?_; (with_reducible refine (formation_Ways.calls kj4 t458 _ _ t459 _ _ y426 30 t462 t465 _ ((Kd.R_reads' HO461.out).2.2) ((Kd.R_reads' HO461.out).2.1) ((Kd.R_reads' HO_1.out).2.2) ((Kd.R_reads' HO_1.out).2.1) (Mx.below HMX_.out HB.out) A39.out).mono ?_); rintro e w47 ⟨v463, rfl, ho0, hb⟩; refine ⟨_, rfl, ?_⟩; replace HO_1 := Aside0.mk (Kd.R_below HO_1.out hb); replace HO461 := Aside0.mk (Kd.R_below HO461.out hb); have HO464 := Aside0.mk (Kd.R_lower ho0 (below_size HB.out)); replace HB := mSt HB hb; (try clear hb); (try clear ho0)) | ((with_reducible refine gate_callee (f := 34) rfl ?_); refine goesL_ (some 72) rfl rfl Tryd.func34 (by kernel_rfl) rfl #[] rfl (mA0) ?_; (with_reducible refine (dancestudiolaw45_row.calls  t466 t467 _ A40.out).mono ?_); rintro e w48 ⟨v468, rfl, ho0, hb⟩; refine ⟨_, rfl, ?_⟩; replace HO464 := Aside0.mk (Kd.R_below HO464.out hb); have HO469 := Aside0.mk (Kd.R_lower (Kd.R_new' (Kd.R_new' ho0 (Kd.R_lt HO_1.out)) (Kd.R_lt HO461.out)) (below_size HB.out)); replace HO_1 := Aside0.mk (Kd.R_elder' HO_1.out (Kd.R_base ho0) hb); replace HO461 := Aside0.mk (Kd.R_elder' HO461.out (Kd.R_base ho0) hb); replace HB := mSt HB hb; (try clear hb); (try clear ho0); obtain ⟨Ao49, co49, eo49⟩ := Kd.R_slice HO469.out; subst eo49) | ((with_reducible refine gate_callee (f := 18) rfl ?_); refine goesL_ (some 74) rfl rfl Tryd.func18 (by kernel_rfl) rfl #[.agg #[.string t466, .slice Ao49 t467.length co49], .slice Ao10 y426.length co10, .int .i64 51] rfl (mA3 rfl rfl rfl) ?_; (with_reducible refine (formation_Ways.calls kj4 t466 _ _ t467 _ _ y426 51 t470 t473 _ ((Kd.R_reads' HO469.out).2.2) ((Kd.R_reads' HO469.out).2.1) ((Kd.R_reads' HO_1.out).2.2) ((Kd.R_reads' HO_1.out).2.1) (Mx.below HMX_.out HB.out) A41.out).mono ?_); rintro e w50 ⟨v471, rfl, ho0, hb⟩; refine ⟨_, rfl, ?_⟩; replace HO_1 := Aside0.mk (Kd.R_below HO_1.out hb); replace HO461 := Aside0.mk (Kd.R_below HO461.out hb); replace HO469 := Aside0.mk (Kd.R_below HO469.out hb); have HO472 := Aside0.mk (Kd.R_lower (Kd.R_new' ho0 (Kd.R_lt HO464.out)) (below_size HB.out)); replace HO464 := Aside0.mk (Kd.R_elder' HO464.out (Kd.R_base ho0) hb); replace HB := mSt HB hb; (try clear hb); (try clear ho0); obtain ⟨Ao51, co51, eo51⟩ := Kd.R_slice HO464.out; subst eo51) | ((with_reducible refine gate_callee (f := 21) rfl ?_); refine goesL_ (some 79) rfl rfl Tryd.func21 (by kernel_rfl) rfl #[.slice Ao51 t462.length co51] rfl (mA1 rfl) ?_; (with_reducible refine (formation_Clash.calls kj4 _ _ t462 t474 t475 t476 _ ((Kd.R_reads' HO464.out).2.2) ((Kd.R_reads' HO464.out).2.1) A42.out).mono ?_); rintro e w52 ⟨rfl, hb⟩; refine ⟨_, rfl, ?_⟩; replace HO_1 := Aside0.mk (Kd.R_below HO_1.out hb); replace HO461 := Aside0.mk (Kd.R_below HO461.out hb); replace HO464 := Aside0.mk (Kd.R_below HO464.out hb); replace HO469 := Aside0.mk (Kd.R_below HO469.out hb); replace HO472 := Aside0.mk (Kd.R_below HO472.out hb); replace HB := mSt HB hb; (try clear hb); obtain ⟨Ao53, co53, eo53⟩ := Kd.R_slice HO472.out; subst eo53) | ((with_reducible refine gate_callee (f := 21) rfl ?_); refine goesL_ (some 85) rfl rfl Tryd.func21 (by kernel_rfl) rfl #[.slice Ao53 t470.length co53] rfl (mA1 rfl) ?_; (with_reducible refine (formation_Clash.calls kj4 _ _ t470 t477 t478 t479 _ ((Kd.R_reads' HO472.out).2.2) ((Kd.R_reads' HO472.out).2.1) A43.out).mono ?_); rintro e w54 ⟨rfl, hb⟩; refine ⟨_, rfl, ?_⟩; replace HO_1 := Aside0.mk (Kd.R_below HO_1.out hb); replace HO461 := Aside0.mk (Kd.R_below HO461.out hb); replace HO464 := Aside0.mk (Kd.R_below HO464.out hb); replace HO469 := Aside0.mk (Kd.R_below HO469.out hb); replace HO472 := Aside0.mk (Kd.R_below HO472.out hb); replace HB := mSt HB hb; (try clear hb)))
   (try simp only [Act.put, List.setIfInBounds_toArray, List.set_cons_zero, List.set_cons_succ])
   go_cut [131] (fun v131 wc => ∃ (kq : Nat) (x131_43 : Bool), v131 = .bool x131_43 ∧ Aside0 (dancestudiolaw45_awake.j1 kq x131_43 = some r) ∧ Aside0 (kq ≤ kj4) ∧ Aside0 (Below w.heap.size w wc))
   case first =>
    have H := HC44.out
    clear HC44
    by_cases c55 : t465 = 0
    rotate_left
    ·
     rw [if_neg c55] at H
     have c55b0 := beq_eq_false_iff_ne.mpr c55
     have c55b1 := bne_iff_ne.mpr c55
     (first | rw [c55b0] | (simp only [i64_w, i32_w]; rw [c55b0]) | skip)
     have H' := Aside0.mk H
     clear H
     go_wp2
     go_meet
     case rel => exact ⟨_, (true), rfl, H', ⟨by have := HJ4.out; first | omega | exact Nat.le_refl _⟩, ⟨HB.out⟩⟩
    rw [if_pos c55] at H
    have c55b0 := beq_iff_eq.mpr c55
    have c55b1 := bne_eq_false_iff_eq.mpr c55
    clear c55
    (first | rw [c55b0] | (simp only [i64_w, i32_w]; rw [c55b0]) | skip)
    by_cases c56 : t473 = 0
    rotate_left
    ·
     rw [if_neg c56] at H
     have c56b0 := beq_eq_false_iff_ne.mpr c56
     have c56b1 := bne_iff_ne.mpr c56
     have H' := Aside0.mk H
     clear H
     go_wp2
     go_meet
     case rel => exact ⟨_, (true), rfl, H', ⟨by have := HJ4.out; first | omega | exact Nat.le_refl _⟩, ⟨HB.out⟩⟩
    rw [if_pos c56] at H
    have c56b0 := beq_iff_eq.mpr c56
    have c56b1 := bne_eq_false_iff_eq.mpr c56
    clear c56
    by_cases c57 : t476 = 0
    rotate_left
    ·
     rw [if_neg c57] at H
     have c57b0 := beq_eq_false_iff_ne.mpr c57
     have c57b1 := bne_iff_ne.mpr c57
     have H' := Aside0.mk H
     clear H
     go_wp2
     go_meet
     case rel => exact ⟨_, (true), rfl, H', ⟨by have := HJ4.out; first | omega | exact Nat.le_refl _⟩, ⟨HB.out⟩⟩
    rw [if_pos c57] at H
    have c57b0 := beq_iff_eq.mpr c57
    have c57b1 := bne_eq_false_iff_eq.mpr c57
    clear c57
    by_cases c58 : t479 = 0
    rotate_left
    ·
     rw [if_neg c58] at H
     have c58b0 := beq_eq_false_iff_ne.mpr c58
     have c58b1 := bne_iff_ne.mpr c58
     have H' := Aside0.mk H
     clear H
     go_wp2
     go_meet
     case rel => exact ⟨_, (true), rfl, H', ⟨by have := HJ4.out; first | omega | exact Nat.le_refl _⟩, ⟨HB.out⟩⟩
    rw [if_pos c58] at H
    have c58b0 := beq_iff_eq.mpr c58
    have c58b1 := bne_eq_false_iff_eq.mpr c58
    clear c58
    by_cases c59 : (t462.length : Int) = 3
    rotate_left
    ·
     rw [if_neg c59] at H
     have c59b0 := beq_eq_false_iff_ne.mpr c59
     have c59b1 := bne_iff_ne.mpr c59
     have H' := Aside0.mk H
     clear H
     go_wp2
     go_meet
     case rel => exact ⟨_, (true), rfl, H', ⟨by have := HJ4.out; first | omega | exact Nat.le_refl _⟩, ⟨HB.out⟩⟩
    rw [if_pos c59] at H
    have c59b0 := beq_iff_eq.mpr c59
    have c59b1 := bne_eq_false_iff_eq.mpr c59
    clear c59
    obtain ⟨c60, H⟩ : (1 < (t462.length : Int)) ∧ _ := mIf H
    have c60b0 := decide_eq_true c60
    have c60b1 : decide (1 < t462.length) = true := decide_eq_true (by omega)
    clear c60
    by_cases c61 : (!(((rd_T55 t462 1).f1.f0) == 0) || (!(((rd_T55 t462 1).f1.f1) == 0))) = true
    ·
     rw [if_pos c61] at H
     have c61b0 : (!(((rd_T55 t462 1).f1.f0) == 0) || (!(((rd_T55 t462 1).f1.f1) == 0))) = true := c61
     clear c61
     have H' := Aside0.mk H
     clear H
     have p480 : 0 ≤ (1 : Int) := (by omega)
     have q480 : 1 < (t462.length : Int) := of_decide_eq_true (by assumption)
     obtain ⟨ad480, e480, hx480_0, hx480_1, hx480_2, hx480_3, hx480_4⟩ := at_T55 (Kd.R_reads' HO464.out).2.2 1 p480 q480
     cases e480
     (try simp only [show (1 : Int).toNat = 1 from rfl, Nat.reduceMul, Nat.reduceEqDiff, Go.Addr.add, ↓reduceIte] at hx480_0)
     (try simp only [show (1 : Int).toNat = 1 from rfl, Nat.reduceMul, Nat.reduceEqDiff, Go.Addr.add, ↓reduceIte] at hx480_1)
     (try simp only [show (1 : Int).toNat = 1 from rfl, Nat.reduceMul, Nat.reduceEqDiff, Go.Addr.add, ↓reduceIte] at hx480_2)
     (try simp only [show (1 : Int).toNat = 1 from rfl, Nat.reduceMul, Nat.reduceEqDiff, Go.Addr.add, ↓reduceIte] at hx480_3)
     (try simp only [show (1 : Int).toNat = 1 from rfl, Nat.reduceMul, Nat.reduceEqDiff, Go.Addr.add, ↓reduceIte] at hx480_4)
     have qi480 : (1 < t462.length) = True := eq_true (by omega)
     (try rw [show ((1 : Int)).toNat = 1 from rfl] at hx480_0)
     (try rw [show 1 * 5 = 5 from rfl] at hx480_0)
     (try rw [show ((1 : Int)).toNat = 1 from rfl] at hx480_1)
     (try rw [show 1 * 5 = 5 from rfl] at hx480_1)
     (try rw [show ((1 : Int)).toNat = 1 from rfl] at hx480_2)
     (try rw [show 1 * 5 = 5 from rfl] at hx480_2)
     (try rw [show ((1 : Int)).toNat = 1 from rfl] at hx480_3)
     (try rw [show 1 * 5 = 5 from rfl] at hx480_3)
     (try rw [show ((1 : Int)).toNat = 1 from rfl] at hx480_4)
     (try rw [show 1 * 5 = 5 from rfl] at hx480_4)
     replace p480 := eq_true p480
     replace q480 := eq_true q480
     go_wp2
     go_meet
     case rel => exact ⟨_, (true), rfl, H', ⟨by have := HJ4.out; first | omega | exact Nat.le_refl _⟩, ⟨HB.out⟩⟩
    rw [if_neg c61] at H
    have c61b0 : (!(((rd_T55 t462 1).f1.f0) == 0) || (!(((rd_T55 t462 1).f1.f1) == 0))) = false := by simpa using c61
    clear c61
    by_cases c62 : t474 = (-1)
    rotate_left
    ·
     rw [if_neg c62] at H
     have c62b0 := beq_eq_false_iff_ne.mpr c62
     have c62b1 := bne_iff_ne.mpr c62
     have H' := Aside0.mk H
     clear H
     have p480 : 0 ≤ (1 : Int) := (by omega)
     have q480 : 1 < (t462.length : Int) := of_decide_eq_true (by assumption)
     obtain ⟨ad480, e480, hx480_0, hx480_1, hx480_2, hx480_3, hx480_4⟩ := at_T55 (Kd.R_reads' HO464.out).2.2 1 p480 q480
     cases e480
     (try simp only [show (1 : Int).toNat = 1 from rfl, Nat.reduceMul, Nat.reduceEqDiff, Go.Addr.add, ↓reduceIte] at hx480_0)
     (try simp only [show (1 : Int).toNat = 1 from rfl, Nat.reduceMul, Nat.reduceEqDiff, Go.Addr.add, ↓reduceIte] at hx480_1)
     (try simp only [show (1 : Int).toNat = 1 from rfl, Nat.reduceMul, Nat.reduceEqDiff, Go.Addr.add, ↓reduceIte] at hx480_2)
     (try simp only [show (1 : Int).toNat = 1 from rfl, Nat.reduceMul, Nat.reduceEqDiff, Go.Addr.add, ↓reduceIte] at hx480_3)
     (try simp only [show (1 : Int).toNat = 1 from rfl, Nat.reduceMul, Nat.reduceEqDiff, Go.Addr.add, ↓reduceIte] at hx480_4)
     have qi480 : (1 < t462.length) = True := eq_true (by omega)
     (try rw [show ((1 : Int)).toNat = 1 from rfl] at hx480_0)
     (try rw [show 1 * 5 = 5 from rfl] at hx480_0)
     (try rw [show ((1 : Int)).toNat = 1 from rfl] at hx480_1)
     (try rw [show 1 * 5 = 5 from rfl] at hx480_1)
     (try rw [show ((1 : Int)).toNat = 1 from rfl] at hx480_2)
     (try rw [show 1 * 5 = 5 from rfl] at hx480_2)
     (try rw [show ((1 : Int)).toNat = 1 from rfl] at hx480_3)
     (try rw [show 1 * 5 = 5 from rfl] at hx480_3)
     (try rw [show ((1 : Int)).toNat = 1 from rfl] at hx480_4)
     (try rw [show 1 * 5 = 5 from rfl] at hx480_4)
     replace p480 := eq_true p480
     replace q480 := eq_true q480
     go_wp2
     go_meet
     case rel => exact ⟨_, (true), rfl, H', ⟨by have := HJ4.out; first | omega | exact Nat.le_refl _⟩, ⟨HB.out⟩⟩
    rw [if_pos c62] at H
    have c62b0 := beq_iff_eq.mpr c62
    have c62b1 := bne_eq_false_iff_eq.mpr c62
    clear c62
    by_cases c63 : t475 = (-1)
    rotate_left
    ·
     rw [if_neg c63] at H
     have c63b0 := beq_eq_false_iff_ne.mpr c63
     have c63b1 := bne_iff_ne.mpr c63
     have H' := Aside0.mk H
     clear H
     have p480 : 0 ≤ (1 : Int) := (by omega)
     have q480 : 1 < (t462.length : Int) := of_decide_eq_true (by assumption)
     obtain ⟨ad480, e480, hx480_0, hx480_1, hx480_2, hx480_3, hx480_4⟩ := at_T55 (Kd.R_reads' HO464.out).2.2 1 p480 q480
     cases e480
     (try simp only [show (1 : Int).toNat = 1 from rfl, Nat.reduceMul, Nat.reduceEqDiff, Go.Addr.add, ↓reduceIte] at hx480_0)
     (try simp only [show (1 : Int).toNat = 1 from rfl, Nat.reduceMul, Nat.reduceEqDiff, Go.Addr.add, ↓reduceIte] at hx480_1)
     (try simp only [show (1 : Int).toNat = 1 from rfl, Nat.reduceMul, Nat.reduceEqDiff, Go.Addr.add, ↓reduceIte] at hx480_2)
     (try simp only [show (1 : Int).toNat = 1 from rfl, Nat.reduceMul, Nat.reduceEqDiff, Go.Addr.add, ↓reduceIte] at hx480_3)
     (try simp only [show (1 : Int).toNat = 1 from rfl, Nat.reduceMul, Nat.reduceEqDiff, Go.Addr.add, ↓reduceIte] at hx480_4)
     have qi480 : (1 < t462.length) = True := eq_true (by omega)
     (try rw [show ((1 : Int)).toNat = 1 from rfl] at hx480_0)
     (try rw [show 1 * 5 = 5 from rfl] at hx480_0)
     (try rw [show ((1 : Int)).toNat = 1 from rfl] at hx480_1)
     (try rw [show 1 * 5 = 5 from rfl] at hx480_1)
     (try rw [show ((1 : Int)).toNat = 1 from rfl] at hx480_2)
     (try rw [show 1 * 5 = 5 from rfl] at hx480_2)
     (try rw [show ((1 : Int)).toNat = 1 from rfl] at hx480_3)
     (try rw [show 1 * 5 = 5 from rfl] at hx480_3)
     (try rw [show ((1 : Int)).toNat = 1 from rfl] at hx480_4)
     (try rw [show 1 * 5 = 5 from rfl] at hx480_4)
     replace p480 := eq_true p480
     replace q480 := eq_true q480
     go_wp2
     go_meet
     case rel => exact ⟨_, (true), rfl, H', ⟨by have := HJ4.out; first | omega | exact Nat.le_refl _⟩, ⟨HB.out⟩⟩
    rw [if_pos c63] at H
    have c63b0 := beq_iff_eq.mpr c63
    have c63b1 := bne_eq_false_iff_eq.mpr c63
    clear c63
    by_cases c64 : t477 = 0
    rotate_left
    ·
     rw [if_neg c64] at H
     have c64b0 := beq_eq_false_iff_ne.mpr c64
     have c64b1 := bne_iff_ne.mpr c64
     have H' := Aside0.mk H
     clear H
     have p480 : 0 ≤ (1 : Int) := (by omega)
     have q480 : 1 < (t462.length : Int) := of_decide_eq_true (by assumption)
     obtain ⟨ad480, e480, hx480_0, hx480_1, hx480_2, hx480_3, hx480_4⟩ := at_T55 (Kd.R_reads' HO464.out).2.2 1 p480 q480
     cases e480
     (try simp only [show (1 : Int).toNat = 1 from rfl, Nat.reduceMul, Nat.reduceEqDiff, Go.Addr.add, ↓reduceIte] at hx480_0)
     (try simp only [show (1 : Int).toNat = 1 from rfl, Nat.reduceMul, Nat.reduceEqDiff, Go.Addr.add, ↓reduceIte] at hx480_1)
     (try simp only [show (1 : Int).toNat = 1 from rfl, Nat.reduceMul, Nat.reduceEqDiff, Go.Addr.add, ↓reduceIte] at hx480_2)
     (try simp only [show (1 : Int).toNat = 1 from rfl, Nat.reduceMul, Nat.reduceEqDiff, Go.Addr.add, ↓reduceIte] at hx480_3)
     (try simp only [show (1 : Int).toNat = 1 from rfl, Nat.reduceMul, Nat.reduceEqDiff, Go.Addr.add, ↓reduceIte] at hx480_4)
     have qi480 : (1 < t462.length) = True := eq_true (by omega)
     (try rw [show ((1 : Int)).toNat = 1 from rfl] at hx480_0)
     (try rw [show 1 * 5 = 5 from rfl] at hx480_0)
     (try rw [show ((1 : Int)).toNat = 1 from rfl] at hx480_1)
     (try rw [show 1 * 5 = 5 from rfl] at hx480_1)
     (try rw [show ((1 : Int)).toNat = 1 from rfl] at hx480_2)
     (try rw [show 1 * 5 = 5 from rfl] at hx480_2)
     (try rw [show ((1 : Int)).toNat = 1 from rfl] at hx480_3)
     (try rw [show 1 * 5 = 5 from rfl] at hx480_3)
     (try rw [show ((1 : Int)).toNat = 1 from rfl] at hx480_4)
     (try rw [show 1 * 5 = 5 from rfl] at hx480_4)
     replace p480 := eq_true p480
     replace q480 := eq_true q480
     go_wp2
     go_meet
     case rel => exact ⟨_, (true), rfl, H', ⟨by have := HJ4.out; first | omega | exact Nat.le_refl _⟩, ⟨HB.out⟩⟩
    rw [if_pos c64] at H
    have c64b0 := beq_iff_eq.mpr c64
    have c64b1 := bne_eq_false_iff_eq.mpr c64
    clear c64
    have H' := Aside0.mk H
    clear H
    have p480 : 0 ≤ (1 : Int) := (by omega)
    have q480 : 1 < (t462.length : Int) := of_decide_eq_true (by assumption)
    obtain ⟨ad480, e480, hx480_0, hx480_1, hx480_2, hx480_3, hx480_4⟩ := at_T55 (Kd.R_reads' HO464.out).2.2 1 p480 q480
    cases e480
    (try simp only [show (1 : Int).toNat = 1 from rfl, Nat.reduceMul, Nat.reduceEqDiff, Go.Addr.add, ↓reduceIte] at hx480_0)
    (try simp only [show (1 : Int).toNat = 1 from rfl, Nat.reduceMul, Nat.reduceEqDiff, Go.Addr.add, ↓reduceIte] at hx480_1)
    (try simp only [show (1 : Int).toNat = 1 from rfl, Nat.reduceMul, Nat.reduceEqDiff, Go.Addr.add, ↓reduceIte] at hx480_2)
    (try simp only [show (1 : Int).toNat = 1 from rfl, Nat.reduceMul, Nat.reduceEqDiff, Go.Addr.add, ↓reduceIte] at hx480_3)
    (try simp only [show (1 : Int).toNat = 1 from rfl, Nat.reduceMul, Nat.reduceEqDiff, Go.Addr.add, ↓reduceIte] at hx480_4)
    have qi480 : (1 < t462.length) = True := eq_true (by omega)
    (try rw [show ((1 : Int)).toNat = 1 from rfl] at hx480_0)
    (try rw [show 1 * 5 = 5 from rfl] at hx480_0)
    (try rw [show ((1 : Int)).toNat = 1 from rfl] at hx480_1)
    (try rw [show 1 * 5 = 5 from rfl] at hx480_1)
    (try rw [show ((1 : Int)).toNat = 1 from rfl] at hx480_2)
    (try rw [show 1 * 5 = 5 from rfl] at hx480_2)
    (try rw [show ((1 : Int)).toNat = 1 from rfl] at hx480_3)
    (try rw [show 1 * 5 = 5 from rfl] at hx480_3)
    (try rw [show ((1 : Int)).toNat = 1 from rfl] at hx480_4)
    (try rw [show 1 * 5 = 5 from rfl] at hx480_4)
    replace p480 := eq_true p480
    replace q480 := eq_true q480
    go_wp2
    go_meet
    case rel => exact ⟨_, ((t478 != 2)), rfl, H', ⟨by have := HJ4.out; first | omega | exact Nat.le_refl _⟩, ⟨HB.out⟩⟩
   case rest =>
    clear HC44; try clear c1; try clear c2; try clear p2; try clear c3; try clear p4; try clear q4; try clear hx4; try clear qi4; try clear c5; try clear c6; try clear c13; try clear c15; try clear c18; try clear c18b0; try clear c18b1; try clear c19; try clear c19b0; try clear c19b1; try clear c20; try clear c20b0; try clear c20b1; try clear c21; try clear c21b0; try clear c21b1; try clear c23; try clear c34; try clear c37; try clear p48; try clear q48; try clear hx48; try clear qi48; try clear c55; try clear c55b0; try clear c55b1; try clear c56; try clear c56b0; try clear c56b1; try clear c57; try clear c57b0; try clear c57b1; try clear c58; try clear c58b0; try clear c58b1; try clear c59; try clear c59b0; try clear c59b1; try clear c60; try clear c60b0; try clear c60b1; try clear c61; try clear c61b0; try clear c62; try clear c62b0; try clear c62b1; try clear c63; try clear c63b0; try clear c63b1; try clear c64; try clear c64b0; try clear c64b1; try clear hx480_0; try clear hx480_1; try clear hx480_2; try clear hx480_3; try clear hx480_4; try clear p480; try clear q480
    obtain ⟨kq, x131_43, rfl, HA, HJ43, HB⟩ := hcut
    cases kq with
    | zero => exact absurd HA.out (by simp [dancestudiolaw45_awake.j1])
    | succ kj43 =>
     have H := HA.out
     clear HA
     simp only [dancestudiolaw45_awake.j1] at H
     by_cases c65 : x131_43 = true
     ·
      subst c65
      rw [if_pos rfl] at H
      exact absurd H (by simp)
     replace c65 := Bool.eq_false_iff.mpr c65
     subst c65
     rw [if_neg (show ¬ (false = true) by decide)] at H
     replace H := Option.bind_eq_some_iff.mp H
     obtain ⟨⟨t481, t482⟩, A660, H⟩ := H
     try dsimp only at H
     have A66 := Aside0.mk A660
     clear A660
     replace H := Option.bind_eq_some_iff.mp H
     obtain ⟨⟨t485, t486, t489⟩, A670, H⟩ := H
     try dsimp only at H
     have A67 := Aside0.mk A670
     clear A670
     replace H := Option.bind_eq_some_iff.mp H
     obtain ⟨⟨t491, t492⟩, A680, H⟩ := H
     try dsimp only at H
     have A68 := Aside0.mk A680
     clear A680
     replace H := Option.bind_eq_some_iff.mp H
     obtain ⟨⟨t495, t496, t499⟩, A690, H⟩ := H
     try dsimp only at H
     have A69 := Aside0.mk A690
     clear A690
     obtain ⟨c70, H⟩ : (t489 = 0) ∧ _ := mIf H
     have c70b0 := beq_iff_eq.mpr c70
     have c70b1 := bne_eq_false_iff_eq.mpr c70
     clear c70
     obtain ⟨c71, H⟩ : (t499 = 0) ∧ _ := mIf H
     have c71b0 := beq_iff_eq.mpr c71
     have c71b1 := bne_eq_false_iff_eq.mpr c71
     clear c71
     obtain ⟨y501, hy501⟩ : ∃ y_ : List (S52), y_ = (([(⟨0, 0⟩ : S52), (⟨0, (-100)⟩ : S52), (⟨0, (-200)⟩ : S52)] : List (S52))) := ⟨_, rfl⟩
     rw [← hy501] at H
     have Ny501 := Aside0.mk hy501
     clear hy501
     replace H := Option.bind_eq_some_iff.mp H
     obtain ⟨t504, A720, H⟩ := H
     try dsimp only at H
     have A72 := Aside0.mk A720
     clear A720
     by_cases c73 : t504 = true
     rotate_left
     ·
      replace c73 := Bool.eq_false_iff.mpr c73
      subst c73
      rw [if_neg (show ¬ (false = true) by decide)] at H
      exact absurd H (by simp)
     subst c73
     rw [if_pos rfl] at H
     obtain ⟨y505, hy505⟩ : ∃ y_ : List (S52), y_ = (([(⟨0, 0⟩ : S52), (⟨(-100), 0⟩ : S52), (⟨(-200), 0⟩ : S52)] : List (S52))) := ⟨_, rfl⟩
     rw [← hy505] at H
     have Ny505 := Aside0.mk hy505
     clear hy505
     replace H := Option.bind_eq_some_iff.mp H
     obtain ⟨t508, A740, H⟩ := H
     try dsimp only at H
     have A74 := Aside0.mk A740
     clear A740
     by_cases c75 : t508 = true
     rotate_left
     ·
      replace c75 := Bool.eq_false_iff.mpr c75
      subst c75
      rw [if_neg (show ¬ (false = true) by decide)] at H
      exact absurd H (by simp)
     subst c75
     rw [if_pos rfl] at H
     replace H := Option.bind_eq_some_iff.mp H
     obtain ⟨t509, A760, H⟩ := H
     try dsimp only at H
     have A76 := Aside0.mk A760
     clear A760
     obtain rfl := Option.some.inj H
     go_wp2_with (first | ((with_reducible refine gate_callee (f := 34) rfl ?_); refine goesL_ (some 133) rfl rfl Tryd.func34 (by kernel_rfl) rfl #[] rfl (mA0) ?_; (with_reducible refine (dancestudiolaw45_row.calls  t481 t482 _ A66.out).mono ?_); rintro e w77 ⟨v483, rfl, ho0, hb⟩; refine ⟨_, rfl, ?_⟩; have HO484 := Aside0.mk (Kd.R_lower ho0 (below_size (hO HB))); replace HB := mSx HB hb; (try clear hb); (try clear ho0); obtain ⟨Ao78, co78, eo78⟩ := Kd.R_slice HO484.out; subst eo78) | ((with_reducible refine gate_callee (f := 25) rfl ?_); refine goesL_ (some 134) rfl rfl Tryd.func25 (by kernel_rfl) rfl #[.agg #[.string t481, .slice Ao78 t482.length co78], .int .i64 1] rfl (mA2 rfl rfl) ?_; (with_reducible refine (formation_Rotate.calls kj43 t481 _ _ t482 1 t485 t486 t489 _ ((Kd.R_reads' HO484.out).2.2) ((Kd.R_reads' HO484.out).2.1) (Mx.below HMX_.out HB.out) A67.out).mono ?_); rintro e w79 ⟨v487, rfl, ho0, hb⟩; refine ⟨_, rfl, ?_⟩; have HO488 := Aside0.mk (Kd.R_lower (Kd.R_new' ho0 (Kd.R_lt (rO HO484))) (below_size (hO HB))); replace HO484 := Aside0.mk (Kd.R_elder' (rO HO484) (Kd.R_base ho0) hb); replace HB := mSx HB hb; (try clear hb); (try clear ho0)) | ((with_reducible refine gate_dst (N := 16) rfl ?_); (try (refine gate_guard (by rfl) ?_; dsimp only)); refine box_event rfl (N := 16) rfl (cs := #[.string (⟨#[]⟩ : ByteArray), .slice none 0 0]) (t := 24) (by first | (go_simp; done) | (go_simp; rfl)) ?_; intro gb1 hg w80 hbox hb; replace HO484 := Aside0.mk (Kd.R_below (rO HO484) hb); replace HO488 := Aside0.mk (Kd.R_below (rO HO488) hb); have BK1 := Aside0.mk hbox; have GW1 := Aside0.mk ((by rw [hg]; exact (below_size (hO HB)) : w.heap.size ≤ gb1)); have GE1 := GW1; replace HB := mSx HB hb; clear hb hbox hg; have hcz81 := blk_cell BK1.out; have hfz81 := blk_frozen BK1.out; obtain ⟨Ao82, co82, eo82⟩ := Kd.R_slice HO488.out; subst eo82) | ((with_reducible refine gate_callee (f := 34) rfl ?_); refine goesL_ (some 138) rfl rfl Tryd.func34 (by kernel_rfl) rfl #[] rfl (mA0) ?_; (with_reducible refine (dancestudiolaw45_row.calls  t491 t492 _ A68.out).mono ?_); rintro e w83 ⟨v493, rfl, ho0, hb⟩; refine ⟨_, rfl, ?_⟩; have HO494 := Aside0.mk (Kd.R_lower (Kd.R_new' (Kd.R_new' ho0 (Kd.R_lt (by exact (Kd.R_mono (Kd.R_far (p := ⟨gb1, 1, none⟩) (Kd.R_far (p := ⟨gb1, 0, none⟩) (Kd.R_types HO484.out BK1.out (by decide)) (fun _ hk => hk.2) (.string t485)) (fun _ hk => hk.2) (.slice Ao82 t486.length co82)) (fun _ h_ => h_.1))))) (Kd.R_lt (by exact (Kd.R_mono (Kd.R_far (p := ⟨gb1, 1, none⟩) (Kd.R_far (p := ⟨gb1, 0, none⟩) (Kd.R_types HO488.out BK1.out (by decide)) (fun _ hk => hk.2) (.string t485)) (fun _ hk => hk.2) (.slice Ao82 t486.length co82)) (fun _ h_ => h_.1))))) (below_size (hO HB))); replace HO484 := Aside0.mk (Kd.R_elder' (by exact (Kd.R_mono (Kd.R_far (p := ⟨gb1, 1, none⟩) (Kd.R_far (p := ⟨gb1, 0, none⟩) (Kd.R_types HO484.out BK1.out (by decide)) (fun _ hk => hk.2) (.string t485)) (fun _ hk => hk.2) (.slice Ao82 t486.length co82)) (fun _ h_ => h_.1))) (Kd.R_base ho0) hb); replace HO488 := Aside0.mk (Kd.R_elder' (by exact (Kd.R_mono (Kd.R_far (p := ⟨gb1, 1, none⟩) (Kd.R_far (p := ⟨gb1, 0, none⟩) (Kd.R_types HO488.out BK1.out (by decide)) (fun _ hk => hk.2) (.string t485)) (fun _ hk => hk.2) (.slice Ao82 t486.length co82)) (fun _ h_ => h_.1))) (Kd.R_base ho0) hb); replace BK1 := Aside0.mk (blk_below (g := gb1) (o := .cells #[.string t485, .slice Ao82 t486.length co82] 24 (0, 0)) (by refine blk_put (cs := #[.string t485, .slice none 0 0]) ?_ 1 _ rfl; refine blk_put (cs := #[.string (⟨#[]⟩ : ByteArray), .slice none 0 0]) ?_ 0 _ rfl; exact BK1.out) hb); replace HB := mSx HB hb; (try clear hb); (try clear ho0); obtain ⟨Ao84, co84, eo84⟩ := Kd.R_slice HO494.out; subst eo84) | ((with_reducible refine gate_callee (f := 23) rfl ?_); refine goesL_ (some 139) rfl rfl Tryd.func23 (by kernel_rfl) rfl #[.agg #[.string t491, .slice Ao84 t492.length co84]] rfl (mA1 rfl) ?_; (with_reducible refine (formation_Mirror.calls kj43 t491 _ _ t492 t495 t496 t499 _ ((Kd.R_reads' HO494.out).2.2) ((Kd.R_reads' HO494.out).2.1) (Mx.below HMX_.out HB.out) A69.out).mono ?_); rintro e w85 ⟨v497, rfl, ho0, hb⟩; refine ⟨_, rfl, ?_⟩; have HO498 := Aside0.mk (Kd.R_lower (Kd.R_new' (Kd.R_new' (Kd.R_new' ho0 (Kd.R_lt (rO HO484))) (Kd.R_lt (rO HO488))) (Kd.R_lt (rO HO494))) (below_size (hO HB))); replace HO484 := Aside0.mk (Kd.R_elder' (rO HO484) (Kd.R_base ho0) hb); replace HO488 := Aside0.mk (Kd.R_elder' (rO HO488) (Kd.R_base ho0) hb); replace HO494 := Aside0.mk (Kd.R_elder' (rO HO494) (Kd.R_base ho0) hb); replace BK1 := mBb BK1 hb; replace HB := mSx HB hb; (try clear hb); (try clear ho0)) | ((with_reducible refine gate_dst (N := 17) rfl ?_); (try (refine gate_guard (by rfl) ?_; dsimp only)); refine box_event rfl (N := 17) rfl (cs := #[.string (⟨#[]⟩ : ByteArray), .slice none 0 0]) (t := 24) (by first | (go_simp; done) | (go_simp; rfl)) ?_; intro gb2 hg w86 hbox hb; replace HO484 := Aside0.mk (Kd.R_below (rO HO484) hb); replace HO488 := Aside0.mk (Kd.R_below (rO HO488) hb); replace HO494 := Aside0.mk (Kd.R_below (rO HO494) hb); replace HO498 := Aside0.mk (Kd.R_below (rO HO498) hb); have BK2 := Aside0.mk hbox; have GW2 := Aside0.mk ((by rw [hg]; exact (below_size (hO HB)) : w.heap.size ≤ gb2)); have GE2 := GW2; replace HB := mSx HB hb; have NB1_2 := mNe BK1 hg; have NB2_1 := mSy NB1_2; replace BK1 := mBb BK1 hb; clear hb hbox hg; have hnb87 := NB2_1.out; have hnc87 := NB1_2.out; have hcz88 := blk_cell BK2.out; have hfz88 := blk_frozen BK2.out; obtain ⟨Ao89, co89, eo89⟩ := Kd.R_slice HO498.out; subst eo89; have hcz90 := blk_cell BK1.out; have hfz90 := blk_frozen BK1.out) | ((with_reducible refine gate_dst (N := 153) rfl ?_); (try (refine gate_guard (by rfl) ?_; dsimp only)); refine Kd.R_lit k52 _ 52 ?hg (N := 153) ?hd (xs := ([(⟨0, 0⟩ : S52), (⟨0, (-100)⟩ : S52), (⟨0, (-200)⟩ : S52)] : List (S52))) (inner := [.int .i64 0, .int .i64 0, .int .i64 0, .int .i64 (-100), .int .i64 0, .int .i64 (-200)]) (ok := fun _ => True) (okp := fun _ => True) ?hr ?hp (fun _ hk => hk) trivial (Below.refl _ _) (Nat.le_refl _) (by simp) ?_; (case hd => rfl); (case hg => rfl); (case hr => first | (go_simp; done) | (go_simp; rfl)); (case hp => exact (Reps.c2 (k52_mkM _ _ _ _) (Reps.c2 (k52_mkM _ _ _ _) (Reps.c2 (k52_mkM _ _ _ _) (Reps.none _ _))))); intro v502 w91 ho92 hb hg_ hnew_; clear hg_ hnew_; (first | rw [← Ny501.out] at ho92 | (simp only [Int.reduceToNat] at ho92; rw [← Ny501.out] at ho92)); have HO503 := Aside0.mk (Kd.R_lower (Kd.R_new' (Kd.R_new' (Kd.R_new' (Kd.R_new' ho92 (Kd.R_lt (by exact (Kd.R_mono (Kd.R_far (p := ⟨gb2, 1, none⟩) (Kd.R_far (p := ⟨gb2, 0, none⟩) (Kd.R_types HO484.out BK2.out (by decide)) (fun _ hk => hk.2) (.string t495)) (fun _ hk => hk.2) (.slice Ao89 t496.length co89)) (fun _ h_ => h_.1))))) (Kd.R_lt (by exact (Kd.R_mono (Kd.R_far (p := ⟨gb2, 1, none⟩) (Kd.R_far (p := ⟨gb2, 0, none⟩) (Kd.R_types HO488.out BK2.out (by decide)) (fun _ hk => hk.2) (.string t495)) (fun _ hk => hk.2) (.slice Ao89 t496.length co89)) (fun _ h_ => h_.1))))) (Kd.R_lt (by exact (Kd.R_mono (Kd.R_far (p := ⟨gb2, 1, none⟩) (Kd.R_far (p := ⟨gb2, 0, none⟩) (Kd.R_types HO494.out BK2.out (by decide)) (fun _ hk => hk.2) (.string t495)) (fun _ hk => hk.2) (.slice Ao89 t496.length co89)) (fun _ h_ => h_.1))))) (Kd.R_lt (by exact (Kd.R_mono (Kd.R_far (p := ⟨gb2, 1, none⟩) (Kd.R_far (p := ⟨gb2, 0, none⟩) (Kd.R_types HO498.out BK2.out (by decide)) (fun _ hk => hk.2) (.string t495)) (fun _ hk => hk.2) (.slice Ao89 t496.length co89)) (fun _ h_ => h_.1))))) (below_size (hO HB))); replace HO484 := Aside0.mk (Kd.R_elder' (by exact (Kd.R_mono (Kd.R_far (p := ⟨gb2, 1, none⟩) (Kd.R_far (p := ⟨gb2, 0, none⟩) (Kd.R_types HO484.out BK2.out (by decide)) (fun _ hk => hk.2) (.string t495)) (fun _ hk => hk.2) (.slice Ao89 t496.length co89)) (fun _ h_ => h_.1))) (Kd.R_base ho92) hb); replace HO488 := Aside0.mk (Kd.R_elder' (by exact (Kd.R_mono (Kd.R_far (p := ⟨gb2, 1, none⟩) (Kd.R_far (p := ⟨gb2, 0, none⟩) (Kd.R_types HO488.out BK2.out (by decide)) (fun _ hk => hk.2) (.string t495)) (fun _ hk => hk.2) (.slice Ao89 t496.length co89)) (fun _ h_ => h_.1))) (Kd.R_base ho92) hb); replace HO494 := Aside0.mk (Kd.R_elder' (by exact (Kd.R_mono (Kd.R_far (p := ⟨gb2, 1, none⟩) (Kd.R_far (p := ⟨gb2, 0, none⟩) (Kd.R_types HO494.out BK2.out (by decide)) (fun _ hk => hk.2) (.string t495)) (fun _ hk => hk.2) (.slice Ao89 t496.length co89)) (fun _ h_ => h_.1))) (Kd.R_base ho92) hb); replace HO498 := Aside0.mk (Kd.R_elder' (by exact (Kd.R_mono (Kd.R_far (p := ⟨gb2, 1, none⟩) (Kd.R_far (p := ⟨gb2, 0, none⟩) (Kd.R_types HO498.out BK2.out (by decide)) (fun _ hk => hk.2) (.string t495)) (fun _ hk => hk.2) (.slice Ao89 t496.length co89)) (fun _ h_ => h_.1))) (Kd.R_base ho92) hb); replace BK1 := Aside0.mk (blk_below (g := gb1) (o := .cells #[.string t485, .slice Ao82 t486.length co82] 24 (0, 0)) (by refine blk_far ?_ NB1_2.out _; refine blk_far ?_ NB1_2.out _; exact BK1.out) hb); replace BK2 := Aside0.mk (blk_below (g := gb2) (o := .cells #[.string t495, .slice Ao89 t496.length co89] 24 (0, 0)) (by refine blk_put (cs := #[.string t495, .slice none 0 0]) ?_ 1 _ rfl; refine blk_put (cs := #[.string (⟨#[]⟩ : ByteArray), .slice none 0 0]) ?_ 0 _ rfl; exact BK2.out) hb); replace HB := mSx HB hb; clear hb ho92; obtain ⟨Ao93, co93, eo93⟩ := Kd.R_slice HO503.out; subst eo93) | (go_at_call 27; (with_reducible refine (dancestudioref45_Same.calls kj43 t485 _ _ t486 (⟨#[114, 111, 119]⟩ : ByteArray) _ _ y501 true _ ((Kd.R_reads' HO488.out).2.2) ((Kd.R_reads' HO488.out).2.1) ((Kd.R_reads' HO503.out).2.2) ((Kd.R_reads' HO503.out).2.1) A72.out).mono ?_); rintro e w94 ⟨rfl, hb⟩; replace HO484 := Aside0.mk (Kd.R_below (rO HO484) hb); replace HO488 := Aside0.mk (Kd.R_below (rO HO488) hb); replace HO494 := Aside0.mk (Kd.R_below (rO HO494) hb); replace HO498 := Aside0.mk (Kd.R_below (rO HO498) hb); replace HO503 := Aside0.mk (Kd.R_below (rO HO503) hb); replace BK1 := mBb BK1 hb; replace BK2 := mBb BK2 hb; replace HB := mSx HB hb; (try clear hb); have hcz95 := blk_cell BK2.out; have hfz95 := blk_frozen BK2.out) | ((with_reducible refine gate_dst (N := 162) rfl ?_); (try (refine gate_guard (by rfl) ?_; dsimp only)); refine Kd.R_lit k52 _ 52 ?hg (N := 162) ?hd (xs := ([(⟨0, 0⟩ : S52), (⟨(-100), 0⟩ : S52), (⟨(-200), 0⟩ : S52)] : List (S52))) (inner := [.int .i64 0, .int .i64 0, .int .i64 (-100), .int .i64 0, .int .i64 (-200), .int .i64 0]) (ok := fun _ => True) (okp := fun _ => True) ?hr ?hp (fun _ hk => hk) trivial (Below.refl _ _) (Nat.le_refl _) (by simp) ?_; (case hd => rfl); (case hg => rfl); (case hr => first | (go_simp; done) | (go_simp; rfl)); (case hp => exact (Reps.c2 (k52_mkM _ _ _ _) (Reps.c2 (k52_mkM _ _ _ _) (Reps.c2 (k52_mkM _ _ _ _) (Reps.none _ _))))); intro v506 w96 ho97 hb hg_ hnew_; clear hg_ hnew_; (first | rw [← Ny505.out] at ho97 | (simp only [Int.reduceToNat] at ho97; rw [← Ny505.out] at ho97)); have HO507 := Aside0.mk (Kd.R_lower (Kd.R_new' (Kd.R_new' (Kd.R_new' (Kd.R_new' (Kd.R_new' ho97 (Kd.R_lt (rO HO484))) (Kd.R_lt (rO HO488))) (Kd.R_lt (rO HO494))) (Kd.R_lt (rO HO498))) (Kd.R_lt (rO HO503))) (below_size (hO HB))); replace HO484 := Aside0.mk (Kd.R_elder' (rO HO484) (Kd.R_base ho97) hb); replace HO488 := Aside0.mk (Kd.R_elder' (rO HO488) (Kd.R_base ho97) hb); replace HO494 := Aside0.mk (Kd.R_elder' (rO HO494) (Kd.R_base ho97) hb); replace HO498 := Aside0.mk (Kd.R_elder' (rO HO498) (Kd.R_base ho97) hb); replace HO503 := Aside0.mk (Kd.R_elder' (rO HO503) (Kd.R_base ho97) hb); replace BK1 := mBb BK1 hb; replace BK2 := mBb BK2 hb; replace HB := mSx HB hb; clear hb ho97; obtain ⟨Ao98, co98, eo98⟩ := Kd.R_slice HO507.out; subst eo98) | (go_at_call 27; (with_reducible refine (dancestudioref45_Same.calls kj43 t495 _ _ t496 (⟨#[114, 111, 119]⟩ : ByteArray) _ _ y505 true _ ((Kd.R_reads' HO498.out).2.2) ((Kd.R_reads' HO498.out).2.1) ((Kd.R_reads' HO507.out).2.2) ((Kd.R_reads' HO507.out).2.1) A74.out).mono ?_); rintro e w99 ⟨rfl, hb⟩; replace HO484 := Aside0.mk (Kd.R_below (rO HO484) hb); replace HO488 := Aside0.mk (Kd.R_below (rO HO488) hb); replace HO494 := Aside0.mk (Kd.R_below (rO HO494) hb); replace HO498 := Aside0.mk (Kd.R_below (rO HO498) hb); replace HO503 := Aside0.mk (Kd.R_below (rO HO503) hb); replace HO507 := Aside0.mk (Kd.R_below (rO HO507) hb); replace BK1 := mBb BK1 hb; replace BK2 := mBb BK2 hb; replace HB := mSx HB hb; (try clear hb)) | (go_at_call 11; (refine (formation_Check.calls kj43 (⟨#[114, 111, 119]⟩ : ByteArray) _ _ ([] : List (S52)) t509 _ ?side1 ?side2 ?sidem_ A76.out).mono ?_); (case sidem_ => exact Mx.below HMX_.out HB.out); (case side1 => exact Kd.C_nil _ _); (case side2 => exact Nat.le_refl _); rintro e w100 ⟨rfl, hb⟩; replace HO484 := Aside0.mk (Kd.R_below (rO HO484) hb); replace HO488 := Aside0.mk (Kd.R_below (rO HO488) hb); replace HO494 := Aside0.mk (Kd.R_below (rO HO494) hb); replace HO498 := Aside0.mk (Kd.R_below (rO HO498) hb); replace HO503 := Aside0.mk (Kd.R_below (rO HO503) hb); replace HO507 := Aside0.mk (Kd.R_below (rO HO507) hb); replace BK1 := mBb BK1 hb; replace BK2 := mBb BK2 hb; replace HB := mSx HB hb; (try clear hb)))
     go_ret
     exact ⟨rfl, HB.out⟩
end Go.Proofs.YtaggccbndmmbhaaDoor.PAll
