-- Written by wip/tools/handprint.py: walks of the functions that the law reaches; Lean checks them.
import Derived.Test.YtbmflpflmjfabaaPAllx0
import Derived.Test.YtbmflpflmjfabaaMini
import Derived.Test.YtbmflpflmjfabaaPAllf14
import Derived.Test.YtbmflpflmjfabaaPAllf15
import Derived.Test.YtbmflpflmjfabaaPAllf27
namespace Go.Proofs.Ytbmflpflmjfabaa.PAll
open Go.RowKit Go.Proofs.YtbmflpflmjfabaaW.PrintWords Go.Proofs.YtbmflpflmjfabaaW.PrintLast Go.Proofs.YtbmflpflmjfabaaW.PrintMore
attribute [local go_sem] max2_int min2_int max_two min_two max_three min_three max_four min_four   -- for this text's walks alone
set_option linter.unusedVariables false
set_option linter.unusedSimpArgs false

/-! ### dancestudiolaw11_proves: function 20 -/
mutual
def dancestudiolaw11_proves.j0 : Nat → List (List Int) → List Int → Int → List Int → List Int → Bool → Option (Bool)
 | 0, _, _, _, _, _, _ => none
 | k + 1, x0, x3, x4, x6, x7, x52 => if x52 = true then (none) else (dancestudiolaw11_proves.l0 k x0 x3 x4 x6 x7 0 0)
def dancestudiolaw11_proves.l0 : Nat → List (List Int) → List Int → Int → List Int → List Int → Int → Int → Option (Bool)
 | 0, _, _, _, _, _, _, _ => none
 | k + 1, x0, x3, x4, x6, x7, x9, x10 => if x10 < (x0.length : Int) then (if 0 ≤ x10 then (if x10 < (x6.length : Int) then (if (rd x6 x10) < (-1125899906842624) then (none) else (if (rd x6 x10) > 1125899906842624 then (none) else (if x10 < (x7.length : Int) then (if (rd x7 x10) < (-1125899906842624) then (none) else (if (rd x7 x10) > 1125899906842624 then (none) else (dancestudiolaw11_proves.l0 k x0 x3 x4 x6 x7 (wrap64 ((wrap64 (x9 + (rd x6 x10))) + (rd x7 x10))) (wrap64 (x10 + 1))))) else (none)))) else (none)) else (none)) else (dancestudiolaw11_proves.l1 k x0 x3 x4 x6 x7 x9 0 0)
def dancestudiolaw11_proves.l1 : Nat → List (List Int) → List Int → Int → List Int → List Int → Int → Int → Int → Option (Bool)
 | 0, _, _, _, _, _, _, _, _ => none
 | k + 1, x0, x3, x4, x6, x7, x9, x11, x12 => if x12 < (x0.length : Int) then (dancestudiolaw11_proves.l2 k x0 x3 x4 x6 x7 x9 x11 x12 0) else (if x11 = x4 then (some (x9 == x4)) else (none))
def dancestudiolaw11_proves.l2 : Nat → List (List Int) → List Int → Int → List Int → List Int → Int → Int → Int → Int → Option (Bool)
 | 0, _, _, _, _, _, _, _, _, _ => none
 | k + 1, x0, x3, x4, x6, x7, x9, x11, x12, x13 => if x13 < (x0.length : Int) then (if 0 ≤ x12 then (if x12 < (x6.length : Int) then (if 0 ≤ x13 then (if x13 < (x7.length : Int) then (if x12 < (x0.length : Int) then (if x13 < ((rd_L1 x0 x12).length : Int) then (if (wrap64 ((rd x6 x12) + (rd x7 x13))) > (rd (rd_L1 x0 x12) x13) then (none) else (dancestudiolaw11_proves.l2 k x0 x3 x4 x6 x7 x9 x11 x12 (wrap64 (x13 + 1)))) else (none)) else (none)) else (none)) else (none)) else (none)) else (none)) else (if 0 ≤ x12 then (if x12 < (x6.length : Int) then (if x12 < (x3.length : Int) then (if 0 ≤ (rd x3 x12) then (if (rd x3 x12) < (x7.length : Int) then (if x12 < (x0.length : Int) then (if (rd x3 x12) < ((rd_L1 x0 x12).length : Int) then (if (wrap64 ((rd x6 x12) + (rd x7 (rd x3 x12)))) = (rd (rd_L1 x0 x12) (rd x3 x12)) then (dancestudiolaw11_proves.l1 k x0 x3 x4 x6 x7 x9 (wrap64 (x11 + (rd (rd_L1 x0 x12) (rd x3 x12)))) (wrap64 (x12 + 1))) else (none)) else (none)) else (none)) else (none)) else (none)) else (none)) else (none)) else (none))
end
def dancestudiolaw11_proves.f (k : Nat) (l0 : List (List Int)) : Option (Bool) := (assign_Solve.f k l0).bind fun bt254 => ((assign_Prices.f k l0).bind fun bt259 => (if bt254.2.2 = 0 then (if bt259.2.2 = 0 then (if (bt259.1.length : Int) = (l0.length : Int) then (if (bt259.2.1.length : Int) = (l0.length : Int) then ((dancestudioref11_Assignment.f k bt254.1 (l0.length : Int)).bind fun t266 => (dancestudiolaw11_proves.j0 k l0 bt254.1 bt254.2.1 bt259.1 bt259.2.1 (!t266))) else (dancestudiolaw11_proves.j0 k l0 bt254.1 bt254.2.1 bt259.1 bt259.2.1 true)) else (dancestudiolaw11_proves.j0 k l0 bt254.1 bt254.2.1 bt259.1 bt259.2.1 true)) else (dancestudiolaw11_proves.j0 k l0 bt254.1 bt254.2.1 bt259.1 bt259.2.1 true)) else (dancestudiolaw11_proves.j0 k l0 bt254.1 bt254.2.1 bt259.1 bt259.2.1 true)))
theorem dancestudiolaw11_proves.mono_l : ∀ k, (∀ y0 y1 y2 y3 y4 y5, LeO (dancestudiolaw11_proves.j0 k y0 y1 y2 y3 y4 y5) (dancestudiolaw11_proves.j0 (k + 1) y0 y1 y2 y3 y4 y5)) ∧ (∀ y0 y1 y2 y3 y4 y5 y6, LeO (dancestudiolaw11_proves.l0 k y0 y1 y2 y3 y4 y5 y6) (dancestudiolaw11_proves.l0 (k + 1) y0 y1 y2 y3 y4 y5 y6)) ∧ (∀ y0 y1 y2 y3 y4 y5 y6 y7, LeO (dancestudiolaw11_proves.l1 k y0 y1 y2 y3 y4 y5 y6 y7) (dancestudiolaw11_proves.l1 (k + 1) y0 y1 y2 y3 y4 y5 y6 y7)) ∧ (∀ y0 y1 y2 y3 y4 y5 y6 y7 y8, LeO (dancestudiolaw11_proves.l2 k y0 y1 y2 y3 y4 y5 y6 y7 y8) (dancestudiolaw11_proves.l2 (k + 1) y0 y1 y2 y3 y4 y5 y6 y7 y8))
 | 0 => ⟨fun _ _ _ _ _ _ r h => by simp [dancestudiolaw11_proves.j0] at h, fun _ _ _ _ _ _ _ r h => by simp [dancestudiolaw11_proves.l0] at h, fun _ _ _ _ _ _ _ _ r h => by simp [dancestudiolaw11_proves.l1] at h, fun _ _ _ _ _ _ _ _ _ r h => by simp [dancestudiolaw11_proves.l2] at h⟩
 | k + 1 => by
  obtain ⟨ih0, ih1, ih2, ih3⟩ := dancestudiolaw11_proves.mono_l k
  refine ⟨?_, ?_, ?_, ?_⟩
  ·
   intro y0 y1 y2 y3 y4 y5
   unfold dancestudiolaw11_proves.j0
   repeat' first
   | (with_reducible exact ih0 _ _ _ _ _ _)
   | (with_reducible exact ih1 _ _ _ _ _ _ _)
   | (with_reducible exact ih2 _ _ _ _ _ _ _ _)
   | (with_reducible exact ih3 _ _ _ _ _ _ _ _ _)
   | (with_reducible exact assign_Prices.mono _ _)
   | (with_reducible exact assign_Solve.mono _ _)
   | (with_reducible exact dancestudioref11_Assignment.mono _ _ _)
   | (with_reducible exact LeO.refl _)
   | (with_reducible exact LeO.none _)
   | (with_reducible refine LeO.ite ?_ ?_)
   | (with_reducible refine LeO.bind ?_ (fun _ => ?_))
   | exact ih0 _ _ _ _ _ _
   | exact ih1 _ _ _ _ _ _ _
   | exact ih2 _ _ _ _ _ _ _ _
   | exact ih3 _ _ _ _ _ _ _ _ _
   | exact assign_Prices.mono _ _
   | exact assign_Solve.mono _ _
   | exact dancestudioref11_Assignment.mono _ _ _
   | exact LeO.none _
   | refine LeO.ite ?_ ?_
   | refine LeO.bind ?_ (fun _ => ?_)
  ·
   intro y0 y1 y2 y3 y4 y5 y6
   unfold dancestudiolaw11_proves.l0
   repeat' first
   | (with_reducible exact ih0 _ _ _ _ _ _)
   | (with_reducible exact ih1 _ _ _ _ _ _ _)
   | (with_reducible exact ih2 _ _ _ _ _ _ _ _)
   | (with_reducible exact ih3 _ _ _ _ _ _ _ _ _)
   | (with_reducible exact assign_Prices.mono _ _)
   | (with_reducible exact assign_Solve.mono _ _)
   | (with_reducible exact dancestudioref11_Assignment.mono _ _ _)
   | (with_reducible exact LeO.refl _)
   | (with_reducible exact LeO.none _)
   | (with_reducible refine LeO.ite ?_ ?_)
   | (with_reducible refine LeO.bind ?_ (fun _ => ?_))
   | exact ih0 _ _ _ _ _ _
   | exact ih1 _ _ _ _ _ _ _
   | exact ih2 _ _ _ _ _ _ _ _
   | exact ih3 _ _ _ _ _ _ _ _ _
   | exact assign_Prices.mono _ _
   | exact assign_Solve.mono _ _
   | exact dancestudioref11_Assignment.mono _ _ _
   | exact LeO.none _
   | refine LeO.ite ?_ ?_
   | refine LeO.bind ?_ (fun _ => ?_)
  ·
   intro y0 y1 y2 y3 y4 y5 y6 y7
   unfold dancestudiolaw11_proves.l1
   repeat' first
   | (with_reducible exact ih0 _ _ _ _ _ _)
   | (with_reducible exact ih1 _ _ _ _ _ _ _)
   | (with_reducible exact ih2 _ _ _ _ _ _ _ _)
   | (with_reducible exact ih3 _ _ _ _ _ _ _ _ _)
   | (with_reducible exact assign_Prices.mono _ _)
   | (with_reducible exact assign_Solve.mono _ _)
   | (with_reducible exact dancestudioref11_Assignment.mono _ _ _)
   | (with_reducible exact LeO.refl _)
   | (with_reducible exact LeO.none _)
   | (with_reducible refine LeO.ite ?_ ?_)
   | (with_reducible refine LeO.bind ?_ (fun _ => ?_))
   | exact ih0 _ _ _ _ _ _
   | exact ih1 _ _ _ _ _ _ _
   | exact ih2 _ _ _ _ _ _ _ _
   | exact ih3 _ _ _ _ _ _ _ _ _
   | exact assign_Prices.mono _ _
   | exact assign_Solve.mono _ _
   | exact dancestudioref11_Assignment.mono _ _ _
   | exact LeO.none _
   | refine LeO.ite ?_ ?_
   | refine LeO.bind ?_ (fun _ => ?_)
  ·
   intro y0 y1 y2 y3 y4 y5 y6 y7 y8
   unfold dancestudiolaw11_proves.l2
   repeat' first
   | (with_reducible exact ih0 _ _ _ _ _ _)
   | (with_reducible exact ih1 _ _ _ _ _ _ _)
   | (with_reducible exact ih2 _ _ _ _ _ _ _ _)
   | (with_reducible exact ih3 _ _ _ _ _ _ _ _ _)
   | (with_reducible exact assign_Prices.mono _ _)
   | (with_reducible exact assign_Solve.mono _ _)
   | (with_reducible exact dancestudioref11_Assignment.mono _ _ _)
   | (with_reducible exact LeO.refl _)
   | (with_reducible exact LeO.none _)
   | (with_reducible refine LeO.ite ?_ ?_)
   | (with_reducible refine LeO.bind ?_ (fun _ => ?_))
   | exact ih0 _ _ _ _ _ _
   | exact ih1 _ _ _ _ _ _ _
   | exact ih2 _ _ _ _ _ _ _ _
   | exact ih3 _ _ _ _ _ _ _ _ _
   | exact assign_Prices.mono _ _
   | exact assign_Solve.mono _ _
   | exact dancestudioref11_Assignment.mono _ _ _
   | exact LeO.none _
   | refine LeO.ite ?_ ?_
   | refine LeO.bind ?_ (fun _ => ?_)
theorem dancestudiolaw11_proves.mono : ∀ a0 k, LeO (dancestudiolaw11_proves.f k a0) (dancestudiolaw11_proves.f (k + 1) a0) := by
 intro a0 k
 obtain ⟨ih0, ih1, ih2, ih3⟩ := dancestudiolaw11_proves.mono_l k
 unfold dancestudiolaw11_proves.f
 repeat' first
   | (with_reducible exact ih0 _ _ _ _ _ _)
   | (with_reducible exact ih1 _ _ _ _ _ _ _)
   | (with_reducible exact ih2 _ _ _ _ _ _ _ _)
   | (with_reducible exact ih3 _ _ _ _ _ _ _ _ _)
   | (with_reducible exact assign_Prices.mono _ _)
   | (with_reducible exact assign_Solve.mono _ _)
   | (with_reducible exact dancestudioref11_Assignment.mono _ _ _)
   | (with_reducible exact LeO.refl _)
   | (with_reducible exact LeO.none _)
   | (with_reducible refine LeO.ite ?_ ?_)
   | (with_reducible refine LeO.bind ?_ (fun _ => ?_))
   | exact ih0 _ _ _ _ _ _
   | exact ih1 _ _ _ _ _ _ _
   | exact ih2 _ _ _ _ _ _ _ _
   | exact ih3 _ _ _ _ _ _ _ _ _
   | exact assign_Prices.mono _ _
   | exact assign_Solve.mono _ _
   | exact dancestudioref11_Assignment.mono _ _ _
   | exact LeO.none _
   | refine LeO.ite ?_ ?_
   | refine LeO.bind ?_ (fun _ => ?_)
set_option maxHeartbeats 8000000 in
set_option maxRecDepth 100000 in
theorem dancestudiolaw11_proves.calls (k : Nat) (A0 : Option Addr) (c0 : Nat) (l0 : List (List Int)) (r : Bool) (w : World) (hr0 : Kd.C (Kd.slice 3 (Kd.int .i64)) w A0 l0.length l0) (hc0 : l0.length ≤ c0) (h : dancestudiolaw11_proves.f k l0 = some r) :
  Calls Try.prog 20 #[.slice A0 l0.length c0] w fun e w' => e = .returned (.bool r) ∧ Below w.heap.size w w' := by
 have HR0 := Aside0.mk hr0
 have HC0 := Aside0.mk hc0
 clear hr0 hc0
 have HB := Aside0.mk (Below.refl w.heap.size w)
 have H : ((assign_Solve.f k l0).bind fun bt254 => ((assign_Prices.f k l0).bind fun bt259 => (if bt254.2.2 = 0 then (if bt259.2.2 = 0 then (if (bt259.1.length : Int) = (l0.length : Int) then (if (bt259.2.1.length : Int) = (l0.length : Int) then ((dancestudioref11_Assignment.f k bt254.1 (l0.length : Int)).bind fun t266 => (dancestudiolaw11_proves.j0 k l0 bt254.1 bt254.2.1 bt259.1 bt259.2.1 (!t266))) else (dancestudiolaw11_proves.j0 k l0 bt254.1 bt254.2.1 bt259.1 bt259.2.1 true)) else (dancestudiolaw11_proves.j0 k l0 bt254.1 bt254.2.1 bt259.1 bt259.2.1 true)) else (dancestudiolaw11_proves.j0 k l0 bt254.1 bt254.2.1 bt259.1 bt259.2.1 true)) else (dancestudiolaw11_proves.j0 k l0 bt254.1 bt254.2.1 bt259.1 bt259.2.1 true)))) = some r := h
 clear h
 replace H := Option.bind_eq_some_iff.mp H
 obtain ⟨⟨t254, t257, t258⟩, A20, H⟩ := H
 try dsimp only at H
 have A2 := Aside0.mk A20
 clear A20
 replace H := Option.bind_eq_some_iff.mp H
 obtain ⟨⟨t259, t260, t261⟩, A30, H⟩ := H
 try dsimp only at H
 have A3 := Aside0.mk A30
 clear A30
 have HC4 := Aside0.mk H
 clear H
 go_enter Try.func20, Try.ntmps20
 go_upto_region 3 with (first | (go_at_call 14; (with_reducible refine (assign_Solve.calls k (fun k_ => k_ < w.heap.size) _ _ l0 t254 t257 t258 _ ?side1 A2.out).mono ?_); (case side1 => exact Kd.V_mk HC0.out (Kd.F_below (Kd.C_F (Kd.heap_slice 3 (Kd.heap_int .i64)) HR0.out) (by repeat (first | (with_reducible first | exact HB.out | apply below_alloc | apply pw_below_drewN | apply below_drew1) | exact HB.out)))); rintro e w5 ⟨v255, rfl, ho0, hb⟩; have HO256 := Aside0.mk (Kd.R_lower (Kd.R_mono (ok' := fun k_ => True) ho0 (fun _ hk_ => trivial)) (below_size (by repeat (first | (with_reducible first | exact HB.out | apply below_alloc | apply pw_below_drewN | apply below_drew1) | exact HB.out)))); replace HB := Aside0.mk (below_step (by repeat (first | (with_reducible first | exact HB.out | apply below_alloc | apply pw_below_drewN | apply below_drew1) | exact HB.out)) hb); (try clear hb); (try clear ho0)) | (go_at_call 15; (with_reducible refine (assign_Prices.calls k _ _ l0 t259 t260 t261 _ ?side1 ?side2 A3.out).mono ?_); (case side1 => repeat (first | exact (Kd.C_below HR0.out HB.out) | (with_reducible refine Kd.C_alloc ?_ _) | (with_reducible refine Kd.C_drewN ?_ _) | (with_reducible refine Kd.C_drew ?_))); (case side2 => exact HC0.out); rintro e w6 ⟨v262, v264, rfl, ho0, ho1, hb⟩; have HO263 := Aside0.mk (Kd.Q_lower (Kd.Q_new' ho0 (Kd.R_lt (by (with_reducible repeat (first | apply Kd.R_alloc | apply Kd.R_drewN | apply Kd.R_drew)); exact HO256.out))) (below_size (by repeat (first | (with_reducible first | exact HB.out | apply below_alloc | apply pw_below_drewN | apply below_drew1) | exact HB.out)))); have HO265 := Aside0.mk (Kd.Q_lower (Kd.Q_new' ho1 (Kd.R_lt (by (with_reducible repeat (first | apply Kd.R_alloc | apply Kd.R_drewN | apply Kd.R_drew)); exact HO256.out))) (below_size (by repeat (first | (with_reducible first | exact HB.out | apply below_alloc | apply pw_below_drewN | apply below_drew1) | exact HB.out)))); replace HO256 := Aside0.mk (Kd.R_mono (Kd.R_told (Kd.R_told (Kd.R_old (by (with_reducible repeat (first | apply Kd.R_alloc | apply Kd.R_drewN | apply Kd.R_drew)); exact HO256.out) hb) (Kd.Q_base ho0)) (Kd.Q_base ho1)) (fun _ h_ => h_.1)); replace HB := Aside0.mk (below_step (by repeat (first | (with_reducible first | exact HB.out | apply below_alloc | apply pw_below_drewN | apply below_drew1) | exact HB.out)) hb); (try clear hb); (try clear ho0); (try clear ho1)))
 repeat (go_quiet (first | (go_at_call 14; (with_reducible refine (assign_Solve.calls k (fun k_ => k_ < w.heap.size) _ _ l0 t254 t257 t258 _ ?side1 A2.out).mono ?_); (case side1 => exact Kd.V_mk HC0.out (Kd.F_below (Kd.C_F (Kd.heap_slice 3 (Kd.heap_int .i64)) HR0.out) (by repeat (first | (with_reducible first | exact HB.out | apply below_alloc | apply pw_below_drewN | apply below_drew1) | exact HB.out)))); rintro e w5 ⟨v255, rfl, ho0, hb⟩; have HO256 := Aside0.mk (Kd.R_lower (Kd.R_mono (ok' := fun k_ => True) ho0 (fun _ hk_ => trivial)) (below_size (by repeat (first | (with_reducible first | exact HB.out | apply below_alloc | apply pw_below_drewN | apply below_drew1) | exact HB.out)))); replace HB := Aside0.mk (below_step (by repeat (first | (with_reducible first | exact HB.out | apply below_alloc | apply pw_below_drewN | apply below_drew1) | exact HB.out)) hb); (try clear hb); (try clear ho0)) | (go_at_call 15; (with_reducible refine (assign_Prices.calls k _ _ l0 t259 t260 t261 _ ?side1 ?side2 A3.out).mono ?_); (case side1 => repeat (first | exact (Kd.C_below HR0.out HB.out) | (with_reducible refine Kd.C_alloc ?_ _) | (with_reducible refine Kd.C_drewN ?_ _) | (with_reducible refine Kd.C_drew ?_))); (case side2 => exact HC0.out); rintro e w6 ⟨v262, v264, rfl, ho0, ho1, hb⟩; have HO263 := Aside0.mk (Kd.Q_lower (Kd.Q_new' ho0 (Kd.R_lt (by (with_reducible repeat (first | apply Kd.R_alloc | apply Kd.R_drewN | apply Kd.R_drew)); exact HO256.out))) (below_size (by repeat (first | (with_reducible first | exact HB.out | apply below_alloc | apply pw_below_drewN | apply below_drew1) | exact HB.out)))); have HO265 := Aside0.mk (Kd.Q_lower (Kd.Q_new' ho1 (Kd.R_lt (by (with_reducible repeat (first | apply Kd.R_alloc | apply Kd.R_drewN | apply Kd.R_drew)); exact HO256.out))) (below_size (by repeat (first | (with_reducible first | exact HB.out | apply below_alloc | apply pw_below_drewN | apply below_drew1) | exact HB.out)))); replace HO256 := Aside0.mk (Kd.R_mono (Kd.R_told (Kd.R_told (Kd.R_old (by (with_reducible repeat (first | apply Kd.R_alloc | apply Kd.R_drewN | apply Kd.R_drew)); exact HO256.out) hb) (Kd.Q_base ho0)) (Kd.Q_base ho1)) (fun _ h_ => h_.1)); replace HB := Aside0.mk (below_step (by repeat (first | (with_reducible first | exact HB.out | apply below_alloc | apply pw_below_drewN | apply below_drew1) | exact HB.out)) hb); (try clear hb); (try clear ho0); (try clear ho1))); go_upto_region 3 with (first | (go_at_call 14; (with_reducible refine (assign_Solve.calls k (fun k_ => k_ < w.heap.size) _ _ l0 t254 t257 t258 _ ?side1 A2.out).mono ?_); (case side1 => exact Kd.V_mk HC0.out (Kd.F_below (Kd.C_F (Kd.heap_slice 3 (Kd.heap_int .i64)) HR0.out) (by repeat (first | (with_reducible first | exact HB.out | apply below_alloc | apply pw_below_drewN | apply below_drew1) | exact HB.out)))); rintro e w5 ⟨v255, rfl, ho0, hb⟩; have HO256 := Aside0.mk (Kd.R_lower (Kd.R_mono (ok' := fun k_ => True) ho0 (fun _ hk_ => trivial)) (below_size (by repeat (first | (with_reducible first | exact HB.out | apply below_alloc | apply pw_below_drewN | apply below_drew1) | exact HB.out)))); replace HB := Aside0.mk (below_step (by repeat (first | (with_reducible first | exact HB.out | apply below_alloc | apply pw_below_drewN | apply below_drew1) | exact HB.out)) hb); (try clear hb); (try clear ho0)) | (go_at_call 15; (with_reducible refine (assign_Prices.calls k _ _ l0 t259 t260 t261 _ ?side1 ?side2 A3.out).mono ?_); (case side1 => repeat (first | exact (Kd.C_below HR0.out HB.out) | (with_reducible refine Kd.C_alloc ?_ _) | (with_reducible refine Kd.C_drewN ?_ _) | (with_reducible refine Kd.C_drew ?_))); (case side2 => exact HC0.out); rintro e w6 ⟨v262, v264, rfl, ho0, ho1, hb⟩; have HO263 := Aside0.mk (Kd.Q_lower (Kd.Q_new' ho0 (Kd.R_lt (by (with_reducible repeat (first | apply Kd.R_alloc | apply Kd.R_drewN | apply Kd.R_drew)); exact HO256.out))) (below_size (by repeat (first | (with_reducible first | exact HB.out | apply below_alloc | apply pw_below_drewN | apply below_drew1) | exact HB.out)))); have HO265 := Aside0.mk (Kd.Q_lower (Kd.Q_new' ho1 (Kd.R_lt (by (with_reducible repeat (first | apply Kd.R_alloc | apply Kd.R_drewN | apply Kd.R_drew)); exact HO256.out))) (below_size (by repeat (first | (with_reducible first | exact HB.out | apply below_alloc | apply pw_below_drewN | apply below_drew1) | exact HB.out)))); replace HO256 := Aside0.mk (Kd.R_mono (Kd.R_told (Kd.R_told (Kd.R_old (by (with_reducible repeat (first | apply Kd.R_alloc | apply Kd.R_drewN | apply Kd.R_drew)); exact HO256.out) hb) (Kd.Q_base ho0)) (Kd.Q_base ho1)) (fun _ h_ => h_.1)); replace HB := Aside0.mk (below_step (by repeat (first | (with_reducible first | exact HB.out | apply below_alloc | apply pw_below_drewN | apply below_drew1) | exact HB.out)) hb); (try clear hb); (try clear ho0); (try clear ho1))))
 (try simp only [Act.put, List.setIfInBounds_toArray, List.set_cons_zero, List.set_cons_succ])
 go_cut [52] (fun v52 wc => ∃ (kq : Nat) (x52_3 : Bool), v52 = .bool x52_3 ∧ Aside0 (dancestudiolaw11_proves.j0 kq l0 t254 t257 t259 t260 x52_3 = some r) ∧ Aside0 (kq ≤ k) ∧ Aside0 (Kd.R (Kd.int .i64) 3 wc w.heap.size (fun k_ => some k_ ≠ (v262 : Value).ownBlock ∧ some k_ ≠ (v264 : Value).ownBlock) v255 t254) ∧ Aside0 (Kd.Q (Kd.int .i64) 3 wc w.heap.size (fun k_ => some k_ ≠ (v255 : Value).ownBlock ∧ some k_ ≠ (v264 : Value).ownBlock) v262 t259) ∧ Aside0 (Kd.Q (Kd.int .i64) 3 wc w.heap.size (fun k_ => some k_ ≠ (v255 : Value).ownBlock ∧ some k_ ≠ (v262 : Value).ownBlock) v264 t260) ∧ Aside0 (Below w.heap.size w wc))
 case first =>
  have H := HC4.out
  clear HC4
  by_cases c7 : t258 = 0
  rotate_left
  ·
   rw [if_neg c7] at H
   have c7b0 : (t258 == 0) = false := beq_eq_false_iff_ne.mpr c7
   have c7b1 : (t258 != 0) = true := bne_iff_ne.mpr c7
   (first | rw [c7b0] | (simp only [i64_w, i32_w]; rw [c7b0]) | skip)
   have H' := Aside0.mk H
   clear H
   go_wp2
   repeat (go_quiet (fail); try go_wp2)
   go_meet
   case rel => exact ⟨_, (true), (by first | rfl | (simp; done) | (simp [*]; done)), H', ⟨by first | omega | exact Nat.le_refl _⟩, ⟨by (with_reducible repeat (first | apply Kd.R_alloc | apply Kd.R_drewN | apply Kd.R_drew)); exact Kd.R_mono HO256.out (fun _ hk => ⟨hk.1.2, hk.2⟩)⟩, ⟨by (with_reducible repeat (first | apply Kd.Q_alloc | apply Kd.Q_drewN | apply Kd.Q_drew)); exact Kd.Q_mono HO263.out (fun _ hk => ⟨hk.2, hk.1⟩)⟩, ⟨by (with_reducible repeat (first | apply Kd.Q_alloc | apply Kd.Q_drewN | apply Kd.Q_drew)); exact Kd.Q_mono HO265.out (fun _ hk => ⟨hk.2, hk.1⟩)⟩, ⟨by repeat (first | (with_reducible first | exact HB.out | apply below_alloc | apply pw_below_drewN | apply below_drew1) | exact HB.out)⟩⟩
  rw [if_pos c7] at H
  have c7b0 : (t258 == 0) = true := beq_iff_eq.mpr c7
  have c7b1 : (t258 != 0) = false := bne_eq_false_iff_eq.mpr c7
  clear c7
  (first | rw [c7b0] | (simp only [i64_w, i32_w]; rw [c7b0]) | skip)
  by_cases c8 : t261 = 0
  rotate_left
  ·
   rw [if_neg c8] at H
   have c8b0 : (t261 == 0) = false := beq_eq_false_iff_ne.mpr c8
   have c8b1 : (t261 != 0) = true := bne_iff_ne.mpr c8
   have H' := Aside0.mk H
   clear H
   go_wp2
   repeat (go_quiet (fail); try go_wp2)
   go_meet
   case rel => exact ⟨_, (true), (by first | rfl | (simp; done) | (simp [*]; done)), H', ⟨by first | omega | exact Nat.le_refl _⟩, ⟨by (with_reducible repeat (first | apply Kd.R_alloc | apply Kd.R_drewN | apply Kd.R_drew)); exact Kd.R_mono HO256.out (fun _ hk => ⟨hk.1.2, hk.2⟩)⟩, ⟨by (with_reducible repeat (first | apply Kd.Q_alloc | apply Kd.Q_drewN | apply Kd.Q_drew)); exact Kd.Q_mono HO263.out (fun _ hk => ⟨hk.2, hk.1⟩)⟩, ⟨by (with_reducible repeat (first | apply Kd.Q_alloc | apply Kd.Q_drewN | apply Kd.Q_drew)); exact Kd.Q_mono HO265.out (fun _ hk => ⟨hk.2, hk.1⟩)⟩, ⟨by repeat (first | (with_reducible first | exact HB.out | apply below_alloc | apply pw_below_drewN | apply below_drew1) | exact HB.out)⟩⟩
  rw [if_pos c8] at H
  have c8b0 : (t261 == 0) = true := beq_iff_eq.mpr c8
  have c8b1 : (t261 != 0) = false := bne_eq_false_iff_eq.mpr c8
  clear c8
  by_cases c9 : (t259.length : Int) = (l0.length : Int)
  rotate_left
  ·
   rw [if_neg c9] at H
   have c9b0 : ((t259.length : Int) == (l0.length : Int)) = false := beq_eq_false_iff_ne.mpr c9
   have c9b1 : ((t259.length : Int) != (l0.length : Int)) = true := bne_iff_ne.mpr c9
   have c9b2 : (t259.length == l0.length) = false := by first | simpa using c9 | (simp at c9 ⊢; omega)
   have H' := Aside0.mk H
   clear H
   obtain ⟨Ao17, co17, eo17, _⟩ := Kd.Q_slice HO263.out
   subst eo17
   go_wp2
   repeat (go_quiet (fail); try go_wp2)
   go_meet
   case rel => exact ⟨_, (true), (by first | rfl | (simp; done) | (simp [*]; done)), H', ⟨by first | omega | exact Nat.le_refl _⟩, ⟨by (with_reducible repeat (first | apply Kd.R_alloc | apply Kd.R_drewN | apply Kd.R_drew)); exact Kd.R_mono HO256.out (fun _ hk => ⟨hk.1.2, hk.2⟩)⟩, ⟨by (with_reducible repeat (first | apply Kd.Q_alloc | apply Kd.Q_drewN | apply Kd.Q_drew)); exact Kd.Q_mono HO263.out (fun _ hk => ⟨hk.2, hk.1⟩)⟩, ⟨by (with_reducible repeat (first | apply Kd.Q_alloc | apply Kd.Q_drewN | apply Kd.Q_drew)); exact Kd.Q_mono HO265.out (fun _ hk => ⟨hk.2, hk.1⟩)⟩, ⟨by repeat (first | (with_reducible first | exact HB.out | apply below_alloc | apply pw_below_drewN | apply below_drew1) | exact HB.out)⟩⟩
  rw [if_pos c9] at H
  have c9b0 : ((t259.length : Int) == (l0.length : Int)) = true := beq_iff_eq.mpr c9
  have c9b1 : ((t259.length : Int) != (l0.length : Int)) = false := bne_eq_false_iff_eq.mpr c9
  have c9b2 : (t259.length == l0.length) = true := by first | simpa using c9 | (simp at c9 ⊢; omega)
  clear c9
  by_cases c10 : (t260.length : Int) = (l0.length : Int)
  rotate_left
  ·
   rw [if_neg c10] at H
   have c10b0 : ((t260.length : Int) == (l0.length : Int)) = false := beq_eq_false_iff_ne.mpr c10
   have c10b1 : ((t260.length : Int) != (l0.length : Int)) = true := bne_iff_ne.mpr c10
   have c10b2 : (t260.length == l0.length) = false := by first | simpa using c10 | (simp at c10 ⊢; omega)
   have H' := Aside0.mk H
   clear H
   obtain ⟨Ao15, co15, eo15, _⟩ := Kd.Q_slice HO263.out
   subst eo15
   obtain ⟨Ao16, co16, eo16, _⟩ := Kd.Q_slice HO265.out
   subst eo16
   go_wp2
   repeat (go_quiet (fail); try go_wp2)
   go_meet
   case rel => exact ⟨_, (true), (by first | rfl | (simp; done) | (simp [*]; done)), H', ⟨by first | omega | exact Nat.le_refl _⟩, ⟨by (with_reducible repeat (first | apply Kd.R_alloc | apply Kd.R_drewN | apply Kd.R_drew)); exact Kd.R_mono HO256.out (fun _ hk => ⟨hk.1.2, hk.2⟩)⟩, ⟨by (with_reducible repeat (first | apply Kd.Q_alloc | apply Kd.Q_drewN | apply Kd.Q_drew)); exact Kd.Q_mono HO263.out (fun _ hk => ⟨hk.2, hk.1⟩)⟩, ⟨by (with_reducible repeat (first | apply Kd.Q_alloc | apply Kd.Q_drewN | apply Kd.Q_drew)); exact Kd.Q_mono HO265.out (fun _ hk => ⟨hk.2, hk.1⟩)⟩, ⟨by repeat (first | (with_reducible first | exact HB.out | apply below_alloc | apply pw_below_drewN | apply below_drew1) | exact HB.out)⟩⟩
  rw [if_pos c10] at H
  have c10b0 : ((t260.length : Int) == (l0.length : Int)) = true := beq_iff_eq.mpr c10
  have c10b1 : ((t260.length : Int) != (l0.length : Int)) = false := bne_eq_false_iff_eq.mpr c10
  have c10b2 : (t260.length == l0.length) = true := by first | simpa using c10 | (simp at c10 ⊢; omega)
  clear c10
  replace H := Option.bind_eq_some_iff.mp H
  obtain ⟨t266, A110, H⟩ := H
  try dsimp only at H
  have A11 := Aside0.mk A110
  clear A110
  have H' := Aside0.mk H
  clear H
  obtain ⟨Ao12, co12, eo12, _⟩ := Kd.Q_slice HO263.out
  subst eo12
  obtain ⟨Ao13, co13, eo13, _⟩ := Kd.Q_slice HO265.out
  subst eo13
  obtain ⟨Ao14, co14, eo14⟩ := Kd.R_slice HO256.out
  subst eo14
  go_wp2_with (first | (go_at_call 27; (with_reducible refine (dancestudioref11_Assignment.calls k _ _ t254 (l0.length : Int) t266 _ ?side1 ?side2 A11.out).mono ?_); (case side1 => repeat (first | exact (Kd.R_reads' HO256.out).2.2 | (with_reducible refine Kd.C_alloc ?_ _) | (with_reducible refine Kd.C_drewN ?_ _) | (with_reducible refine Kd.C_drew ?_))); (case side2 => exact (Kd.R_reads' HO256.out).2.1); rintro e w' ⟨rfl, ⟨nd, rfl⟩⟩; (try first | exact ⟨rfl, _, World.drewN_drewN _ _ _⟩ | exact ⟨rfl, _, Eq.trans (World.drewN_drewN _ _ _) (congrArg (World.drewN _) (Nat.add_assoc _ _ _))⟩)))
  repeat (go_quiet (first | (go_at_call 27; (with_reducible refine (dancestudioref11_Assignment.calls k _ _ t254 (l0.length : Int) t266 _ ?side1 ?side2 A11.out).mono ?_); (case side1 => repeat (first | exact (Kd.R_reads' HO256.out).2.2 | (with_reducible refine Kd.C_alloc ?_ _) | (with_reducible refine Kd.C_drewN ?_ _) | (with_reducible refine Kd.C_drew ?_))); (case side2 => exact (Kd.R_reads' HO256.out).2.1); rintro e w' ⟨rfl, ⟨nd, rfl⟩⟩; (try first | exact ⟨rfl, _, World.drewN_drewN _ _ _⟩ | exact ⟨rfl, _, Eq.trans (World.drewN_drewN _ _ _) (congrArg (World.drewN _) (Nat.add_assoc _ _ _))⟩))); try go_wp2_with (first | (go_at_call 27; (with_reducible refine (dancestudioref11_Assignment.calls k _ _ t254 (l0.length : Int) t266 _ ?side1 ?side2 A11.out).mono ?_); (case side1 => repeat (first | exact (Kd.R_reads' HO256.out).2.2 | (with_reducible refine Kd.C_alloc ?_ _) | (with_reducible refine Kd.C_drewN ?_ _) | (with_reducible refine Kd.C_drew ?_))); (case side2 => exact (Kd.R_reads' HO256.out).2.1); rintro e w' ⟨rfl, ⟨nd, rfl⟩⟩; (try first | exact ⟨rfl, _, World.drewN_drewN _ _ _⟩ | exact ⟨rfl, _, Eq.trans (World.drewN_drewN _ _ _) (congrArg (World.drewN _) (Nat.add_assoc _ _ _))⟩))))
  go_meet
  case rel => exact ⟨_, (!t266), (by first | rfl | (simp; done) | (simp [*]; done)), H', ⟨by first | omega | exact Nat.le_refl _⟩, ⟨by (with_reducible repeat (first | apply Kd.R_alloc | apply Kd.R_drewN | apply Kd.R_drew)); exact Kd.R_mono HO256.out (fun _ hk => ⟨hk.1.2, hk.2⟩)⟩, ⟨by (with_reducible repeat (first | apply Kd.Q_alloc | apply Kd.Q_drewN | apply Kd.Q_drew)); exact Kd.Q_mono HO263.out (fun _ hk => ⟨hk.2, hk.1⟩)⟩, ⟨by (with_reducible repeat (first | apply Kd.Q_alloc | apply Kd.Q_drewN | apply Kd.Q_drew)); exact Kd.Q_mono HO265.out (fun _ hk => ⟨hk.2, hk.1⟩)⟩, ⟨by repeat (first | (with_reducible first | exact HB.out | apply below_alloc | apply pw_below_drewN | apply below_drew1) | exact HB.out)⟩⟩
 case rest =>
  clear HC4; try clear c1; try clear c2; try clear p2; try clear c7; try clear c7b0; try clear c7b1; try clear c8; try clear c8b0; try clear c8b1; try clear c9; try clear c9b0; try clear c9b1; try clear c9b2; try clear c10; try clear c10b0; try clear c10b1; try clear c10b2
  obtain ⟨kq, x52_3, rfl, HA, HJ3, HO_3, HO_6, HO_7, HB⟩ := hcut
  cases kq with
  | zero => exact absurd HA.out (by simp [dancestudiolaw11_proves.j0])
  | succ kj3 =>
   have H := HA.out
   clear HA
   simp only [dancestudiolaw11_proves.j0] at H
   by_cases c18 : x52_3 = true
   ·
    subst c18
    rw [if_pos rfl] at H
    exact absurd H (by simp)
   replace c18 := Bool.eq_false_iff.mpr c18
   subst c18
   rw [if_neg (show ¬ (false = true) by decide)] at H
   have H' := Aside0.mk H
   clear H
   go_wp2
   repeat (go_quiet (fail); try go_wp2)
   go_loopg [9, 10] kj3 (fun kq v9 v10 w' => ∃ (x9_2 : Int) (x10_2 : Int), v9 = .int .i64 x9_2 ∧ v10 = .int .i64 x10_2 ∧ Aside0 (dancestudiolaw11_proves.l0 kq l0 t254 t257 t259 t260 x9_2 x10_2 = some r) ∧ Aside0 (kq ≤ kj3) ∧ Aside0 (Kd.R (Kd.int .i64) 3 w' w.heap.size (fun k_ => some k_ ≠ (v262 : Value).ownBlock ∧ some k_ ≠ (v264 : Value).ownBlock) v255 t254) ∧ Aside0 (Kd.Q (Kd.int .i64) 3 w' w.heap.size (fun k_ => some k_ ≠ (v255 : Value).ownBlock ∧ some k_ ≠ (v264 : Value).ownBlock) v262 t259) ∧ Aside0 (Kd.Q (Kd.int .i64) 3 w' w.heap.size (fun k_ => some k_ ≠ (v255 : Value).ownBlock ∧ some k_ ≠ (v262 : Value).ownBlock) v264 t260) ∧ Aside0 (Below w.heap.size w w'))
   case atStart => exact ⟨(0), (0), (by first | rfl | (simp; done) | (simp [*]; done)), (by first | rfl | (simp; done) | (simp [*]; done)), H', ⟨Nat.le_refl _⟩, ⟨by (with_reducible repeat (first | apply Kd.R_alloc | apply Kd.R_drewN | apply Kd.R_drew)); exact HO_3.out⟩, ⟨by (with_reducible repeat (first | apply Kd.Q_alloc | apply Kd.Q_drewN | apply Kd.Q_drew)); exact HO_6.out⟩, ⟨by (with_reducible repeat (first | apply Kd.Q_alloc | apply Kd.Q_drewN | apply Kd.Q_drew)); exact HO_7.out⟩, ⟨by repeat (first | (with_reducible first | exact HB.out | apply below_alloc | apply pw_below_drewN | apply below_drew1) | exact HB.out)⟩⟩
   case round =>
    clear H'
    try clear c1; try clear c2; try clear p2; try clear c7; try clear c7b0; try clear c7b1; try clear c8; try clear c8b0; try clear c8b1; try clear c9; try clear c9b0; try clear c9b1; try clear c9b2; try clear c10; try clear c10b0; try clear c10b1; try clear c10b2; try clear c18
    obtain ⟨x9_2, x10_2, rfl, rfl, HA, HK2, HO_3, HO_6, HO_7, HB⟩ := hrel
    cases gk with
    | zero => exact absurd HA.out (by simp [dancestudiolaw11_proves.l0])
    | succ k2 =>
     have H := HA.out
     clear HA
     simp only [dancestudiolaw11_proves.l0] at H
     by_cases c19 : x10_2 < (l0.length : Int)
     ·
      rw [if_pos c19] at H
      have c19b0 : decide (x10_2 < (l0.length : Int)) = true := decide_eq_true c19
      clear c19
      by_cases c20 : 0 ≤ x10_2
      rotate_left
      ·
       rw [if_neg c20] at H
       exact absurd H (by simp)
      rw [if_pos c20] at H
      have c20b0 : decide (0 ≤ x10_2) = true := decide_eq_true c20
      clear c20
      by_cases c21 : x10_2 < (t259.length : Int)
      rotate_left
      ·
       rw [if_neg c21] at H
       exact absurd H (by simp)
      rw [if_pos c21] at H
      have c21b0 : decide (x10_2 < (t259.length : Int)) = true := decide_eq_true c21
      clear c21
      by_cases c22 : (rd t259 x10_2) < (-1125899906842624)
      ·
       rw [if_pos c22] at H
       exact absurd H (by simp)
      rw [if_neg c22] at H
      have c22b0 : decide ((rd t259 x10_2) < (-1125899906842624)) = false := decide_eq_false c22
      clear c22
      by_cases c23 : (rd t259 x10_2) > 1125899906842624
      ·
       rw [if_pos c23] at H
       exact absurd H (by simp)
      rw [if_neg c23] at H
      have c23b0 : decide (1125899906842624 < (rd t259 x10_2)) = false := decide_eq_false c23
      clear c23
      by_cases c24 : x10_2 < (t260.length : Int)
      rotate_left
      ·
       rw [if_neg c24] at H
       exact absurd H (by simp)
      rw [if_pos c24] at H
      have c24b0 : decide (x10_2 < (t260.length : Int)) = true := decide_eq_true c24
      clear c24
      by_cases c25 : (rd t260 x10_2) < (-1125899906842624)
      ·
       rw [if_pos c25] at H
       exact absurd H (by simp)
      rw [if_neg c25] at H
      have c25b0 : decide ((rd t260 x10_2) < (-1125899906842624)) = false := decide_eq_false c25
      clear c25
      by_cases c26 : (rd t260 x10_2) > 1125899906842624
      ·
       rw [if_pos c26] at H
       exact absurd H (by simp)
      rw [if_neg c26] at H
      have c26b0 : decide (1125899906842624 < (rd t260 x10_2)) = false := decide_eq_false c26
      clear c26
      have H' := Aside0.mk H
      clear H
      obtain ⟨Ao27, co27, eo27, _⟩ := Kd.Q_slice HO_6.out
      subst eo27
      have p267 : 0 ≤ (x10_2 : Int) := of_decide_eq_true (by first | (with_reducible assumption) | assumption)
      have q267 : x10_2 < (t259.length : Int) := of_decide_eq_true (by first | (with_reducible assumption) | assumption)
      obtain ⟨ad267, e267, hx267_0⟩ := Kd.at_int (Kd.Q_reads' HO_6.out).2.2 x10_2 p267 q267
      cases e267
      replace p267 := eq_true p267
      replace q267 := eq_true q267
      have p268 : 0 ≤ (x10_2 : Int) := of_decide_eq_true (by first | (with_reducible assumption) | assumption)
      have q268 : x10_2 < (t259.length : Int) := of_decide_eq_true (by first | (with_reducible assumption) | assumption)
      obtain ⟨ad268, e268, hx268_0⟩ := Kd.at_int (Kd.Q_reads' HO_6.out).2.2 x10_2 p268 q268
      obtain rfl : ad267 = ad268 := (by injection e268)
      replace p268 := eq_true p268
      replace q268 := eq_true q268
      obtain ⟨Ao28, co28, eo28, _⟩ := Kd.Q_slice HO_7.out
      subst eo28
      have p269 : 0 ≤ (x10_2 : Int) := of_decide_eq_true (by first | (with_reducible assumption) | assumption)
      have q269 : x10_2 < (t260.length : Int) := of_decide_eq_true (by first | (with_reducible assumption) | assumption)
      obtain ⟨ad269, e269, hx269_0⟩ := Kd.at_int (Kd.Q_reads' HO_7.out).2.2 x10_2 p269 q269
      cases e269
      replace p269 := eq_true p269
      replace q269 := eq_true q269
      have p270 : 0 ≤ (x10_2 : Int) := of_decide_eq_true (by first | (with_reducible assumption) | assumption)
      have q270 : x10_2 < (t260.length : Int) := of_decide_eq_true (by first | (with_reducible assumption) | assumption)
      obtain ⟨ad270, e270, hx270_0⟩ := Kd.at_int (Kd.Q_reads' HO_7.out).2.2 x10_2 p270 q270
      obtain rfl : ad269 = ad270 := (by injection e270)
      replace p270 := eq_true p270
      replace q270 := eq_true q270
      have p271 : 0 ≤ (x10_2 : Int) := of_decide_eq_true (by first | (with_reducible assumption) | assumption)
      have q271 : x10_2 < (t259.length : Int) := of_decide_eq_true (by first | (with_reducible assumption) | assumption)
      obtain ⟨ad271, e271, hx271_0⟩ := Kd.at_int (Kd.Q_reads' HO_6.out).2.2 x10_2 p271 q271
      obtain rfl : ad267 = ad271 := (by injection e271)
      replace p271 := eq_true p271
      replace q271 := eq_true q271
      have p272 : 0 ≤ (x10_2 : Int) := of_decide_eq_true (by first | (with_reducible assumption) | assumption)
      have q272 : x10_2 < (t260.length : Int) := of_decide_eq_true (by first | (with_reducible assumption) | assumption)
      obtain ⟨ad272, e272, hx272_0⟩ := Kd.at_int (Kd.Q_reads' HO_7.out).2.2 x10_2 p272 q272
      obtain rfl : ad269 = ad272 := (by injection e272)
      replace p272 := eq_true p272
      replace q272 := eq_true q272
      go_wp2
      repeat (go_quiet (fail); try go_wp2)
      go_roundg k2
      case measure => have := HJ3.out; have := HK2.out; omega
      case rel => exact ⟨(wrap64 ((wrap64 (x9_2 + (rd t259 x10_2))) + (rd t260 x10_2))), (wrap64 (x10_2 + 1)), (by first | rfl | (simp; done) | (simp [*]; done)), (by first | rfl | (simp; done) | (simp [*]; done)), H', ⟨by have := HJ3.out; have := HK2.out; omega⟩, ⟨by (with_reducible repeat (first | apply Kd.R_alloc | apply Kd.R_drewN | apply Kd.R_drew)); exact HO_3.out⟩, ⟨by (with_reducible repeat (first | apply Kd.Q_alloc | apply Kd.Q_drewN | apply Kd.Q_drew)); exact HO_6.out⟩, ⟨by (with_reducible repeat (first | apply Kd.Q_alloc | apply Kd.Q_drewN | apply Kd.Q_drew)); exact HO_7.out⟩, ⟨by repeat (first | (with_reducible first | exact HB.out | apply below_alloc | apply pw_below_drewN | apply below_drew1) | exact HB.out)⟩⟩
     rw [if_neg c19] at H
     have c19b0 : decide (x10_2 < (l0.length : Int)) = false := decide_eq_false c19
     clear c19
     have H' := Aside0.mk H
     clear H
     go_wp2
     repeat (go_quiet (fail); try go_wp2)
     go_loopg [11, 12] k2 (fun kq v11 v12 w' => ∃ (x11_3 : Int) (x12_3 : Int), v11 = .int .i64 x11_3 ∧ v12 = .int .i64 x12_3 ∧ Aside0 (dancestudiolaw11_proves.l1 kq l0 t254 t257 t259 t260 x9_2 x11_3 x12_3 = some r) ∧ Aside0 (kq ≤ k2) ∧ Aside0 (Kd.R (Kd.int .i64) 3 w' w.heap.size (fun k_ => some k_ ≠ (v262 : Value).ownBlock ∧ some k_ ≠ (v264 : Value).ownBlock) v255 t254) ∧ Aside0 (Kd.Q (Kd.int .i64) 3 w' w.heap.size (fun k_ => some k_ ≠ (v255 : Value).ownBlock ∧ some k_ ≠ (v264 : Value).ownBlock) v262 t259) ∧ Aside0 (Kd.Q (Kd.int .i64) 3 w' w.heap.size (fun k_ => some k_ ≠ (v255 : Value).ownBlock ∧ some k_ ≠ (v262 : Value).ownBlock) v264 t260) ∧ Aside0 (Below w.heap.size w w'))
     case atStart => exact ⟨(0), (0), (by first | rfl | (simp; done) | (simp [*]; done)), (by first | rfl | (simp; done) | (simp [*]; done)), H', ⟨Nat.le_refl _⟩, ⟨by (with_reducible repeat (first | apply Kd.R_alloc | apply Kd.R_drewN | apply Kd.R_drew)); exact HO_3.out⟩, ⟨by (with_reducible repeat (first | apply Kd.Q_alloc | apply Kd.Q_drewN | apply Kd.Q_drew)); exact HO_6.out⟩, ⟨by (with_reducible repeat (first | apply Kd.Q_alloc | apply Kd.Q_drewN | apply Kd.Q_drew)); exact HO_7.out⟩, ⟨by repeat (first | (with_reducible first | exact HB.out | apply below_alloc | apply pw_below_drewN | apply below_drew1) | exact HB.out)⟩⟩
     case round =>
      clear H'
      try clear c1; try clear c2; try clear p2; try clear q2; try clear hx2; try clear p6; try clear c7; try clear c7b0; try clear c7b1; try clear c8; try clear c8b0; try clear c8b1; try clear c9; try clear c9b0; try clear c9b1; try clear c9b2; try clear c10; try clear c10b0; try clear c10b1; try clear c10b2; try clear c18; try clear c19; try clear c19b0; try clear c20; try clear c20b0; try clear c21; try clear c21b0; try clear c22; try clear c22b0; try clear c23; try clear c23b0; try clear c24; try clear c24b0; try clear c25; try clear c25b0; try clear c26; try clear c26b0; try clear p26; try clear q26; try clear hx26; try clear p27; try clear q27; try clear hx27; try clear hx267_0; try clear hx268_0; try clear hx269_0; try clear hx270_0; try clear hx271_0; try clear hx272_0; try clear p267; try clear p268; try clear p269; try clear p270; try clear p271; try clear p272; try clear q267; try clear q268; try clear q269; try clear q270; try clear q271; try clear q272
      obtain ⟨x11_3, x12_3, rfl, rfl, HA, HK3, HO_3, HO_6, HO_7, HB⟩ := hrel
      cases gk with
      | zero => exact absurd HA.out (by simp [dancestudiolaw11_proves.l1])
      | succ k3 =>
       have H := HA.out
       clear HA
       simp only [dancestudiolaw11_proves.l1] at H
       by_cases c29 : x12_3 < (l0.length : Int)
       rotate_left
       ·
        rw [if_neg c29] at H
        have c29b0 : decide (x12_3 < (l0.length : Int)) = false := decide_eq_false c29
        clear c29
        by_cases c51 : x11_3 = t257
        rotate_left
        ·
         rw [if_neg c51] at H
         exact absurd H (by simp)
        rw [if_pos c51] at H
        have c51b0 : (x11_3 == t257) = true := beq_iff_eq.mpr c51
        have c51b1 : (x11_3 != t257) = false := bne_eq_false_iff_eq.mpr c51
        clear c51
        obtain rfl := Option.some.inj H
        go_wp2
        repeat (go_quiet (fail); try go_wp2)
        go_ret
        exact ⟨by first | rfl | (simp [errW_none, errW_some] <;> rfl) | (simp [*, errW_none, errW_some] <;> rfl), by repeat (first | (with_reducible first | exact HB.out | apply below_alloc | apply pw_below_drewN | apply below_drew1) | exact HB.out)⟩
       rw [if_pos c29] at H
       have c29b0 : decide (x12_3 < (l0.length : Int)) = true := decide_eq_true c29
       clear c29
       have H' := Aside0.mk H
       clear H
       go_wp2
       repeat (go_quiet (fail); try go_wp2)
       go_loopg [13] k3 (fun kq v13 w' => ∃ (x13_4 : Int), v13 = .int .i64 x13_4 ∧ Aside0 (dancestudiolaw11_proves.l2 kq l0 t254 t257 t259 t260 x9_2 x11_3 x12_3 x13_4 = some r) ∧ Aside0 (kq ≤ k3) ∧ Aside0 (Kd.R (Kd.int .i64) 3 w' w.heap.size (fun k_ => some k_ ≠ (v262 : Value).ownBlock ∧ some k_ ≠ (v264 : Value).ownBlock) v255 t254) ∧ Aside0 (Kd.Q (Kd.int .i64) 3 w' w.heap.size (fun k_ => some k_ ≠ (v255 : Value).ownBlock ∧ some k_ ≠ (v264 : Value).ownBlock) v262 t259) ∧ Aside0 (Kd.Q (Kd.int .i64) 3 w' w.heap.size (fun k_ => some k_ ≠ (v255 : Value).ownBlock ∧ some k_ ≠ (v262 : Value).ownBlock) v264 t260) ∧ Aside0 (Below w.heap.size w w'))
       case atStart => exact ⟨(0), (by first | rfl | (simp; done) | (simp [*]; done)), H', ⟨Nat.le_refl _⟩, ⟨by (with_reducible repeat (first | apply Kd.R_alloc | apply Kd.R_drewN | apply Kd.R_drew)); exact HO_3.out⟩, ⟨by (with_reducible repeat (first | apply Kd.Q_alloc | apply Kd.Q_drewN | apply Kd.Q_drew)); exact HO_6.out⟩, ⟨by (with_reducible repeat (first | apply Kd.Q_alloc | apply Kd.Q_drewN | apply Kd.Q_drew)); exact HO_7.out⟩, ⟨by repeat (first | (with_reducible first | exact HB.out | apply below_alloc | apply pw_below_drewN | apply below_drew1) | exact HB.out)⟩⟩
       case round =>
        clear H'
        try clear c1; try clear c2; try clear p2; try clear q2; try clear hx2; try clear p6; try clear c7; try clear c7b0; try clear c7b1; try clear c8; try clear c8b0; try clear c8b1; try clear c9; try clear c9b0; try clear c9b1; try clear c9b2; try clear c10; try clear c10b0; try clear c10b1; try clear c10b2; try clear c18; try clear c19; try clear c19b0; try clear c20; try clear c20b0; try clear c21; try clear c21b0; try clear c22; try clear c22b0; try clear c23; try clear c23b0; try clear c24; try clear c24b0; try clear c25; try clear c25b0; try clear c26; try clear c26b0; try clear p26; try clear q26; try clear hx26; try clear p27; try clear q27; try clear hx27; try clear c29; try clear c29b0; try clear hx267_0; try clear hx268_0; try clear hx269_0; try clear hx270_0; try clear hx271_0; try clear hx272_0; try clear p267; try clear p268; try clear p269; try clear p270; try clear p271; try clear p272; try clear q267; try clear q268; try clear q269; try clear q270; try clear q271; try clear q272
        obtain ⟨x13_4, rfl, HA, HK4, HO_3, HO_6, HO_7, HB⟩ := hrel
        cases gk with
        | zero => exact absurd HA.out (by simp [dancestudiolaw11_proves.l2])
        | succ k4 =>
         have H := HA.out
         clear HA
         simp only [dancestudiolaw11_proves.l2] at H
         by_cases c30 : x13_4 < (l0.length : Int)
         ·
          rw [if_pos c30] at H
          have c30b0 : decide (x13_4 < (l0.length : Int)) = true := decide_eq_true c30
          clear c30
          by_cases c31 : 0 ≤ x12_3
          rotate_left
          ·
           rw [if_neg c31] at H
           exact absurd H (by simp)
          rw [if_pos c31] at H
          have c31b0 : decide (0 ≤ x12_3) = true := decide_eq_true c31
          clear c31
          by_cases c32 : x12_3 < (t259.length : Int)
          rotate_left
          ·
           rw [if_neg c32] at H
           exact absurd H (by simp)
          rw [if_pos c32] at H
          have c32b0 : decide (x12_3 < (t259.length : Int)) = true := decide_eq_true c32
          clear c32
          by_cases c33 : 0 ≤ x13_4
          rotate_left
          ·
           rw [if_neg c33] at H
           exact absurd H (by simp)
          rw [if_pos c33] at H
          have c33b0 : decide (0 ≤ x13_4) = true := decide_eq_true c33
          clear c33
          by_cases c34 : x13_4 < (t260.length : Int)
          rotate_left
          ·
           rw [if_neg c34] at H
           exact absurd H (by simp)
          rw [if_pos c34] at H
          have c34b0 : decide (x13_4 < (t260.length : Int)) = true := decide_eq_true c34
          clear c34
          by_cases c35 : x12_3 < (l0.length : Int)
          rotate_left
          ·
           rw [if_neg c35] at H
           exact absurd H (by simp)
          rw [if_pos c35] at H
          have c35b0 : decide (x12_3 < (l0.length : Int)) = true := decide_eq_true c35
          clear c35
          by_cases c36 : x13_4 < ((rd_L1 l0 x12_3).length : Int)
          rotate_left
          ·
           rw [if_neg c36] at H
           exact absurd H (by simp)
          rw [if_pos c36] at H
          have c36b0 : decide (x13_4 < ((rd_L1 l0 x12_3).length : Int)) = true := decide_eq_true c36
          clear c36
          by_cases c37 : (wrap64 ((rd t259 x12_3) + (rd t260 x13_4))) > (rd (rd_L1 l0 x12_3) x13_4)
          ·
           rw [if_pos c37] at H
           exact absurd H (by simp)
          rw [if_neg c37] at H
          have c37b0 : decide ((rd (rd_L1 l0 x12_3) x13_4) < (wrap64 ((rd t259 x12_3) + (rd t260 x13_4)))) = false := decide_eq_false c37
          clear c37
          have H' := Aside0.mk H
          clear H
          obtain ⟨Ao38, co38, eo38, _⟩ := Kd.Q_slice HO_6.out
          subst eo38
          have p273 : 0 ≤ (x12_3 : Int) := of_decide_eq_true (by first | (with_reducible assumption) | assumption)
          have q273 : x12_3 < (t259.length : Int) := of_decide_eq_true (by first | (with_reducible assumption) | assumption)
          obtain ⟨ad273, e273, hx273_0⟩ := Kd.at_int (Kd.Q_reads' HO_6.out).2.2 x12_3 p273 q273
          cases e273
          replace p273 := eq_true p273
          replace q273 := eq_true q273
          obtain ⟨Ao39, co39, eo39, _⟩ := Kd.Q_slice HO_7.out
          subst eo39
          have p274 : 0 ≤ (x13_4 : Int) := of_decide_eq_true (by first | (with_reducible assumption) | assumption)
          have q274 : x13_4 < (t260.length : Int) := of_decide_eq_true (by first | (with_reducible assumption) | assumption)
          obtain ⟨ad274, e274, hx274_0⟩ := Kd.at_int (Kd.Q_reads' HO_7.out).2.2 x13_4 p274 q274
          cases e274
          replace p274 := eq_true p274
          replace q274 := eq_true q274
          have p275 : 0 ≤ (x12_3 : Int) := of_decide_eq_true (by first | (with_reducible assumption) | assumption)
          have q275 : x12_3 < (l0.length : Int) := of_decide_eq_true (by first | (with_reducible assumption) | assumption)
          obtain ⟨ad275, A275_0, c275_0, e275, hx275_0, hl275_0, hi275_0⟩ := at_L1 HR0.out x12_3 p275 q275
          cases e275
          replace hx275_0 := (HB.out.cell (World.block_lt_of_cell? w _ hx275_0)).trans hx275_0
          have HR275_0 := Aside0.mk hi275_0
          have HC275_0 := Aside0.mk hl275_0
          clear hi275_0 hl275_0
          replace p275 := eq_true p275
          replace q275 := eq_true q275
          have p276 : 0 ≤ (x13_4 : Int) := of_decide_eq_true (by first | (with_reducible assumption) | assumption)
          have q276 : x13_4 < ((rd_L1 l0 x12_3).length : Int) := of_decide_eq_true (by first | (with_reducible assumption) | assumption)
          obtain ⟨ad276, e276, hx276_0⟩ := Kd.at_int HR275_0.out x13_4 p276 q276
          cases e276
          replace hx276_0 := (HB.out.cell (World.block_lt_of_cell? w _ hx276_0)).trans hx276_0
          replace p276 := eq_true p276
          replace q276 := eq_true q276
          go_wp2
          repeat (go_quiet (fail); try go_wp2)
          go_roundg k4
          case measure => have := HJ3.out; have := HK2.out; have := HK3.out; have := HK4.out; omega
          case rel => exact ⟨(wrap64 (x13_4 + 1)), (by first | rfl | (simp; done) | (simp [*]; done)), H', ⟨by have := HJ3.out; have := HK2.out; have := HK3.out; have := HK4.out; omega⟩, ⟨by (with_reducible repeat (first | apply Kd.R_alloc | apply Kd.R_drewN | apply Kd.R_drew)); exact HO_3.out⟩, ⟨by (with_reducible repeat (first | apply Kd.Q_alloc | apply Kd.Q_drewN | apply Kd.Q_drew)); exact HO_6.out⟩, ⟨by (with_reducible repeat (first | apply Kd.Q_alloc | apply Kd.Q_drewN | apply Kd.Q_drew)); exact HO_7.out⟩, ⟨by repeat (first | (with_reducible first | exact HB.out | apply below_alloc | apply pw_below_drewN | apply below_drew1) | exact HB.out)⟩⟩
         rw [if_neg c30] at H
         have c30b0 : decide (x13_4 < (l0.length : Int)) = false := decide_eq_false c30
         clear c30
         by_cases c40 : 0 ≤ x12_3
         rotate_left
         ·
          rw [if_neg c40] at H
          exact absurd H (by simp)
         rw [if_pos c40] at H
         have c40b0 : decide (0 ≤ x12_3) = true := decide_eq_true c40
         clear c40
         by_cases c41 : x12_3 < (t259.length : Int)
         rotate_left
         ·
          rw [if_neg c41] at H
          exact absurd H (by simp)
         rw [if_pos c41] at H
         have c41b0 : decide (x12_3 < (t259.length : Int)) = true := decide_eq_true c41
         clear c41
         by_cases c42 : x12_3 < (t254.length : Int)
         rotate_left
         ·
          rw [if_neg c42] at H
          exact absurd H (by simp)
         rw [if_pos c42] at H
         have c42b0 : decide (x12_3 < (t254.length : Int)) = true := decide_eq_true c42
         clear c42
         by_cases c43 : 0 ≤ (rd t254 x12_3)
         rotate_left
         ·
          rw [if_neg c43] at H
          exact absurd H (by simp)
         rw [if_pos c43] at H
         have c43b0 : decide (0 ≤ (rd t254 x12_3)) = true := decide_eq_true c43
         clear c43
         by_cases c44 : (rd t254 x12_3) < (t260.length : Int)
         rotate_left
         ·
          rw [if_neg c44] at H
          exact absurd H (by simp)
         rw [if_pos c44] at H
         have c44b0 : decide ((rd t254 x12_3) < (t260.length : Int)) = true := decide_eq_true c44
         clear c44
         by_cases c45 : x12_3 < (l0.length : Int)
         rotate_left
         ·
          rw [if_neg c45] at H
          exact absurd H (by simp)
         rw [if_pos c45] at H
         have c45b0 : decide (x12_3 < (l0.length : Int)) = true := decide_eq_true c45
         clear c45
         by_cases c46 : (rd t254 x12_3) < ((rd_L1 l0 x12_3).length : Int)
         rotate_left
         ·
          rw [if_neg c46] at H
          exact absurd H (by simp)
         rw [if_pos c46] at H
         have c46b0 : decide ((rd t254 x12_3) < ((rd_L1 l0 x12_3).length : Int)) = true := decide_eq_true c46
         clear c46
         by_cases c47 : (wrap64 ((rd t259 x12_3) + (rd t260 (rd t254 x12_3)))) = (rd (rd_L1 l0 x12_3) (rd t254 x12_3))
         rotate_left
         ·
          rw [if_neg c47] at H
          exact absurd H (by simp)
         rw [if_pos c47] at H
         have c47b0 : ((wrap64 ((rd t259 x12_3) + (rd t260 (rd t254 x12_3)))) == (rd (rd_L1 l0 x12_3) (rd t254 x12_3))) = true := beq_iff_eq.mpr c47
         have c47b1 : ((wrap64 ((rd t259 x12_3) + (rd t260 (rd t254 x12_3)))) != (rd (rd_L1 l0 x12_3) (rd t254 x12_3))) = false := bne_eq_false_iff_eq.mpr c47
         clear c47
         have H' := Aside0.mk H
         clear H
         obtain ⟨Ao48, co48, eo48, _⟩ := Kd.Q_slice HO_6.out
         subst eo48
         have p277 : 0 ≤ (x12_3 : Int) := of_decide_eq_true (by first | (with_reducible assumption) | assumption)
         have q277 : x12_3 < (t259.length : Int) := of_decide_eq_true (by first | (with_reducible assumption) | assumption)
         obtain ⟨ad277, e277, hx277_0⟩ := Kd.at_int (Kd.Q_reads' HO_6.out).2.2 x12_3 p277 q277
         cases e277
         replace p277 := eq_true p277
         replace q277 := eq_true q277
         obtain ⟨Ao49, co49, eo49⟩ := Kd.R_slice HO_3.out
         subst eo49
         have p278 : 0 ≤ (x12_3 : Int) := of_decide_eq_true (by first | (with_reducible assumption) | assumption)
         have q278 : x12_3 < (t254.length : Int) := of_decide_eq_true (by first | (with_reducible assumption) | assumption)
         obtain ⟨ad278, e278, hx278_0⟩ := Kd.at_int (Kd.R_reads' HO_3.out).2.2 x12_3 p278 q278
         cases e278
         replace p278 := eq_true p278
         replace q278 := eq_true q278
         obtain ⟨Ao50, co50, eo50, _⟩ := Kd.Q_slice HO_7.out
         subst eo50
         have p279 : 0 ≤ ((rd t254 x12_3) : Int) := of_decide_eq_true (by first | (with_reducible assumption) | assumption)
         have q279 : (rd t254 x12_3) < (t260.length : Int) := of_decide_eq_true (by first | (with_reducible assumption) | assumption)
         obtain ⟨ad279, e279, hx279_0⟩ := Kd.at_int (Kd.Q_reads' HO_7.out).2.2 (rd t254 x12_3) p279 q279
         cases e279
         replace p279 := eq_true p279
         replace q279 := eq_true q279
         have p280 : 0 ≤ (x12_3 : Int) := of_decide_eq_true (by first | (with_reducible assumption) | assumption)
         have q280 : x12_3 < (l0.length : Int) := of_decide_eq_true (by first | (with_reducible assumption) | assumption)
         obtain ⟨ad280, A280_0, c280_0, e280, hx280_0, hl280_0, hi280_0⟩ := at_L1 HR0.out x12_3 p280 q280
         cases e280
         replace hx280_0 := (HB.out.cell (World.block_lt_of_cell? w _ hx280_0)).trans hx280_0
         have HR280_0 := Aside0.mk hi280_0
         have HC280_0 := Aside0.mk hl280_0
         clear hi280_0 hl280_0
         replace p280 := eq_true p280
         replace q280 := eq_true q280
         have p281 : 0 ≤ (x12_3 : Int) := of_decide_eq_true (by first | (with_reducible assumption) | assumption)
         have q281 : x12_3 < (t254.length : Int) := of_decide_eq_true (by first | (with_reducible assumption) | assumption)
         obtain ⟨ad281, e281, hx281_0⟩ := Kd.at_int (Kd.R_reads' HO_3.out).2.2 x12_3 p281 q281
         obtain rfl : ad278 = ad281 := (by injection e281)
         replace p281 := eq_true p281
         replace q281 := eq_true q281
         have p282 : 0 ≤ ((rd t254 x12_3) : Int) := of_decide_eq_true (by first | (with_reducible assumption) | assumption)
         have q282 : (rd t254 x12_3) < ((rd_L1 l0 x12_3).length : Int) := of_decide_eq_true (by first | (with_reducible assumption) | assumption)
         obtain ⟨ad282, e282, hx282_0⟩ := Kd.at_int HR280_0.out (rd t254 x12_3) p282 q282
         cases e282
         replace hx282_0 := (HB.out.cell (World.block_lt_of_cell? w _ hx282_0)).trans hx282_0
         replace p282 := eq_true p282
         replace q282 := eq_true q282
         have p283 : 0 ≤ (x12_3 : Int) := of_decide_eq_true (by first | (with_reducible assumption) | assumption)
         have q283 : x12_3 < (l0.length : Int) := of_decide_eq_true (by first | (with_reducible assumption) | assumption)
         obtain ⟨ad283, A283_0, c283_0, e283, hx283_0, hl283_0, hi283_0⟩ := at_L1 HR0.out x12_3 p283 q283
         obtain rfl : ad280 = ad283 := (by injection e283)
         replace hx283_0 := (HB.out.cell (World.block_lt_of_cell? w _ hx283_0)).trans hx283_0
         have HR283_0 := Aside0.mk hi283_0
         have HC283_0 := Aside0.mk hl283_0
         clear hi283_0 hl283_0
         replace p283 := eq_true p283
         replace q283 := eq_true q283
         have ea_ := Option.some.inj (hx280_0.symm.trans hx283_0)
         injection ea_ with ea_ en_ ec_
         subst ea_
         subst ec_
         clear en_
         have p284 : 0 ≤ (x12_3 : Int) := of_decide_eq_true (by first | (with_reducible assumption) | assumption)
         have q284 : x12_3 < (t254.length : Int) := of_decide_eq_true (by first | (with_reducible assumption) | assumption)
         obtain ⟨ad284, e284, hx284_0⟩ := Kd.at_int (Kd.R_reads' HO_3.out).2.2 x12_3 p284 q284
         obtain rfl : ad278 = ad284 := (by injection e284)
         replace p284 := eq_true p284
         replace q284 := eq_true q284
         have p285 : 0 ≤ ((rd t254 x12_3) : Int) := of_decide_eq_true (by first | (with_reducible assumption) | assumption)
         have q285 : (rd t254 x12_3) < ((rd_L1 l0 x12_3).length : Int) := of_decide_eq_true (by first | (with_reducible assumption) | assumption)
         obtain ⟨ad285, e285, hx285_0⟩ := Kd.at_int HR283_0.out (rd t254 x12_3) p285 q285
         cases e285
         replace hx285_0 := (HB.out.cell (World.block_lt_of_cell? w _ hx285_0)).trans hx285_0
         replace p285 := eq_true p285
         replace q285 := eq_true q285
         go_wp2
         repeat (go_quiet (fail); try go_wp2)
         go_roundg k4
         case measure => have := HJ3.out; have := HK2.out; have := HK3.out; have := HK4.out; omega
         case rel => exact ⟨(wrap64 (x11_3 + (rd (rd_L1 l0 x12_3) (rd t254 x12_3)))), (wrap64 (x12_3 + 1)), (by first | rfl | (simp; done) | (simp [*]; done)), (by first | rfl | (simp; done) | (simp [*]; done)), H', ⟨by have := HJ3.out; have := HK2.out; have := HK3.out; have := HK4.out; omega⟩, ⟨by (with_reducible repeat (first | apply Kd.R_alloc | apply Kd.R_drewN | apply Kd.R_drew)); exact HO_3.out⟩, ⟨by (with_reducible repeat (first | apply Kd.Q_alloc | apply Kd.Q_drewN | apply Kd.Q_drew)); exact HO_6.out⟩, ⟨by (with_reducible repeat (first | apply Kd.Q_alloc | apply Kd.Q_drewN | apply Kd.Q_drew)); exact HO_7.out⟩, ⟨by repeat (first | (with_reducible first | exact HB.out | apply below_alloc | apply pw_below_drewN | apply below_drew1) | exact HB.out)⟩⟩
end Go.Proofs.Ytbmflpflmjfabaa.PAll
