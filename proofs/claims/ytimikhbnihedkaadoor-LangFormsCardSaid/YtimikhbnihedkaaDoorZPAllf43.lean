import Derived.Test.YtimikhbnihedkaaDoorZKx
import Derived.Test.YtimikhbnihedkaaDoorZMC0
import Derived.Test.YtimikhbnihedkaaDoorZPAllf55
import Derived.Test.YtimikhbnihedkaaDoorZPAllf72
namespace Go.Proofs.YtimikhbnihedkaaDoor.PAll
open Go.RowKit Go.Proofs.YtimikhbnihedkaaDoorW.PrintWords Go.Proofs.YtimikhbnihedkaaDoorW.PrintLast Go.Proofs.YtimikhbnihedkaaDoorW.PrintMore
attribute [local go_sem] max2_int min2_int max_two min_two max_three min_three max_four min_four
set_option linter.unusedVariables false
set_option linter.unusedSimpArgs false

/-! ### dancestudioref35_Leaves: function 43 -/
mutual
def dancestudioref35_Leaves.l0 : Nat → List (S43) → List (S72) → List (List (S43)) → Int → Option ((List (S72)) × Bool)
 | 0, _, _, _, _ => none
 | k + 1, x0, x4, x5, x6 => if x6 < (x5.length : Int) then (if 0 ≤ x6 then ((dancestudioref35_Leaves.f k (rd_L3 x5 x6)).bind fun bt642 => (if bt642.2 = true then (if x4.length + bt642.1.length < 3518437208883 then (dancestudioref35_Leaves.l0 k x0 (x4 ++ bt642.1) x5 (wrap64 (x6 + 1))) else (none)) else (some (([] : List (S72)), false)))) else (none)) else (if 0 < (x0.length : Int) then (if ((rd_T43 x0 0).f0) = 7 then (dancestudioref35_Leaves.j1 k x0 x4 ((rd_T43 x0 0).f2)) else (dancestudioref35_Leaves.j1 k x0 x4 1)) else (none))
def dancestudioref35_Leaves.j1 : Nat → List (S43) → List (S72) → Int → Option ((List (S72)) × Bool)
 | 0, _, _, _ => none
 | k + 1, x0, x4, x9 => if 0 < (x0.length : Int) then (if ((rd_T43 x0 0).f0) = 4 then ((dancestudioref35_turned.f k x4).bind fun t652 => (dancestudioref35_Leaves.j2 k x0 t652 x9)) else (dancestudioref35_Leaves.j2 k x0 x4 x9)) else (none)
def dancestudioref35_Leaves.j2 : Nat → List (S43) → List (S72) → Int → Option ((List (S72)) × Bool)
 | 0, _, _, _ => none
 | k + 1, x0, x4, x9 => dancestudioref35_Leaves.l1 k x0 x4 x9 ([] : List (S72)) 0
def dancestudioref35_Leaves.l1 : Nat → List (S43) → List (S72) → Int → List (S72) → Int → Option ((List (S72)) × Bool)
 | 0, _, _, _, _, _ => none
 | k + 1, x0, x4, x9, x10, x11 => if x11 < x9 then (dancestudioref35_Leaves.l2 k x0 x4 x9 x10 x11 0) else (some (x10, decide ((x10.length : Int) ≤ 64)))
def dancestudioref35_Leaves.l2 : Nat → List (S43) → List (S72) → Int → List (S72) → Int → Int → Option ((List (S72)) × Bool)
 | 0, _, _, _, _, _, _ => none
 | k + 1, x0, x4, x9, x10, x11, x12 => if x12 < (x4.length : Int) then (if 0 ≤ x12 then (if 0 < (x0.length : Int) then (if ((rd_T43 x0 0).f0) = 3 then (if ((rd_T72 x4 x12).f4) > 8192 then (some (([] : List (S72)), false)) else (if x10.length < 3518437208883 then (dancestudioref35_Leaves.l2 k x0 x4 x9 (x10 ++ [(⟨(rd_T72 x4 x12).f0, Int.tmod (wrap64 (4 - ((rd_T72 x4 x12).f1))) 4, !((rd_T72 x4 x12).f2), (rd_T72 x4 x12).f3, (rd_T72 x4 x12).f4⟩ : S72)]) x11 (wrap64 (x12 + 1))) else (none))) else (if ((rd_T43 x0 0).f0) = 4 then (if ((rd_T72 x4 x12).f4) > 8192 then (some (([] : List (S72)), false)) else (if x10.length < 3518437208883 then (dancestudioref35_Leaves.l2 k x0 x4 x9 (x10 ++ [(⟨(rd_T72 x4 x12).f0, (rd_T72 x4 x12).f1, (rd_T72 x4 x12).f2, !((rd_T72 x4 x12).f3), (rd_T72 x4 x12).f4⟩ : S72)]) x11 (wrap64 (x12 + 1))) else (none))) else (if ((rd_T43 x0 0).f0) = 5 then (if ((rd_T72 x4 x12).f4) > 8192 then (some (([] : List (S72)), false)) else (if x10.length < 3518437208883 then (dancestudioref35_Leaves.l2 k x0 x4 x9 (x10 ++ [(⟨(rd_T72 x4 x12).f0, Int.tmod (wrap64 (((rd_T72 x4 x12).f1) + ((rd_T43 x0 0).f2))) 4, (rd_T72 x4 x12).f2, (rd_T72 x4 x12).f3, (rd_T72 x4 x12).f4⟩ : S72)]) x11 (wrap64 (x12 + 1))) else (none))) else (if ((rd_T43 x0 0).f0) = 6 then (if (wrap64 (((rd_T72 x4 x12).f4) * ((rd_T43 x0 0).f2))) > 8192 then (some (([] : List (S72)), false)) else (if x10.length < 3518437208883 then (dancestudioref35_Leaves.l2 k x0 x4 x9 (x10 ++ [(⟨(rd_T72 x4 x12).f0, (rd_T72 x4 x12).f1, (rd_T72 x4 x12).f2, (rd_T72 x4 x12).f3, wrap64 (((rd_T72 x4 x12).f4) * ((rd_T43 x0 0).f2))⟩ : S72)]) x11 (wrap64 (x12 + 1))) else (none))) else (if ((rd_T72 x4 x12).f4) > 8192 then (some (([] : List (S72)), false)) else (if x10.length < 3518437208883 then (dancestudioref35_Leaves.l2 k x0 x4 x9 (x10 ++ [(⟨(rd_T72 x4 x12).f0, (rd_T72 x4 x12).f1, (rd_T72 x4 x12).f2, (rd_T72 x4 x12).f3, (rd_T72 x4 x12).f4⟩ : S72)]) x11 (wrap64 (x12 + 1))) else (none))))))) else (none)) else (none)) else (if (x10.length : Int) > 64 then (some (([] : List (S72)), false)) else (dancestudioref35_Leaves.l1 k x0 x4 x9 x10 (wrap64 (x11 + 1))))
def dancestudioref35_Leaves.f : Nat → List (S43) → Option ((List (S72)) × Bool)
 | 0, _ => none
 | k + 1, l0 => if 0 < (l0.length : Int) then (if ((rd_T43 l0 0).f0) = 1 then (some ((([(⟨(rd_T43 l0 0).f1, 0, false, false, 1⟩ : S72)] : List (S72))), true)) else (if 1 ≤ (l0.length : Int) then ((dancestudioref35_arguments.f k (l0.drop 1)).bind fun t638 => (dancestudioref35_Leaves.l0 k l0 ([] : List (S72)) t638 0)) else (none))) else (none)
end
def dancestudioref35_Leaves.T32 : Bool × List (List Nat × List Nat) := (true, [([], []), ([0], [0]), ([], []), ([2], [2]), ([3], [3]), ([4], [4]), ([1, 5], [1, 5]), ([6], [6]), ([0, 1, 2, 3, 4, 5, 6, 7], []), ([8, 7, 0, 1, 2, 3, 4, 5, 6, 7], [7, 8])])
def dancestudioref35_Leaves.B32 : List Nat := [0, 1, 0, 4, 12, 28, 63, 127, 255, 511]
theorem dancestudioref35_Leaves.tab32 : rtab .any (opsOf Tryd.f43 32) = dancestudioref35_Leaves.T32 := by kernel_rfl
theorem dancestudioref35_Leaves.bits32 : waitsOk dancestudioref35_Leaves.T32.2 dancestudioref35_Leaves.B32 = true := by kernel_rfl
def dancestudioref35_Leaves.T34 : Bool × List (List Nat × List Nat) := (true, [([], []), ([0], [0]), ([], []), ([2], [2]), ([3], [3]), ([4], [4]), ([1, 5], [1, 5]), ([0, 1, 2, 3, 4, 5, 6], []), ([7, 6, 0, 1, 2, 3, 4, 5, 6], [6, 7])])
def dancestudioref35_Leaves.B34 : List Nat := [0, 1, 0, 4, 12, 28, 63, 127, 255]
theorem dancestudioref35_Leaves.tab34 : rtab .any (opsOf Tryd.f43 34) = dancestudioref35_Leaves.T34 := by kernel_rfl
theorem dancestudioref35_Leaves.bits34 : waitsOk dancestudioref35_Leaves.T34.2 dancestudioref35_Leaves.B34 = true := by kernel_rfl
set_option maxHeartbeats 8000000 in
set_option maxRecDepth 100000 in
theorem dancestudioref35_Leaves.calls (k : Nat) : ∀ (A0 : Option Addr) (c0 : Nat) (l0 : List (S43)) (r1 : List (S72)) (r2 : Bool) (w : World) (hr0 : Kd.C k43 w A0 l0.length l0) (hc0 : l0.length ≤ c0) (h : dancestudioref35_Leaves.f k l0 = some (r1, r2)),
  Calls Tryd.prog 43 #[.slice A0 l0.length c0] w fun e w' => ∃ v0_ : Value, e = .returned (.tuple #[v0_, .bool r2]) ∧ Kd.R k72 72 w' w.heap.size (fun _ => True) v0_ r1 ∧ Below w.heap.size w w' := by
 induction k using Nat.strongRecOn with
 | _ k ih =>
 intro A0 c0 l0 r1 r2 w hr0 hc0 h
 cases k with
 | zero => exact absurd h (by simp [dancestudioref35_Leaves.f])
 | succ k =>
 simp only [dancestudioref35_Leaves.f] at h
 have hu72 := Tryd.underlying72
 have HR0 := Aside0.mk hr0
 have HC0 := Aside0.mk hc0
 clear hr0 hc0
 have HB := Aside0.mk (Below.refl w.heap.size w)
 have H := h
 unfold dancestudioref35_Leaves.f at H
 clear h
 obtain ⟨c2, H⟩ : (0 < (l0.length : Int)) ∧ _ := mIf H
 have c2b0 := decide_eq_true c2
 have c2b1 : decide (0 < l0.length) = true := decide_eq_true (by omega)
 clear c2
 by_cases c3 : ((rd_T43 l0 0).f0) = 1
 ·
  rw [if_pos c3] at H
  have c3b0 := beq_iff_eq.mpr c3
  have c3b1 := bne_eq_false_iff_eq.mpr c3
  clear c3
  obtain ⟨y631, hy631⟩ : ∃ y_ : List (S72), y_ = (([(⟨(rd_T43 l0 0).f1, 0, false, false, 1⟩ : S72)] : List (S72))) := ⟨_, rfl⟩
  rw [← hy631] at H
  have Ny631 := Aside0.mk hy631
  clear hy631
  simp only [Option.some.injEq, Prod.mk.injEq] at H
  obtain ⟨rfl, rfl⟩ := H
  have p629 : 0 ≤ (0 : Int) := (by omega)
  have q629 : 0 < (l0.length : Int) := of_decide_eq_true (by assumption)
  obtain ⟨ad629, e629, hx629_0, hx629_1, hx629_2, hx629_3⟩ := at_T43 HR0.out 0 p629 q629
  cases e629
  have qi629 : (0 < l0.length) = True := eq_true (by omega)
  (try rw [show ((0 : Int)).toNat = 0 from rfl] at hx629_0)
  (try rw [show 0 * 4 = 0 from rfl] at hx629_0)
  (try rw [Addr.add_zero'] at hx629_0)
  (try rw [show ((0 : Int)).toNat = 0 from rfl] at hx629_1)
  (try rw [show 0 * 4 = 0 from rfl] at hx629_1)
  (try rw [Addr.add_zero'] at hx629_1)
  (try rw [show ((0 : Int)).toNat = 0 from rfl] at hx629_2)
  (try rw [show 0 * 4 = 0 from rfl] at hx629_2)
  (try rw [Addr.add_zero'] at hx629_2)
  (try rw [show ((0 : Int)).toNat = 0 from rfl] at hx629_3)
  (try rw [show 0 * 4 = 0 from rfl] at hx629_3)
  (try rw [Addr.add_zero'] at hx629_3)
  replace p629 := eq_true p629
  replace q629 := eq_true q629
  have p630 : 0 ≤ (0 : Int) := (by omega)
  have q630 : 0 < (l0.length : Int) := of_decide_eq_true (by assumption)
  obtain ⟨ad630, e630, hx630_0, hx630_1, hx630_2, hx630_3⟩ := at_T43 HR0.out 0 p630 q630
  obtain rfl : ad629 = ad630 := (by injection e630)
  have qi630 : (0 < l0.length) = True := eq_true (by omega)
  (try rw [show ((0 : Int)).toNat = 0 from rfl] at hx630_0)
  (try rw [show 0 * 4 = 0 from rfl] at hx630_0)
  (try rw [Addr.add_zero'] at hx630_0)
  (try rw [show ((0 : Int)).toNat = 0 from rfl] at hx630_1)
  (try rw [show 0 * 4 = 0 from rfl] at hx630_1)
  (try rw [Addr.add_zero'] at hx630_1)
  (try rw [show ((0 : Int)).toNat = 0 from rfl] at hx630_2)
  (try rw [show 0 * 4 = 0 from rfl] at hx630_2)
  (try rw [Addr.add_zero'] at hx630_2)
  (try rw [show ((0 : Int)).toNat = 0 from rfl] at hx630_3)
  (try rw [show 0 * 4 = 0 from rfl] at hx630_3)
  (try rw [Addr.add_zero'] at hx630_3)
  replace p630 := eq_true p630
  replace q630 := eq_true q630
  go_enter Tryd.func43, Tryd.ntmps43
  go_wp2_with (first | ((with_reducible refine gate_dst (N := 24) rfl ?_); refine Kd.R_lit k72 _ 72 ?hg (N := 24) ?hd (xs := ([(⟨(rd_T43 l0 0).f1, 0, false, false, 1⟩ : S72)] : List (S72))) (inner := [.string ((rd_T43 l0 0).f1), .int .i64 0, .bool false, .bool false, .int .i64 1]) (ok := fun _ => True) (okp := fun _ => True) ?hr ?hp (fun _ hk => hk) trivial (Below.refl _ _) (Nat.le_refl _) (by simp) ?_; (case hd => rfl); (case hg => rfl); (case hr => first | (go_simp; done) | (go_simp; rfl)); (case hp => exact (Reps.c5 (k72_mkM _ _ _ _) (Reps.none _ _))); intro v632 w4 ho5 hb hg_ hnew_; clear hg_ hnew_; (first | rw [← Ny631.out] at ho5 | (simp only [Int.reduceToNat] at ho5; rw [← Ny631.out] at ho5)); have HO633 := Aside0.mk (Kd.R_lower ho5 (below_size HB.out)); replace HB := mSt HB hb; clear hb ho5))
  go_ret2
  exact ⟨_, rfl, by exact HO633.out, HB.out⟩
 rw [if_neg c3] at H
 have c3b0 := beq_eq_false_iff_ne.mpr c3
 have c3b1 := bne_iff_ne.mpr c3
 obtain ⟨c6, H⟩ : (1 ≤ (l0.length : Int)) ∧ _ := mIf H
 have c6b0 := eq_true c6
 have c6b1 := decide_eq_true c6
 clear c6
 obtain ⟨y634, hy634⟩ : ∃ y_ : List (S43), y_ = (l0.drop 1) := ⟨_, rfl⟩
 rw [← hy634] at H
 have Ny634 := Aside0.mk hy634
 clear hy634
 replace H := Option.bind_eq_some_iff.mp H
 obtain ⟨t638, A70, H⟩ := H
 try dsimp only at H
 have A7 := Aside0.mk A70
 clear A70
 have H' := Aside0.mk H
 clear H
 have p629 : 0 ≤ (0 : Int) := (by omega)
 have q629 : 0 < (l0.length : Int) := of_decide_eq_true (by assumption)
 obtain ⟨ad629, e629, hx629_0, hx629_1, hx629_2, hx629_3⟩ := at_T43 HR0.out 0 p629 q629
 cases e629
 have qi629 : (0 < l0.length) = True := eq_true (by omega)
 (try rw [show ((0 : Int)).toNat = 0 from rfl] at hx629_0)
 (try rw [show 0 * 4 = 0 from rfl] at hx629_0)
 (try rw [Addr.add_zero'] at hx629_0)
 (try rw [show ((0 : Int)).toNat = 0 from rfl] at hx629_1)
 (try rw [show 0 * 4 = 0 from rfl] at hx629_1)
 (try rw [Addr.add_zero'] at hx629_1)
 (try rw [show ((0 : Int)).toNat = 0 from rfl] at hx629_2)
 (try rw [show 0 * 4 = 0 from rfl] at hx629_2)
 (try rw [Addr.add_zero'] at hx629_2)
 (try rw [show ((0 : Int)).toNat = 0 from rfl] at hx629_3)
 (try rw [show 0 * 4 = 0 from rfl] at hx629_3)
 (try rw [Addr.add_zero'] at hx629_3)
 replace p629 := eq_true p629
 replace q629 := eq_true q629
 have q8 : (1 : Int) ≤ ((l0.length : Int) : Int) := of_decide_eq_true (by assumption)
 obtain ⟨i08, hi08, _, hsz8, _⟩ := info_parts info43
 have hroom8 : l0.length ≤ c0 := HC0.out
 have hC8 : Kd.C k43 _ (some ad629) l0.length l0 := HR0.out
 have hcut8 := cut_from (P := Tryd.prog) 22 43 .i64 Tryd.underlying22 hi08 4 hsz8 (some ad629) l0.length c0 1 (by omega) q8
 have hr8 := Kd.C_drop (m := (1 : Int).toNat) (c := c0) hC8 (by omega) hroom8
 obtain ⟨A8, hA8⟩ : ∃ A1, A1 = (if c0 = (1 : Int).toNat then (some ad629) else ((some ad629) : Option Addr).map (·.add ((1 : Int).toNat * 4))) := ⟨_, rfl⟩
 obtain ⟨c8, hc8⟩ : ∃ c1, c1 = c0 - (1 : Int).toNat := ⟨_, rfl⟩
 have hy8 : y634.length = l0.length - (1 : Int).toNat := (by rw [Ny634.out, List.length_drop] <;> omega)
 rw [show (l0).drop (1 : Int).toNat = y634 from Ny634.out.symm] at hr8
 replace hr8 : Kd.C k43 _ A8 y634.length y634 := (by rw [hA8]; exact hr8)
 rw [← hy8, ← hA8, ← hc8] at hcut8
 have HR637 := Aside0.mk hr8
 have HC637 := Aside0.mk (show y634.length ≤ c8 from by rw [hy8, hc8]; exact Nat.sub_le_sub_right hroom8 _)
 clear hr8 hC8 hroom8 hi08 hsz8 hc8
 have KY8 := Aside0.mk hy8
 have KA8 := Aside0.mk hA8
 clear hy8 hA8
 replace q8 := eq_true q8
 go_enter Tryd.func43, Tryd.ntmps43
 go_wp2_with (first | ((with_reducible refine gate_callee (f := 55) rfl ?_); refine goesL_ (some 27) rfl rfl Tryd.func55 (by kernel_rfl) rfl #[.slice A8 y634.length c8] rfl (mA1 rfl) ?_; (with_reducible refine (dancestudioref35_arguments.calls k (fun k_ => k_ < w.heap.size) _ _ y634 t638 _ (Kd.V_mk HC637.out (Kd.F_below (Kd.C_F k43_heap HR637.out) HB.out)) A7.out).mono ?_); rintro e w9 ⟨v639, rfl, ho0, hb⟩; refine ⟨_, rfl, ?_⟩; have HO640 := Aside0.mk (Kd.N_lower (Kd.N_mono (ok' := fun k_ => True) ho0 (fun k_ hk_ => trivial)) (below_size HB.out)); replace HB := mSt HB hb; (try clear hb); (try clear ho0)))
 go_loopg [4, 6] k (fun kq v4 v6 w' => ∃ (x4_1 : List (S72)) (x6_1 : Int), v6 = .int .i64 x6_1 ∧ Aside0 (dancestudioref35_Leaves.l0 kq l0 x4_1 t638 x6_1 = some (r1, r2)) ∧ Aside0 (kq ≤ k) ∧ Aside0 (Kd.R k72 72 w' w.heap.size (fun _ => True) v4 x4_1) ∧ Aside0 (Kd.N (Kd.slice 43 k43) 22 w' w.heap.size (fun k_ => some k_ ≠ (v4 : Value).ownBlock) v639 t638) ∧ Aside0 (Below w.heap.size w w'))
 case atStart => exact ⟨(([] : List (S72))), (0), rfl, H', ⟨Nat.le_refl _⟩, ⟨by first | exact Kd.R_nil _ _ _ _ _ | exact Kd.N_nil _ _ _ _ _ | exact Kd.V_nil _ _ _ _ _ | exact Kd.Q_nil _ _ _ _ _ | exact Kd.S_nil _ _ _ _ _⟩, ⟨Kd.N_mono HO640.out (fun _ hk => (by simp [Value.ownBlock]))⟩, ⟨HB.out⟩⟩
 case round =>
  clear H'
  try clear c1; try clear c2; try clear c2b0; try clear c2b1; try clear p2; try clear c3; try clear c3b0; try clear c3b1; try clear c4; try clear c5; try clear c6; try clear c6b0; try clear c6b1; try clear p6; try clear q6; try clear hx6; try clear qi6; try clear c8; try clear q8; try clear hx629_0; try clear hx629_1; try clear hx629_2; try clear hx629_3; try clear hx630_0; try clear hx630_1; try clear hx630_2; try clear hx630_3; try clear p629; try clear p630; try clear q629; try clear q630
  obtain ⟨x4_1, x6_1, rfl, HA, HK1, HO_4, HO_5, HB⟩ := hrel
  cases gk with
  | zero => exact absurd HA.out (by simp [dancestudioref35_Leaves.l0])
  | succ k1 =>
   have H := HA.out
   clear HA
   simp only [dancestudioref35_Leaves.l0] at H
   by_cases c10 : x6_1 < (t638.length : Int)
   ·
    rw [if_pos c10] at H
    have c10b0 := decide_eq_true c10
    clear c10
    obtain ⟨c11, H⟩ : (0 ≤ x6_1) ∧ _ := mIf H
    have c11b0 := decide_eq_true c11
    clear c11
    replace H := Option.bind_eq_some_iff.mp H
    obtain ⟨⟨t642, t643⟩, A120, H⟩ := H
    try dsimp only at H
    have A12 := Aside0.mk A120
    clear A120
    by_cases c13 : t643 = true
    rotate_left
    ·
     replace c13 := Bool.eq_false_iff.mpr c13
     subst c13
     rw [if_neg (show ¬ (false = true) by decide)] at H
     simp only [Option.some.injEq, Prod.mk.injEq] at H
     obtain ⟨rfl, rfl⟩ := H
     obtain ⟨Ao19, co19, eo19⟩ := Kd.N_slice HO_5.out
     subst eo19
     have p641 : 0 ≤ (x6_1 : Int) := of_decide_eq_true (by assumption)
     have q641 : x6_1 < (t638.length : Int) := of_decide_eq_true (by assumption)
     obtain ⟨ad641, A641_0, c641_0, e641, hx641_0, hl641_0, hi641_0⟩ := at_L3 (Kd.N_reads' HO_5.out).2.2 x6_1 p641 q641
     cases e641
     obtain ⟨ce641, hce641, hMe641, hcc641⟩ := Kd.N_get HO_5.out [] x6_1 p641 (by first | exact q641 | exact of_decide_eq_true (by assumption) | (have e_ := (Kd.N_reads' HO_5.out).1; omega))
     obtain ⟨ua641_0, uc641_0, rfl, ul641_0, ge641_0⟩ := Kd.FK_slice_open hMe641
     have hv641_0 := hcc641 0 _ rfl
     rw [Nat.add_zero, show ((Kd.slice 43 k43)).sz = 1 from rfl, Nat.mul_one] at hv641_0
     replace hv641_0 := Option.some.inj (hv641_0.symm.trans hx641_0)
     injection hv641_0 with hva_ hvn_ hvc_
     rw [hva_] at ge641_0
     rw [hvc_] at ul641_0
     have HL641_0 := Aside0.mk (show Kd.V k43 43 _ w.heap.size _ _ (rd_L3 t638 x6_1) from Kd.V_mk ul641_0 ge641_0)
     clear hva_ hvn_ hvc_ ge641_0 ul641_0 hcc641 hce641
     have HR641_0 := Aside0.mk hi641_0
     have HC641_0 := Aside0.mk hl641_0
     clear hi641_0 hl641_0
     replace p641 := eq_true p641
     replace q641 := eq_true q641
     go_wp2_with (first | ((with_reducible refine gate_callee (f := 43) rfl ?_); refine goesL_ (some 39) rfl rfl Tryd.func43 (by kernel_rfl) rfl #[.slice A641_0 (rd_L3 t638 x6_1).length c641_0] rfl (mA1 rfl) ?_; (with_reducible refine (ih k1 (by have := HK1.out; omega) _ _ (rd_L3 t638 x6_1) t642 false _ ?side1 ?side2 A12.out).mono ?_); (case side1 => repeat (first | exact (by repeat (first | (with_reducible exact HR641_0.out) | (with_reducible refine Kd.C_alloc ?_ _) | (with_reducible refine Kd.C_drewN ?_ _) | (with_reducible refine Kd.C_drew ?_) | exact HR641_0.out)) | (with_reducible refine Kd.C_alloc ?_ _) | (with_reducible refine Kd.C_drewN ?_ _) | (with_reducible refine Kd.C_drew ?_))); (case side2 => exact HC641_0.out); rintro e w20 ⟨v644, rfl, ho0, hb⟩; refine ⟨_, rfl, ?_⟩; replace HO_5 := Aside0.mk (Kd.N_elder' HO_5.out (Kd.R_base ho0) hb); replace HL641_0 := Aside0.mk (Kd.V_elder' HL641_0.out (Kd.R_base ho0) hb); have HO645 := Aside0.mk (Kd.R_lower (Kd.R_new' ho0 (Kd.R_lt HO_4.out)) (below_size HB.out)); replace HO_4 := Aside0.mk (Kd.R_elder' HO_4.out (Kd.R_base ho0) hb); replace HR641_0 := Aside0.mk (Kd.C_below (by repeat (first | (with_reducible exact HR641_0.out) | (with_reducible refine Kd.C_alloc ?_ _) | (with_reducible refine Kd.C_drewN ?_ _) | (with_reducible refine Kd.C_drew ?_) | exact HR641_0.out)) hb); replace HB := mSt HB hb; (try clear hb); (try clear ho0)))
     go_ret2
     exact ⟨_, rfl, by first | exact Kd.R_nil _ _ _ _ _ | exact Kd.N_nil _ _ _ _ _ | exact Kd.V_nil _ _ _ _ _ | exact Kd.Q_nil _ _ _ _ _ | exact Kd.S_nil _ _ _ _ _, HB.out⟩
    subst c13
    rw [if_pos rfl] at H
    obtain ⟨c14, H⟩ : (x4_1.length + t642.length < 3518437208883) ∧ _ := mIf H
    have LMc14 := Aside0.mk c14
    clear c14
    obtain ⟨y646, hy646⟩ : ∃ y_ : List (S72), y_ = (x4_1 ++ t642) := ⟨_, rfl⟩
    rw [← hy646] at H
    have Ny646 := Aside0.mk hy646
    clear hy646
    have H' := Aside0.mk H
    clear H
    obtain ⟨Ao15, co15, eo15⟩ := Kd.N_slice HO_5.out
    subst eo15
    have p641 : 0 ≤ (x6_1 : Int) := of_decide_eq_true (by assumption)
    have q641 : x6_1 < (t638.length : Int) := of_decide_eq_true (by assumption)
    obtain ⟨ad641, A641_0, c641_0, e641, hx641_0, hl641_0, hi641_0⟩ := at_L3 (Kd.N_reads' HO_5.out).2.2 x6_1 p641 q641
    cases e641
    obtain ⟨ce641, hce641, hMe641, hcc641⟩ := Kd.N_get HO_5.out [] x6_1 p641 (by first | exact q641 | exact of_decide_eq_true (by assumption) | (have e_ := (Kd.N_reads' HO_5.out).1; omega))
    obtain ⟨ua641_0, uc641_0, rfl, ul641_0, ge641_0⟩ := Kd.FK_slice_open hMe641
    have hv641_0 := hcc641 0 _ rfl
    rw [Nat.add_zero, show ((Kd.slice 43 k43)).sz = 1 from rfl, Nat.mul_one] at hv641_0
    replace hv641_0 := Option.some.inj (hv641_0.symm.trans hx641_0)
    injection hv641_0 with hva_ hvn_ hvc_
    rw [hva_] at ge641_0
    rw [hvc_] at ul641_0
    have HL641_0 := Aside0.mk (show Kd.V k43 43 _ w.heap.size _ _ (rd_L3 t638 x6_1) from Kd.V_mk ul641_0 ge641_0)
    clear hva_ hvn_ hvc_ ge641_0 ul641_0 hcc641 hce641
    have HR641_0 := Aside0.mk hi641_0
    have HC641_0 := Aside0.mk hl641_0
    clear hi641_0 hl641_0
    replace p641 := eq_true p641
    replace q641 := eq_true q641
    go_wp2_with (first | ((with_reducible refine gate_callee (f := 43) rfl ?_); refine goesL_ (some 39) rfl rfl Tryd.func43 (by kernel_rfl) rfl #[.slice A641_0 (rd_L3 t638 x6_1).length c641_0] rfl (mA1 rfl) ?_; (with_reducible refine (ih k1 (by have := HK1.out; omega) _ _ (rd_L3 t638 x6_1) t642 true _ ?side1 ?side2 A12.out).mono ?_); (case side1 => repeat (first | exact (by repeat (first | (with_reducible exact HR641_0.out) | (with_reducible refine Kd.C_alloc ?_ _) | (with_reducible refine Kd.C_drewN ?_ _) | (with_reducible refine Kd.C_drew ?_) | exact HR641_0.out)) | (with_reducible refine Kd.C_alloc ?_ _) | (with_reducible refine Kd.C_drewN ?_ _) | (with_reducible refine Kd.C_drew ?_))); (case side2 => exact HC641_0.out); rintro e w16 ⟨v644, rfl, ho0, hb⟩; refine ⟨_, rfl, ?_⟩; replace HO_5 := Aside0.mk (Kd.N_elder' HO_5.out (Kd.R_base ho0) hb); replace HL641_0 := Aside0.mk (Kd.V_elder' HL641_0.out (Kd.R_base ho0) hb); have HO645 := Aside0.mk (Kd.R_lower (Kd.R_new' ho0 (Kd.R_lt HO_4.out)) (below_size HB.out)); replace HO_4 := Aside0.mk (Kd.R_elder' HO_4.out (Kd.R_base ho0) hb); replace HR641_0 := Aside0.mk (Kd.C_below (by repeat (first | (with_reducible exact HR641_0.out) | (with_reducible refine Kd.C_alloc ?_ _) | (with_reducible refine Kd.C_drewN ?_ _) | (with_reducible refine Kd.C_drew ?_) | exact HR641_0.out)) hb); replace HB := mSt HB hb; (try clear hb); (try clear ho0); obtain ⟨Ao18, co18, eo18⟩ := Kd.R_slice HO645.out; subst eo18) | ((with_reducible refine gate_builtin (b := .append) (xs := #[.tmp 44, .tmp 45]) rfl ?_); at_builtin; refine Kd.R_append_rows k72 (w0 := w) w.heap.size rfl (.tmp 44) (.tmp 45) 67 72 (.agg #[(.string ⟨#[]⟩), (.int .i64 0), (.bool false), (.bool false), (.int .i64 0)]) 40 rfl Tryd.underlying67 info72 rfl (by decide) (by omega) u4 x4_1 t642 _ _ _ (fun k_ => some k_ ≠ (.slice Ao18 t642.length co18 : Value).ownBlock) (fun _ => False) rfl rfl ?aO ?aR (fun _ _ h => h) (fun _ h => h.elim) ?aF ?aB ?aS ?aL ?_; (case aR => repeat (first | exact (Kd.R_reads' HO645.out).2.2 | (with_reducible refine Kd.C_alloc ?_ _) | (with_reducible refine Kd.C_drewN ?_ _) | (with_reducible refine Kd.C_drew ?_))); (case aB => exact HB.out); (case aF => exact (fun k_ hk => Kd.fresh' (Kd.R_lt HO645.out) k_ hk)); (case aO => exact (by exact Kd.R_mono HO_4.out (fun _ hk => hk.2))); (case aS => exact (below_size HB.out)); (case aL => have := LMc14.out; omega); intro v647 w17 ho hb hg hat; rw [← Ny646.out] at ho; replace HO_5 := Aside0.mk (Kd.N_afterv (ok := (fun k_ => some k_ ≠ (.slice Ao18 t642.length co18 : Value).ownBlock)) (by (with_reducible repeat (first | apply Kd.N_alloc | apply Kd.N_drewN | apply Kd.N_drew)); exact Kd.N_mono HO_5.out (fun _ hk => ⟨hk.2, hk.1⟩)) hg hat); replace HL641_0 := Aside0.mk (Kd.V_afterv (ok := (fun k_ => some k_ ≠ (.slice (some ad641) t638.length co15 : Value).ownBlock ∧ some k_ ≠ (.slice Ao18 t642.length co18 : Value).ownBlock)) (by (with_reducible repeat (first | apply Kd.V_alloc | apply Kd.V_drewN | apply Kd.V_drew)); exact Kd.V_mono HL641_0.out (fun _ hk => ⟨⟨hk.1.2, hk.2⟩, hk.1.1⟩)) hg hat); replace HO645 := Aside0.mk (Kd.R_after (ok := (fun _ => True)) HO645.out hg hat); replace HB := Aside0.mk hb; have HO648 := Aside0.mk ho; clear HO_4; clear ho hb hg hat))
    go_roundg k1
    case measure => have := HK1.out; omega
    case rel => exact ⟨(y646), (wrap64 (x6_1 + 1)), rfl, H', ⟨by have := HK1.out; omega⟩, ⟨Kd.R_mono HO648.out (fun _ hk => trivial)⟩, ⟨Kd.N_mono HO_5.out (fun _ hk => hk.2)⟩, ⟨HB.out⟩⟩
   rw [if_neg c10] at H
   have c10b0 := decide_eq_false c10
   clear c10
   obtain ⟨c21, H⟩ : (0 < (l0.length : Int)) ∧ _ := mIf H
   have c21b0 := decide_eq_true c21
   have c21b1 : decide (0 < l0.length) = true := decide_eq_true (by omega)
   clear c21
   have HC22 := Aside0.mk H
   clear H
   obtain ⟨Ao23, co23, eo23⟩ := Kd.N_slice HO_5.out
   subst eo23
   have p649 : 0 ≤ (0 : Int) := (by omega)
   have q649 : 0 < (l0.length : Int) := of_decide_eq_true (by assumption)
   obtain ⟨ad649, e649, hx649_0, hx649_1, hx649_2, hx649_3⟩ := at_T43 HR0.out 0 p649 q649
   obtain rfl : ad629 = ad649 := (by injection e649)
   have qi649 : (0 < l0.length) = True := eq_true (by omega)
   (try rw [show ((0 : Int)).toNat = 0 from rfl] at hx649_0)
   (try rw [show 0 * 4 = 0 from rfl] at hx649_0)
   (try rw [Addr.add_zero'] at hx649_0)
   (try rw [show ((0 : Int)).toNat = 0 from rfl] at hx649_1)
   (try rw [show 0 * 4 = 0 from rfl] at hx649_1)
   (try rw [Addr.add_zero'] at hx649_1)
   (try rw [show ((0 : Int)).toNat = 0 from rfl] at hx649_2)
   (try rw [show 0 * 4 = 0 from rfl] at hx649_2)
   (try rw [Addr.add_zero'] at hx649_2)
   (try rw [show ((0 : Int)).toNat = 0 from rfl] at hx649_3)
   (try rw [show 0 * 4 = 0 from rfl] at hx649_3)
   (try rw [Addr.add_zero'] at hx649_3)
   replace hx649_0 := mHx HB hx649_0
   replace hx649_1 := mHx HB hx649_1
   replace hx649_2 := mHx HB hx649_2
   replace hx649_3 := mHx HB hx649_3
   replace p649 := eq_true p649
   replace q649 := eq_true q649
   go_upto_if 51 with (fail)
   go_cut [9] (fun v9 wc => ∃ (kq : Nat) (x9_21 : Int), v9 = .int .i64 x9_21 ∧ Aside0 (dancestudioref35_Leaves.j1 kq l0 x4_1 x9_21 = some (r1, r2)) ∧ Aside0 (kq ≤ k1) ∧ Aside0 (Kd.R k72 72 wc w.heap.size (fun _ => True) u4 x4_1) ∧ Aside0 (Below w.heap.size w wc))
   case first =>
    have H := HC22.out
    clear HC22
    by_cases c24 : ((rd_T43 l0 0).f0) = 7
    rotate_left
    ·
     rw [if_neg c24] at H
     have c24b0 := beq_eq_false_iff_ne.mpr c24
     have c24b1 := bne_iff_ne.mpr c24
     (first | rw [c24b0] | (simp only [i64_w, i32_w]; rw [c24b0]) | skip)
     have H' := Aside0.mk H
     clear H
     go_wp2
     go_meet
     case rel => exact ⟨_, (1), rfl, H', ⟨by have := HK1.out; first | omega | exact Nat.le_refl _⟩, HO_4, ⟨HB.out⟩⟩
    rw [if_pos c24] at H
    have c24b0 := beq_iff_eq.mpr c24
    have c24b1 := bne_eq_false_iff_eq.mpr c24
    clear c24
    (first | rw [c24b0] | (simp only [i64_w, i32_w]; rw [c24b0]) | skip)
    have H' := Aside0.mk H
    clear H
    have p650 : 0 ≤ (0 : Int) := (by omega)
    have q650 : 0 < (l0.length : Int) := of_decide_eq_true (by assumption)
    obtain ⟨ad650, e650, hx650_0, hx650_1, hx650_2, hx650_3⟩ := at_T43 HR0.out 0 p650 q650
    obtain rfl : ad629 = ad650 := (by injection e650)
    have qi650 : (0 < l0.length) = True := eq_true (by omega)
    (try rw [show ((0 : Int)).toNat = 0 from rfl] at hx650_0)
    (try rw [show 0 * 4 = 0 from rfl] at hx650_0)
    (try rw [Addr.add_zero'] at hx650_0)
    (try rw [show ((0 : Int)).toNat = 0 from rfl] at hx650_1)
    (try rw [show 0 * 4 = 0 from rfl] at hx650_1)
    (try rw [Addr.add_zero'] at hx650_1)
    (try rw [show ((0 : Int)).toNat = 0 from rfl] at hx650_2)
    (try rw [show 0 * 4 = 0 from rfl] at hx650_2)
    (try rw [Addr.add_zero'] at hx650_2)
    (try rw [show ((0 : Int)).toNat = 0 from rfl] at hx650_3)
    (try rw [show 0 * 4 = 0 from rfl] at hx650_3)
    (try rw [Addr.add_zero'] at hx650_3)
    replace hx650_0 := mHx HB hx650_0
    replace hx650_1 := mHx HB hx650_1
    replace hx650_2 := mHx HB hx650_2
    replace hx650_3 := mHx HB hx650_3
    replace p650 := eq_true p650
    replace q650 := eq_true q650
    go_wp2
    go_meet
    case rel => exact ⟨_, ((rd_T43 l0 0).f2), rfl, H', ⟨by have := HK1.out; first | omega | exact Nat.le_refl _⟩, HO_4, ⟨HB.out⟩⟩
   case rest =>
    clear HC22; try clear c1; try clear c2; try clear c2b0; try clear c2b1; try clear p2; try clear c3; try clear c3b0; try clear c3b1; try clear c4; try clear c5; try clear c6; try clear c6b0; try clear c6b1; try clear p6; try clear q6; try clear hx6; try clear qi6; try clear c8; try clear q8; try clear c10; try clear c10b0; try clear c11; try clear c11b0; try clear c13; try clear c14; try clear c21; try clear c21b0; try clear c21b1; try clear c24; try clear c24b0; try clear c24b1; try clear hx629_0; try clear hx629_1; try clear hx629_2; try clear hx629_3; try clear hx630_0; try clear hx630_1; try clear hx630_2; try clear hx630_3; try clear hx641_0; try clear hx649_0; try clear hx649_1; try clear hx649_2; try clear hx649_3; try clear hx650_0; try clear hx650_1; try clear hx650_2; try clear hx650_3; try clear p629; try clear p630; try clear p641; try clear p649; try clear p650; try clear q629; try clear q630; try clear q641; try clear q649; try clear q650
    obtain ⟨kq, x9_21, rfl, HA, HJ21, HO_4, HB⟩ := hcut
    cases kq with
    | zero => exact absurd HA.out (by simp [dancestudioref35_Leaves.j1])
    | succ kj21 =>
     have H := HA.out
     clear HA
     simp only [dancestudioref35_Leaves.j1] at H
     obtain ⟨c25, H⟩ : (0 < (l0.length : Int)) ∧ _ := mIf H
     have c25b0 := decide_eq_true c25
     have c25b1 : decide (0 < l0.length) = true := decide_eq_true (by omega)
     clear c25
     have HC26 := Aside0.mk H
     clear H
     have p651 : 0 ≤ (0 : Int) := (by omega)
     have q651 : 0 < (l0.length : Int) := of_decide_eq_true (by assumption)
     obtain ⟨ad651, e651, hx651_0, hx651_1, hx651_2, hx651_3⟩ := at_T43 HR0.out 0 p651 q651
     obtain rfl : ad629 = ad651 := (by injection e651)
     have qi651 : (0 < l0.length) = True := eq_true (by omega)
     (try rw [show ((0 : Int)).toNat = 0 from rfl] at hx651_0)
     (try rw [show 0 * 4 = 0 from rfl] at hx651_0)
     (try rw [Addr.add_zero'] at hx651_0)
     (try rw [show ((0 : Int)).toNat = 0 from rfl] at hx651_1)
     (try rw [show 0 * 4 = 0 from rfl] at hx651_1)
     (try rw [Addr.add_zero'] at hx651_1)
     (try rw [show ((0 : Int)).toNat = 0 from rfl] at hx651_2)
     (try rw [show 0 * 4 = 0 from rfl] at hx651_2)
     (try rw [Addr.add_zero'] at hx651_2)
     (try rw [show ((0 : Int)).toNat = 0 from rfl] at hx651_3)
     (try rw [show 0 * 4 = 0 from rfl] at hx651_3)
     (try rw [Addr.add_zero'] at hx651_3)
     replace hx651_0 := mHx HB hx651_0
     replace hx651_1 := mHx HB hx651_1
     replace hx651_2 := mHx HB hx651_2
     replace hx651_3 := mHx HB hx651_3
     replace p651 := eq_true p651
     replace q651 := eq_true q651
     go_upto_if 60 with (fail)
     go_cut [4] (fun v4 wc => ∃ (kq : Nat) (x4_25 : List (S72)), Aside0 (dancestudioref35_Leaves.j2 kq l0 x4_25 x9_21 = some (r1, r2)) ∧ Aside0 (kq ≤ kj21) ∧ Aside0 (Kd.R k72 72 wc w.heap.size (fun _ => True) v4 x4_25) ∧ Aside0 (Below w.heap.size w wc))
     case first =>
      have H := HC26.out
      clear HC26
      by_cases c27 : ((rd_T43 l0 0).f0) = 4
      rotate_left
      ·
       rw [if_neg c27] at H
       have c27b0 := beq_eq_false_iff_ne.mpr c27
       have c27b1 := bne_iff_ne.mpr c27
       (first | rw [c27b0] | (simp only [i64_w, i32_w]; rw [c27b0]) | skip)
       have H' := Aside0.mk H
       clear H
       go_wp2
       go_meet
       case rel => exact ⟨_, (x4_1), H', ⟨by have := HK1.out; have := HJ21.out; first | omega | exact Nat.le_refl _⟩, HO_4, ⟨HB.out⟩⟩
      rw [if_pos c27] at H
      have c27b0 := beq_iff_eq.mpr c27
      have c27b1 := bne_eq_false_iff_eq.mpr c27
      clear c27
      (first | rw [c27b0] | (simp only [i64_w, i32_w]; rw [c27b0]) | skip)
      replace H := Option.bind_eq_some_iff.mp H
      obtain ⟨t652, A280, H⟩ := H
      try dsimp only at H
      have A28 := Aside0.mk A280
      clear A280
      have H' := Aside0.mk H
      clear H
      obtain ⟨Ao29, co29, eo29⟩ := Kd.R_slice HO_4.out
      subst eo29
      go_wp2_with (first | ((with_reducible refine gate_callee (f := 72) rfl ?_); refine goesL_ (some 62) rfl rfl Tryd.func72 (by kernel_rfl) rfl #[.slice Ao29 x4_1.length co29] rfl (mA1 rfl) ?_; (with_reducible refine (dancestudioref35_turned.calls kj21 _ _ x4_1 t652 _ ((Kd.R_reads' HO_4.out).2.2) ((Kd.R_reads' HO_4.out).2.1) A28.out).mono ?_); rintro e w30 ⟨v653, rfl, ho0, hb⟩; refine ⟨_, rfl, ?_⟩; have HO654 := Aside0.mk (Kd.R_lower (Kd.R_new' ho0 (Kd.R_lt HO_4.out)) (below_size HB.out)); replace HO_4 := Aside0.mk (Kd.R_elder' HO_4.out (Kd.R_base ho0) hb); replace HB := mSt HB hb; (try clear hb); (try clear ho0)))
      go_meet
      case rel => exact ⟨_, (t652), H', ⟨by have := HK1.out; have := HJ21.out; first | omega | exact Nat.le_refl _⟩, ⟨Kd.R_mono HO654.out (fun _ hk => trivial)⟩, ⟨HB.out⟩⟩
     case rest =>
      clear HC26; try clear c1; try clear c2; try clear c2b0; try clear c2b1; try clear p2; try clear c3; try clear c3b0; try clear c3b1; try clear c4; try clear c5; try clear c6; try clear c6b0; try clear c6b1; try clear p6; try clear q6; try clear hx6; try clear qi6; try clear c7; try clear c8; try clear q8; try clear c10; try clear c10b0; try clear c11; try clear c11b0; try clear c13; try clear c14; try clear c21; try clear c21b0; try clear c21b1; try clear c24; try clear c24b0; try clear c24b1; try clear c25; try clear c25b0; try clear c25b1; try clear c27; try clear c27b0; try clear c27b1; try clear hx629_0; try clear hx629_1; try clear hx629_2; try clear hx629_3; try clear hx630_0; try clear hx630_1; try clear hx630_2; try clear hx630_3; try clear hx641_0; try clear hx649_0; try clear hx649_1; try clear hx649_2; try clear hx649_3; try clear hx650_0; try clear hx650_1; try clear hx650_2; try clear hx650_3; try clear hx651_0; try clear hx651_1; try clear hx651_2; try clear hx651_3; try clear p629; try clear p630; try clear p641; try clear p649; try clear p650; try clear p651; try clear q629; try clear q630; try clear q641; try clear q649; try clear q650; try clear q651
      obtain ⟨kq, x4_25, HA, HJ25, HO_4, HB⟩ := hcut
      cases kq with
      | zero => exact absurd HA.out (by simp [dancestudioref35_Leaves.j2])
      | succ kj25 =>
       have H := HA.out
       clear HA
       simp only [dancestudioref35_Leaves.j2] at H
       have H' := Aside0.mk H
       clear H
       go_wp2
       go_loopg [10, 11] kj25 (fun kq v10 v11 w' => ∃ (x10_4 : List (S72)) (x11_4 : Int), v11 = .int .i64 x11_4 ∧ Aside0 (dancestudioref35_Leaves.l1 kq l0 x4_25 x9_21 x10_4 x11_4 = some (r1, r2)) ∧ Aside0 (kq ≤ kj25) ∧ Aside0 (Kd.R k72 72 w' w.heap.size (fun k_ => some k_ ≠ (v10 : Value).ownBlock) u4 x4_25) ∧ Aside0 (Kd.R k72 72 w' w.heap.size (fun k_ => some k_ ≠ (u4 : Value).ownBlock) v10 x10_4) ∧ Aside0 (Below w.heap.size w w'))
       case atStart => exact ⟨(([] : List (S72))), (0), rfl, H', ⟨Nat.le_refl _⟩, ⟨Kd.R_mono HO_4.out (fun _ hk => (by simp [Value.ownBlock]))⟩, ⟨by first | exact Kd.R_nil _ _ _ _ _ | exact Kd.N_nil _ _ _ _ _ | exact Kd.V_nil _ _ _ _ _ | exact Kd.Q_nil _ _ _ _ _ | exact Kd.S_nil _ _ _ _ _⟩, ⟨HB.out⟩⟩
       case round =>
        clear H'
        obtain ⟨x10_4, x11_4, rfl, HA, HK4, HO_4, HO_10, HB⟩ := hrel
        cases gk with
        | zero => exact absurd HA.out (by simp [dancestudioref35_Leaves.l1])
        | succ k4 =>
         have H := HA.out
         clear HA
         simp only [dancestudioref35_Leaves.l1] at H
         by_cases c31 : x11_4 < x9_21
         rotate_left
         ·
          rw [if_neg c31] at H
          have c31b0 := decide_eq_false c31
          clear c31
          simp only [Option.some.injEq, Prod.mk.injEq] at H
          obtain ⟨rfl, rfl⟩ := H
          obtain ⟨Ao105, co105, eo105⟩ := Kd.R_slice HO_10.out
          subst eo105
          go_wp2
          go_ret2
          exact ⟨_, rfl, by exact Kd.R_mono HO_10.out (fun _ hk => trivial), HB.out⟩
         rw [if_pos c31] at H
         have c31b0 := decide_eq_true c31
         clear c31
         have H' := Aside0.mk H
         clear H
         go_wp2
         go_loopg [10, 12] k4 (fun kq v10 v12 w' => ∃ (x10_5 : List (S72)) (x12_5 : Int), v12 = .int .i64 x12_5 ∧ Aside0 (dancestudioref35_Leaves.l2 kq l0 x4_25 x9_21 x10_5 x11_4 x12_5 = some (r1, r2)) ∧ Aside0 (kq ≤ k4) ∧ Aside0 (Kd.R k72 72 w' w.heap.size (fun k_ => some k_ ≠ (v10 : Value).ownBlock) u4 x4_25) ∧ Aside0 (Kd.R k72 72 w' w.heap.size (fun k_ => some k_ ≠ (u4 : Value).ownBlock) v10 x10_5) ∧ Aside0 (Below w.heap.size w w'))
         case atStart => exact ⟨(x10_4), (0), rfl, H', ⟨Nat.le_refl _⟩, HO_4, HO_10, ⟨HB.out⟩⟩
         case round =>
          clear H' c31b0
          obtain ⟨x10_5, x12_5, rfl, HA, HK5, HO_4, HO_10, HB⟩ := hrel
          cases gk with
          | zero => exact absurd HA.out (by simp [dancestudioref35_Leaves.l2])
          | succ k5 =>
           have H := HA.out
           clear HA
           simp only [dancestudioref35_Leaves.l2] at H
           by_cases c32 : x12_5 < (x4_25.length : Int)
           rotate_left
           ·
            rw [if_neg c32] at H
            have c32b0 := decide_eq_false c32
            clear c32
            by_cases c100 : (x10_5.length : Int) > 64
            ·
             rw [if_pos c100] at H
             have c100b0 := decide_eq_true c100
             have c100b1 : decide (64 < x10_5.length) = true := decide_eq_true (by omega)
             clear c100
             simp only [Option.some.injEq, Prod.mk.injEq] at H
             obtain ⟨rfl, rfl⟩ := H
             obtain ⟨Ao101, co101, eo101⟩ := Kd.R_slice HO_4.out
             subst eo101
             obtain ⟨Ao102, co102, eo102⟩ := Kd.R_slice HO_10.out
             subst eo102
             go_wp2
             go_ret2
             exact ⟨_, rfl, by first | exact Kd.R_nil _ _ _ _ _ | exact Kd.N_nil _ _ _ _ _ | exact Kd.V_nil _ _ _ _ _ | exact Kd.Q_nil _ _ _ _ _ | exact Kd.S_nil _ _ _ _ _, HB.out⟩
            rw [if_neg c100] at H
            have c100b0 := decide_eq_false c100
            have c100b1 : decide (64 < x10_5.length) = false := decide_eq_false (by omega)
            clear c100
            have H' := Aside0.mk H
            clear H
            obtain ⟨Ao103, co103, eo103⟩ := Kd.R_slice HO_4.out
            subst eo103
            obtain ⟨Ao104, co104, eo104⟩ := Kd.R_slice HO_10.out
            subst eo104
            go_wp2
            go_roundg k5
            case measure => have := HK1.out; have := HJ21.out; have := HJ25.out; have := HK4.out; have := HK5.out; omega
            case rel => exact ⟨(x10_5), (wrap64 (x11_4 + 1)), rfl, H', ⟨by have := HK1.out; have := HJ21.out; have := HJ25.out; have := HK4.out; have := HK5.out; omega⟩, HO_4, HO_10, ⟨HB.out⟩⟩
           rw [if_pos c32] at H
           have c32b0 := decide_eq_true c32
           clear c32
           obtain ⟨c33, H⟩ : (0 ≤ x12_5) ∧ _ := mIf H
           have c33b0 := decide_eq_true c33
           clear c33
           obtain ⟨c34, H⟩ : (0 < (l0.length : Int)) ∧ _ := mIf H
           have c34b0 := decide_eq_true c34
           have c34b1 : decide (0 < l0.length) = true := decide_eq_true (by omega)
           clear c34
           by_cases c35 : ((rd_T43 l0 0).f0) = 3
           ·
            rw [if_pos c35] at H
            have c35b0 := beq_iff_eq.mpr c35
            have c35b1 := bne_eq_false_iff_eq.mpr c35
            clear c35
            by_cases c36 : ((rd_T72 x4_25 x12_5).f4) > 8192
            ·
             rw [if_pos c36] at H
             have c36b0 := decide_eq_true c36
             clear c36
             simp only [Option.some.injEq, Prod.mk.injEq] at H
             obtain ⟨rfl, rfl⟩ := H
             obtain ⟨Ao37, co37, eo37⟩ := Kd.R_slice HO_4.out
             subst eo37
             have p655 : 0 ≤ (x12_5 : Int) := of_decide_eq_true (by assumption)
             have q655 : x12_5 < (x4_25.length : Int) := of_decide_eq_true (by assumption)
             obtain ⟨ad655, e655, hx655_0, hx655_1, hx655_2, hx655_3, hx655_4⟩ := at_T72 (Kd.R_reads' HO_4.out).2.2 x12_5 p655 q655
             cases e655
             replace p655 := eq_true p655
             replace q655 := eq_true q655
             go_wp2_with (first | ((with_reducible refine gate_dst (N := 13) rfl ?_); refine box_event rfl (N := 13) rfl (cs := #[.string (⟨#[]⟩ : ByteArray), .int .i64 0, .bool false, .bool false, .int .i64 0]) (t := 72) (by first | (go_simp; done) | (go_simp; rfl)) ?_; intro gb1 hg w38 hbox hb; replace HO_4 := Aside0.mk (Kd.R_below (Kd.R_elderB HO_4.out gb1 (Nat.le_of_eq hg.symm)) hb); replace HO_10 := Aside0.mk (Kd.R_below (Kd.R_elderB HO_10.out gb1 (Nat.le_of_eq hg.symm)) hb); have BK1 := Aside0.mk hbox; have GW1 := mGw HB hg; have GE1 := GW1; replace HB := mSt HB hb; clear hb hbox hg; have hcz39 := blk_cell BK1.out; have hfz39 := blk_frozen BK1.out; have p657 : 0 ≤ (0 : Int) := (by omega); have q657 : 0 < (l0.length : Int) := of_decide_eq_true (by assumption); obtain ⟨ad657, e657, hx657_0, hx657_1, hx657_2, hx657_3⟩ := at_T43 HR0.out 0 p657 q657; obtain rfl : ad629 = ad657 := (by injection e657); have qi657 : (0 < l0.length) = True := eq_true (by omega); (try rw [show ((0 : Int)).toNat = 0 from rfl] at hx657_0); (try rw [show 0 * 4 = 0 from rfl] at hx657_0); (try rw [Addr.add_zero'] at hx657_0); (try rw [show ((0 : Int)).toNat = 0 from rfl] at hx657_1); (try rw [show 0 * 4 = 0 from rfl] at hx657_1); (try rw [Addr.add_zero'] at hx657_1); (try rw [show ((0 : Int)).toNat = 0 from rfl] at hx657_2); (try rw [show 0 * 4 = 0 from rfl] at hx657_2); (try rw [Addr.add_zero'] at hx657_2); (try rw [show ((0 : Int)).toNat = 0 from rfl] at hx657_3); (try rw [show 0 * 4 = 0 from rfl] at hx657_3); (try rw [Addr.add_zero'] at hx657_3); have hn657_0 : ad629.block ≠ gb1 := Nat.ne_of_lt (Nat.lt_of_lt_of_le (by have := World.block_lt_of_cell? _ _ hx657_0; first | rwa [add_block] at this | exact this) GW1.out); have hn657_1 : ad629.block ≠ gb1 := Nat.ne_of_lt (Nat.lt_of_lt_of_le (by have := World.block_lt_of_cell? _ _ hx657_0; first | rwa [add_block] at this | exact this) GW1.out); have hn657_2 : ad629.block ≠ gb1 := Nat.ne_of_lt (Nat.lt_of_lt_of_le (by have := World.block_lt_of_cell? _ _ hx657_0; first | rwa [add_block] at this | exact this) GW1.out); have hn657_3 : ad629.block ≠ gb1 := Nat.ne_of_lt (Nat.lt_of_lt_of_le (by have := World.block_lt_of_cell? _ _ hx657_0; first | rwa [add_block] at this | exact this) GW1.out); have hn657_4 : ad629.block ≠ gb1 := Nat.ne_of_lt (Nat.lt_of_lt_of_le (by have := World.block_lt_of_cell? _ _ hx657_0; first | rwa [add_block] at this | exact this) GW1.out); replace hx657_0 := mHx HB hx657_0; replace hx657_1 := mHx HB hx657_1; replace hx657_2 := mHx HB hx657_2; replace hx657_3 := mHx HB hx657_3; replace hx657_0 := (cell_far (p := ⟨gb1, 0, none⟩) (by first | (rw [add_block]; exact hn657_0) | (show (Addr.add _ _).block ≠ _; rw [add_block]; exact hn657_0) | exact hn657_0) (.string ((rd_T72 x4_25 x12_5).f0))).trans hx657_0; replace hx657_1 := (cell_far (p := ⟨gb1, 0, none⟩) (by first | (rw [add_block]; exact hn657_0) | (show (Addr.add _ _).block ≠ _; rw [add_block]; exact hn657_0) | exact hn657_0) (.string ((rd_T72 x4_25 x12_5).f0))).trans hx657_1; replace hx657_2 := (cell_far (p := ⟨gb1, 0, none⟩) (by first | (rw [add_block]; exact hn657_0) | (show (Addr.add _ _).block ≠ _; rw [add_block]; exact hn657_0) | exact hn657_0) (.string ((rd_T72 x4_25 x12_5).f0))).trans hx657_2; replace hx657_3 := (cell_far (p := ⟨gb1, 0, none⟩) (by first | (rw [add_block]; exact hn657_0) | (show (Addr.add _ _).block ≠ _; rw [add_block]; exact hn657_0) | exact hn657_0) (.string ((rd_T72 x4_25 x12_5).f0))).trans hx657_3; replace hx657_0 := (cell_far (p := ⟨gb1, 1, none⟩) (by first | (rw [add_block]; exact hn657_1) | (show (Addr.add _ _).block ≠ _; rw [add_block]; exact hn657_1) | exact hn657_1) (.int .i64 ((rd_T72 x4_25 x12_5).f1))).trans hx657_0; replace hx657_1 := (cell_far (p := ⟨gb1, 1, none⟩) (by first | (rw [add_block]; exact hn657_1) | (show (Addr.add _ _).block ≠ _; rw [add_block]; exact hn657_1) | exact hn657_1) (.int .i64 ((rd_T72 x4_25 x12_5).f1))).trans hx657_1; replace hx657_2 := (cell_far (p := ⟨gb1, 1, none⟩) (by first | (rw [add_block]; exact hn657_1) | (show (Addr.add _ _).block ≠ _; rw [add_block]; exact hn657_1) | exact hn657_1) (.int .i64 ((rd_T72 x4_25 x12_5).f1))).trans hx657_2; replace hx657_3 := (cell_far (p := ⟨gb1, 1, none⟩) (by first | (rw [add_block]; exact hn657_1) | (show (Addr.add _ _).block ≠ _; rw [add_block]; exact hn657_1) | exact hn657_1) (.int .i64 ((rd_T72 x4_25 x12_5).f1))).trans hx657_3; replace hx657_0 := (cell_far (p := ⟨gb1, 2, none⟩) (by first | (rw [add_block]; exact hn657_2) | (show (Addr.add _ _).block ≠ _; rw [add_block]; exact hn657_2) | exact hn657_2) (.bool ((rd_T72 x4_25 x12_5).f2))).trans hx657_0; replace hx657_1 := (cell_far (p := ⟨gb1, 2, none⟩) (by first | (rw [add_block]; exact hn657_2) | (show (Addr.add _ _).block ≠ _; rw [add_block]; exact hn657_2) | exact hn657_2) (.bool ((rd_T72 x4_25 x12_5).f2))).trans hx657_1; replace hx657_2 := (cell_far (p := ⟨gb1, 2, none⟩) (by first | (rw [add_block]; exact hn657_2) | (show (Addr.add _ _).block ≠ _; rw [add_block]; exact hn657_2) | exact hn657_2) (.bool ((rd_T72 x4_25 x12_5).f2))).trans hx657_2; replace hx657_3 := (cell_far (p := ⟨gb1, 2, none⟩) (by first | (rw [add_block]; exact hn657_2) | (show (Addr.add _ _).block ≠ _; rw [add_block]; exact hn657_2) | exact hn657_2) (.bool ((rd_T72 x4_25 x12_5).f2))).trans hx657_3; replace hx657_0 := (cell_far (p := ⟨gb1, 3, none⟩) (by first | (rw [add_block]; exact hn657_3) | (show (Addr.add _ _).block ≠ _; rw [add_block]; exact hn657_3) | exact hn657_3) (.bool ((rd_T72 x4_25 x12_5).f3))).trans hx657_0; replace hx657_1 := (cell_far (p := ⟨gb1, 3, none⟩) (by first | (rw [add_block]; exact hn657_3) | (show (Addr.add _ _).block ≠ _; rw [add_block]; exact hn657_3) | exact hn657_3) (.bool ((rd_T72 x4_25 x12_5).f3))).trans hx657_1; replace hx657_2 := (cell_far (p := ⟨gb1, 3, none⟩) (by first | (rw [add_block]; exact hn657_3) | (show (Addr.add _ _).block ≠ _; rw [add_block]; exact hn657_3) | exact hn657_3) (.bool ((rd_T72 x4_25 x12_5).f3))).trans hx657_2; replace hx657_3 := (cell_far (p := ⟨gb1, 3, none⟩) (by first | (rw [add_block]; exact hn657_3) | (show (Addr.add _ _).block ≠ _; rw [add_block]; exact hn657_3) | exact hn657_3) (.bool ((rd_T72 x4_25 x12_5).f3))).trans hx657_3; replace hx657_0 := (cell_far (p := ⟨gb1, 4, none⟩) (by first | (rw [add_block]; exact hn657_4) | (show (Addr.add _ _).block ≠ _; rw [add_block]; exact hn657_4) | exact hn657_4) (.int .i64 ((rd_T72 x4_25 x12_5).f4))).trans hx657_0; replace hx657_1 := (cell_far (p := ⟨gb1, 4, none⟩) (by first | (rw [add_block]; exact hn657_4) | (show (Addr.add _ _).block ≠ _; rw [add_block]; exact hn657_4) | exact hn657_4) (.int .i64 ((rd_T72 x4_25 x12_5).f4))).trans hx657_1; replace hx657_2 := (cell_far (p := ⟨gb1, 4, none⟩) (by first | (rw [add_block]; exact hn657_4) | (show (Addr.add _ _).block ≠ _; rw [add_block]; exact hn657_4) | exact hn657_4) (.int .i64 ((rd_T72 x4_25 x12_5).f4))).trans hx657_2; replace hx657_3 := (cell_far (p := ⟨gb1, 4, none⟩) (by first | (rw [add_block]; exact hn657_4) | (show (Addr.add _ _).block ≠ _; rw [add_block]; exact hn657_4) | exact hn657_4) (.int .i64 ((rd_T72 x4_25 x12_5).f4))).trans hx657_3; clear hn657_0 hn657_1 hn657_2 hn657_3 hn657_4; replace p657 := eq_true p657; replace q657 := eq_true q657))
             go_ret2
             exact ⟨_, rfl, by first | exact Kd.R_nil _ _ _ _ _ | exact Kd.N_nil _ _ _ _ _ | exact Kd.V_nil _ _ _ _ _ | exact Kd.Q_nil _ _ _ _ _ | exact Kd.S_nil _ _ _ _ _, hO HB⟩
            rw [if_neg c36] at H
            have c36b0 := decide_eq_false c36
            clear c36
            obtain ⟨c40, H⟩ : (x10_5.length < 3518437208883) ∧ _ := mIf H
            have LMc40 := Aside0.mk c40
            clear c40
            obtain ⟨y658, hy658⟩ : ∃ y_ : List (S72), y_ = (x10_5 ++ [(⟨(rd_T72 x4_25 x12_5).f0, Int.tmod (wrap64 (4 - ((rd_T72 x4_25 x12_5).f1))) 4, !((rd_T72 x4_25 x12_5).f2), (rd_T72 x4_25 x12_5).f3, (rd_T72 x4_25 x12_5).f4⟩ : S72)]) := ⟨_, rfl⟩
            rw [← hy658] at H
            have Ny658 := Aside0.mk hy658
            clear hy658
            have H' := Aside0.mk H
            clear H
            obtain ⟨Ao41, co41, eo41⟩ := Kd.R_slice HO_4.out
            subst eo41
            have p655 : 0 ≤ (x12_5 : Int) := of_decide_eq_true (by assumption)
            have q655 : x12_5 < (x4_25.length : Int) := of_decide_eq_true (by assumption)
            obtain ⟨ad655, e655, hx655_0, hx655_1, hx655_2, hx655_3, hx655_4⟩ := at_T72 (Kd.R_reads' HO_4.out).2.2 x12_5 p655 q655
            cases e655
            replace p655 := eq_true p655
            replace q655 := eq_true q655
            go_upto_region 25 with (first | ((with_reducible refine gate_dst (N := 13) rfl ?_); refine box_event rfl (N := 13) rfl (cs := #[.string (⟨#[]⟩ : ByteArray), .int .i64 0, .bool false, .bool false, .int .i64 0]) (t := 72) (by first | (go_simp; done) | (go_simp; rfl)) ?_; intro gb1 hg w42 hbox hb; have n0_ := Aside0.mk (Kd.R_below (Kd.R_elderB (rO HO_4) gb1 (Nat.le_of_eq hg.symm)) hb); have n1_ := Aside0.mk (Kd.R_below (Kd.R_elderB (rO HO_10) gb1 (Nat.le_of_eq hg.symm)) hb); have n2_ := mSx HB hb; have n3_ := Aside0.mk (hbox); have n4_ := Aside0.mk ((by rw [hg]; exact (below_size (hO HB)) : w.heap.size ≤ gb1)); have n5_ := Aside0.mk ((by rw [hg]; exact (below_size (hO HB)) : w.heap.size ≤ gb1)); clear HO_4 HO_10 HB; have HO_4 := n0_; have HO_10 := n1_; have HB := n2_; have BK1 := n3_; have GW1 := n4_; have GE1 := n5_; clear n0_ n1_ n2_ n3_ n4_ n5_; clear hb hbox hg; have hcz43_0 : w42.cell? ⟨gb1, 0, none⟩ = some (.string (⟨#[]⟩ : ByteArray)) := (blk_cell BK1.out 0).trans rfl; have hcz43_1 : w42.cell? ⟨gb1, 1, none⟩ = some (.int .i64 0) := (blk_cell BK1.out 1).trans rfl; have hcz43_2 : w42.cell? ⟨gb1, 2, none⟩ = some (.bool false) := (blk_cell BK1.out 2).trans rfl; have hcz43_3 : w42.cell? ⟨gb1, 3, none⟩ = some (.bool false) := (blk_cell BK1.out 3).trans rfl; have hcz43_4 : w42.cell? ⟨gb1, 4, none⟩ = some (.int .i64 0) := (blk_cell BK1.out 4).trans rfl; have hfz43_0 := blk_frozen BK1.out 0; have hfz43_1 := blk_frozen BK1.out 1; have hfz43_2 := blk_frozen BK1.out 2; have hfz43_3 := blk_frozen BK1.out 3; have hfz43_4 := blk_frozen BK1.out 4; have p657 : 0 ≤ (0 : Int) := (by omega); have q657 : 0 < (l0.length : Int) := of_decide_eq_true (by assumption); obtain ⟨ad657, e657, hx657_0, hx657_1, hx657_2, hx657_3⟩ := at_T43 HR0.out 0 p657 q657; obtain rfl : ad629 = ad657 := (by injection e657); have qi657 : (0 < l0.length) = True := eq_true (by omega); (try rw [show ((0 : Int)).toNat = 0 from rfl] at hx657_0); (try rw [show 0 * 4 = 0 from rfl] at hx657_0); (try rw [Addr.add_zero'] at hx657_0); (try rw [show ((0 : Int)).toNat = 0 from rfl] at hx657_1); (try rw [show 0 * 4 = 0 from rfl] at hx657_1); (try rw [Addr.add_zero'] at hx657_1); (try rw [show ((0 : Int)).toNat = 0 from rfl] at hx657_2); (try rw [show 0 * 4 = 0 from rfl] at hx657_2); (try rw [Addr.add_zero'] at hx657_2); (try rw [show ((0 : Int)).toNat = 0 from rfl] at hx657_3); (try rw [show 0 * 4 = 0 from rfl] at hx657_3); (try rw [Addr.add_zero'] at hx657_3); have hn657_0 : ad629.block ≠ gb1 := Nat.ne_of_lt (Nat.lt_of_lt_of_le (by have := World.block_lt_of_cell? _ _ hx657_0; first | rwa [add_block] at this | exact this) GW1.out); have hn657_1 : ad629.block ≠ gb1 := Nat.ne_of_lt (Nat.lt_of_lt_of_le (by have := World.block_lt_of_cell? _ _ hx657_0; first | rwa [add_block] at this | exact this) GW1.out); have hn657_2 : ad629.block ≠ gb1 := Nat.ne_of_lt (Nat.lt_of_lt_of_le (by have := World.block_lt_of_cell? _ _ hx657_0; first | rwa [add_block] at this | exact this) GW1.out); have hn657_3 : ad629.block ≠ gb1 := Nat.ne_of_lt (Nat.lt_of_lt_of_le (by have := World.block_lt_of_cell? _ _ hx657_0; first | rwa [add_block] at this | exact this) GW1.out); have hn657_4 : ad629.block ≠ gb1 := Nat.ne_of_lt (Nat.lt_of_lt_of_le (by have := World.block_lt_of_cell? _ _ hx657_0; first | rwa [add_block] at this | exact this) GW1.out); replace hx657_0 := mHx HB hx657_0; replace hx657_1 := mHx HB hx657_1; replace hx657_2 := mHx HB hx657_2; replace hx657_3 := mHx HB hx657_3; replace hx657_0 := (cell_far (p := ⟨gb1, 0, none⟩) (by first | (rw [add_block]; exact hn657_0) | (show (Addr.add _ _).block ≠ _; rw [add_block]; exact hn657_0) | exact hn657_0) (.string ((rd_T72 x4_25 x12_5).f0))).trans hx657_0; replace hx657_1 := (cell_far (p := ⟨gb1, 0, none⟩) (by first | (rw [add_block]; exact hn657_0) | (show (Addr.add _ _).block ≠ _; rw [add_block]; exact hn657_0) | exact hn657_0) (.string ((rd_T72 x4_25 x12_5).f0))).trans hx657_1; replace hx657_2 := (cell_far (p := ⟨gb1, 0, none⟩) (by first | (rw [add_block]; exact hn657_0) | (show (Addr.add _ _).block ≠ _; rw [add_block]; exact hn657_0) | exact hn657_0) (.string ((rd_T72 x4_25 x12_5).f0))).trans hx657_2; replace hx657_3 := (cell_far (p := ⟨gb1, 0, none⟩) (by first | (rw [add_block]; exact hn657_0) | (show (Addr.add _ _).block ≠ _; rw [add_block]; exact hn657_0) | exact hn657_0) (.string ((rd_T72 x4_25 x12_5).f0))).trans hx657_3; replace hx657_0 := (cell_far (p := ⟨gb1, 1, none⟩) (by first | (rw [add_block]; exact hn657_1) | (show (Addr.add _ _).block ≠ _; rw [add_block]; exact hn657_1) | exact hn657_1) (.int .i64 ((rd_T72 x4_25 x12_5).f1))).trans hx657_0; replace hx657_1 := (cell_far (p := ⟨gb1, 1, none⟩) (by first | (rw [add_block]; exact hn657_1) | (show (Addr.add _ _).block ≠ _; rw [add_block]; exact hn657_1) | exact hn657_1) (.int .i64 ((rd_T72 x4_25 x12_5).f1))).trans hx657_1; replace hx657_2 := (cell_far (p := ⟨gb1, 1, none⟩) (by first | (rw [add_block]; exact hn657_1) | (show (Addr.add _ _).block ≠ _; rw [add_block]; exact hn657_1) | exact hn657_1) (.int .i64 ((rd_T72 x4_25 x12_5).f1))).trans hx657_2; replace hx657_3 := (cell_far (p := ⟨gb1, 1, none⟩) (by first | (rw [add_block]; exact hn657_1) | (show (Addr.add _ _).block ≠ _; rw [add_block]; exact hn657_1) | exact hn657_1) (.int .i64 ((rd_T72 x4_25 x12_5).f1))).trans hx657_3; replace hx657_0 := (cell_far (p := ⟨gb1, 2, none⟩) (by first | (rw [add_block]; exact hn657_2) | (show (Addr.add _ _).block ≠ _; rw [add_block]; exact hn657_2) | exact hn657_2) (.bool ((rd_T72 x4_25 x12_5).f2))).trans hx657_0; replace hx657_1 := (cell_far (p := ⟨gb1, 2, none⟩) (by first | (rw [add_block]; exact hn657_2) | (show (Addr.add _ _).block ≠ _; rw [add_block]; exact hn657_2) | exact hn657_2) (.bool ((rd_T72 x4_25 x12_5).f2))).trans hx657_1; replace hx657_2 := (cell_far (p := ⟨gb1, 2, none⟩) (by first | (rw [add_block]; exact hn657_2) | (show (Addr.add _ _).block ≠ _; rw [add_block]; exact hn657_2) | exact hn657_2) (.bool ((rd_T72 x4_25 x12_5).f2))).trans hx657_2; replace hx657_3 := (cell_far (p := ⟨gb1, 2, none⟩) (by first | (rw [add_block]; exact hn657_2) | (show (Addr.add _ _).block ≠ _; rw [add_block]; exact hn657_2) | exact hn657_2) (.bool ((rd_T72 x4_25 x12_5).f2))).trans hx657_3; replace hx657_0 := (cell_far (p := ⟨gb1, 3, none⟩) (by first | (rw [add_block]; exact hn657_3) | (show (Addr.add _ _).block ≠ _; rw [add_block]; exact hn657_3) | exact hn657_3) (.bool ((rd_T72 x4_25 x12_5).f3))).trans hx657_0; replace hx657_1 := (cell_far (p := ⟨gb1, 3, none⟩) (by first | (rw [add_block]; exact hn657_3) | (show (Addr.add _ _).block ≠ _; rw [add_block]; exact hn657_3) | exact hn657_3) (.bool ((rd_T72 x4_25 x12_5).f3))).trans hx657_1; replace hx657_2 := (cell_far (p := ⟨gb1, 3, none⟩) (by first | (rw [add_block]; exact hn657_3) | (show (Addr.add _ _).block ≠ _; rw [add_block]; exact hn657_3) | exact hn657_3) (.bool ((rd_T72 x4_25 x12_5).f3))).trans hx657_2; replace hx657_3 := (cell_far (p := ⟨gb1, 3, none⟩) (by first | (rw [add_block]; exact hn657_3) | (show (Addr.add _ _).block ≠ _; rw [add_block]; exact hn657_3) | exact hn657_3) (.bool ((rd_T72 x4_25 x12_5).f3))).trans hx657_3; replace hx657_0 := (cell_far (p := ⟨gb1, 4, none⟩) (by first | (rw [add_block]; exact hn657_4) | (show (Addr.add _ _).block ≠ _; rw [add_block]; exact hn657_4) | exact hn657_4) (.int .i64 ((rd_T72 x4_25 x12_5).f4))).trans hx657_0; replace hx657_1 := (cell_far (p := ⟨gb1, 4, none⟩) (by first | (rw [add_block]; exact hn657_4) | (show (Addr.add _ _).block ≠ _; rw [add_block]; exact hn657_4) | exact hn657_4) (.int .i64 ((rd_T72 x4_25 x12_5).f4))).trans hx657_1; replace hx657_2 := (cell_far (p := ⟨gb1, 4, none⟩) (by first | (rw [add_block]; exact hn657_4) | (show (Addr.add _ _).block ≠ _; rw [add_block]; exact hn657_4) | exact hn657_4) (.int .i64 ((rd_T72 x4_25 x12_5).f4))).trans hx657_2; replace hx657_3 := (cell_far (p := ⟨gb1, 4, none⟩) (by first | (rw [add_block]; exact hn657_4) | (show (Addr.add _ _).block ≠ _; rw [add_block]; exact hn657_4) | exact hn657_4) (.int .i64 ((rd_T72 x4_25 x12_5).f4))).trans hx657_3; clear hn657_0 hn657_1 hn657_2 hn657_3 hn657_4; replace p657 := eq_true p657; replace q657 := eq_true q657))
            go_upto_region 26 with (fail)
            go_upto_region 27 with (fail)
            go_upto_region 28 with (fail)
            have n0_ := Aside0.mk (Kd.R_mono (Kd.R_far (p := ⟨gb1, 2, none⟩) (Kd.R_far (p := ⟨gb1, 4, none⟩) (Kd.R_far (p := ⟨gb1, 3, none⟩) (Kd.R_far (p := ⟨gb1, 2, none⟩) (Kd.R_far (p := ⟨gb1, 1, none⟩) (Kd.R_far (p := ⟨gb1, 0, none⟩) (Kd.R_mono HO_4.out (fun k_ hk => (⟨hk, hk.2⟩ : _ ∧ k_ ≠ gb1))) (fun _ hk => hk.2) (.string ((rd_T72 x4_25 x12_5).f0))) (fun _ hk => hk.2) (.int .i64 ((rd_T72 x4_25 x12_5).f1))) (fun _ hk => hk.2) (.bool ((rd_T72 x4_25 x12_5).f2))) (fun _ hk => hk.2) (.bool ((rd_T72 x4_25 x12_5).f3))) (fun _ hk => hk.2) (.int .i64 ((rd_T72 x4_25 x12_5).f4))) (fun _ hk => hk.2) (.bool (!((rd_T72 x4_25 x12_5).f2)))) (fun _ hk => hk.1))
            have n1_ := Aside0.mk (Kd.R_mono (Kd.R_far (p := ⟨gb1, 2, none⟩) (Kd.R_far (p := ⟨gb1, 4, none⟩) (Kd.R_far (p := ⟨gb1, 3, none⟩) (Kd.R_far (p := ⟨gb1, 2, none⟩) (Kd.R_far (p := ⟨gb1, 1, none⟩) (Kd.R_far (p := ⟨gb1, 0, none⟩) (Kd.R_mono HO_10.out (fun k_ hk => (⟨hk, hk.2⟩ : _ ∧ k_ ≠ gb1))) (fun _ hk => hk.2) (.string ((rd_T72 x4_25 x12_5).f0))) (fun _ hk => hk.2) (.int .i64 ((rd_T72 x4_25 x12_5).f1))) (fun _ hk => hk.2) (.bool ((rd_T72 x4_25 x12_5).f2))) (fun _ hk => hk.2) (.bool ((rd_T72 x4_25 x12_5).f3))) (fun _ hk => hk.2) (.int .i64 ((rd_T72 x4_25 x12_5).f4))) (fun _ hk => hk.2) (.bool (!((rd_T72 x4_25 x12_5).f2)))) (fun _ hk => hk.1))
            have n2_ : Aside0 (((((((w42.setCell ⟨gb1, 0, none⟩ (.string ((rd_T72 x4_25 x12_5).f0))).setCell ⟨gb1, 1, none⟩ (.int .i64 ((rd_T72 x4_25 x12_5).f1))).setCell ⟨gb1, 2, none⟩ (.bool ((rd_T72 x4_25 x12_5).f2))).setCell ⟨gb1, 3, none⟩ (.bool ((rd_T72 x4_25 x12_5).f3))).setCell ⟨gb1, 4, none⟩ (.int .i64 ((rd_T72 x4_25 x12_5).f4))).setCell ⟨gb1, 2, none⟩ (.bool (!((rd_T72 x4_25 x12_5).f2)))).heap[gb1]? = some (.cells #[.string ((rd_T72 x4_25 x12_5).f0), .int .i64 ((rd_T72 x4_25 x12_5).f1), .bool (!((rd_T72 x4_25 x12_5).f2)), .bool ((rd_T72 x4_25 x12_5).f3), .int .i64 ((rd_T72 x4_25 x12_5).f4)] 72 (0, 0))) := ⟨by refine blk_put (cs := #[.string ((rd_T72 x4_25 x12_5).f0), .int .i64 ((rd_T72 x4_25 x12_5).f1), .bool ((rd_T72 x4_25 x12_5).f2), .bool ((rd_T72 x4_25 x12_5).f3), .int .i64 ((rd_T72 x4_25 x12_5).f4)]) ?_ 2 _ rfl; refine blk_put (cs := #[.string ((rd_T72 x4_25 x12_5).f0), .int .i64 ((rd_T72 x4_25 x12_5).f1), .bool ((rd_T72 x4_25 x12_5).f2), .bool ((rd_T72 x4_25 x12_5).f3), .int .i64 0]) ?_ 4 _ rfl; refine blk_put (cs := #[.string ((rd_T72 x4_25 x12_5).f0), .int .i64 ((rd_T72 x4_25 x12_5).f1), .bool ((rd_T72 x4_25 x12_5).f2), .bool false, .int .i64 0]) ?_ 3 _ rfl; refine blk_put (cs := #[.string ((rd_T72 x4_25 x12_5).f0), .int .i64 ((rd_T72 x4_25 x12_5).f1), .bool false, .bool false, .int .i64 0]) ?_ 2 _ rfl; refine blk_put (cs := #[.string ((rd_T72 x4_25 x12_5).f0), .int .i64 0, .bool false, .bool false, .int .i64 0]) ?_ 1 _ rfl; refine blk_put (cs := #[.string (⟨#[]⟩ : ByteArray), .int .i64 0, .bool false, .bool false, .int .i64 0]) ?_ 0 _ rfl; exact BK1.out⟩
            have n3_ : Aside0 (Below w.heap.size w ((((((w42.setCell ⟨gb1, 0, none⟩ (.string ((rd_T72 x4_25 x12_5).f0))).setCell ⟨gb1, 1, none⟩ (.int .i64 ((rd_T72 x4_25 x12_5).f1))).setCell ⟨gb1, 2, none⟩ (.bool ((rd_T72 x4_25 x12_5).f2))).setCell ⟨gb1, 3, none⟩ (.bool ((rd_T72 x4_25 x12_5).f3))).setCell ⟨gb1, 4, none⟩ (.int .i64 ((rd_T72 x4_25 x12_5).f4))).setCell ⟨gb1, 2, none⟩ (.bool (!((rd_T72 x4_25 x12_5).f2))))) := ⟨below_set (below_set (below_set (below_set (below_set (below_set HB.out GE1.out) GE1.out) GE1.out) GE1.out) GE1.out) GE1.out⟩
            clear HO_4 HO_10 BK1 HB hcz43_0 hcz43_1 hcz43_2 hcz43_3 hcz43_4 hfz43_0 hfz43_1 hfz43_2 hfz43_3 hfz43_4
            generalize ((((((w42.setCell ⟨gb1, 0, none⟩ (.string ((rd_T72 x4_25 x12_5).f0))).setCell ⟨gb1, 1, none⟩ (.int .i64 ((rd_T72 x4_25 x12_5).f1))).setCell ⟨gb1, 2, none⟩ (.bool ((rd_T72 x4_25 x12_5).f2))).setCell ⟨gb1, 3, none⟩ (.bool ((rd_T72 x4_25 x12_5).f3))).setCell ⟨gb1, 4, none⟩ (.int .i64 ((rd_T72 x4_25 x12_5).f4))).setCell ⟨gb1, 2, none⟩ (.bool (!((rd_T72 x4_25 x12_5).f2)))) = w942_ at n0_ n1_ n2_ n3_ ⊢
            have HO_4 := n0_
            have HO_10 := n1_
            have BK1 := n2_
            have HB := n3_
            clear n0_ n1_ n2_ n3_
            have hcz942 := blk_cell BK1.out; have hfz942 := blk_frozen BK1.out
            go_wp2_with (first | ((with_reducible refine gate_builtin (b := .append) (xs := #[.tmp 123, .tmp 125]) rfl ?_); at_builtin; refine Kd.R_append k72 (w0 := w) w.heap.size rfl (.tmp 123) (.tmp 125) 67 72 (.agg #[(.string ⟨#[]⟩), (.int .i64 0), (.bool false), (.bool false), (.int .i64 0)]) 40 rfl Tryd.underlying67 info72 rfl (by decide) (by omega) u10 x10_5 (⟨(rd_T72 x4_25 x12_5).f0, Int.tmod (wrap64 (4 - ((rd_T72 x4_25 x12_5).f1))) 4, !((rd_T72 x4_25 x12_5).f2), (rd_T72 x4_25 x12_5).f3, (rd_T72 x4_25 x12_5).f4⟩ : S72) [.string ((rd_T72 x4_25 x12_5).f0), .int .i64 (Int.tmod (wrap64 (4 - ((rd_T72 x4_25 x12_5).f1))) 4), .bool (!((rd_T72 x4_25 x12_5).f2)), .bool ((rd_T72 x4_25 x12_5).f3), .int .i64 ((rd_T72 x4_25 x12_5).f4)] (fun k_ => some k_ ≠ (.slice (some ad655) x4_25.length co41 : Value).ownBlock ∧ k_ ≠ gb1) (fun _ => False) rfl (by first | (go_simp; done) | (go_simp; rfl)) ?aP (fun _ hk => hk.elim) ?aF ?aO ?aB ?aS ?aL ?_; (case aP => exact k72_mkM _ _ _ (⟨(rd_T72 x4_25 x12_5).f0, Int.tmod (wrap64 (4 - ((rd_T72 x4_25 x12_5).f1))) 4, !((rd_T72 x4_25 x12_5).f2), (rd_T72 x4_25 x12_5).f3, (rd_T72 x4_25 x12_5).f4⟩ : S72)); (case aB => exact (hO HB)); (case aF => exact (fun k_ hk => ⟨Kd.fresh' (Kd.R_lt (by exact (Kd.R_mono (Kd.R_far (p := ⟨gb1, 1, none⟩) (Kd.R_mono HO_4.out (fun k_ hk => (⟨hk, hk.2⟩ : _ ∧ k_ ≠ gb1))) (fun _ hk => hk.2) (.int .i64 (Int.tmod (wrap64 (4 - ((rd_T72 x4_25 x12_5).f1))) 4))) (fun _ h_ => h_.1)))) k_ hk, Kd.freshB (g := gb1) (o := .cells #[.string ((rd_T72 x4_25 x12_5).f0), .int .i64 (Int.tmod (wrap64 (4 - ((rd_T72 x4_25 x12_5).f1))) 4), .bool (!((rd_T72 x4_25 x12_5).f2)), .bool ((rd_T72 x4_25 x12_5).f3), .int .i64 ((rd_T72 x4_25 x12_5).f4)] 72 (0, 0)) (by refine blk_put (cs := #[.string ((rd_T72 x4_25 x12_5).f0), .int .i64 ((rd_T72 x4_25 x12_5).f1), .bool (!((rd_T72 x4_25 x12_5).f2)), .bool ((rd_T72 x4_25 x12_5).f3), .int .i64 ((rd_T72 x4_25 x12_5).f4)]) ?_ 1 _ rfl; exact BK1.out) k_ hk⟩)); (case aO => exact (by exact Kd.R_mono (Kd.R_far (p := ⟨gb1, 1, none⟩) (Kd.R_mono HO_10.out (fun k_ hk => (⟨hk, hk.2⟩ : _ ∧ k_ ≠ gb1))) (fun _ hk => hk.2) (.int .i64 (Int.tmod (wrap64 (4 - ((rd_T72 x4_25 x12_5).f1))) 4))) (fun _ hk => ⟨hk.1.1, hk.1.2⟩))); (case aS => exact (below_size (hO HB))); (case aL => have := LMc40.out; omega); intro v659 w44 ho hb hg hat; rw [← Ny658.out] at ho; replace HO_4 := Aside0.mk (Kd.R_after (ok := (fun k_ => k_ ≠ gb1)) (by exact Kd.R_mono (Kd.R_far (p := ⟨gb1, 1, none⟩) (Kd.R_mono HO_4.out (fun k_ hk => (⟨hk, hk.2⟩ : _ ∧ k_ ≠ gb1))) (fun _ hk => hk.2) (.int .i64 (Int.tmod (wrap64 (4 - ((rd_T72 x4_25 x12_5).f1))) 4))) (fun _ hk => ⟨hk.1.2, hk.1.1⟩)) hg hat); replace BK1 := Aside0.mk (blk_grown (g := gb1) (o := .cells #[.string ((rd_T72 x4_25 x12_5).f0), .int .i64 (Int.tmod (wrap64 (4 - ((rd_T72 x4_25 x12_5).f1))) 4), .bool (!((rd_T72 x4_25 x12_5).f2)), .bool ((rd_T72 x4_25 x12_5).f3), .int .i64 ((rd_T72 x4_25 x12_5).f4)] 72 (0, 0)) (by refine blk_put (cs := #[.string ((rd_T72 x4_25 x12_5).f0), .int .i64 ((rd_T72 x4_25 x12_5).f1), .bool (!((rd_T72 x4_25 x12_5).f2)), .bool ((rd_T72 x4_25 x12_5).f3), .int .i64 ((rd_T72 x4_25 x12_5).f4)]) ?_ 1 _ rfl; exact BK1.out) hg (Kd.R_away HO_10.out (fun _ hk => hk.2))); replace HB := Aside0.mk (hb); have HO660 := Aside0.mk (ho); clear HO_10; clear ho hb hg hat))
            go_roundg k5
            case measure => have := HK1.out; have := HJ21.out; have := HJ25.out; have := HK4.out; have := HK5.out; omega
            case rel => exact ⟨(y658), (wrap64 (x12_5 + 1)), rfl, H', ⟨by have := HK1.out; have := HJ21.out; have := HJ25.out; have := HK4.out; have := HK5.out; omega⟩, ⟨Kd.R_mono HO_4.out (fun _ hk => hk.2)⟩, ⟨Kd.R_mono HO660.out (fun _ hk => hk.1)⟩, HB⟩
           rw [if_neg c35] at H
           have c35b0 := beq_eq_false_iff_ne.mpr c35
           have c35b1 := bne_iff_ne.mpr c35
           by_cases c45 : ((rd_T43 l0 0).f0) = 4
           ·
            rw [if_pos c45] at H
            have c45b0 := beq_iff_eq.mpr c45
            have c45b1 := bne_eq_false_iff_eq.mpr c45
            clear c45
            by_cases c46 : ((rd_T72 x4_25 x12_5).f4) > 8192
            ·
             rw [if_pos c46] at H
             have c46b0 := decide_eq_true c46
             clear c46
             simp only [Option.some.injEq, Prod.mk.injEq] at H
             obtain ⟨rfl, rfl⟩ := H
             obtain ⟨Ao47, co47, eo47⟩ := Kd.R_slice HO_4.out
             subst eo47
             have p655 : 0 ≤ (x12_5 : Int) := of_decide_eq_true (by assumption)
             have q655 : x12_5 < (x4_25.length : Int) := of_decide_eq_true (by assumption)
             obtain ⟨ad655, e655, hx655_0, hx655_1, hx655_2, hx655_3, hx655_4⟩ := at_T72 (Kd.R_reads' HO_4.out).2.2 x12_5 p655 q655
             cases e655
             replace p655 := eq_true p655
             replace q655 := eq_true q655
             go_wp2_with (first | ((with_reducible refine gate_dst (N := 13) rfl ?_); refine box_event rfl (N := 13) rfl (cs := #[.string (⟨#[]⟩ : ByteArray), .int .i64 0, .bool false, .bool false, .int .i64 0]) (t := 72) (by first | (go_simp; done) | (go_simp; rfl)) ?_; intro gb1 hg w48 hbox hb; replace HO_4 := Aside0.mk (Kd.R_below (Kd.R_elderB HO_4.out gb1 (Nat.le_of_eq hg.symm)) hb); replace HO_10 := Aside0.mk (Kd.R_below (Kd.R_elderB HO_10.out gb1 (Nat.le_of_eq hg.symm)) hb); have BK1 := Aside0.mk hbox; have GW1 := mGw HB hg; have GE1 := GW1; replace HB := mSt HB hb; clear hb hbox hg; have hcz49 := blk_cell BK1.out; have hfz49 := blk_frozen BK1.out; have p657 : 0 ≤ (0 : Int) := (by omega); have q657 : 0 < (l0.length : Int) := of_decide_eq_true (by assumption); obtain ⟨ad657, e657, hx657_0, hx657_1, hx657_2, hx657_3⟩ := at_T43 HR0.out 0 p657 q657; obtain rfl : ad629 = ad657 := (by injection e657); have qi657 : (0 < l0.length) = True := eq_true (by omega); (try rw [show ((0 : Int)).toNat = 0 from rfl] at hx657_0); (try rw [show 0 * 4 = 0 from rfl] at hx657_0); (try rw [Addr.add_zero'] at hx657_0); (try rw [show ((0 : Int)).toNat = 0 from rfl] at hx657_1); (try rw [show 0 * 4 = 0 from rfl] at hx657_1); (try rw [Addr.add_zero'] at hx657_1); (try rw [show ((0 : Int)).toNat = 0 from rfl] at hx657_2); (try rw [show 0 * 4 = 0 from rfl] at hx657_2); (try rw [Addr.add_zero'] at hx657_2); (try rw [show ((0 : Int)).toNat = 0 from rfl] at hx657_3); (try rw [show 0 * 4 = 0 from rfl] at hx657_3); (try rw [Addr.add_zero'] at hx657_3); have hn657_0 : ad629.block ≠ gb1 := Nat.ne_of_lt (Nat.lt_of_lt_of_le (by have := World.block_lt_of_cell? _ _ hx657_0; first | rwa [add_block] at this | exact this) GW1.out); have hn657_1 : ad629.block ≠ gb1 := Nat.ne_of_lt (Nat.lt_of_lt_of_le (by have := World.block_lt_of_cell? _ _ hx657_0; first | rwa [add_block] at this | exact this) GW1.out); have hn657_2 : ad629.block ≠ gb1 := Nat.ne_of_lt (Nat.lt_of_lt_of_le (by have := World.block_lt_of_cell? _ _ hx657_0; first | rwa [add_block] at this | exact this) GW1.out); have hn657_3 : ad629.block ≠ gb1 := Nat.ne_of_lt (Nat.lt_of_lt_of_le (by have := World.block_lt_of_cell? _ _ hx657_0; first | rwa [add_block] at this | exact this) GW1.out); have hn657_4 : ad629.block ≠ gb1 := Nat.ne_of_lt (Nat.lt_of_lt_of_le (by have := World.block_lt_of_cell? _ _ hx657_0; first | rwa [add_block] at this | exact this) GW1.out); replace hx657_0 := mHx HB hx657_0; replace hx657_1 := mHx HB hx657_1; replace hx657_2 := mHx HB hx657_2; replace hx657_3 := mHx HB hx657_3; replace hx657_0 := (cell_far (p := ⟨gb1, 0, none⟩) (by first | (rw [add_block]; exact hn657_0) | (show (Addr.add _ _).block ≠ _; rw [add_block]; exact hn657_0) | exact hn657_0) (.string ((rd_T72 x4_25 x12_5).f0))).trans hx657_0; replace hx657_1 := (cell_far (p := ⟨gb1, 0, none⟩) (by first | (rw [add_block]; exact hn657_0) | (show (Addr.add _ _).block ≠ _; rw [add_block]; exact hn657_0) | exact hn657_0) (.string ((rd_T72 x4_25 x12_5).f0))).trans hx657_1; replace hx657_2 := (cell_far (p := ⟨gb1, 0, none⟩) (by first | (rw [add_block]; exact hn657_0) | (show (Addr.add _ _).block ≠ _; rw [add_block]; exact hn657_0) | exact hn657_0) (.string ((rd_T72 x4_25 x12_5).f0))).trans hx657_2; replace hx657_3 := (cell_far (p := ⟨gb1, 0, none⟩) (by first | (rw [add_block]; exact hn657_0) | (show (Addr.add _ _).block ≠ _; rw [add_block]; exact hn657_0) | exact hn657_0) (.string ((rd_T72 x4_25 x12_5).f0))).trans hx657_3; replace hx657_0 := (cell_far (p := ⟨gb1, 1, none⟩) (by first | (rw [add_block]; exact hn657_1) | (show (Addr.add _ _).block ≠ _; rw [add_block]; exact hn657_1) | exact hn657_1) (.int .i64 ((rd_T72 x4_25 x12_5).f1))).trans hx657_0; replace hx657_1 := (cell_far (p := ⟨gb1, 1, none⟩) (by first | (rw [add_block]; exact hn657_1) | (show (Addr.add _ _).block ≠ _; rw [add_block]; exact hn657_1) | exact hn657_1) (.int .i64 ((rd_T72 x4_25 x12_5).f1))).trans hx657_1; replace hx657_2 := (cell_far (p := ⟨gb1, 1, none⟩) (by first | (rw [add_block]; exact hn657_1) | (show (Addr.add _ _).block ≠ _; rw [add_block]; exact hn657_1) | exact hn657_1) (.int .i64 ((rd_T72 x4_25 x12_5).f1))).trans hx657_2; replace hx657_3 := (cell_far (p := ⟨gb1, 1, none⟩) (by first | (rw [add_block]; exact hn657_1) | (show (Addr.add _ _).block ≠ _; rw [add_block]; exact hn657_1) | exact hn657_1) (.int .i64 ((rd_T72 x4_25 x12_5).f1))).trans hx657_3; replace hx657_0 := (cell_far (p := ⟨gb1, 2, none⟩) (by first | (rw [add_block]; exact hn657_2) | (show (Addr.add _ _).block ≠ _; rw [add_block]; exact hn657_2) | exact hn657_2) (.bool ((rd_T72 x4_25 x12_5).f2))).trans hx657_0; replace hx657_1 := (cell_far (p := ⟨gb1, 2, none⟩) (by first | (rw [add_block]; exact hn657_2) | (show (Addr.add _ _).block ≠ _; rw [add_block]; exact hn657_2) | exact hn657_2) (.bool ((rd_T72 x4_25 x12_5).f2))).trans hx657_1; replace hx657_2 := (cell_far (p := ⟨gb1, 2, none⟩) (by first | (rw [add_block]; exact hn657_2) | (show (Addr.add _ _).block ≠ _; rw [add_block]; exact hn657_2) | exact hn657_2) (.bool ((rd_T72 x4_25 x12_5).f2))).trans hx657_2; replace hx657_3 := (cell_far (p := ⟨gb1, 2, none⟩) (by first | (rw [add_block]; exact hn657_2) | (show (Addr.add _ _).block ≠ _; rw [add_block]; exact hn657_2) | exact hn657_2) (.bool ((rd_T72 x4_25 x12_5).f2))).trans hx657_3; replace hx657_0 := (cell_far (p := ⟨gb1, 3, none⟩) (by first | (rw [add_block]; exact hn657_3) | (show (Addr.add _ _).block ≠ _; rw [add_block]; exact hn657_3) | exact hn657_3) (.bool ((rd_T72 x4_25 x12_5).f3))).trans hx657_0; replace hx657_1 := (cell_far (p := ⟨gb1, 3, none⟩) (by first | (rw [add_block]; exact hn657_3) | (show (Addr.add _ _).block ≠ _; rw [add_block]; exact hn657_3) | exact hn657_3) (.bool ((rd_T72 x4_25 x12_5).f3))).trans hx657_1; replace hx657_2 := (cell_far (p := ⟨gb1, 3, none⟩) (by first | (rw [add_block]; exact hn657_3) | (show (Addr.add _ _).block ≠ _; rw [add_block]; exact hn657_3) | exact hn657_3) (.bool ((rd_T72 x4_25 x12_5).f3))).trans hx657_2; replace hx657_3 := (cell_far (p := ⟨gb1, 3, none⟩) (by first | (rw [add_block]; exact hn657_3) | (show (Addr.add _ _).block ≠ _; rw [add_block]; exact hn657_3) | exact hn657_3) (.bool ((rd_T72 x4_25 x12_5).f3))).trans hx657_3; replace hx657_0 := (cell_far (p := ⟨gb1, 4, none⟩) (by first | (rw [add_block]; exact hn657_4) | (show (Addr.add _ _).block ≠ _; rw [add_block]; exact hn657_4) | exact hn657_4) (.int .i64 ((rd_T72 x4_25 x12_5).f4))).trans hx657_0; replace hx657_1 := (cell_far (p := ⟨gb1, 4, none⟩) (by first | (rw [add_block]; exact hn657_4) | (show (Addr.add _ _).block ≠ _; rw [add_block]; exact hn657_4) | exact hn657_4) (.int .i64 ((rd_T72 x4_25 x12_5).f4))).trans hx657_1; replace hx657_2 := (cell_far (p := ⟨gb1, 4, none⟩) (by first | (rw [add_block]; exact hn657_4) | (show (Addr.add _ _).block ≠ _; rw [add_block]; exact hn657_4) | exact hn657_4) (.int .i64 ((rd_T72 x4_25 x12_5).f4))).trans hx657_2; replace hx657_3 := (cell_far (p := ⟨gb1, 4, none⟩) (by first | (rw [add_block]; exact hn657_4) | (show (Addr.add _ _).block ≠ _; rw [add_block]; exact hn657_4) | exact hn657_4) (.int .i64 ((rd_T72 x4_25 x12_5).f4))).trans hx657_3; clear hn657_0 hn657_1 hn657_2 hn657_3 hn657_4; replace p657 := eq_true p657; replace q657 := eq_true q657))
             go_ret2
             exact ⟨_, rfl, by first | exact Kd.R_nil _ _ _ _ _ | exact Kd.N_nil _ _ _ _ _ | exact Kd.V_nil _ _ _ _ _ | exact Kd.Q_nil _ _ _ _ _ | exact Kd.S_nil _ _ _ _ _, hO HB⟩
            rw [if_neg c46] at H
            have c46b0 := decide_eq_false c46
            clear c46
            obtain ⟨c50, H⟩ : (x10_5.length < 3518437208883) ∧ _ := mIf H
            have LMc50 := Aside0.mk c50
            clear c50
            obtain ⟨y661, hy661⟩ : ∃ y_ : List (S72), y_ = (x10_5 ++ [(⟨(rd_T72 x4_25 x12_5).f0, (rd_T72 x4_25 x12_5).f1, (rd_T72 x4_25 x12_5).f2, !((rd_T72 x4_25 x12_5).f3), (rd_T72 x4_25 x12_5).f4⟩ : S72)]) := ⟨_, rfl⟩
            rw [← hy661] at H
            have Ny661 := Aside0.mk hy661
            clear hy661
            have H' := Aside0.mk H
            clear H
            obtain ⟨Ao51, co51, eo51⟩ := Kd.R_slice HO_4.out
            subst eo51
            have p655 : 0 ≤ (x12_5 : Int) := of_decide_eq_true (by assumption)
            have q655 : x12_5 < (x4_25.length : Int) := of_decide_eq_true (by assumption)
            obtain ⟨ad655, e655, hx655_0, hx655_1, hx655_2, hx655_3, hx655_4⟩ := at_T72 (Kd.R_reads' HO_4.out).2.2 x12_5 p655 q655
            cases e655
            replace p655 := eq_true p655
            replace q655 := eq_true q655
            go_upto_region 25 with (first | ((with_reducible refine gate_dst (N := 13) rfl ?_); refine box_event rfl (N := 13) rfl (cs := #[.string (⟨#[]⟩ : ByteArray), .int .i64 0, .bool false, .bool false, .int .i64 0]) (t := 72) (by first | (go_simp; done) | (go_simp; rfl)) ?_; intro gb1 hg w52 hbox hb; have n0_ := Aside0.mk (Kd.R_below (Kd.R_elderB (rO HO_4) gb1 (Nat.le_of_eq hg.symm)) hb); have n1_ := Aside0.mk (Kd.R_below (Kd.R_elderB (rO HO_10) gb1 (Nat.le_of_eq hg.symm)) hb); have n2_ := mSx HB hb; have n3_ := Aside0.mk (hbox); have n4_ := Aside0.mk ((by rw [hg]; exact (below_size (hO HB)) : w.heap.size ≤ gb1)); have n5_ := Aside0.mk ((by rw [hg]; exact (below_size (hO HB)) : w.heap.size ≤ gb1)); clear HO_4 HO_10 HB; have HO_4 := n0_; have HO_10 := n1_; have HB := n2_; have BK1 := n3_; have GW1 := n4_; have GE1 := n5_; clear n0_ n1_ n2_ n3_ n4_ n5_; clear hb hbox hg; have hcz53_0 : w52.cell? ⟨gb1, 0, none⟩ = some (.string (⟨#[]⟩ : ByteArray)) := (blk_cell BK1.out 0).trans rfl; have hcz53_1 : w52.cell? ⟨gb1, 1, none⟩ = some (.int .i64 0) := (blk_cell BK1.out 1).trans rfl; have hcz53_2 : w52.cell? ⟨gb1, 2, none⟩ = some (.bool false) := (blk_cell BK1.out 2).trans rfl; have hcz53_3 : w52.cell? ⟨gb1, 3, none⟩ = some (.bool false) := (blk_cell BK1.out 3).trans rfl; have hcz53_4 : w52.cell? ⟨gb1, 4, none⟩ = some (.int .i64 0) := (blk_cell BK1.out 4).trans rfl; have hfz53_0 := blk_frozen BK1.out 0; have hfz53_1 := blk_frozen BK1.out 1; have hfz53_2 := blk_frozen BK1.out 2; have hfz53_3 := blk_frozen BK1.out 3; have hfz53_4 := blk_frozen BK1.out 4; have p657 : 0 ≤ (0 : Int) := (by omega); have q657 : 0 < (l0.length : Int) := of_decide_eq_true (by assumption); obtain ⟨ad657, e657, hx657_0, hx657_1, hx657_2, hx657_3⟩ := at_T43 HR0.out 0 p657 q657; obtain rfl : ad629 = ad657 := (by injection e657); have qi657 : (0 < l0.length) = True := eq_true (by omega); (try rw [show ((0 : Int)).toNat = 0 from rfl] at hx657_0); (try rw [show 0 * 4 = 0 from rfl] at hx657_0); (try rw [Addr.add_zero'] at hx657_0); (try rw [show ((0 : Int)).toNat = 0 from rfl] at hx657_1); (try rw [show 0 * 4 = 0 from rfl] at hx657_1); (try rw [Addr.add_zero'] at hx657_1); (try rw [show ((0 : Int)).toNat = 0 from rfl] at hx657_2); (try rw [show 0 * 4 = 0 from rfl] at hx657_2); (try rw [Addr.add_zero'] at hx657_2); (try rw [show ((0 : Int)).toNat = 0 from rfl] at hx657_3); (try rw [show 0 * 4 = 0 from rfl] at hx657_3); (try rw [Addr.add_zero'] at hx657_3); have hn657_0 : ad629.block ≠ gb1 := Nat.ne_of_lt (Nat.lt_of_lt_of_le (by have := World.block_lt_of_cell? _ _ hx657_0; first | rwa [add_block] at this | exact this) GW1.out); have hn657_1 : ad629.block ≠ gb1 := Nat.ne_of_lt (Nat.lt_of_lt_of_le (by have := World.block_lt_of_cell? _ _ hx657_0; first | rwa [add_block] at this | exact this) GW1.out); have hn657_2 : ad629.block ≠ gb1 := Nat.ne_of_lt (Nat.lt_of_lt_of_le (by have := World.block_lt_of_cell? _ _ hx657_0; first | rwa [add_block] at this | exact this) GW1.out); have hn657_3 : ad629.block ≠ gb1 := Nat.ne_of_lt (Nat.lt_of_lt_of_le (by have := World.block_lt_of_cell? _ _ hx657_0; first | rwa [add_block] at this | exact this) GW1.out); have hn657_4 : ad629.block ≠ gb1 := Nat.ne_of_lt (Nat.lt_of_lt_of_le (by have := World.block_lt_of_cell? _ _ hx657_0; first | rwa [add_block] at this | exact this) GW1.out); replace hx657_0 := mHx HB hx657_0; replace hx657_1 := mHx HB hx657_1; replace hx657_2 := mHx HB hx657_2; replace hx657_3 := mHx HB hx657_3; replace hx657_0 := (cell_far (p := ⟨gb1, 0, none⟩) (by first | (rw [add_block]; exact hn657_0) | (show (Addr.add _ _).block ≠ _; rw [add_block]; exact hn657_0) | exact hn657_0) (.string ((rd_T72 x4_25 x12_5).f0))).trans hx657_0; replace hx657_1 := (cell_far (p := ⟨gb1, 0, none⟩) (by first | (rw [add_block]; exact hn657_0) | (show (Addr.add _ _).block ≠ _; rw [add_block]; exact hn657_0) | exact hn657_0) (.string ((rd_T72 x4_25 x12_5).f0))).trans hx657_1; replace hx657_2 := (cell_far (p := ⟨gb1, 0, none⟩) (by first | (rw [add_block]; exact hn657_0) | (show (Addr.add _ _).block ≠ _; rw [add_block]; exact hn657_0) | exact hn657_0) (.string ((rd_T72 x4_25 x12_5).f0))).trans hx657_2; replace hx657_3 := (cell_far (p := ⟨gb1, 0, none⟩) (by first | (rw [add_block]; exact hn657_0) | (show (Addr.add _ _).block ≠ _; rw [add_block]; exact hn657_0) | exact hn657_0) (.string ((rd_T72 x4_25 x12_5).f0))).trans hx657_3; replace hx657_0 := (cell_far (p := ⟨gb1, 1, none⟩) (by first | (rw [add_block]; exact hn657_1) | (show (Addr.add _ _).block ≠ _; rw [add_block]; exact hn657_1) | exact hn657_1) (.int .i64 ((rd_T72 x4_25 x12_5).f1))).trans hx657_0; replace hx657_1 := (cell_far (p := ⟨gb1, 1, none⟩) (by first | (rw [add_block]; exact hn657_1) | (show (Addr.add _ _).block ≠ _; rw [add_block]; exact hn657_1) | exact hn657_1) (.int .i64 ((rd_T72 x4_25 x12_5).f1))).trans hx657_1; replace hx657_2 := (cell_far (p := ⟨gb1, 1, none⟩) (by first | (rw [add_block]; exact hn657_1) | (show (Addr.add _ _).block ≠ _; rw [add_block]; exact hn657_1) | exact hn657_1) (.int .i64 ((rd_T72 x4_25 x12_5).f1))).trans hx657_2; replace hx657_3 := (cell_far (p := ⟨gb1, 1, none⟩) (by first | (rw [add_block]; exact hn657_1) | (show (Addr.add _ _).block ≠ _; rw [add_block]; exact hn657_1) | exact hn657_1) (.int .i64 ((rd_T72 x4_25 x12_5).f1))).trans hx657_3; replace hx657_0 := (cell_far (p := ⟨gb1, 2, none⟩) (by first | (rw [add_block]; exact hn657_2) | (show (Addr.add _ _).block ≠ _; rw [add_block]; exact hn657_2) | exact hn657_2) (.bool ((rd_T72 x4_25 x12_5).f2))).trans hx657_0; replace hx657_1 := (cell_far (p := ⟨gb1, 2, none⟩) (by first | (rw [add_block]; exact hn657_2) | (show (Addr.add _ _).block ≠ _; rw [add_block]; exact hn657_2) | exact hn657_2) (.bool ((rd_T72 x4_25 x12_5).f2))).trans hx657_1; replace hx657_2 := (cell_far (p := ⟨gb1, 2, none⟩) (by first | (rw [add_block]; exact hn657_2) | (show (Addr.add _ _).block ≠ _; rw [add_block]; exact hn657_2) | exact hn657_2) (.bool ((rd_T72 x4_25 x12_5).f2))).trans hx657_2; replace hx657_3 := (cell_far (p := ⟨gb1, 2, none⟩) (by first | (rw [add_block]; exact hn657_2) | (show (Addr.add _ _).block ≠ _; rw [add_block]; exact hn657_2) | exact hn657_2) (.bool ((rd_T72 x4_25 x12_5).f2))).trans hx657_3; replace hx657_0 := (cell_far (p := ⟨gb1, 3, none⟩) (by first | (rw [add_block]; exact hn657_3) | (show (Addr.add _ _).block ≠ _; rw [add_block]; exact hn657_3) | exact hn657_3) (.bool ((rd_T72 x4_25 x12_5).f3))).trans hx657_0; replace hx657_1 := (cell_far (p := ⟨gb1, 3, none⟩) (by first | (rw [add_block]; exact hn657_3) | (show (Addr.add _ _).block ≠ _; rw [add_block]; exact hn657_3) | exact hn657_3) (.bool ((rd_T72 x4_25 x12_5).f3))).trans hx657_1; replace hx657_2 := (cell_far (p := ⟨gb1, 3, none⟩) (by first | (rw [add_block]; exact hn657_3) | (show (Addr.add _ _).block ≠ _; rw [add_block]; exact hn657_3) | exact hn657_3) (.bool ((rd_T72 x4_25 x12_5).f3))).trans hx657_2; replace hx657_3 := (cell_far (p := ⟨gb1, 3, none⟩) (by first | (rw [add_block]; exact hn657_3) | (show (Addr.add _ _).block ≠ _; rw [add_block]; exact hn657_3) | exact hn657_3) (.bool ((rd_T72 x4_25 x12_5).f3))).trans hx657_3; replace hx657_0 := (cell_far (p := ⟨gb1, 4, none⟩) (by first | (rw [add_block]; exact hn657_4) | (show (Addr.add _ _).block ≠ _; rw [add_block]; exact hn657_4) | exact hn657_4) (.int .i64 ((rd_T72 x4_25 x12_5).f4))).trans hx657_0; replace hx657_1 := (cell_far (p := ⟨gb1, 4, none⟩) (by first | (rw [add_block]; exact hn657_4) | (show (Addr.add _ _).block ≠ _; rw [add_block]; exact hn657_4) | exact hn657_4) (.int .i64 ((rd_T72 x4_25 x12_5).f4))).trans hx657_1; replace hx657_2 := (cell_far (p := ⟨gb1, 4, none⟩) (by first | (rw [add_block]; exact hn657_4) | (show (Addr.add _ _).block ≠ _; rw [add_block]; exact hn657_4) | exact hn657_4) (.int .i64 ((rd_T72 x4_25 x12_5).f4))).trans hx657_2; replace hx657_3 := (cell_far (p := ⟨gb1, 4, none⟩) (by first | (rw [add_block]; exact hn657_4) | (show (Addr.add _ _).block ≠ _; rw [add_block]; exact hn657_4) | exact hn657_4) (.int .i64 ((rd_T72 x4_25 x12_5).f4))).trans hx657_3; clear hn657_0 hn657_1 hn657_2 hn657_3 hn657_4; replace p657 := eq_true p657; replace q657 := eq_true q657))
            go_upto_region 35 with (fail)
            have n0_ := Aside0.mk (Kd.R_mono (Kd.R_far (p := ⟨gb1, 3, none⟩) (Kd.R_far (p := ⟨gb1, 4, none⟩) (Kd.R_far (p := ⟨gb1, 3, none⟩) (Kd.R_far (p := ⟨gb1, 2, none⟩) (Kd.R_far (p := ⟨gb1, 1, none⟩) (Kd.R_far (p := ⟨gb1, 0, none⟩) (Kd.R_mono HO_4.out (fun k_ hk => (⟨hk, hk.2⟩ : _ ∧ k_ ≠ gb1))) (fun _ hk => hk.2) (.string ((rd_T72 x4_25 x12_5).f0))) (fun _ hk => hk.2) (.int .i64 ((rd_T72 x4_25 x12_5).f1))) (fun _ hk => hk.2) (.bool ((rd_T72 x4_25 x12_5).f2))) (fun _ hk => hk.2) (.bool ((rd_T72 x4_25 x12_5).f3))) (fun _ hk => hk.2) (.int .i64 ((rd_T72 x4_25 x12_5).f4))) (fun _ hk => hk.2) (.bool (!((rd_T72 x4_25 x12_5).f3)))) (fun _ hk => hk.1))
            have n1_ := Aside0.mk (Kd.R_mono (Kd.R_far (p := ⟨gb1, 3, none⟩) (Kd.R_far (p := ⟨gb1, 4, none⟩) (Kd.R_far (p := ⟨gb1, 3, none⟩) (Kd.R_far (p := ⟨gb1, 2, none⟩) (Kd.R_far (p := ⟨gb1, 1, none⟩) (Kd.R_far (p := ⟨gb1, 0, none⟩) (Kd.R_mono HO_10.out (fun k_ hk => (⟨hk, hk.2⟩ : _ ∧ k_ ≠ gb1))) (fun _ hk => hk.2) (.string ((rd_T72 x4_25 x12_5).f0))) (fun _ hk => hk.2) (.int .i64 ((rd_T72 x4_25 x12_5).f1))) (fun _ hk => hk.2) (.bool ((rd_T72 x4_25 x12_5).f2))) (fun _ hk => hk.2) (.bool ((rd_T72 x4_25 x12_5).f3))) (fun _ hk => hk.2) (.int .i64 ((rd_T72 x4_25 x12_5).f4))) (fun _ hk => hk.2) (.bool (!((rd_T72 x4_25 x12_5).f3)))) (fun _ hk => hk.1))
            have n2_ : Aside0 (((((((w52.setCell ⟨gb1, 0, none⟩ (.string ((rd_T72 x4_25 x12_5).f0))).setCell ⟨gb1, 1, none⟩ (.int .i64 ((rd_T72 x4_25 x12_5).f1))).setCell ⟨gb1, 2, none⟩ (.bool ((rd_T72 x4_25 x12_5).f2))).setCell ⟨gb1, 3, none⟩ (.bool ((rd_T72 x4_25 x12_5).f3))).setCell ⟨gb1, 4, none⟩ (.int .i64 ((rd_T72 x4_25 x12_5).f4))).setCell ⟨gb1, 3, none⟩ (.bool (!((rd_T72 x4_25 x12_5).f3)))).heap[gb1]? = some (.cells #[.string ((rd_T72 x4_25 x12_5).f0), .int .i64 ((rd_T72 x4_25 x12_5).f1), .bool ((rd_T72 x4_25 x12_5).f2), .bool (!((rd_T72 x4_25 x12_5).f3)), .int .i64 ((rd_T72 x4_25 x12_5).f4)] 72 (0, 0))) := ⟨by refine blk_put (cs := #[.string ((rd_T72 x4_25 x12_5).f0), .int .i64 ((rd_T72 x4_25 x12_5).f1), .bool ((rd_T72 x4_25 x12_5).f2), .bool ((rd_T72 x4_25 x12_5).f3), .int .i64 ((rd_T72 x4_25 x12_5).f4)]) ?_ 3 _ rfl; refine blk_put (cs := #[.string ((rd_T72 x4_25 x12_5).f0), .int .i64 ((rd_T72 x4_25 x12_5).f1), .bool ((rd_T72 x4_25 x12_5).f2), .bool ((rd_T72 x4_25 x12_5).f3), .int .i64 0]) ?_ 4 _ rfl; refine blk_put (cs := #[.string ((rd_T72 x4_25 x12_5).f0), .int .i64 ((rd_T72 x4_25 x12_5).f1), .bool ((rd_T72 x4_25 x12_5).f2), .bool false, .int .i64 0]) ?_ 3 _ rfl; refine blk_put (cs := #[.string ((rd_T72 x4_25 x12_5).f0), .int .i64 ((rd_T72 x4_25 x12_5).f1), .bool false, .bool false, .int .i64 0]) ?_ 2 _ rfl; refine blk_put (cs := #[.string ((rd_T72 x4_25 x12_5).f0), .int .i64 0, .bool false, .bool false, .int .i64 0]) ?_ 1 _ rfl; refine blk_put (cs := #[.string (⟨#[]⟩ : ByteArray), .int .i64 0, .bool false, .bool false, .int .i64 0]) ?_ 0 _ rfl; exact BK1.out⟩
            have n3_ : Aside0 (Below w.heap.size w ((((((w52.setCell ⟨gb1, 0, none⟩ (.string ((rd_T72 x4_25 x12_5).f0))).setCell ⟨gb1, 1, none⟩ (.int .i64 ((rd_T72 x4_25 x12_5).f1))).setCell ⟨gb1, 2, none⟩ (.bool ((rd_T72 x4_25 x12_5).f2))).setCell ⟨gb1, 3, none⟩ (.bool ((rd_T72 x4_25 x12_5).f3))).setCell ⟨gb1, 4, none⟩ (.int .i64 ((rd_T72 x4_25 x12_5).f4))).setCell ⟨gb1, 3, none⟩ (.bool (!((rd_T72 x4_25 x12_5).f3))))) := ⟨below_set (below_set (below_set (below_set (below_set (below_set HB.out GE1.out) GE1.out) GE1.out) GE1.out) GE1.out) GE1.out⟩
            clear HO_4 HO_10 BK1 HB hcz53_0 hcz53_1 hcz53_2 hcz53_3 hcz53_4 hfz53_0 hfz53_1 hfz53_2 hfz53_3 hfz53_4
            generalize ((((((w52.setCell ⟨gb1, 0, none⟩ (.string ((rd_T72 x4_25 x12_5).f0))).setCell ⟨gb1, 1, none⟩ (.int .i64 ((rd_T72 x4_25 x12_5).f1))).setCell ⟨gb1, 2, none⟩ (.bool ((rd_T72 x4_25 x12_5).f2))).setCell ⟨gb1, 3, none⟩ (.bool ((rd_T72 x4_25 x12_5).f3))).setCell ⟨gb1, 4, none⟩ (.int .i64 ((rd_T72 x4_25 x12_5).f4))).setCell ⟨gb1, 3, none⟩ (.bool (!((rd_T72 x4_25 x12_5).f3)))) = w944_ at n0_ n1_ n2_ n3_ ⊢
            have HO_4 := n0_
            have HO_10 := n1_
            have BK1 := n2_
            have HB := n3_
            clear n0_ n1_ n2_ n3_
            have hcz944 := blk_cell BK1.out; have hfz944 := blk_frozen BK1.out
            go_wp2_with (first | ((with_reducible refine gate_builtin (b := .append) (xs := #[.tmp 123, .tmp 125]) rfl ?_); at_builtin; refine Kd.R_append k72 (w0 := w) w.heap.size rfl (.tmp 123) (.tmp 125) 67 72 (.agg #[(.string ⟨#[]⟩), (.int .i64 0), (.bool false), (.bool false), (.int .i64 0)]) 40 rfl Tryd.underlying67 info72 rfl (by decide) (by omega) u10 x10_5 (⟨(rd_T72 x4_25 x12_5).f0, (rd_T72 x4_25 x12_5).f1, (rd_T72 x4_25 x12_5).f2, !((rd_T72 x4_25 x12_5).f3), (rd_T72 x4_25 x12_5).f4⟩ : S72) [.string ((rd_T72 x4_25 x12_5).f0), .int .i64 ((rd_T72 x4_25 x12_5).f1), .bool ((rd_T72 x4_25 x12_5).f2), .bool (!((rd_T72 x4_25 x12_5).f3)), .int .i64 ((rd_T72 x4_25 x12_5).f4)] (fun k_ => some k_ ≠ (.slice (some ad655) x4_25.length co51 : Value).ownBlock ∧ k_ ≠ gb1) (fun _ => False) rfl (by first | (go_simp; done) | (go_simp; rfl)) ?aP (fun _ hk => hk.elim) ?aF ?aO ?aB ?aS ?aL ?_; (case aP => exact k72_mkM _ _ _ (⟨(rd_T72 x4_25 x12_5).f0, (rd_T72 x4_25 x12_5).f1, (rd_T72 x4_25 x12_5).f2, !((rd_T72 x4_25 x12_5).f3), (rd_T72 x4_25 x12_5).f4⟩ : S72)); (case aB => exact HB.out); (case aF => exact (fun k_ hk => ⟨Kd.fresh' (Kd.R_lt (by exact (Kd.R_mono (Kd.R_mono HO_4.out (fun k_ hk => (⟨hk, hk.2⟩ : _ ∧ k_ ≠ gb1))) (fun _ h_ => h_.1)))) k_ hk, Kd.freshB (g := gb1) (o := .cells #[.string ((rd_T72 x4_25 x12_5).f0), .int .i64 ((rd_T72 x4_25 x12_5).f1), .bool ((rd_T72 x4_25 x12_5).f2), .bool (!((rd_T72 x4_25 x12_5).f3)), .int .i64 ((rd_T72 x4_25 x12_5).f4)] 72 (0, 0)) BK1.out k_ hk⟩)); (case aO => exact (by exact Kd.R_mono (Kd.R_mono HO_10.out (fun k_ hk => (⟨hk, hk.2⟩ : _ ∧ k_ ≠ gb1))) (fun _ hk => ⟨hk.1.1, hk.1.2⟩))); (case aS => exact (below_size HB.out)); (case aL => have := LMc50.out; omega); intro v662 w54 ho hb hg hat; rw [← Ny661.out] at ho; replace HO_4 := Aside0.mk (Kd.R_after (ok := (fun k_ => k_ ≠ gb1)) (by exact Kd.R_mono (Kd.R_mono HO_4.out (fun k_ hk => (⟨hk, hk.2⟩ : _ ∧ k_ ≠ gb1))) (fun _ hk => ⟨hk.1.2, hk.1.1⟩)) hg hat); replace BK1 := Aside0.mk (blk_grown (g := gb1) (o := .cells #[.string ((rd_T72 x4_25 x12_5).f0), .int .i64 ((rd_T72 x4_25 x12_5).f1), .bool ((rd_T72 x4_25 x12_5).f2), .bool (!((rd_T72 x4_25 x12_5).f3)), .int .i64 ((rd_T72 x4_25 x12_5).f4)] 72 (0, 0)) BK1.out hg (Kd.R_away HO_10.out (fun _ hk => hk.2))); replace HB := Aside0.mk hb; have HO663 := Aside0.mk ho; clear HO_10; clear ho hb hg hat))
            go_roundg k5
            case measure => have := HK1.out; have := HJ21.out; have := HJ25.out; have := HK4.out; have := HK5.out; omega
            case rel => exact ⟨(y661), (wrap64 (x12_5 + 1)), rfl, H', ⟨by have := HK1.out; have := HJ21.out; have := HJ25.out; have := HK4.out; have := HK5.out; omega⟩, ⟨Kd.R_mono HO_4.out (fun _ hk => hk.2)⟩, ⟨Kd.R_mono HO663.out (fun _ hk => hk.1)⟩, ⟨HB.out⟩⟩
           rw [if_neg c45] at H
           have c45b0 := beq_eq_false_iff_ne.mpr c45
           have c45b1 := bne_iff_ne.mpr c45
           by_cases c55 : ((rd_T43 l0 0).f0) = 5
           ·
            rw [if_pos c55] at H
            have c55b0 := beq_iff_eq.mpr c55
            have c55b1 := bne_eq_false_iff_eq.mpr c55
            clear c55
            by_cases c56 : ((rd_T72 x4_25 x12_5).f4) > 8192
            ·
             rw [if_pos c56] at H
             have c56b0 := decide_eq_true c56
             clear c56
             simp only [Option.some.injEq, Prod.mk.injEq] at H
             obtain ⟨rfl, rfl⟩ := H
             obtain ⟨Ao57, co57, eo57⟩ := Kd.R_slice HO_4.out
             subst eo57
             have p655 : 0 ≤ (x12_5 : Int) := of_decide_eq_true (by assumption)
             have q655 : x12_5 < (x4_25.length : Int) := of_decide_eq_true (by assumption)
             obtain ⟨ad655, e655, hx655_0, hx655_1, hx655_2, hx655_3, hx655_4⟩ := at_T72 (Kd.R_reads' HO_4.out).2.2 x12_5 p655 q655
             cases e655
             replace p655 := eq_true p655
             replace q655 := eq_true q655
             try go_wp2_with (first | ((with_reducible refine gate_dst (N := 13) rfl ?_); refine box_event rfl (N := 13) rfl (cs := #[.string (⟨#[]⟩ : ByteArray), .int .i64 0, .bool false, .bool false, .int .i64 0]) (t := 72) (by first | (go_simp; done) | (go_simp; rfl)) ?_; intro gb1 hg w58 hbox hb; replace HO_4 := Aside0.mk (Kd.R_below (Kd.R_elderB HO_4.out gb1 (Nat.le_of_eq hg.symm)) hb); replace HO_10 := Aside0.mk (Kd.R_below (Kd.R_elderB HO_10.out gb1 (Nat.le_of_eq hg.symm)) hb); have BK1 := Aside0.mk hbox; have GW1 := mGw HB hg; have GE1 := GW1; replace HB := mSt HB hb; clear hb hbox hg; have hcz59 := blk_cell BK1.out; have hfz59 := blk_frozen BK1.out; have p657 : 0 ≤ (0 : Int) := (by omega); have q657 : 0 < (l0.length : Int) := of_decide_eq_true (by assumption); obtain ⟨ad657, e657, hx657_0, hx657_1, hx657_2, hx657_3⟩ := at_T43 HR0.out 0 p657 q657; obtain rfl : ad629 = ad657 := (by injection e657); have qi657 : (0 < l0.length) = True := eq_true (by omega); (try rw [show ((0 : Int)).toNat = 0 from rfl] at hx657_0); (try rw [show 0 * 4 = 0 from rfl] at hx657_0); (try rw [Addr.add_zero'] at hx657_0); (try rw [show ((0 : Int)).toNat = 0 from rfl] at hx657_1); (try rw [show 0 * 4 = 0 from rfl] at hx657_1); (try rw [Addr.add_zero'] at hx657_1); (try rw [show ((0 : Int)).toNat = 0 from rfl] at hx657_2); (try rw [show 0 * 4 = 0 from rfl] at hx657_2); (try rw [Addr.add_zero'] at hx657_2); (try rw [show ((0 : Int)).toNat = 0 from rfl] at hx657_3); (try rw [show 0 * 4 = 0 from rfl] at hx657_3); (try rw [Addr.add_zero'] at hx657_3); have hn657_0 : ad629.block ≠ gb1 := Nat.ne_of_lt (Nat.lt_of_lt_of_le (by have := World.block_lt_of_cell? _ _ hx657_0; first | rwa [add_block] at this | exact this) GW1.out); have hn657_1 : ad629.block ≠ gb1 := Nat.ne_of_lt (Nat.lt_of_lt_of_le (by have := World.block_lt_of_cell? _ _ hx657_0; first | rwa [add_block] at this | exact this) GW1.out); have hn657_2 : ad629.block ≠ gb1 := Nat.ne_of_lt (Nat.lt_of_lt_of_le (by have := World.block_lt_of_cell? _ _ hx657_0; first | rwa [add_block] at this | exact this) GW1.out); have hn657_3 : ad629.block ≠ gb1 := Nat.ne_of_lt (Nat.lt_of_lt_of_le (by have := World.block_lt_of_cell? _ _ hx657_0; first | rwa [add_block] at this | exact this) GW1.out); have hn657_4 : ad629.block ≠ gb1 := Nat.ne_of_lt (Nat.lt_of_lt_of_le (by have := World.block_lt_of_cell? _ _ hx657_0; first | rwa [add_block] at this | exact this) GW1.out); replace hx657_0 := mHx HB hx657_0; replace hx657_1 := mHx HB hx657_1; replace hx657_2 := mHx HB hx657_2; replace hx657_3 := mHx HB hx657_3; replace hx657_0 := (cell_far (p := ⟨gb1, 0, none⟩) (by first | (rw [add_block]; exact hn657_0) | (show (Addr.add _ _).block ≠ _; rw [add_block]; exact hn657_0) | exact hn657_0) (.string ((rd_T72 x4_25 x12_5).f0))).trans hx657_0; replace hx657_1 := (cell_far (p := ⟨gb1, 0, none⟩) (by first | (rw [add_block]; exact hn657_0) | (show (Addr.add _ _).block ≠ _; rw [add_block]; exact hn657_0) | exact hn657_0) (.string ((rd_T72 x4_25 x12_5).f0))).trans hx657_1; replace hx657_2 := (cell_far (p := ⟨gb1, 0, none⟩) (by first | (rw [add_block]; exact hn657_0) | (show (Addr.add _ _).block ≠ _; rw [add_block]; exact hn657_0) | exact hn657_0) (.string ((rd_T72 x4_25 x12_5).f0))).trans hx657_2; replace hx657_3 := (cell_far (p := ⟨gb1, 0, none⟩) (by first | (rw [add_block]; exact hn657_0) | (show (Addr.add _ _).block ≠ _; rw [add_block]; exact hn657_0) | exact hn657_0) (.string ((rd_T72 x4_25 x12_5).f0))).trans hx657_3; replace hx657_0 := (cell_far (p := ⟨gb1, 1, none⟩) (by first | (rw [add_block]; exact hn657_1) | (show (Addr.add _ _).block ≠ _; rw [add_block]; exact hn657_1) | exact hn657_1) (.int .i64 ((rd_T72 x4_25 x12_5).f1))).trans hx657_0; replace hx657_1 := (cell_far (p := ⟨gb1, 1, none⟩) (by first | (rw [add_block]; exact hn657_1) | (show (Addr.add _ _).block ≠ _; rw [add_block]; exact hn657_1) | exact hn657_1) (.int .i64 ((rd_T72 x4_25 x12_5).f1))).trans hx657_1; replace hx657_2 := (cell_far (p := ⟨gb1, 1, none⟩) (by first | (rw [add_block]; exact hn657_1) | (show (Addr.add _ _).block ≠ _; rw [add_block]; exact hn657_1) | exact hn657_1) (.int .i64 ((rd_T72 x4_25 x12_5).f1))).trans hx657_2; replace hx657_3 := (cell_far (p := ⟨gb1, 1, none⟩) (by first | (rw [add_block]; exact hn657_1) | (show (Addr.add _ _).block ≠ _; rw [add_block]; exact hn657_1) | exact hn657_1) (.int .i64 ((rd_T72 x4_25 x12_5).f1))).trans hx657_3; replace hx657_0 := (cell_far (p := ⟨gb1, 2, none⟩) (by first | (rw [add_block]; exact hn657_2) | (show (Addr.add _ _).block ≠ _; rw [add_block]; exact hn657_2) | exact hn657_2) (.bool ((rd_T72 x4_25 x12_5).f2))).trans hx657_0; replace hx657_1 := (cell_far (p := ⟨gb1, 2, none⟩) (by first | (rw [add_block]; exact hn657_2) | (show (Addr.add _ _).block ≠ _; rw [add_block]; exact hn657_2) | exact hn657_2) (.bool ((rd_T72 x4_25 x12_5).f2))).trans hx657_1; replace hx657_2 := (cell_far (p := ⟨gb1, 2, none⟩) (by first | (rw [add_block]; exact hn657_2) | (show (Addr.add _ _).block ≠ _; rw [add_block]; exact hn657_2) | exact hn657_2) (.bool ((rd_T72 x4_25 x12_5).f2))).trans hx657_2; replace hx657_3 := (cell_far (p := ⟨gb1, 2, none⟩) (by first | (rw [add_block]; exact hn657_2) | (show (Addr.add _ _).block ≠ _; rw [add_block]; exact hn657_2) | exact hn657_2) (.bool ((rd_T72 x4_25 x12_5).f2))).trans hx657_3; replace hx657_0 := (cell_far (p := ⟨gb1, 3, none⟩) (by first | (rw [add_block]; exact hn657_3) | (show (Addr.add _ _).block ≠ _; rw [add_block]; exact hn657_3) | exact hn657_3) (.bool ((rd_T72 x4_25 x12_5).f3))).trans hx657_0; replace hx657_1 := (cell_far (p := ⟨gb1, 3, none⟩) (by first | (rw [add_block]; exact hn657_3) | (show (Addr.add _ _).block ≠ _; rw [add_block]; exact hn657_3) | exact hn657_3) (.bool ((rd_T72 x4_25 x12_5).f3))).trans hx657_1; replace hx657_2 := (cell_far (p := ⟨gb1, 3, none⟩) (by first | (rw [add_block]; exact hn657_3) | (show (Addr.add _ _).block ≠ _; rw [add_block]; exact hn657_3) | exact hn657_3) (.bool ((rd_T72 x4_25 x12_5).f3))).trans hx657_2; replace hx657_3 := (cell_far (p := ⟨gb1, 3, none⟩) (by first | (rw [add_block]; exact hn657_3) | (show (Addr.add _ _).block ≠ _; rw [add_block]; exact hn657_3) | exact hn657_3) (.bool ((rd_T72 x4_25 x12_5).f3))).trans hx657_3; replace hx657_0 := (cell_far (p := ⟨gb1, 4, none⟩) (by first | (rw [add_block]; exact hn657_4) | (show (Addr.add _ _).block ≠ _; rw [add_block]; exact hn657_4) | exact hn657_4) (.int .i64 ((rd_T72 x4_25 x12_5).f4))).trans hx657_0; replace hx657_1 := (cell_far (p := ⟨gb1, 4, none⟩) (by first | (rw [add_block]; exact hn657_4) | (show (Addr.add _ _).block ≠ _; rw [add_block]; exact hn657_4) | exact hn657_4) (.int .i64 ((rd_T72 x4_25 x12_5).f4))).trans hx657_1; replace hx657_2 := (cell_far (p := ⟨gb1, 4, none⟩) (by first | (rw [add_block]; exact hn657_4) | (show (Addr.add _ _).block ≠ _; rw [add_block]; exact hn657_4) | exact hn657_4) (.int .i64 ((rd_T72 x4_25 x12_5).f4))).trans hx657_2; replace hx657_3 := (cell_far (p := ⟨gb1, 4, none⟩) (by first | (rw [add_block]; exact hn657_4) | (show (Addr.add _ _).block ≠ _; rw [add_block]; exact hn657_4) | exact hn657_4) (.int .i64 ((rd_T72 x4_25 x12_5).f4))).trans hx657_3; clear hn657_0 hn657_1 hn657_2 hn657_3 hn657_4; replace p657 := eq_true p657; replace q657 := eq_true q657))
             have n0_ : Aside0 (Kd.R k72 72 (((((w58.setCell ⟨gb1, 0, none⟩ (.string ((rd_T72 x4_25 x12_5).f0))).setCell ⟨gb1, 1, none⟩ (.int .i64 ((rd_T72 x4_25 x12_5).f1))).setCell ⟨gb1, 2, none⟩ (.bool ((rd_T72 x4_25 x12_5).f2))).setCell ⟨gb1, 3, none⟩ (.bool ((rd_T72 x4_25 x12_5).f3))).setCell ⟨gb1, 4, none⟩ (.int .i64 ((rd_T72 x4_25 x12_5).f4))) w.heap.size (fun k_ => some k_ ≠ (u10 : Value).ownBlock ∧ k_ ≠ gb1) (.slice (some ad655) x4_25.length co57) x4_25) := ⟨Kd.R_mono (Kd.R_far (p := ⟨gb1, 4, none⟩) (Kd.R_far (p := ⟨gb1, 3, none⟩) (Kd.R_far (p := ⟨gb1, 2, none⟩) (Kd.R_far (p := ⟨gb1, 1, none⟩) (Kd.R_far (p := ⟨gb1, 0, none⟩) (Kd.R_mono HO_4.out (fun k_ hk => (⟨hk, hk.2⟩ : _ ∧ k_ ≠ gb1))) (fun _ hk => hk.2) (.string ((rd_T72 x4_25 x12_5).f0))) (fun _ hk => hk.2) (.int .i64 ((rd_T72 x4_25 x12_5).f1))) (fun _ hk => hk.2) (.bool ((rd_T72 x4_25 x12_5).f2))) (fun _ hk => hk.2) (.bool ((rd_T72 x4_25 x12_5).f3))) (fun _ hk => hk.2) (.int .i64 ((rd_T72 x4_25 x12_5).f4))) (fun _ hk => ⟨hk.1.1, hk.1.2⟩)⟩
             have n1_ : Aside0 (Kd.R k72 72 (((((w58.setCell ⟨gb1, 0, none⟩ (.string ((rd_T72 x4_25 x12_5).f0))).setCell ⟨gb1, 1, none⟩ (.int .i64 ((rd_T72 x4_25 x12_5).f1))).setCell ⟨gb1, 2, none⟩ (.bool ((rd_T72 x4_25 x12_5).f2))).setCell ⟨gb1, 3, none⟩ (.bool ((rd_T72 x4_25 x12_5).f3))).setCell ⟨gb1, 4, none⟩ (.int .i64 ((rd_T72 x4_25 x12_5).f4))) w.heap.size (fun k_ => some k_ ≠ (.slice (some ad655) x4_25.length co57 : Value).ownBlock ∧ k_ ≠ gb1) u10 x10_5) := ⟨Kd.R_mono (Kd.R_far (p := ⟨gb1, 4, none⟩) (Kd.R_far (p := ⟨gb1, 3, none⟩) (Kd.R_far (p := ⟨gb1, 2, none⟩) (Kd.R_far (p := ⟨gb1, 1, none⟩) (Kd.R_far (p := ⟨gb1, 0, none⟩) (Kd.R_mono HO_10.out (fun k_ hk => (⟨hk, hk.2⟩ : _ ∧ k_ ≠ gb1))) (fun _ hk => hk.2) (.string ((rd_T72 x4_25 x12_5).f0))) (fun _ hk => hk.2) (.int .i64 ((rd_T72 x4_25 x12_5).f1))) (fun _ hk => hk.2) (.bool ((rd_T72 x4_25 x12_5).f2))) (fun _ hk => hk.2) (.bool ((rd_T72 x4_25 x12_5).f3))) (fun _ hk => hk.2) (.int .i64 ((rd_T72 x4_25 x12_5).f4))) (fun _ hk => ⟨hk.1.1, hk.1.2⟩)⟩
             have n2_ : Aside0 ((((((w58.setCell ⟨gb1, 0, none⟩ (.string ((rd_T72 x4_25 x12_5).f0))).setCell ⟨gb1, 1, none⟩ (.int .i64 ((rd_T72 x4_25 x12_5).f1))).setCell ⟨gb1, 2, none⟩ (.bool ((rd_T72 x4_25 x12_5).f2))).setCell ⟨gb1, 3, none⟩ (.bool ((rd_T72 x4_25 x12_5).f3))).setCell ⟨gb1, 4, none⟩ (.int .i64 ((rd_T72 x4_25 x12_5).f4))).heap[gb1]? = some (.cells #[.string ((rd_T72 x4_25 x12_5).f0), .int .i64 ((rd_T72 x4_25 x12_5).f1), .bool ((rd_T72 x4_25 x12_5).f2), .bool ((rd_T72 x4_25 x12_5).f3), .int .i64 ((rd_T72 x4_25 x12_5).f4)] 72 (0, 0))) := ⟨by refine blk_put (cs := #[.string ((rd_T72 x4_25 x12_5).f0), .int .i64 ((rd_T72 x4_25 x12_5).f1), .bool ((rd_T72 x4_25 x12_5).f2), .bool ((rd_T72 x4_25 x12_5).f3), .int .i64 0]) ?_ 4 _ rfl; refine blk_put (cs := #[.string ((rd_T72 x4_25 x12_5).f0), .int .i64 ((rd_T72 x4_25 x12_5).f1), .bool ((rd_T72 x4_25 x12_5).f2), .bool false, .int .i64 0]) ?_ 3 _ rfl; refine blk_put (cs := #[.string ((rd_T72 x4_25 x12_5).f0), .int .i64 ((rd_T72 x4_25 x12_5).f1), .bool false, .bool false, .int .i64 0]) ?_ 2 _ rfl; refine blk_put (cs := #[.string ((rd_T72 x4_25 x12_5).f0), .int .i64 0, .bool false, .bool false, .int .i64 0]) ?_ 1 _ rfl; refine blk_put (cs := #[.string (⟨#[]⟩ : ByteArray), .int .i64 0, .bool false, .bool false, .int .i64 0]) ?_ 0 _ rfl; exact BK1.out⟩
             have n3_ : Aside0 (Below w.heap.size w (((((w58.setCell ⟨gb1, 0, none⟩ (.string ((rd_T72 x4_25 x12_5).f0))).setCell ⟨gb1, 1, none⟩ (.int .i64 ((rd_T72 x4_25 x12_5).f1))).setCell ⟨gb1, 2, none⟩ (.bool ((rd_T72 x4_25 x12_5).f2))).setCell ⟨gb1, 3, none⟩ (.bool ((rd_T72 x4_25 x12_5).f3))).setCell ⟨gb1, 4, none⟩ (.int .i64 ((rd_T72 x4_25 x12_5).f4)))) := ⟨hO HB⟩
             (try clear HO_4)
             (try clear HO_10)
             (try clear BK1)
             (try clear HB)
             generalize (((((w58.setCell ⟨gb1, 0, none⟩ (.string ((rd_T72 x4_25 x12_5).f0))).setCell ⟨gb1, 1, none⟩ (.int .i64 ((rd_T72 x4_25 x12_5).f1))).setCell ⟨gb1, 2, none⟩ (.bool ((rd_T72 x4_25 x12_5).f2))).setCell ⟨gb1, 3, none⟩ (.bool ((rd_T72 x4_25 x12_5).f3))).setCell ⟨gb1, 4, none⟩ (.int .i64 ((rd_T72 x4_25 x12_5).f4))) = w60 at n0_ n1_ n2_ n3_ ⊢
             have HO_4 := n0_
             have HO_10 := n1_
             have BK1 := n2_
             have HB := n3_
             clear n0_ n1_ n2_ n3_
             replace HO_4 := Aside0.mk (Kd.R_drew HO_4.out); replace HO_10 := Aside0.mk (Kd.R_drew HO_10.out); replace BK1 := Aside0.mk (blk_drew BK1.out); replace HB := Aside0.mk (below_drew1 HB.out)
             have p664 : 0 ≤ (0 : Int) := (by omega)
             have q664 : 0 < (l0.length : Int) := of_decide_eq_true (by assumption)
             obtain ⟨ad664, e664, hx664_0, hx664_1, hx664_2, hx664_3⟩ := at_T43 HR0.out 0 p664 q664
             have hw664_3 := hx664_3
             (try rw [show ((0 : Int)).toNat = 0 from rfl] at hw664_3)
             (try rw [show 0 * 4 = 0 from rfl] at hw664_3)
             (try rw [Addr.add_zero'] at hw664_3)
             have hw664_2 := hx664_2
             (try rw [show ((0 : Int)).toNat = 0 from rfl] at hw664_2)
             (try rw [show 0 * 4 = 0 from rfl] at hw664_2)
             (try rw [Addr.add_zero'] at hw664_2)
             have hw664_1 := hx664_1
             (try rw [show ((0 : Int)).toNat = 0 from rfl] at hw664_1)
             (try rw [show 0 * 4 = 0 from rfl] at hw664_1)
             (try rw [Addr.add_zero'] at hw664_1)
             have hw664_0 := hx664_0
             (try rw [show ((0 : Int)).toNat = 0 from rfl] at hw664_0)
             (try rw [show 0 * 4 = 0 from rfl] at hw664_0)
             (try rw [Addr.add_zero'] at hw664_0)
             obtain rfl : ad629 = ad664 := (by injection e664)
             have qi664 : (0 < l0.length) = True := eq_true (by omega)
             (try rw [show ((0 : Int)).toNat = 0 from rfl] at hx664_0)
             (try rw [show 0 * 4 = 0 from rfl] at hx664_0)
             (try rw [Addr.add_zero'] at hx664_0)
             (try rw [show ((0 : Int)).toNat = 0 from rfl] at hx664_1)
             (try rw [show 0 * 4 = 0 from rfl] at hx664_1)
             (try rw [Addr.add_zero'] at hx664_1)
             (try rw [show ((0 : Int)).toNat = 0 from rfl] at hx664_2)
             (try rw [show 0 * 4 = 0 from rfl] at hx664_2)
             (try rw [Addr.add_zero'] at hx664_2)
             (try rw [show ((0 : Int)).toNat = 0 from rfl] at hx664_3)
             (try rw [show 0 * 4 = 0 from rfl] at hx664_3)
             (try rw [Addr.add_zero'] at hx664_3)
             replace hx664_0 := mHx HB hx664_0
             replace hx664_1 := mHx HB hx664_1
             replace hx664_2 := mHx HB hx664_2
             replace hx664_3 := mHx HB hx664_3
             replace p664 := eq_true p664
             replace q664 := eq_true q664
             refine start_ (n := 10) (S := fun w' => w'.cell? ⟨gb1, 0, none⟩ = some (.string ((rd_T72 x4_25 x12_5).f0)) ∧ w'.cell? ⟨gb1, 1, none⟩ = some (.int .i64 ((rd_T72 x4_25 x12_5).f1)) ∧ w'.cell? ⟨gb1, 2, none⟩ = some (.bool ((rd_T72 x4_25 x12_5).f2)) ∧ w'.cell? ⟨gb1, 3, none⟩ = some (.bool ((rd_T72 x4_25 x12_5).f3)) ∧ w'.cell? ⟨gb1, 4, none⟩ = some (.int .i64 ((rd_T72 x4_25 x12_5).f4)) ∧ w'.cell? ad629 = some (.int .i64 ((rd_T43 l0 0).f0)) ∧ w'.cell? ⟨ad629.block, ad629.off + 1, none⟩ = some (.string ((rd_T43 l0 0).f1)) ∧ w'.cell? ⟨ad629.block, ad629.off + 2, none⟩ = some (.int .i64 ((rd_T43 l0 0).f2)) ∧ w'.cell? ⟨ad629.block, ad629.off + 3, none⟩ = some (.int .i64 ((rd_T43 l0 0).f3))) (ds := [9]) #[false, false, false, false, false, false, false, false, false, false] (by kernel_rfl) rfl rfl ⟨(blk_cell BK1.out 0).trans rfl, (blk_cell BK1.out 1).trans rfl, (blk_cell BK1.out 2).trans rfl, (blk_cell BK1.out 3).trans rfl, (blk_cell BK1.out 4).trans rfl, ((HB.out.cell (World.block_lt_of_cell? w _ hw664_0)).trans hw664_0), ((HB.out.cell (World.block_lt_of_cell? w _ hw664_1)).trans hw664_1), ((HB.out.cell (World.block_lt_of_cell? w _ hw664_2)).trans hw664_2), ((HB.out.cell (World.block_lt_of_cell? w _ hw664_3)).trans hw664_3)⟩ (fun hHeld => ?_); refine with_tabW dancestudioref35_Leaves.tab32 dancestudioref35_Leaves.bits32 (fun HT_ HW_ => ?_)
             generalize w60.drew = w61 at HO_4 HO_10 BK1 HB hx664_0 hx664_1 hx664_2 hx664_3 hHeld ⊢
             refine pM 0 101 HT_ ?_
             refine pM 2 103 HT_ ?_
             refine pM 3 104 HT_ ?_
             refine pM 4 105 HT_ ?_
             refine tM 1 102 rfl HT_ HW_ (by rintro w' ⟨s0, s1, s2, s3, s4, s5, s6, s7, s8⟩; go_simp; with_reducible rfl) hHeld ?_
             refine tM 5 106 rfl HT_ HW_ (by rintro w' ⟨s0, s1, s2, s3, s4, s5, s6, s7, s8⟩; go_simp; with_reducible rfl) hHeld ?_
             refine pM 6 107 HT_ ?_
             refine pM 7 108 HT_ ?_
             refine pM 8 109 HT_ ?_
             refine last_ (i := 9) (N := none) #[true, true, true, true, true, true, true, true, true, true] rfl rfl (one_of HT_.out (by kernel_rfl)) (by decide) (fun K hK => ?_)
             have hs62 : w61.cell? ⟨gb1, 1, none⟩ = some (.int .i64 ((rd_T72 x4_25 x12_5).f1)) := (blk_cell BK1.out 1).trans rfl
             have hfs62 := blk_frozen BK1.out 1
             refine skip_ (w1 := ?_) (by rfl) rfl ?_ ?_
             rotate_left
             ·
              go_simp
              rfl
             refine hK.out _ _ ?_
             clear hK K
             refine done_ (done_of HT_.out (by kernel_rfl)) ?_
             have hcz63 := blk_cell BK1.out; have hfz63 := blk_frozen BK1.out
             try go_wp2
             go_ret2
             exact ⟨_, rfl, by first | exact Kd.R_nil _ _ _ _ _ | exact Kd.N_nil _ _ _ _ _ | exact Kd.V_nil _ _ _ _ _ | exact Kd.Q_nil _ _ _ _ _ | exact Kd.S_nil _ _ _ _ _, hO HB⟩
            rw [if_neg c56] at H
            have c56b0 := decide_eq_false c56
            clear c56
            obtain ⟨c64, H⟩ : (x10_5.length < 3518437208883) ∧ _ := mIf H
            have LMc64 := Aside0.mk c64
            clear c64
            obtain ⟨y665, hy665⟩ : ∃ y_ : List (S72), y_ = (x10_5 ++ [(⟨(rd_T72 x4_25 x12_5).f0, Int.tmod (wrap64 (((rd_T72 x4_25 x12_5).f1) + ((rd_T43 l0 0).f2))) 4, (rd_T72 x4_25 x12_5).f2, (rd_T72 x4_25 x12_5).f3, (rd_T72 x4_25 x12_5).f4⟩ : S72)]) := ⟨_, rfl⟩
            rw [← hy665] at H
            have Ny665 := Aside0.mk hy665
            clear hy665
            have H' := Aside0.mk H
            clear H
            obtain ⟨Ao65, co65, eo65⟩ := Kd.R_slice HO_4.out
            subst eo65
            have p655 : 0 ≤ (x12_5 : Int) := of_decide_eq_true (by assumption)
            have q655 : x12_5 < (x4_25.length : Int) := of_decide_eq_true (by assumption)
            obtain ⟨ad655, e655, hx655_0, hx655_1, hx655_2, hx655_3, hx655_4⟩ := at_T72 (Kd.R_reads' HO_4.out).2.2 x12_5 p655 q655
            cases e655
            replace p655 := eq_true p655
            replace q655 := eq_true q655
            try go_wp2_with (first | ((with_reducible refine gate_dst (N := 13) rfl ?_); refine box_event rfl (N := 13) rfl (cs := #[.string (⟨#[]⟩ : ByteArray), .int .i64 0, .bool false, .bool false, .int .i64 0]) (t := 72) (by first | (go_simp; done) | (go_simp; rfl)) ?_; intro gb1 hg w66 hbox hb; replace HO_4 := Aside0.mk (Kd.R_below (Kd.R_elderB HO_4.out gb1 (Nat.le_of_eq hg.symm)) hb); replace HO_10 := Aside0.mk (Kd.R_below (Kd.R_elderB HO_10.out gb1 (Nat.le_of_eq hg.symm)) hb); have BK1 := Aside0.mk hbox; have GW1 := mGw HB hg; have GE1 := GW1; replace HB := mSt HB hb; clear hb hbox hg; have hcz67 := blk_cell BK1.out; have hfz67 := blk_frozen BK1.out; have p657 : 0 ≤ (0 : Int) := (by omega); have q657 : 0 < (l0.length : Int) := of_decide_eq_true (by assumption); obtain ⟨ad657, e657, hx657_0, hx657_1, hx657_2, hx657_3⟩ := at_T43 HR0.out 0 p657 q657; obtain rfl : ad629 = ad657 := (by injection e657); have qi657 : (0 < l0.length) = True := eq_true (by omega); (try rw [show ((0 : Int)).toNat = 0 from rfl] at hx657_0); (try rw [show 0 * 4 = 0 from rfl] at hx657_0); (try rw [Addr.add_zero'] at hx657_0); (try rw [show ((0 : Int)).toNat = 0 from rfl] at hx657_1); (try rw [show 0 * 4 = 0 from rfl] at hx657_1); (try rw [Addr.add_zero'] at hx657_1); (try rw [show ((0 : Int)).toNat = 0 from rfl] at hx657_2); (try rw [show 0 * 4 = 0 from rfl] at hx657_2); (try rw [Addr.add_zero'] at hx657_2); (try rw [show ((0 : Int)).toNat = 0 from rfl] at hx657_3); (try rw [show 0 * 4 = 0 from rfl] at hx657_3); (try rw [Addr.add_zero'] at hx657_3); have hn657_0 : ad629.block ≠ gb1 := Nat.ne_of_lt (Nat.lt_of_lt_of_le (by have := World.block_lt_of_cell? _ _ hx657_0; first | rwa [add_block] at this | exact this) GW1.out); have hn657_1 : ad629.block ≠ gb1 := Nat.ne_of_lt (Nat.lt_of_lt_of_le (by have := World.block_lt_of_cell? _ _ hx657_0; first | rwa [add_block] at this | exact this) GW1.out); have hn657_2 : ad629.block ≠ gb1 := Nat.ne_of_lt (Nat.lt_of_lt_of_le (by have := World.block_lt_of_cell? _ _ hx657_0; first | rwa [add_block] at this | exact this) GW1.out); have hn657_3 : ad629.block ≠ gb1 := Nat.ne_of_lt (Nat.lt_of_lt_of_le (by have := World.block_lt_of_cell? _ _ hx657_0; first | rwa [add_block] at this | exact this) GW1.out); have hn657_4 : ad629.block ≠ gb1 := Nat.ne_of_lt (Nat.lt_of_lt_of_le (by have := World.block_lt_of_cell? _ _ hx657_0; first | rwa [add_block] at this | exact this) GW1.out); replace hx657_0 := mHx HB hx657_0; replace hx657_1 := mHx HB hx657_1; replace hx657_2 := mHx HB hx657_2; replace hx657_3 := mHx HB hx657_3; replace hx657_0 := (cell_far (p := ⟨gb1, 0, none⟩) (by first | (rw [add_block]; exact hn657_0) | (show (Addr.add _ _).block ≠ _; rw [add_block]; exact hn657_0) | exact hn657_0) (.string ((rd_T72 x4_25 x12_5).f0))).trans hx657_0; replace hx657_1 := (cell_far (p := ⟨gb1, 0, none⟩) (by first | (rw [add_block]; exact hn657_0) | (show (Addr.add _ _).block ≠ _; rw [add_block]; exact hn657_0) | exact hn657_0) (.string ((rd_T72 x4_25 x12_5).f0))).trans hx657_1; replace hx657_2 := (cell_far (p := ⟨gb1, 0, none⟩) (by first | (rw [add_block]; exact hn657_0) | (show (Addr.add _ _).block ≠ _; rw [add_block]; exact hn657_0) | exact hn657_0) (.string ((rd_T72 x4_25 x12_5).f0))).trans hx657_2; replace hx657_3 := (cell_far (p := ⟨gb1, 0, none⟩) (by first | (rw [add_block]; exact hn657_0) | (show (Addr.add _ _).block ≠ _; rw [add_block]; exact hn657_0) | exact hn657_0) (.string ((rd_T72 x4_25 x12_5).f0))).trans hx657_3; replace hx657_0 := (cell_far (p := ⟨gb1, 1, none⟩) (by first | (rw [add_block]; exact hn657_1) | (show (Addr.add _ _).block ≠ _; rw [add_block]; exact hn657_1) | exact hn657_1) (.int .i64 ((rd_T72 x4_25 x12_5).f1))).trans hx657_0; replace hx657_1 := (cell_far (p := ⟨gb1, 1, none⟩) (by first | (rw [add_block]; exact hn657_1) | (show (Addr.add _ _).block ≠ _; rw [add_block]; exact hn657_1) | exact hn657_1) (.int .i64 ((rd_T72 x4_25 x12_5).f1))).trans hx657_1; replace hx657_2 := (cell_far (p := ⟨gb1, 1, none⟩) (by first | (rw [add_block]; exact hn657_1) | (show (Addr.add _ _).block ≠ _; rw [add_block]; exact hn657_1) | exact hn657_1) (.int .i64 ((rd_T72 x4_25 x12_5).f1))).trans hx657_2; replace hx657_3 := (cell_far (p := ⟨gb1, 1, none⟩) (by first | (rw [add_block]; exact hn657_1) | (show (Addr.add _ _).block ≠ _; rw [add_block]; exact hn657_1) | exact hn657_1) (.int .i64 ((rd_T72 x4_25 x12_5).f1))).trans hx657_3; replace hx657_0 := (cell_far (p := ⟨gb1, 2, none⟩) (by first | (rw [add_block]; exact hn657_2) | (show (Addr.add _ _).block ≠ _; rw [add_block]; exact hn657_2) | exact hn657_2) (.bool ((rd_T72 x4_25 x12_5).f2))).trans hx657_0; replace hx657_1 := (cell_far (p := ⟨gb1, 2, none⟩) (by first | (rw [add_block]; exact hn657_2) | (show (Addr.add _ _).block ≠ _; rw [add_block]; exact hn657_2) | exact hn657_2) (.bool ((rd_T72 x4_25 x12_5).f2))).trans hx657_1; replace hx657_2 := (cell_far (p := ⟨gb1, 2, none⟩) (by first | (rw [add_block]; exact hn657_2) | (show (Addr.add _ _).block ≠ _; rw [add_block]; exact hn657_2) | exact hn657_2) (.bool ((rd_T72 x4_25 x12_5).f2))).trans hx657_2; replace hx657_3 := (cell_far (p := ⟨gb1, 2, none⟩) (by first | (rw [add_block]; exact hn657_2) | (show (Addr.add _ _).block ≠ _; rw [add_block]; exact hn657_2) | exact hn657_2) (.bool ((rd_T72 x4_25 x12_5).f2))).trans hx657_3; replace hx657_0 := (cell_far (p := ⟨gb1, 3, none⟩) (by first | (rw [add_block]; exact hn657_3) | (show (Addr.add _ _).block ≠ _; rw [add_block]; exact hn657_3) | exact hn657_3) (.bool ((rd_T72 x4_25 x12_5).f3))).trans hx657_0; replace hx657_1 := (cell_far (p := ⟨gb1, 3, none⟩) (by first | (rw [add_block]; exact hn657_3) | (show (Addr.add _ _).block ≠ _; rw [add_block]; exact hn657_3) | exact hn657_3) (.bool ((rd_T72 x4_25 x12_5).f3))).trans hx657_1; replace hx657_2 := (cell_far (p := ⟨gb1, 3, none⟩) (by first | (rw [add_block]; exact hn657_3) | (show (Addr.add _ _).block ≠ _; rw [add_block]; exact hn657_3) | exact hn657_3) (.bool ((rd_T72 x4_25 x12_5).f3))).trans hx657_2; replace hx657_3 := (cell_far (p := ⟨gb1, 3, none⟩) (by first | (rw [add_block]; exact hn657_3) | (show (Addr.add _ _).block ≠ _; rw [add_block]; exact hn657_3) | exact hn657_3) (.bool ((rd_T72 x4_25 x12_5).f3))).trans hx657_3; replace hx657_0 := (cell_far (p := ⟨gb1, 4, none⟩) (by first | (rw [add_block]; exact hn657_4) | (show (Addr.add _ _).block ≠ _; rw [add_block]; exact hn657_4) | exact hn657_4) (.int .i64 ((rd_T72 x4_25 x12_5).f4))).trans hx657_0; replace hx657_1 := (cell_far (p := ⟨gb1, 4, none⟩) (by first | (rw [add_block]; exact hn657_4) | (show (Addr.add _ _).block ≠ _; rw [add_block]; exact hn657_4) | exact hn657_4) (.int .i64 ((rd_T72 x4_25 x12_5).f4))).trans hx657_1; replace hx657_2 := (cell_far (p := ⟨gb1, 4, none⟩) (by first | (rw [add_block]; exact hn657_4) | (show (Addr.add _ _).block ≠ _; rw [add_block]; exact hn657_4) | exact hn657_4) (.int .i64 ((rd_T72 x4_25 x12_5).f4))).trans hx657_2; replace hx657_3 := (cell_far (p := ⟨gb1, 4, none⟩) (by first | (rw [add_block]; exact hn657_4) | (show (Addr.add _ _).block ≠ _; rw [add_block]; exact hn657_4) | exact hn657_4) (.int .i64 ((rd_T72 x4_25 x12_5).f4))).trans hx657_3; clear hn657_0 hn657_1 hn657_2 hn657_3 hn657_4; replace p657 := eq_true p657; replace q657 := eq_true q657))
            have n0_ : Aside0 (Kd.R k72 72 (((((w66.setCell ⟨gb1, 0, none⟩ (.string ((rd_T72 x4_25 x12_5).f0))).setCell ⟨gb1, 1, none⟩ (.int .i64 ((rd_T72 x4_25 x12_5).f1))).setCell ⟨gb1, 2, none⟩ (.bool ((rd_T72 x4_25 x12_5).f2))).setCell ⟨gb1, 3, none⟩ (.bool ((rd_T72 x4_25 x12_5).f3))).setCell ⟨gb1, 4, none⟩ (.int .i64 ((rd_T72 x4_25 x12_5).f4))) w.heap.size (fun k_ => some k_ ≠ (u10 : Value).ownBlock ∧ k_ ≠ gb1) (.slice (some ad655) x4_25.length co65) x4_25) := ⟨Kd.R_mono (Kd.R_far (p := ⟨gb1, 4, none⟩) (Kd.R_far (p := ⟨gb1, 3, none⟩) (Kd.R_far (p := ⟨gb1, 2, none⟩) (Kd.R_far (p := ⟨gb1, 1, none⟩) (Kd.R_far (p := ⟨gb1, 0, none⟩) (Kd.R_mono HO_4.out (fun k_ hk => (⟨hk, hk.2⟩ : _ ∧ k_ ≠ gb1))) (fun _ hk => hk.2) (.string ((rd_T72 x4_25 x12_5).f0))) (fun _ hk => hk.2) (.int .i64 ((rd_T72 x4_25 x12_5).f1))) (fun _ hk => hk.2) (.bool ((rd_T72 x4_25 x12_5).f2))) (fun _ hk => hk.2) (.bool ((rd_T72 x4_25 x12_5).f3))) (fun _ hk => hk.2) (.int .i64 ((rd_T72 x4_25 x12_5).f4))) (fun _ hk => ⟨hk.1.1, hk.1.2⟩)⟩
            have n1_ : Aside0 (Kd.R k72 72 (((((w66.setCell ⟨gb1, 0, none⟩ (.string ((rd_T72 x4_25 x12_5).f0))).setCell ⟨gb1, 1, none⟩ (.int .i64 ((rd_T72 x4_25 x12_5).f1))).setCell ⟨gb1, 2, none⟩ (.bool ((rd_T72 x4_25 x12_5).f2))).setCell ⟨gb1, 3, none⟩ (.bool ((rd_T72 x4_25 x12_5).f3))).setCell ⟨gb1, 4, none⟩ (.int .i64 ((rd_T72 x4_25 x12_5).f4))) w.heap.size (fun k_ => some k_ ≠ (.slice (some ad655) x4_25.length co65 : Value).ownBlock ∧ k_ ≠ gb1) u10 x10_5) := ⟨Kd.R_mono (Kd.R_far (p := ⟨gb1, 4, none⟩) (Kd.R_far (p := ⟨gb1, 3, none⟩) (Kd.R_far (p := ⟨gb1, 2, none⟩) (Kd.R_far (p := ⟨gb1, 1, none⟩) (Kd.R_far (p := ⟨gb1, 0, none⟩) (Kd.R_mono HO_10.out (fun k_ hk => (⟨hk, hk.2⟩ : _ ∧ k_ ≠ gb1))) (fun _ hk => hk.2) (.string ((rd_T72 x4_25 x12_5).f0))) (fun _ hk => hk.2) (.int .i64 ((rd_T72 x4_25 x12_5).f1))) (fun _ hk => hk.2) (.bool ((rd_T72 x4_25 x12_5).f2))) (fun _ hk => hk.2) (.bool ((rd_T72 x4_25 x12_5).f3))) (fun _ hk => hk.2) (.int .i64 ((rd_T72 x4_25 x12_5).f4))) (fun _ hk => ⟨hk.1.1, hk.1.2⟩)⟩
            have n2_ : Aside0 ((((((w66.setCell ⟨gb1, 0, none⟩ (.string ((rd_T72 x4_25 x12_5).f0))).setCell ⟨gb1, 1, none⟩ (.int .i64 ((rd_T72 x4_25 x12_5).f1))).setCell ⟨gb1, 2, none⟩ (.bool ((rd_T72 x4_25 x12_5).f2))).setCell ⟨gb1, 3, none⟩ (.bool ((rd_T72 x4_25 x12_5).f3))).setCell ⟨gb1, 4, none⟩ (.int .i64 ((rd_T72 x4_25 x12_5).f4))).heap[gb1]? = some (.cells #[.string ((rd_T72 x4_25 x12_5).f0), .int .i64 ((rd_T72 x4_25 x12_5).f1), .bool ((rd_T72 x4_25 x12_5).f2), .bool ((rd_T72 x4_25 x12_5).f3), .int .i64 ((rd_T72 x4_25 x12_5).f4)] 72 (0, 0))) := ⟨by refine blk_put (cs := #[.string ((rd_T72 x4_25 x12_5).f0), .int .i64 ((rd_T72 x4_25 x12_5).f1), .bool ((rd_T72 x4_25 x12_5).f2), .bool ((rd_T72 x4_25 x12_5).f3), .int .i64 0]) ?_ 4 _ rfl; refine blk_put (cs := #[.string ((rd_T72 x4_25 x12_5).f0), .int .i64 ((rd_T72 x4_25 x12_5).f1), .bool ((rd_T72 x4_25 x12_5).f2), .bool false, .int .i64 0]) ?_ 3 _ rfl; refine blk_put (cs := #[.string ((rd_T72 x4_25 x12_5).f0), .int .i64 ((rd_T72 x4_25 x12_5).f1), .bool false, .bool false, .int .i64 0]) ?_ 2 _ rfl; refine blk_put (cs := #[.string ((rd_T72 x4_25 x12_5).f0), .int .i64 0, .bool false, .bool false, .int .i64 0]) ?_ 1 _ rfl; refine blk_put (cs := #[.string (⟨#[]⟩ : ByteArray), .int .i64 0, .bool false, .bool false, .int .i64 0]) ?_ 0 _ rfl; exact BK1.out⟩
            have n3_ : Aside0 (Below w.heap.size w (((((w66.setCell ⟨gb1, 0, none⟩ (.string ((rd_T72 x4_25 x12_5).f0))).setCell ⟨gb1, 1, none⟩ (.int .i64 ((rd_T72 x4_25 x12_5).f1))).setCell ⟨gb1, 2, none⟩ (.bool ((rd_T72 x4_25 x12_5).f2))).setCell ⟨gb1, 3, none⟩ (.bool ((rd_T72 x4_25 x12_5).f3))).setCell ⟨gb1, 4, none⟩ (.int .i64 ((rd_T72 x4_25 x12_5).f4)))) := ⟨hO HB⟩
            (try clear HO_4)
            (try clear HO_10)
            (try clear BK1)
            (try clear HB)
            generalize (((((w66.setCell ⟨gb1, 0, none⟩ (.string ((rd_T72 x4_25 x12_5).f0))).setCell ⟨gb1, 1, none⟩ (.int .i64 ((rd_T72 x4_25 x12_5).f1))).setCell ⟨gb1, 2, none⟩ (.bool ((rd_T72 x4_25 x12_5).f2))).setCell ⟨gb1, 3, none⟩ (.bool ((rd_T72 x4_25 x12_5).f3))).setCell ⟨gb1, 4, none⟩ (.int .i64 ((rd_T72 x4_25 x12_5).f4))) = w68 at n0_ n1_ n2_ n3_ ⊢
            have HO_4 := n0_
            have HO_10 := n1_
            have BK1 := n2_
            have HB := n3_
            clear n0_ n1_ n2_ n3_
            replace HO_4 := Aside0.mk (Kd.R_drew HO_4.out); replace HO_10 := Aside0.mk (Kd.R_drew HO_10.out); replace BK1 := Aside0.mk (blk_drew BK1.out); replace HB := Aside0.mk (below_drew1 HB.out)
            have p664 : 0 ≤ (0 : Int) := (by omega)
            have q664 : 0 < (l0.length : Int) := of_decide_eq_true (by assumption)
            obtain ⟨ad664, e664, hx664_0, hx664_1, hx664_2, hx664_3⟩ := at_T43 HR0.out 0 p664 q664
            have hw664_3 := hx664_3
            (try rw [show ((0 : Int)).toNat = 0 from rfl] at hw664_3)
            (try rw [show 0 * 4 = 0 from rfl] at hw664_3)
            (try rw [Addr.add_zero'] at hw664_3)
            have hw664_2 := hx664_2
            (try rw [show ((0 : Int)).toNat = 0 from rfl] at hw664_2)
            (try rw [show 0 * 4 = 0 from rfl] at hw664_2)
            (try rw [Addr.add_zero'] at hw664_2)
            have hw664_1 := hx664_1
            (try rw [show ((0 : Int)).toNat = 0 from rfl] at hw664_1)
            (try rw [show 0 * 4 = 0 from rfl] at hw664_1)
            (try rw [Addr.add_zero'] at hw664_1)
            have hw664_0 := hx664_0
            (try rw [show ((0 : Int)).toNat = 0 from rfl] at hw664_0)
            (try rw [show 0 * 4 = 0 from rfl] at hw664_0)
            (try rw [Addr.add_zero'] at hw664_0)
            obtain rfl : ad629 = ad664 := (by injection e664)
            have qi664 : (0 < l0.length) = True := eq_true (by omega)
            (try rw [show ((0 : Int)).toNat = 0 from rfl] at hx664_0)
            (try rw [show 0 * 4 = 0 from rfl] at hx664_0)
            (try rw [Addr.add_zero'] at hx664_0)
            (try rw [show ((0 : Int)).toNat = 0 from rfl] at hx664_1)
            (try rw [show 0 * 4 = 0 from rfl] at hx664_1)
            (try rw [Addr.add_zero'] at hx664_1)
            (try rw [show ((0 : Int)).toNat = 0 from rfl] at hx664_2)
            (try rw [show 0 * 4 = 0 from rfl] at hx664_2)
            (try rw [Addr.add_zero'] at hx664_2)
            (try rw [show ((0 : Int)).toNat = 0 from rfl] at hx664_3)
            (try rw [show 0 * 4 = 0 from rfl] at hx664_3)
            (try rw [Addr.add_zero'] at hx664_3)
            replace hx664_0 := mHx HB hx664_0
            replace hx664_1 := mHx HB hx664_1
            replace hx664_2 := mHx HB hx664_2
            replace hx664_3 := mHx HB hx664_3
            replace p664 := eq_true p664
            replace q664 := eq_true q664
            refine start_ (n := 10) (S := fun w' => w'.cell? ⟨gb1, 0, none⟩ = some (.string ((rd_T72 x4_25 x12_5).f0)) ∧ w'.cell? ⟨gb1, 1, none⟩ = some (.int .i64 ((rd_T72 x4_25 x12_5).f1)) ∧ w'.cell? ⟨gb1, 2, none⟩ = some (.bool ((rd_T72 x4_25 x12_5).f2)) ∧ w'.cell? ⟨gb1, 3, none⟩ = some (.bool ((rd_T72 x4_25 x12_5).f3)) ∧ w'.cell? ⟨gb1, 4, none⟩ = some (.int .i64 ((rd_T72 x4_25 x12_5).f4)) ∧ w'.cell? ad629 = some (.int .i64 ((rd_T43 l0 0).f0)) ∧ w'.cell? ⟨ad629.block, ad629.off + 1, none⟩ = some (.string ((rd_T43 l0 0).f1)) ∧ w'.cell? ⟨ad629.block, ad629.off + 2, none⟩ = some (.int .i64 ((rd_T43 l0 0).f2)) ∧ w'.cell? ⟨ad629.block, ad629.off + 3, none⟩ = some (.int .i64 ((rd_T43 l0 0).f3))) (ds := [9]) #[false, false, false, false, false, false, false, false, false, false] (by kernel_rfl) rfl rfl ⟨(blk_cell BK1.out 0).trans rfl, (blk_cell BK1.out 1).trans rfl, (blk_cell BK1.out 2).trans rfl, (blk_cell BK1.out 3).trans rfl, (blk_cell BK1.out 4).trans rfl, ((HB.out.cell (World.block_lt_of_cell? w _ hw664_0)).trans hw664_0), ((HB.out.cell (World.block_lt_of_cell? w _ hw664_1)).trans hw664_1), ((HB.out.cell (World.block_lt_of_cell? w _ hw664_2)).trans hw664_2), ((HB.out.cell (World.block_lt_of_cell? w _ hw664_3)).trans hw664_3)⟩ (fun hHeld => ?_); refine with_tabW dancestudioref35_Leaves.tab32 dancestudioref35_Leaves.bits32 (fun HT_ HW_ => ?_)
            generalize w68.drew = w69 at HO_4 HO_10 BK1 HB hx664_0 hx664_1 hx664_2 hx664_3 hHeld ⊢
            refine pM 0 101 HT_ ?_
            refine pM 2 103 HT_ ?_
            refine pM 3 104 HT_ ?_
            refine pM 4 105 HT_ ?_
            refine tM 1 102 rfl HT_ HW_ (by rintro w' ⟨s0, s1, s2, s3, s4, s5, s6, s7, s8⟩; go_simp; with_reducible rfl) hHeld ?_
            refine tM 5 106 rfl HT_ HW_ (by rintro w' ⟨s0, s1, s2, s3, s4, s5, s6, s7, s8⟩; go_simp; with_reducible rfl) hHeld ?_
            refine pM 6 107 HT_ ?_
            refine pM 7 108 HT_ ?_
            refine pM 8 109 HT_ ?_
            refine last_ (i := 9) (N := none) #[true, true, true, true, true, true, true, true, true, true] rfl rfl (one_of HT_.out (by kernel_rfl)) (by decide) (fun K hK => ?_)
            have hs70 : w69.cell? ⟨gb1, 1, none⟩ = some (.int .i64 ((rd_T72 x4_25 x12_5).f1)) := (blk_cell BK1.out 1).trans rfl
            have hfs70 := blk_frozen BK1.out 1
            refine skip_ (w1 := ?_) (by rfl) rfl ?_ ?_
            rotate_left
            ·
             go_simp
             rfl
            refine hK.out _ _ ?_
            clear hK K
            refine done_ (done_of HT_.out (by kernel_rfl)) ?_
            have hcz71 := blk_cell BK1.out; have hfz71 := blk_frozen BK1.out
            try go_wp2_with (first | ((with_reducible refine gate_builtin (b := .append) (xs := #[.tmp 123, .tmp 125]) rfl ?_); at_builtin; refine Kd.R_append k72 (w0 := w) w.heap.size rfl (.tmp 123) (.tmp 125) 67 72 (.agg #[(.string ⟨#[]⟩), (.int .i64 0), (.bool false), (.bool false), (.int .i64 0)]) 40 rfl Tryd.underlying67 info72 rfl (by decide) (by omega) u10 x10_5 (⟨(rd_T72 x4_25 x12_5).f0, Int.tmod (wrap64 (((rd_T72 x4_25 x12_5).f1) + ((rd_T43 l0 0).f2))) 4, (rd_T72 x4_25 x12_5).f2, (rd_T72 x4_25 x12_5).f3, (rd_T72 x4_25 x12_5).f4⟩ : S72) [.string ((rd_T72 x4_25 x12_5).f0), .int .i64 (Int.tmod (wrap64 (((rd_T72 x4_25 x12_5).f1) + ((rd_T43 l0 0).f2))) 4), .bool ((rd_T72 x4_25 x12_5).f2), .bool ((rd_T72 x4_25 x12_5).f3), .int .i64 ((rd_T72 x4_25 x12_5).f4)] (fun k_ => some k_ ≠ (.slice (some ad655) x4_25.length co65 : Value).ownBlock ∧ k_ ≠ gb1) (fun _ => False) rfl (by first | (go_simp; done) | (go_simp; rfl)) ?aP (fun _ hk => hk.elim) ?aF ?aO ?aB ?aS ?aL ?_; (case aP => exact k72_mkM _ _ _ (⟨(rd_T72 x4_25 x12_5).f0, Int.tmod (wrap64 (((rd_T72 x4_25 x12_5).f1) + ((rd_T43 l0 0).f2))) 4, (rd_T72 x4_25 x12_5).f2, (rd_T72 x4_25 x12_5).f3, (rd_T72 x4_25 x12_5).f4⟩ : S72)); (case aB => exact (hO HB)); (case aF => exact (fun k_ hk => ⟨Kd.fresh' (Kd.R_lt (by exact (Kd.R_mono (Kd.R_far (p := ⟨gb1, 1, none⟩) (Kd.R_mono HO_4.out (fun k_ hk => (⟨hk, hk.2⟩ : _ ∧ k_ ≠ gb1))) (fun _ hk => hk.2) (.int .i64 (Int.tmod (wrap64 (((rd_T72 x4_25 x12_5).f1) + ((rd_T43 l0 0).f2))) 4))) (fun _ h_ => h_.1)))) k_ hk, Kd.freshB (g := gb1) (o := .cells #[.string ((rd_T72 x4_25 x12_5).f0), .int .i64 (Int.tmod (wrap64 (((rd_T72 x4_25 x12_5).f1) + ((rd_T43 l0 0).f2))) 4), .bool ((rd_T72 x4_25 x12_5).f2), .bool ((rd_T72 x4_25 x12_5).f3), .int .i64 ((rd_T72 x4_25 x12_5).f4)] 72 (0, 0)) (by refine blk_put (cs := #[.string ((rd_T72 x4_25 x12_5).f0), .int .i64 ((rd_T72 x4_25 x12_5).f1), .bool ((rd_T72 x4_25 x12_5).f2), .bool ((rd_T72 x4_25 x12_5).f3), .int .i64 ((rd_T72 x4_25 x12_5).f4)]) ?_ 1 _ rfl; exact BK1.out) k_ hk⟩)); (case aO => exact (by exact Kd.R_mono (Kd.R_far (p := ⟨gb1, 1, none⟩) (Kd.R_mono HO_10.out (fun k_ hk => (⟨hk, hk.2⟩ : _ ∧ k_ ≠ gb1))) (fun _ hk => hk.2) (.int .i64 (Int.tmod (wrap64 (((rd_T72 x4_25 x12_5).f1) + ((rd_T43 l0 0).f2))) 4))) (fun _ hk => ⟨hk.1.1, hk.1.2⟩))); (case aS => exact (below_size (hO HB))); (case aL => have := LMc64.out; omega); intro v666 w72 ho hb hg hat; rw [← Ny665.out] at ho; replace HO_4 := Aside0.mk (Kd.R_after (ok := (fun k_ => k_ ≠ gb1)) (by exact Kd.R_mono (Kd.R_far (p := ⟨gb1, 1, none⟩) (Kd.R_mono HO_4.out (fun k_ hk => (⟨hk, hk.2⟩ : _ ∧ k_ ≠ gb1))) (fun _ hk => hk.2) (.int .i64 (Int.tmod (wrap64 (((rd_T72 x4_25 x12_5).f1) + ((rd_T43 l0 0).f2))) 4))) (fun _ hk => ⟨hk.1.2, hk.1.1⟩)) hg hat); replace BK1 := Aside0.mk (blk_grown (g := gb1) (o := .cells #[.string ((rd_T72 x4_25 x12_5).f0), .int .i64 (Int.tmod (wrap64 (((rd_T72 x4_25 x12_5).f1) + ((rd_T43 l0 0).f2))) 4), .bool ((rd_T72 x4_25 x12_5).f2), .bool ((rd_T72 x4_25 x12_5).f3), .int .i64 ((rd_T72 x4_25 x12_5).f4)] 72 (0, 0)) (by refine blk_put (cs := #[.string ((rd_T72 x4_25 x12_5).f0), .int .i64 ((rd_T72 x4_25 x12_5).f1), .bool ((rd_T72 x4_25 x12_5).f2), .bool ((rd_T72 x4_25 x12_5).f3), .int .i64 ((rd_T72 x4_25 x12_5).f4)]) ?_ 1 _ rfl; exact BK1.out) hg (Kd.R_away HO_10.out (fun _ hk => hk.2))); replace HB := Aside0.mk hb; have HO667 := Aside0.mk ho; clear HO_10; clear ho hb hg hat))
            go_roundg k5
            case measure => have := HK1.out; have := HJ21.out; have := HJ25.out; have := HK4.out; have := HK5.out; omega
            case rel => exact ⟨(y665), (wrap64 (x12_5 + 1)), rfl, H', ⟨by have := HK1.out; have := HJ21.out; have := HJ25.out; have := HK4.out; have := HK5.out; omega⟩, ⟨Kd.R_mono HO_4.out (fun _ hk => hk.2)⟩, ⟨Kd.R_mono HO667.out (fun _ hk => hk.1)⟩, HB⟩
           rw [if_neg c55] at H
           have c55b0 := beq_eq_false_iff_ne.mpr c55
           have c55b1 := bne_iff_ne.mpr c55
           by_cases c73 : ((rd_T43 l0 0).f0) = 6
           rotate_left
           ·
            rw [if_neg c73] at H
            have c73b0 := beq_eq_false_iff_ne.mpr c73
            have c73b1 := bne_iff_ne.mpr c73
            by_cases c91 : ((rd_T72 x4_25 x12_5).f4) > 8192
            ·
             rw [if_pos c91] at H
             have c91b0 := decide_eq_true c91
             clear c91
             simp only [Option.some.injEq, Prod.mk.injEq] at H
             obtain ⟨rfl, rfl⟩ := H
             obtain ⟨Ao92, co92, eo92⟩ := Kd.R_slice HO_4.out
             subst eo92
             have p655 : 0 ≤ (x12_5 : Int) := of_decide_eq_true (by assumption)
             have q655 : x12_5 < (x4_25.length : Int) := of_decide_eq_true (by assumption)
             obtain ⟨ad655, e655, hx655_0, hx655_1, hx655_2, hx655_3, hx655_4⟩ := at_T72 (Kd.R_reads' HO_4.out).2.2 x12_5 p655 q655
             cases e655
             replace p655 := eq_true p655
             replace q655 := eq_true q655
             go_wp2_with (first | ((with_reducible refine gate_dst (N := 13) rfl ?_); refine box_event rfl (N := 13) rfl (cs := #[.string (⟨#[]⟩ : ByteArray), .int .i64 0, .bool false, .bool false, .int .i64 0]) (t := 72) (by first | (go_simp; done) | (go_simp; rfl)) ?_; intro gb1 hg w93 hbox hb; replace HO_4 := Aside0.mk (Kd.R_below (Kd.R_elderB HO_4.out gb1 (Nat.le_of_eq hg.symm)) hb); replace HO_10 := Aside0.mk (Kd.R_below (Kd.R_elderB HO_10.out gb1 (Nat.le_of_eq hg.symm)) hb); have BK1 := Aside0.mk hbox; have GW1 := mGw HB hg; have GE1 := GW1; replace HB := mSt HB hb; clear hb hbox hg; have hcz94 := blk_cell BK1.out; have hfz94 := blk_frozen BK1.out; have p657 : 0 ≤ (0 : Int) := (by omega); have q657 : 0 < (l0.length : Int) := of_decide_eq_true (by assumption); obtain ⟨ad657, e657, hx657_0, hx657_1, hx657_2, hx657_3⟩ := at_T43 HR0.out 0 p657 q657; obtain rfl : ad629 = ad657 := (by injection e657); have qi657 : (0 < l0.length) = True := eq_true (by omega); (try rw [show ((0 : Int)).toNat = 0 from rfl] at hx657_0); (try rw [show 0 * 4 = 0 from rfl] at hx657_0); (try rw [Addr.add_zero'] at hx657_0); (try rw [show ((0 : Int)).toNat = 0 from rfl] at hx657_1); (try rw [show 0 * 4 = 0 from rfl] at hx657_1); (try rw [Addr.add_zero'] at hx657_1); (try rw [show ((0 : Int)).toNat = 0 from rfl] at hx657_2); (try rw [show 0 * 4 = 0 from rfl] at hx657_2); (try rw [Addr.add_zero'] at hx657_2); (try rw [show ((0 : Int)).toNat = 0 from rfl] at hx657_3); (try rw [show 0 * 4 = 0 from rfl] at hx657_3); (try rw [Addr.add_zero'] at hx657_3); have hn657_0 : ad629.block ≠ gb1 := Nat.ne_of_lt (Nat.lt_of_lt_of_le (by have := World.block_lt_of_cell? _ _ hx657_0; first | rwa [add_block] at this | exact this) GW1.out); have hn657_1 : ad629.block ≠ gb1 := Nat.ne_of_lt (Nat.lt_of_lt_of_le (by have := World.block_lt_of_cell? _ _ hx657_0; first | rwa [add_block] at this | exact this) GW1.out); have hn657_2 : ad629.block ≠ gb1 := Nat.ne_of_lt (Nat.lt_of_lt_of_le (by have := World.block_lt_of_cell? _ _ hx657_0; first | rwa [add_block] at this | exact this) GW1.out); have hn657_3 : ad629.block ≠ gb1 := Nat.ne_of_lt (Nat.lt_of_lt_of_le (by have := World.block_lt_of_cell? _ _ hx657_0; first | rwa [add_block] at this | exact this) GW1.out); have hn657_4 : ad629.block ≠ gb1 := Nat.ne_of_lt (Nat.lt_of_lt_of_le (by have := World.block_lt_of_cell? _ _ hx657_0; first | rwa [add_block] at this | exact this) GW1.out); replace hx657_0 := mHx HB hx657_0; replace hx657_1 := mHx HB hx657_1; replace hx657_2 := mHx HB hx657_2; replace hx657_3 := mHx HB hx657_3; replace hx657_0 := (cell_far (p := ⟨gb1, 0, none⟩) (by first | (rw [add_block]; exact hn657_0) | (show (Addr.add _ _).block ≠ _; rw [add_block]; exact hn657_0) | exact hn657_0) (.string ((rd_T72 x4_25 x12_5).f0))).trans hx657_0; replace hx657_1 := (cell_far (p := ⟨gb1, 0, none⟩) (by first | (rw [add_block]; exact hn657_0) | (show (Addr.add _ _).block ≠ _; rw [add_block]; exact hn657_0) | exact hn657_0) (.string ((rd_T72 x4_25 x12_5).f0))).trans hx657_1; replace hx657_2 := (cell_far (p := ⟨gb1, 0, none⟩) (by first | (rw [add_block]; exact hn657_0) | (show (Addr.add _ _).block ≠ _; rw [add_block]; exact hn657_0) | exact hn657_0) (.string ((rd_T72 x4_25 x12_5).f0))).trans hx657_2; replace hx657_3 := (cell_far (p := ⟨gb1, 0, none⟩) (by first | (rw [add_block]; exact hn657_0) | (show (Addr.add _ _).block ≠ _; rw [add_block]; exact hn657_0) | exact hn657_0) (.string ((rd_T72 x4_25 x12_5).f0))).trans hx657_3; replace hx657_0 := (cell_far (p := ⟨gb1, 1, none⟩) (by first | (rw [add_block]; exact hn657_1) | (show (Addr.add _ _).block ≠ _; rw [add_block]; exact hn657_1) | exact hn657_1) (.int .i64 ((rd_T72 x4_25 x12_5).f1))).trans hx657_0; replace hx657_1 := (cell_far (p := ⟨gb1, 1, none⟩) (by first | (rw [add_block]; exact hn657_1) | (show (Addr.add _ _).block ≠ _; rw [add_block]; exact hn657_1) | exact hn657_1) (.int .i64 ((rd_T72 x4_25 x12_5).f1))).trans hx657_1; replace hx657_2 := (cell_far (p := ⟨gb1, 1, none⟩) (by first | (rw [add_block]; exact hn657_1) | (show (Addr.add _ _).block ≠ _; rw [add_block]; exact hn657_1) | exact hn657_1) (.int .i64 ((rd_T72 x4_25 x12_5).f1))).trans hx657_2; replace hx657_3 := (cell_far (p := ⟨gb1, 1, none⟩) (by first | (rw [add_block]; exact hn657_1) | (show (Addr.add _ _).block ≠ _; rw [add_block]; exact hn657_1) | exact hn657_1) (.int .i64 ((rd_T72 x4_25 x12_5).f1))).trans hx657_3; replace hx657_0 := (cell_far (p := ⟨gb1, 2, none⟩) (by first | (rw [add_block]; exact hn657_2) | (show (Addr.add _ _).block ≠ _; rw [add_block]; exact hn657_2) | exact hn657_2) (.bool ((rd_T72 x4_25 x12_5).f2))).trans hx657_0; replace hx657_1 := (cell_far (p := ⟨gb1, 2, none⟩) (by first | (rw [add_block]; exact hn657_2) | (show (Addr.add _ _).block ≠ _; rw [add_block]; exact hn657_2) | exact hn657_2) (.bool ((rd_T72 x4_25 x12_5).f2))).trans hx657_1; replace hx657_2 := (cell_far (p := ⟨gb1, 2, none⟩) (by first | (rw [add_block]; exact hn657_2) | (show (Addr.add _ _).block ≠ _; rw [add_block]; exact hn657_2) | exact hn657_2) (.bool ((rd_T72 x4_25 x12_5).f2))).trans hx657_2; replace hx657_3 := (cell_far (p := ⟨gb1, 2, none⟩) (by first | (rw [add_block]; exact hn657_2) | (show (Addr.add _ _).block ≠ _; rw [add_block]; exact hn657_2) | exact hn657_2) (.bool ((rd_T72 x4_25 x12_5).f2))).trans hx657_3; replace hx657_0 := (cell_far (p := ⟨gb1, 3, none⟩) (by first | (rw [add_block]; exact hn657_3) | (show (Addr.add _ _).block ≠ _; rw [add_block]; exact hn657_3) | exact hn657_3) (.bool ((rd_T72 x4_25 x12_5).f3))).trans hx657_0; replace hx657_1 := (cell_far (p := ⟨gb1, 3, none⟩) (by first | (rw [add_block]; exact hn657_3) | (show (Addr.add _ _).block ≠ _; rw [add_block]; exact hn657_3) | exact hn657_3) (.bool ((rd_T72 x4_25 x12_5).f3))).trans hx657_1; replace hx657_2 := (cell_far (p := ⟨gb1, 3, none⟩) (by first | (rw [add_block]; exact hn657_3) | (show (Addr.add _ _).block ≠ _; rw [add_block]; exact hn657_3) | exact hn657_3) (.bool ((rd_T72 x4_25 x12_5).f3))).trans hx657_2; replace hx657_3 := (cell_far (p := ⟨gb1, 3, none⟩) (by first | (rw [add_block]; exact hn657_3) | (show (Addr.add _ _).block ≠ _; rw [add_block]; exact hn657_3) | exact hn657_3) (.bool ((rd_T72 x4_25 x12_5).f3))).trans hx657_3; replace hx657_0 := (cell_far (p := ⟨gb1, 4, none⟩) (by first | (rw [add_block]; exact hn657_4) | (show (Addr.add _ _).block ≠ _; rw [add_block]; exact hn657_4) | exact hn657_4) (.int .i64 ((rd_T72 x4_25 x12_5).f4))).trans hx657_0; replace hx657_1 := (cell_far (p := ⟨gb1, 4, none⟩) (by first | (rw [add_block]; exact hn657_4) | (show (Addr.add _ _).block ≠ _; rw [add_block]; exact hn657_4) | exact hn657_4) (.int .i64 ((rd_T72 x4_25 x12_5).f4))).trans hx657_1; replace hx657_2 := (cell_far (p := ⟨gb1, 4, none⟩) (by first | (rw [add_block]; exact hn657_4) | (show (Addr.add _ _).block ≠ _; rw [add_block]; exact hn657_4) | exact hn657_4) (.int .i64 ((rd_T72 x4_25 x12_5).f4))).trans hx657_2; replace hx657_3 := (cell_far (p := ⟨gb1, 4, none⟩) (by first | (rw [add_block]; exact hn657_4) | (show (Addr.add _ _).block ≠ _; rw [add_block]; exact hn657_4) | exact hn657_4) (.int .i64 ((rd_T72 x4_25 x12_5).f4))).trans hx657_3; clear hn657_0 hn657_1 hn657_2 hn657_3 hn657_4; replace p657 := eq_true p657; replace q657 := eq_true q657))
             go_ret2
             exact ⟨_, rfl, by first | exact Kd.R_nil _ _ _ _ _ | exact Kd.N_nil _ _ _ _ _ | exact Kd.V_nil _ _ _ _ _ | exact Kd.Q_nil _ _ _ _ _ | exact Kd.S_nil _ _ _ _ _, hO HB⟩
            rw [if_neg c91] at H
            have c91b0 := decide_eq_false c91
            clear c91
            obtain ⟨c95, H⟩ : (x10_5.length < 3518437208883) ∧ _ := mIf H
            have LMc95 := Aside0.mk c95
            clear c95
            obtain ⟨y672, hy672⟩ : ∃ y_ : List (S72), y_ = (x10_5 ++ [(⟨(rd_T72 x4_25 x12_5).f0, (rd_T72 x4_25 x12_5).f1, (rd_T72 x4_25 x12_5).f2, (rd_T72 x4_25 x12_5).f3, (rd_T72 x4_25 x12_5).f4⟩ : S72)]) := ⟨_, rfl⟩
            rw [← hy672] at H
            have Ny672 := Aside0.mk hy672
            clear hy672
            have H' := Aside0.mk H
            clear H
            obtain ⟨Ao96, co96, eo96⟩ := Kd.R_slice HO_4.out
            subst eo96
            have p655 : 0 ≤ (x12_5 : Int) := of_decide_eq_true (by assumption)
            have q655 : x12_5 < (x4_25.length : Int) := of_decide_eq_true (by assumption)
            obtain ⟨ad655, e655, hx655_0, hx655_1, hx655_2, hx655_3, hx655_4⟩ := at_T72 (Kd.R_reads' HO_4.out).2.2 x12_5 p655 q655
            cases e655
            replace p655 := eq_true p655
            replace q655 := eq_true q655
            go_upto_region 25 with (first | ((with_reducible refine gate_dst (N := 13) rfl ?_); refine box_event rfl (N := 13) rfl (cs := #[.string (⟨#[]⟩ : ByteArray), .int .i64 0, .bool false, .bool false, .int .i64 0]) (t := 72) (by first | (go_simp; done) | (go_simp; rfl)) ?_; intro gb1 hg w97 hbox hb; have n0_ := Aside0.mk (Kd.R_below (Kd.R_elderB (rO HO_4) gb1 (Nat.le_of_eq hg.symm)) hb); have n1_ := Aside0.mk (Kd.R_below (Kd.R_elderB (rO HO_10) gb1 (Nat.le_of_eq hg.symm)) hb); have n2_ := mSx HB hb; have n3_ := Aside0.mk (hbox); have n4_ := Aside0.mk ((by rw [hg]; exact (below_size (hO HB)) : w.heap.size ≤ gb1)); have n5_ := Aside0.mk ((by rw [hg]; exact (below_size (hO HB)) : w.heap.size ≤ gb1)); clear HO_4 HO_10 HB; have HO_4 := n0_; have HO_10 := n1_; have HB := n2_; have BK1 := n3_; have GW1 := n4_; have GE1 := n5_; clear n0_ n1_ n2_ n3_ n4_ n5_; clear hb hbox hg; have hcz98_0 : w97.cell? ⟨gb1, 0, none⟩ = some (.string (⟨#[]⟩ : ByteArray)) := (blk_cell BK1.out 0).trans rfl; have hcz98_1 : w97.cell? ⟨gb1, 1, none⟩ = some (.int .i64 0) := (blk_cell BK1.out 1).trans rfl; have hcz98_2 : w97.cell? ⟨gb1, 2, none⟩ = some (.bool false) := (blk_cell BK1.out 2).trans rfl; have hcz98_3 : w97.cell? ⟨gb1, 3, none⟩ = some (.bool false) := (blk_cell BK1.out 3).trans rfl; have hcz98_4 : w97.cell? ⟨gb1, 4, none⟩ = some (.int .i64 0) := (blk_cell BK1.out 4).trans rfl; have hfz98_0 := blk_frozen BK1.out 0; have hfz98_1 := blk_frozen BK1.out 1; have hfz98_2 := blk_frozen BK1.out 2; have hfz98_3 := blk_frozen BK1.out 3; have hfz98_4 := blk_frozen BK1.out 4; have p657 : 0 ≤ (0 : Int) := (by omega); have q657 : 0 < (l0.length : Int) := of_decide_eq_true (by assumption); obtain ⟨ad657, e657, hx657_0, hx657_1, hx657_2, hx657_3⟩ := at_T43 HR0.out 0 p657 q657; obtain rfl : ad629 = ad657 := (by injection e657); have qi657 : (0 < l0.length) = True := eq_true (by omega); (try rw [show ((0 : Int)).toNat = 0 from rfl] at hx657_0); (try rw [show 0 * 4 = 0 from rfl] at hx657_0); (try rw [Addr.add_zero'] at hx657_0); (try rw [show ((0 : Int)).toNat = 0 from rfl] at hx657_1); (try rw [show 0 * 4 = 0 from rfl] at hx657_1); (try rw [Addr.add_zero'] at hx657_1); (try rw [show ((0 : Int)).toNat = 0 from rfl] at hx657_2); (try rw [show 0 * 4 = 0 from rfl] at hx657_2); (try rw [Addr.add_zero'] at hx657_2); (try rw [show ((0 : Int)).toNat = 0 from rfl] at hx657_3); (try rw [show 0 * 4 = 0 from rfl] at hx657_3); (try rw [Addr.add_zero'] at hx657_3); have hn657_0 : ad629.block ≠ gb1 := Nat.ne_of_lt (Nat.lt_of_lt_of_le (by have := World.block_lt_of_cell? _ _ hx657_0; first | rwa [add_block] at this | exact this) GW1.out); have hn657_1 : ad629.block ≠ gb1 := Nat.ne_of_lt (Nat.lt_of_lt_of_le (by have := World.block_lt_of_cell? _ _ hx657_0; first | rwa [add_block] at this | exact this) GW1.out); have hn657_2 : ad629.block ≠ gb1 := Nat.ne_of_lt (Nat.lt_of_lt_of_le (by have := World.block_lt_of_cell? _ _ hx657_0; first | rwa [add_block] at this | exact this) GW1.out); have hn657_3 : ad629.block ≠ gb1 := Nat.ne_of_lt (Nat.lt_of_lt_of_le (by have := World.block_lt_of_cell? _ _ hx657_0; first | rwa [add_block] at this | exact this) GW1.out); have hn657_4 : ad629.block ≠ gb1 := Nat.ne_of_lt (Nat.lt_of_lt_of_le (by have := World.block_lt_of_cell? _ _ hx657_0; first | rwa [add_block] at this | exact this) GW1.out); replace hx657_0 := mHx HB hx657_0; replace hx657_1 := mHx HB hx657_1; replace hx657_2 := mHx HB hx657_2; replace hx657_3 := mHx HB hx657_3; replace hx657_0 := (cell_far (p := ⟨gb1, 0, none⟩) (by first | (rw [add_block]; exact hn657_0) | (show (Addr.add _ _).block ≠ _; rw [add_block]; exact hn657_0) | exact hn657_0) (.string ((rd_T72 x4_25 x12_5).f0))).trans hx657_0; replace hx657_1 := (cell_far (p := ⟨gb1, 0, none⟩) (by first | (rw [add_block]; exact hn657_0) | (show (Addr.add _ _).block ≠ _; rw [add_block]; exact hn657_0) | exact hn657_0) (.string ((rd_T72 x4_25 x12_5).f0))).trans hx657_1; replace hx657_2 := (cell_far (p := ⟨gb1, 0, none⟩) (by first | (rw [add_block]; exact hn657_0) | (show (Addr.add _ _).block ≠ _; rw [add_block]; exact hn657_0) | exact hn657_0) (.string ((rd_T72 x4_25 x12_5).f0))).trans hx657_2; replace hx657_3 := (cell_far (p := ⟨gb1, 0, none⟩) (by first | (rw [add_block]; exact hn657_0) | (show (Addr.add _ _).block ≠ _; rw [add_block]; exact hn657_0) | exact hn657_0) (.string ((rd_T72 x4_25 x12_5).f0))).trans hx657_3; replace hx657_0 := (cell_far (p := ⟨gb1, 1, none⟩) (by first | (rw [add_block]; exact hn657_1) | (show (Addr.add _ _).block ≠ _; rw [add_block]; exact hn657_1) | exact hn657_1) (.int .i64 ((rd_T72 x4_25 x12_5).f1))).trans hx657_0; replace hx657_1 := (cell_far (p := ⟨gb1, 1, none⟩) (by first | (rw [add_block]; exact hn657_1) | (show (Addr.add _ _).block ≠ _; rw [add_block]; exact hn657_1) | exact hn657_1) (.int .i64 ((rd_T72 x4_25 x12_5).f1))).trans hx657_1; replace hx657_2 := (cell_far (p := ⟨gb1, 1, none⟩) (by first | (rw [add_block]; exact hn657_1) | (show (Addr.add _ _).block ≠ _; rw [add_block]; exact hn657_1) | exact hn657_1) (.int .i64 ((rd_T72 x4_25 x12_5).f1))).trans hx657_2; replace hx657_3 := (cell_far (p := ⟨gb1, 1, none⟩) (by first | (rw [add_block]; exact hn657_1) | (show (Addr.add _ _).block ≠ _; rw [add_block]; exact hn657_1) | exact hn657_1) (.int .i64 ((rd_T72 x4_25 x12_5).f1))).trans hx657_3; replace hx657_0 := (cell_far (p := ⟨gb1, 2, none⟩) (by first | (rw [add_block]; exact hn657_2) | (show (Addr.add _ _).block ≠ _; rw [add_block]; exact hn657_2) | exact hn657_2) (.bool ((rd_T72 x4_25 x12_5).f2))).trans hx657_0; replace hx657_1 := (cell_far (p := ⟨gb1, 2, none⟩) (by first | (rw [add_block]; exact hn657_2) | (show (Addr.add _ _).block ≠ _; rw [add_block]; exact hn657_2) | exact hn657_2) (.bool ((rd_T72 x4_25 x12_5).f2))).trans hx657_1; replace hx657_2 := (cell_far (p := ⟨gb1, 2, none⟩) (by first | (rw [add_block]; exact hn657_2) | (show (Addr.add _ _).block ≠ _; rw [add_block]; exact hn657_2) | exact hn657_2) (.bool ((rd_T72 x4_25 x12_5).f2))).trans hx657_2; replace hx657_3 := (cell_far (p := ⟨gb1, 2, none⟩) (by first | (rw [add_block]; exact hn657_2) | (show (Addr.add _ _).block ≠ _; rw [add_block]; exact hn657_2) | exact hn657_2) (.bool ((rd_T72 x4_25 x12_5).f2))).trans hx657_3; replace hx657_0 := (cell_far (p := ⟨gb1, 3, none⟩) (by first | (rw [add_block]; exact hn657_3) | (show (Addr.add _ _).block ≠ _; rw [add_block]; exact hn657_3) | exact hn657_3) (.bool ((rd_T72 x4_25 x12_5).f3))).trans hx657_0; replace hx657_1 := (cell_far (p := ⟨gb1, 3, none⟩) (by first | (rw [add_block]; exact hn657_3) | (show (Addr.add _ _).block ≠ _; rw [add_block]; exact hn657_3) | exact hn657_3) (.bool ((rd_T72 x4_25 x12_5).f3))).trans hx657_1; replace hx657_2 := (cell_far (p := ⟨gb1, 3, none⟩) (by first | (rw [add_block]; exact hn657_3) | (show (Addr.add _ _).block ≠ _; rw [add_block]; exact hn657_3) | exact hn657_3) (.bool ((rd_T72 x4_25 x12_5).f3))).trans hx657_2; replace hx657_3 := (cell_far (p := ⟨gb1, 3, none⟩) (by first | (rw [add_block]; exact hn657_3) | (show (Addr.add _ _).block ≠ _; rw [add_block]; exact hn657_3) | exact hn657_3) (.bool ((rd_T72 x4_25 x12_5).f3))).trans hx657_3; replace hx657_0 := (cell_far (p := ⟨gb1, 4, none⟩) (by first | (rw [add_block]; exact hn657_4) | (show (Addr.add _ _).block ≠ _; rw [add_block]; exact hn657_4) | exact hn657_4) (.int .i64 ((rd_T72 x4_25 x12_5).f4))).trans hx657_0; replace hx657_1 := (cell_far (p := ⟨gb1, 4, none⟩) (by first | (rw [add_block]; exact hn657_4) | (show (Addr.add _ _).block ≠ _; rw [add_block]; exact hn657_4) | exact hn657_4) (.int .i64 ((rd_T72 x4_25 x12_5).f4))).trans hx657_1; replace hx657_2 := (cell_far (p := ⟨gb1, 4, none⟩) (by first | (rw [add_block]; exact hn657_4) | (show (Addr.add _ _).block ≠ _; rw [add_block]; exact hn657_4) | exact hn657_4) (.int .i64 ((rd_T72 x4_25 x12_5).f4))).trans hx657_2; replace hx657_3 := (cell_far (p := ⟨gb1, 4, none⟩) (by first | (rw [add_block]; exact hn657_4) | (show (Addr.add _ _).block ≠ _; rw [add_block]; exact hn657_4) | exact hn657_4) (.int .i64 ((rd_T72 x4_25 x12_5).f4))).trans hx657_3; clear hn657_0 hn657_1 hn657_2 hn657_3 hn657_4; replace p657 := eq_true p657; replace q657 := eq_true q657))
            go_upto_region 35 with (fail)
            have n0_ := Aside0.mk (Kd.R_mono (Kd.R_far (p := ⟨gb1, 4, none⟩) (Kd.R_far (p := ⟨gb1, 3, none⟩) (Kd.R_far (p := ⟨gb1, 2, none⟩) (Kd.R_far (p := ⟨gb1, 1, none⟩) (Kd.R_far (p := ⟨gb1, 0, none⟩) (Kd.R_mono HO_4.out (fun k_ hk => (⟨hk, hk.2⟩ : _ ∧ k_ ≠ gb1))) (fun _ hk => hk.2) (.string ((rd_T72 x4_25 x12_5).f0))) (fun _ hk => hk.2) (.int .i64 ((rd_T72 x4_25 x12_5).f1))) (fun _ hk => hk.2) (.bool ((rd_T72 x4_25 x12_5).f2))) (fun _ hk => hk.2) (.bool ((rd_T72 x4_25 x12_5).f3))) (fun _ hk => hk.2) (.int .i64 ((rd_T72 x4_25 x12_5).f4))) (fun _ hk => hk.1))
            have n1_ := Aside0.mk (Kd.R_mono (Kd.R_far (p := ⟨gb1, 4, none⟩) (Kd.R_far (p := ⟨gb1, 3, none⟩) (Kd.R_far (p := ⟨gb1, 2, none⟩) (Kd.R_far (p := ⟨gb1, 1, none⟩) (Kd.R_far (p := ⟨gb1, 0, none⟩) (Kd.R_mono HO_10.out (fun k_ hk => (⟨hk, hk.2⟩ : _ ∧ k_ ≠ gb1))) (fun _ hk => hk.2) (.string ((rd_T72 x4_25 x12_5).f0))) (fun _ hk => hk.2) (.int .i64 ((rd_T72 x4_25 x12_5).f1))) (fun _ hk => hk.2) (.bool ((rd_T72 x4_25 x12_5).f2))) (fun _ hk => hk.2) (.bool ((rd_T72 x4_25 x12_5).f3))) (fun _ hk => hk.2) (.int .i64 ((rd_T72 x4_25 x12_5).f4))) (fun _ hk => hk.1))
            have n2_ : Aside0 ((((((w97.setCell ⟨gb1, 0, none⟩ (.string ((rd_T72 x4_25 x12_5).f0))).setCell ⟨gb1, 1, none⟩ (.int .i64 ((rd_T72 x4_25 x12_5).f1))).setCell ⟨gb1, 2, none⟩ (.bool ((rd_T72 x4_25 x12_5).f2))).setCell ⟨gb1, 3, none⟩ (.bool ((rd_T72 x4_25 x12_5).f3))).setCell ⟨gb1, 4, none⟩ (.int .i64 ((rd_T72 x4_25 x12_5).f4))).heap[gb1]? = some (.cells #[.string ((rd_T72 x4_25 x12_5).f0), .int .i64 ((rd_T72 x4_25 x12_5).f1), .bool ((rd_T72 x4_25 x12_5).f2), .bool ((rd_T72 x4_25 x12_5).f3), .int .i64 ((rd_T72 x4_25 x12_5).f4)] 72 (0, 0))) := ⟨by refine blk_put (cs := #[.string ((rd_T72 x4_25 x12_5).f0), .int .i64 ((rd_T72 x4_25 x12_5).f1), .bool ((rd_T72 x4_25 x12_5).f2), .bool ((rd_T72 x4_25 x12_5).f3), .int .i64 0]) ?_ 4 _ rfl; refine blk_put (cs := #[.string ((rd_T72 x4_25 x12_5).f0), .int .i64 ((rd_T72 x4_25 x12_5).f1), .bool ((rd_T72 x4_25 x12_5).f2), .bool false, .int .i64 0]) ?_ 3 _ rfl; refine blk_put (cs := #[.string ((rd_T72 x4_25 x12_5).f0), .int .i64 ((rd_T72 x4_25 x12_5).f1), .bool false, .bool false, .int .i64 0]) ?_ 2 _ rfl; refine blk_put (cs := #[.string ((rd_T72 x4_25 x12_5).f0), .int .i64 0, .bool false, .bool false, .int .i64 0]) ?_ 1 _ rfl; refine blk_put (cs := #[.string (⟨#[]⟩ : ByteArray), .int .i64 0, .bool false, .bool false, .int .i64 0]) ?_ 0 _ rfl; exact BK1.out⟩
            have n3_ : Aside0 (Below w.heap.size w (((((w97.setCell ⟨gb1, 0, none⟩ (.string ((rd_T72 x4_25 x12_5).f0))).setCell ⟨gb1, 1, none⟩ (.int .i64 ((rd_T72 x4_25 x12_5).f1))).setCell ⟨gb1, 2, none⟩ (.bool ((rd_T72 x4_25 x12_5).f2))).setCell ⟨gb1, 3, none⟩ (.bool ((rd_T72 x4_25 x12_5).f3))).setCell ⟨gb1, 4, none⟩ (.int .i64 ((rd_T72 x4_25 x12_5).f4)))) := ⟨below_set (below_set (below_set (below_set (below_set HB.out GE1.out) GE1.out) GE1.out) GE1.out) GE1.out⟩
            clear HO_4 HO_10 BK1 HB hcz98_0 hcz98_1 hcz98_2 hcz98_3 hcz98_4 hfz98_0 hfz98_1 hfz98_2 hfz98_3 hfz98_4
            generalize (((((w97.setCell ⟨gb1, 0, none⟩ (.string ((rd_T72 x4_25 x12_5).f0))).setCell ⟨gb1, 1, none⟩ (.int .i64 ((rd_T72 x4_25 x12_5).f1))).setCell ⟨gb1, 2, none⟩ (.bool ((rd_T72 x4_25 x12_5).f2))).setCell ⟨gb1, 3, none⟩ (.bool ((rd_T72 x4_25 x12_5).f3))).setCell ⟨gb1, 4, none⟩ (.int .i64 ((rd_T72 x4_25 x12_5).f4))) = w945_ at n0_ n1_ n2_ n3_ ⊢
            have HO_4 := n0_
            have HO_10 := n1_
            have BK1 := n2_
            have HB := n3_
            clear n0_ n1_ n2_ n3_
            have hcz945 := blk_cell BK1.out; have hfz945 := blk_frozen BK1.out
            go_wp2_with (first | ((with_reducible refine gate_builtin (b := .append) (xs := #[.tmp 123, .tmp 125]) rfl ?_); at_builtin; refine Kd.R_append k72 (w0 := w) w.heap.size rfl (.tmp 123) (.tmp 125) 67 72 (.agg #[(.string ⟨#[]⟩), (.int .i64 0), (.bool false), (.bool false), (.int .i64 0)]) 40 rfl Tryd.underlying67 info72 rfl (by decide) (by omega) u10 x10_5 (⟨(rd_T72 x4_25 x12_5).f0, (rd_T72 x4_25 x12_5).f1, (rd_T72 x4_25 x12_5).f2, (rd_T72 x4_25 x12_5).f3, (rd_T72 x4_25 x12_5).f4⟩ : S72) [.string ((rd_T72 x4_25 x12_5).f0), .int .i64 ((rd_T72 x4_25 x12_5).f1), .bool ((rd_T72 x4_25 x12_5).f2), .bool ((rd_T72 x4_25 x12_5).f3), .int .i64 ((rd_T72 x4_25 x12_5).f4)] (fun k_ => some k_ ≠ (.slice (some ad655) x4_25.length co96 : Value).ownBlock ∧ k_ ≠ gb1) (fun _ => False) rfl (by first | (go_simp; done) | (go_simp; rfl)) ?aP (fun _ hk => hk.elim) ?aF ?aO ?aB ?aS ?aL ?_; (case aP => exact k72_mkM _ _ _ (⟨(rd_T72 x4_25 x12_5).f0, (rd_T72 x4_25 x12_5).f1, (rd_T72 x4_25 x12_5).f2, (rd_T72 x4_25 x12_5).f3, (rd_T72 x4_25 x12_5).f4⟩ : S72)); (case aB => exact HB.out); (case aF => exact (fun k_ hk => ⟨Kd.fresh' (Kd.R_lt (by exact (Kd.R_mono (Kd.R_mono HO_4.out (fun k_ hk => (⟨hk, hk.2⟩ : _ ∧ k_ ≠ gb1))) (fun _ h_ => h_.1)))) k_ hk, Kd.freshB (g := gb1) (o := .cells #[.string ((rd_T72 x4_25 x12_5).f0), .int .i64 ((rd_T72 x4_25 x12_5).f1), .bool ((rd_T72 x4_25 x12_5).f2), .bool ((rd_T72 x4_25 x12_5).f3), .int .i64 ((rd_T72 x4_25 x12_5).f4)] 72 (0, 0)) BK1.out k_ hk⟩)); (case aO => exact (by exact Kd.R_mono (Kd.R_mono HO_10.out (fun k_ hk => (⟨hk, hk.2⟩ : _ ∧ k_ ≠ gb1))) (fun _ hk => ⟨hk.1.1, hk.1.2⟩))); (case aS => exact (below_size HB.out)); (case aL => have := LMc95.out; omega); intro v673 w99 ho hb hg hat; rw [← Ny672.out] at ho; replace HO_4 := Aside0.mk (Kd.R_after (ok := (fun k_ => k_ ≠ gb1)) (by exact Kd.R_mono (Kd.R_mono HO_4.out (fun k_ hk => (⟨hk, hk.2⟩ : _ ∧ k_ ≠ gb1))) (fun _ hk => ⟨hk.1.2, hk.1.1⟩)) hg hat); replace BK1 := Aside0.mk (blk_grown (g := gb1) (o := .cells #[.string ((rd_T72 x4_25 x12_5).f0), .int .i64 ((rd_T72 x4_25 x12_5).f1), .bool ((rd_T72 x4_25 x12_5).f2), .bool ((rd_T72 x4_25 x12_5).f3), .int .i64 ((rd_T72 x4_25 x12_5).f4)] 72 (0, 0)) BK1.out hg (Kd.R_away HO_10.out (fun _ hk => hk.2))); replace HB := Aside0.mk hb; have HO674 := Aside0.mk ho; clear HO_10; clear ho hb hg hat))
            go_roundg k5
            case measure => have := HK1.out; have := HJ21.out; have := HJ25.out; have := HK4.out; have := HK5.out; omega
            case rel => exact ⟨(y672), (wrap64 (x12_5 + 1)), rfl, H', ⟨by have := HK1.out; have := HJ21.out; have := HJ25.out; have := HK4.out; have := HK5.out; omega⟩, ⟨Kd.R_mono HO_4.out (fun _ hk => hk.2)⟩, ⟨Kd.R_mono HO674.out (fun _ hk => hk.1)⟩, ⟨HB.out⟩⟩
           rw [if_pos c73] at H
           have c73b0 := beq_iff_eq.mpr c73
           have c73b1 := bne_eq_false_iff_eq.mpr c73
           clear c73
           by_cases c74 : (wrap64 (((rd_T72 x4_25 x12_5).f4) * ((rd_T43 l0 0).f2))) > 8192
           ·
            rw [if_pos c74] at H
            have c74b0 := decide_eq_true c74
            clear c74
            simp only [Option.some.injEq, Prod.mk.injEq] at H
            obtain ⟨rfl, rfl⟩ := H
            obtain ⟨Ao75, co75, eo75⟩ := Kd.R_slice HO_4.out
            subst eo75
            have p655 : 0 ≤ (x12_5 : Int) := of_decide_eq_true (by assumption)
            have q655 : x12_5 < (x4_25.length : Int) := of_decide_eq_true (by assumption)
            obtain ⟨ad655, e655, hx655_0, hx655_1, hx655_2, hx655_3, hx655_4⟩ := at_T72 (Kd.R_reads' HO_4.out).2.2 x12_5 p655 q655
            cases e655
            replace p655 := eq_true p655
            replace q655 := eq_true q655
            try go_wp2_with (first | ((with_reducible refine gate_dst (N := 13) rfl ?_); refine box_event rfl (N := 13) rfl (cs := #[.string (⟨#[]⟩ : ByteArray), .int .i64 0, .bool false, .bool false, .int .i64 0]) (t := 72) (by first | (go_simp; done) | (go_simp; rfl)) ?_; intro gb1 hg w76 hbox hb; replace HO_4 := Aside0.mk (Kd.R_below (Kd.R_elderB HO_4.out gb1 (Nat.le_of_eq hg.symm)) hb); replace HO_10 := Aside0.mk (Kd.R_below (Kd.R_elderB HO_10.out gb1 (Nat.le_of_eq hg.symm)) hb); have BK1 := Aside0.mk hbox; have GW1 := mGw HB hg; have GE1 := GW1; replace HB := mSt HB hb; clear hb hbox hg; have hcz77 := blk_cell BK1.out; have hfz77 := blk_frozen BK1.out; have p657 : 0 ≤ (0 : Int) := (by omega); have q657 : 0 < (l0.length : Int) := of_decide_eq_true (by assumption); obtain ⟨ad657, e657, hx657_0, hx657_1, hx657_2, hx657_3⟩ := at_T43 HR0.out 0 p657 q657; obtain rfl : ad629 = ad657 := (by injection e657); have qi657 : (0 < l0.length) = True := eq_true (by omega); (try rw [show ((0 : Int)).toNat = 0 from rfl] at hx657_0); (try rw [show 0 * 4 = 0 from rfl] at hx657_0); (try rw [Addr.add_zero'] at hx657_0); (try rw [show ((0 : Int)).toNat = 0 from rfl] at hx657_1); (try rw [show 0 * 4 = 0 from rfl] at hx657_1); (try rw [Addr.add_zero'] at hx657_1); (try rw [show ((0 : Int)).toNat = 0 from rfl] at hx657_2); (try rw [show 0 * 4 = 0 from rfl] at hx657_2); (try rw [Addr.add_zero'] at hx657_2); (try rw [show ((0 : Int)).toNat = 0 from rfl] at hx657_3); (try rw [show 0 * 4 = 0 from rfl] at hx657_3); (try rw [Addr.add_zero'] at hx657_3); have hn657_0 : ad629.block ≠ gb1 := Nat.ne_of_lt (Nat.lt_of_lt_of_le (by have := World.block_lt_of_cell? _ _ hx657_0; first | rwa [add_block] at this | exact this) GW1.out); have hn657_1 : ad629.block ≠ gb1 := Nat.ne_of_lt (Nat.lt_of_lt_of_le (by have := World.block_lt_of_cell? _ _ hx657_0; first | rwa [add_block] at this | exact this) GW1.out); have hn657_2 : ad629.block ≠ gb1 := Nat.ne_of_lt (Nat.lt_of_lt_of_le (by have := World.block_lt_of_cell? _ _ hx657_0; first | rwa [add_block] at this | exact this) GW1.out); have hn657_3 : ad629.block ≠ gb1 := Nat.ne_of_lt (Nat.lt_of_lt_of_le (by have := World.block_lt_of_cell? _ _ hx657_0; first | rwa [add_block] at this | exact this) GW1.out); have hn657_4 : ad629.block ≠ gb1 := Nat.ne_of_lt (Nat.lt_of_lt_of_le (by have := World.block_lt_of_cell? _ _ hx657_0; first | rwa [add_block] at this | exact this) GW1.out); replace hx657_0 := mHx HB hx657_0; replace hx657_1 := mHx HB hx657_1; replace hx657_2 := mHx HB hx657_2; replace hx657_3 := mHx HB hx657_3; replace hx657_0 := (cell_far (p := ⟨gb1, 0, none⟩) (by first | (rw [add_block]; exact hn657_0) | (show (Addr.add _ _).block ≠ _; rw [add_block]; exact hn657_0) | exact hn657_0) (.string ((rd_T72 x4_25 x12_5).f0))).trans hx657_0; replace hx657_1 := (cell_far (p := ⟨gb1, 0, none⟩) (by first | (rw [add_block]; exact hn657_0) | (show (Addr.add _ _).block ≠ _; rw [add_block]; exact hn657_0) | exact hn657_0) (.string ((rd_T72 x4_25 x12_5).f0))).trans hx657_1; replace hx657_2 := (cell_far (p := ⟨gb1, 0, none⟩) (by first | (rw [add_block]; exact hn657_0) | (show (Addr.add _ _).block ≠ _; rw [add_block]; exact hn657_0) | exact hn657_0) (.string ((rd_T72 x4_25 x12_5).f0))).trans hx657_2; replace hx657_3 := (cell_far (p := ⟨gb1, 0, none⟩) (by first | (rw [add_block]; exact hn657_0) | (show (Addr.add _ _).block ≠ _; rw [add_block]; exact hn657_0) | exact hn657_0) (.string ((rd_T72 x4_25 x12_5).f0))).trans hx657_3; replace hx657_0 := (cell_far (p := ⟨gb1, 1, none⟩) (by first | (rw [add_block]; exact hn657_1) | (show (Addr.add _ _).block ≠ _; rw [add_block]; exact hn657_1) | exact hn657_1) (.int .i64 ((rd_T72 x4_25 x12_5).f1))).trans hx657_0; replace hx657_1 := (cell_far (p := ⟨gb1, 1, none⟩) (by first | (rw [add_block]; exact hn657_1) | (show (Addr.add _ _).block ≠ _; rw [add_block]; exact hn657_1) | exact hn657_1) (.int .i64 ((rd_T72 x4_25 x12_5).f1))).trans hx657_1; replace hx657_2 := (cell_far (p := ⟨gb1, 1, none⟩) (by first | (rw [add_block]; exact hn657_1) | (show (Addr.add _ _).block ≠ _; rw [add_block]; exact hn657_1) | exact hn657_1) (.int .i64 ((rd_T72 x4_25 x12_5).f1))).trans hx657_2; replace hx657_3 := (cell_far (p := ⟨gb1, 1, none⟩) (by first | (rw [add_block]; exact hn657_1) | (show (Addr.add _ _).block ≠ _; rw [add_block]; exact hn657_1) | exact hn657_1) (.int .i64 ((rd_T72 x4_25 x12_5).f1))).trans hx657_3; replace hx657_0 := (cell_far (p := ⟨gb1, 2, none⟩) (by first | (rw [add_block]; exact hn657_2) | (show (Addr.add _ _).block ≠ _; rw [add_block]; exact hn657_2) | exact hn657_2) (.bool ((rd_T72 x4_25 x12_5).f2))).trans hx657_0; replace hx657_1 := (cell_far (p := ⟨gb1, 2, none⟩) (by first | (rw [add_block]; exact hn657_2) | (show (Addr.add _ _).block ≠ _; rw [add_block]; exact hn657_2) | exact hn657_2) (.bool ((rd_T72 x4_25 x12_5).f2))).trans hx657_1; replace hx657_2 := (cell_far (p := ⟨gb1, 2, none⟩) (by first | (rw [add_block]; exact hn657_2) | (show (Addr.add _ _).block ≠ _; rw [add_block]; exact hn657_2) | exact hn657_2) (.bool ((rd_T72 x4_25 x12_5).f2))).trans hx657_2; replace hx657_3 := (cell_far (p := ⟨gb1, 2, none⟩) (by first | (rw [add_block]; exact hn657_2) | (show (Addr.add _ _).block ≠ _; rw [add_block]; exact hn657_2) | exact hn657_2) (.bool ((rd_T72 x4_25 x12_5).f2))).trans hx657_3; replace hx657_0 := (cell_far (p := ⟨gb1, 3, none⟩) (by first | (rw [add_block]; exact hn657_3) | (show (Addr.add _ _).block ≠ _; rw [add_block]; exact hn657_3) | exact hn657_3) (.bool ((rd_T72 x4_25 x12_5).f3))).trans hx657_0; replace hx657_1 := (cell_far (p := ⟨gb1, 3, none⟩) (by first | (rw [add_block]; exact hn657_3) | (show (Addr.add _ _).block ≠ _; rw [add_block]; exact hn657_3) | exact hn657_3) (.bool ((rd_T72 x4_25 x12_5).f3))).trans hx657_1; replace hx657_2 := (cell_far (p := ⟨gb1, 3, none⟩) (by first | (rw [add_block]; exact hn657_3) | (show (Addr.add _ _).block ≠ _; rw [add_block]; exact hn657_3) | exact hn657_3) (.bool ((rd_T72 x4_25 x12_5).f3))).trans hx657_2; replace hx657_3 := (cell_far (p := ⟨gb1, 3, none⟩) (by first | (rw [add_block]; exact hn657_3) | (show (Addr.add _ _).block ≠ _; rw [add_block]; exact hn657_3) | exact hn657_3) (.bool ((rd_T72 x4_25 x12_5).f3))).trans hx657_3; replace hx657_0 := (cell_far (p := ⟨gb1, 4, none⟩) (by first | (rw [add_block]; exact hn657_4) | (show (Addr.add _ _).block ≠ _; rw [add_block]; exact hn657_4) | exact hn657_4) (.int .i64 ((rd_T72 x4_25 x12_5).f4))).trans hx657_0; replace hx657_1 := (cell_far (p := ⟨gb1, 4, none⟩) (by first | (rw [add_block]; exact hn657_4) | (show (Addr.add _ _).block ≠ _; rw [add_block]; exact hn657_4) | exact hn657_4) (.int .i64 ((rd_T72 x4_25 x12_5).f4))).trans hx657_1; replace hx657_2 := (cell_far (p := ⟨gb1, 4, none⟩) (by first | (rw [add_block]; exact hn657_4) | (show (Addr.add _ _).block ≠ _; rw [add_block]; exact hn657_4) | exact hn657_4) (.int .i64 ((rd_T72 x4_25 x12_5).f4))).trans hx657_2; replace hx657_3 := (cell_far (p := ⟨gb1, 4, none⟩) (by first | (rw [add_block]; exact hn657_4) | (show (Addr.add _ _).block ≠ _; rw [add_block]; exact hn657_4) | exact hn657_4) (.int .i64 ((rd_T72 x4_25 x12_5).f4))).trans hx657_3; clear hn657_0 hn657_1 hn657_2 hn657_3 hn657_4; replace p657 := eq_true p657; replace q657 := eq_true q657))
            have n0_ : Aside0 (Kd.R k72 72 (((((w76.setCell ⟨gb1, 0, none⟩ (.string ((rd_T72 x4_25 x12_5).f0))).setCell ⟨gb1, 1, none⟩ (.int .i64 ((rd_T72 x4_25 x12_5).f1))).setCell ⟨gb1, 2, none⟩ (.bool ((rd_T72 x4_25 x12_5).f2))).setCell ⟨gb1, 3, none⟩ (.bool ((rd_T72 x4_25 x12_5).f3))).setCell ⟨gb1, 4, none⟩ (.int .i64 ((rd_T72 x4_25 x12_5).f4))) w.heap.size (fun k_ => some k_ ≠ (u10 : Value).ownBlock ∧ k_ ≠ gb1) (.slice (some ad655) x4_25.length co75) x4_25) := ⟨Kd.R_mono (Kd.R_far (p := ⟨gb1, 4, none⟩) (Kd.R_far (p := ⟨gb1, 3, none⟩) (Kd.R_far (p := ⟨gb1, 2, none⟩) (Kd.R_far (p := ⟨gb1, 1, none⟩) (Kd.R_far (p := ⟨gb1, 0, none⟩) (Kd.R_mono HO_4.out (fun k_ hk => (⟨hk, hk.2⟩ : _ ∧ k_ ≠ gb1))) (fun _ hk => hk.2) (.string ((rd_T72 x4_25 x12_5).f0))) (fun _ hk => hk.2) (.int .i64 ((rd_T72 x4_25 x12_5).f1))) (fun _ hk => hk.2) (.bool ((rd_T72 x4_25 x12_5).f2))) (fun _ hk => hk.2) (.bool ((rd_T72 x4_25 x12_5).f3))) (fun _ hk => hk.2) (.int .i64 ((rd_T72 x4_25 x12_5).f4))) (fun _ hk => ⟨hk.1.1, hk.1.2⟩)⟩
            have n1_ : Aside0 (Kd.R k72 72 (((((w76.setCell ⟨gb1, 0, none⟩ (.string ((rd_T72 x4_25 x12_5).f0))).setCell ⟨gb1, 1, none⟩ (.int .i64 ((rd_T72 x4_25 x12_5).f1))).setCell ⟨gb1, 2, none⟩ (.bool ((rd_T72 x4_25 x12_5).f2))).setCell ⟨gb1, 3, none⟩ (.bool ((rd_T72 x4_25 x12_5).f3))).setCell ⟨gb1, 4, none⟩ (.int .i64 ((rd_T72 x4_25 x12_5).f4))) w.heap.size (fun k_ => some k_ ≠ (.slice (some ad655) x4_25.length co75 : Value).ownBlock ∧ k_ ≠ gb1) u10 x10_5) := ⟨Kd.R_mono (Kd.R_far (p := ⟨gb1, 4, none⟩) (Kd.R_far (p := ⟨gb1, 3, none⟩) (Kd.R_far (p := ⟨gb1, 2, none⟩) (Kd.R_far (p := ⟨gb1, 1, none⟩) (Kd.R_far (p := ⟨gb1, 0, none⟩) (Kd.R_mono HO_10.out (fun k_ hk => (⟨hk, hk.2⟩ : _ ∧ k_ ≠ gb1))) (fun _ hk => hk.2) (.string ((rd_T72 x4_25 x12_5).f0))) (fun _ hk => hk.2) (.int .i64 ((rd_T72 x4_25 x12_5).f1))) (fun _ hk => hk.2) (.bool ((rd_T72 x4_25 x12_5).f2))) (fun _ hk => hk.2) (.bool ((rd_T72 x4_25 x12_5).f3))) (fun _ hk => hk.2) (.int .i64 ((rd_T72 x4_25 x12_5).f4))) (fun _ hk => ⟨hk.1.1, hk.1.2⟩)⟩
            have n2_ : Aside0 ((((((w76.setCell ⟨gb1, 0, none⟩ (.string ((rd_T72 x4_25 x12_5).f0))).setCell ⟨gb1, 1, none⟩ (.int .i64 ((rd_T72 x4_25 x12_5).f1))).setCell ⟨gb1, 2, none⟩ (.bool ((rd_T72 x4_25 x12_5).f2))).setCell ⟨gb1, 3, none⟩ (.bool ((rd_T72 x4_25 x12_5).f3))).setCell ⟨gb1, 4, none⟩ (.int .i64 ((rd_T72 x4_25 x12_5).f4))).heap[gb1]? = some (.cells #[.string ((rd_T72 x4_25 x12_5).f0), .int .i64 ((rd_T72 x4_25 x12_5).f1), .bool ((rd_T72 x4_25 x12_5).f2), .bool ((rd_T72 x4_25 x12_5).f3), .int .i64 ((rd_T72 x4_25 x12_5).f4)] 72 (0, 0))) := ⟨by refine blk_put (cs := #[.string ((rd_T72 x4_25 x12_5).f0), .int .i64 ((rd_T72 x4_25 x12_5).f1), .bool ((rd_T72 x4_25 x12_5).f2), .bool ((rd_T72 x4_25 x12_5).f3), .int .i64 0]) ?_ 4 _ rfl; refine blk_put (cs := #[.string ((rd_T72 x4_25 x12_5).f0), .int .i64 ((rd_T72 x4_25 x12_5).f1), .bool ((rd_T72 x4_25 x12_5).f2), .bool false, .int .i64 0]) ?_ 3 _ rfl; refine blk_put (cs := #[.string ((rd_T72 x4_25 x12_5).f0), .int .i64 ((rd_T72 x4_25 x12_5).f1), .bool false, .bool false, .int .i64 0]) ?_ 2 _ rfl; refine blk_put (cs := #[.string ((rd_T72 x4_25 x12_5).f0), .int .i64 0, .bool false, .bool false, .int .i64 0]) ?_ 1 _ rfl; refine blk_put (cs := #[.string (⟨#[]⟩ : ByteArray), .int .i64 0, .bool false, .bool false, .int .i64 0]) ?_ 0 _ rfl; exact BK1.out⟩
            have n3_ : Aside0 (Below w.heap.size w (((((w76.setCell ⟨gb1, 0, none⟩ (.string ((rd_T72 x4_25 x12_5).f0))).setCell ⟨gb1, 1, none⟩ (.int .i64 ((rd_T72 x4_25 x12_5).f1))).setCell ⟨gb1, 2, none⟩ (.bool ((rd_T72 x4_25 x12_5).f2))).setCell ⟨gb1, 3, none⟩ (.bool ((rd_T72 x4_25 x12_5).f3))).setCell ⟨gb1, 4, none⟩ (.int .i64 ((rd_T72 x4_25 x12_5).f4)))) := ⟨hO HB⟩
            (try clear HO_4)
            (try clear HO_10)
            (try clear BK1)
            (try clear HB)
            generalize (((((w76.setCell ⟨gb1, 0, none⟩ (.string ((rd_T72 x4_25 x12_5).f0))).setCell ⟨gb1, 1, none⟩ (.int .i64 ((rd_T72 x4_25 x12_5).f1))).setCell ⟨gb1, 2, none⟩ (.bool ((rd_T72 x4_25 x12_5).f2))).setCell ⟨gb1, 3, none⟩ (.bool ((rd_T72 x4_25 x12_5).f3))).setCell ⟨gb1, 4, none⟩ (.int .i64 ((rd_T72 x4_25 x12_5).f4))) = w78 at n0_ n1_ n2_ n3_ ⊢
            have HO_4 := n0_
            have HO_10 := n1_
            have BK1 := n2_
            have HB := n3_
            clear n0_ n1_ n2_ n3_
            replace HO_4 := Aside0.mk (Kd.R_drew HO_4.out); replace HO_10 := Aside0.mk (Kd.R_drew HO_10.out); replace BK1 := Aside0.mk (blk_drew BK1.out); replace HB := Aside0.mk (below_drew1 HB.out)
            have p668 : 0 ≤ (0 : Int) := (by omega)
            have q668 : 0 < (l0.length : Int) := of_decide_eq_true (by assumption)
            obtain ⟨ad668, e668, hx668_0, hx668_1, hx668_2, hx668_3⟩ := at_T43 HR0.out 0 p668 q668
            have hw668_3 := hx668_3
            (try rw [show ((0 : Int)).toNat = 0 from rfl] at hw668_3)
            (try rw [show 0 * 4 = 0 from rfl] at hw668_3)
            (try rw [Addr.add_zero'] at hw668_3)
            have hw668_2 := hx668_2
            (try rw [show ((0 : Int)).toNat = 0 from rfl] at hw668_2)
            (try rw [show 0 * 4 = 0 from rfl] at hw668_2)
            (try rw [Addr.add_zero'] at hw668_2)
            have hw668_1 := hx668_1
            (try rw [show ((0 : Int)).toNat = 0 from rfl] at hw668_1)
            (try rw [show 0 * 4 = 0 from rfl] at hw668_1)
            (try rw [Addr.add_zero'] at hw668_1)
            have hw668_0 := hx668_0
            (try rw [show ((0 : Int)).toNat = 0 from rfl] at hw668_0)
            (try rw [show 0 * 4 = 0 from rfl] at hw668_0)
            (try rw [Addr.add_zero'] at hw668_0)
            obtain rfl : ad629 = ad668 := (by injection e668)
            have qi668 : (0 < l0.length) = True := eq_true (by omega)
            (try rw [show ((0 : Int)).toNat = 0 from rfl] at hx668_0)
            (try rw [show 0 * 4 = 0 from rfl] at hx668_0)
            (try rw [Addr.add_zero'] at hx668_0)
            (try rw [show ((0 : Int)).toNat = 0 from rfl] at hx668_1)
            (try rw [show 0 * 4 = 0 from rfl] at hx668_1)
            (try rw [Addr.add_zero'] at hx668_1)
            (try rw [show ((0 : Int)).toNat = 0 from rfl] at hx668_2)
            (try rw [show 0 * 4 = 0 from rfl] at hx668_2)
            (try rw [Addr.add_zero'] at hx668_2)
            (try rw [show ((0 : Int)).toNat = 0 from rfl] at hx668_3)
            (try rw [show 0 * 4 = 0 from rfl] at hx668_3)
            (try rw [Addr.add_zero'] at hx668_3)
            replace hx668_0 := mHx HB hx668_0
            replace hx668_1 := mHx HB hx668_1
            replace hx668_2 := mHx HB hx668_2
            replace hx668_3 := mHx HB hx668_3
            replace p668 := eq_true p668
            replace q668 := eq_true q668
            refine start_ (n := 9) (S := fun w' => w'.cell? ⟨gb1, 0, none⟩ = some (.string ((rd_T72 x4_25 x12_5).f0)) ∧ w'.cell? ⟨gb1, 1, none⟩ = some (.int .i64 ((rd_T72 x4_25 x12_5).f1)) ∧ w'.cell? ⟨gb1, 2, none⟩ = some (.bool ((rd_T72 x4_25 x12_5).f2)) ∧ w'.cell? ⟨gb1, 3, none⟩ = some (.bool ((rd_T72 x4_25 x12_5).f3)) ∧ w'.cell? ⟨gb1, 4, none⟩ = some (.int .i64 ((rd_T72 x4_25 x12_5).f4)) ∧ w'.cell? ad629 = some (.int .i64 ((rd_T43 l0 0).f0)) ∧ w'.cell? ⟨ad629.block, ad629.off + 1, none⟩ = some (.string ((rd_T43 l0 0).f1)) ∧ w'.cell? ⟨ad629.block, ad629.off + 2, none⟩ = some (.int .i64 ((rd_T43 l0 0).f2)) ∧ w'.cell? ⟨ad629.block, ad629.off + 3, none⟩ = some (.int .i64 ((rd_T43 l0 0).f3))) (ds := [8]) #[false, false, false, false, false, false, false, false, false] (by kernel_rfl) rfl rfl ⟨(blk_cell BK1.out 0).trans rfl, (blk_cell BK1.out 1).trans rfl, (blk_cell BK1.out 2).trans rfl, (blk_cell BK1.out 3).trans rfl, (blk_cell BK1.out 4).trans rfl, ((HB.out.cell (World.block_lt_of_cell? w _ hw668_0)).trans hw668_0), ((HB.out.cell (World.block_lt_of_cell? w _ hw668_1)).trans hw668_1), ((HB.out.cell (World.block_lt_of_cell? w _ hw668_2)).trans hw668_2), ((HB.out.cell (World.block_lt_of_cell? w _ hw668_3)).trans hw668_3)⟩ (fun hHeld => ?_); refine with_tabW dancestudioref35_Leaves.tab34 dancestudioref35_Leaves.bits34 (fun HT_ HW_ => ?_)
            generalize w78.drew = w79 at HO_4 HO_10 BK1 HB hx668_0 hx668_1 hx668_2 hx668_3 hHeld ⊢
            refine pM 0 112 HT_ ?_
            refine pM 2 114 HT_ ?_
            refine pM 3 115 HT_ ?_
            refine pM 4 116 HT_ ?_
            refine tM 1 113 rfl HT_ HW_ (by rintro w' ⟨s0, s1, s2, s3, s4, s5, s6, s7, s8⟩; go_simp; with_reducible rfl) hHeld ?_
            refine tM 5 117 rfl HT_ HW_ (by rintro w' ⟨s0, s1, s2, s3, s4, s5, s6, s7, s8⟩; go_simp; with_reducible rfl) hHeld ?_
            refine pM 6 118 HT_ ?_
            refine pM 7 119 HT_ ?_
            refine last_ (i := 8) (N := none) #[true, true, true, true, true, true, true, true, true] rfl rfl (one_of HT_.out (by kernel_rfl)) (by decide) (fun K hK => ?_)
            have hs80 : w79.cell? ⟨gb1, 4, none⟩ = some (.int .i64 ((rd_T72 x4_25 x12_5).f4)) := (blk_cell BK1.out 4).trans rfl
            have hfs80 := blk_frozen BK1.out 4
            refine skip_ (w1 := ?_) (by rfl) rfl ?_ ?_
            rotate_left
            ·
             go_simp
             rfl
            refine hK.out _ _ ?_
            clear hK K
            refine done_ (done_of HT_.out (by kernel_rfl)) ?_
            have hcz81 := blk_cell BK1.out; have hfz81 := blk_frozen BK1.out
            try go_wp2
            go_ret2
            exact ⟨_, rfl, by first | exact Kd.R_nil _ _ _ _ _ | exact Kd.N_nil _ _ _ _ _ | exact Kd.V_nil _ _ _ _ _ | exact Kd.Q_nil _ _ _ _ _ | exact Kd.S_nil _ _ _ _ _, hO HB⟩
           rw [if_neg c74] at H
           have c74b0 := decide_eq_false c74
           clear c74
           obtain ⟨c82, H⟩ : (x10_5.length < 3518437208883) ∧ _ := mIf H
           have LMc82 := Aside0.mk c82
           clear c82
           obtain ⟨y669, hy669⟩ : ∃ y_ : List (S72), y_ = (x10_5 ++ [(⟨(rd_T72 x4_25 x12_5).f0, (rd_T72 x4_25 x12_5).f1, (rd_T72 x4_25 x12_5).f2, (rd_T72 x4_25 x12_5).f3, wrap64 (((rd_T72 x4_25 x12_5).f4) * ((rd_T43 l0 0).f2))⟩ : S72)]) := ⟨_, rfl⟩
           rw [← hy669] at H
           have Ny669 := Aside0.mk hy669
           clear hy669
           have H' := Aside0.mk H
           clear H
           obtain ⟨Ao83, co83, eo83⟩ := Kd.R_slice HO_4.out
           subst eo83
           have p655 : 0 ≤ (x12_5 : Int) := of_decide_eq_true (by assumption)
           have q655 : x12_5 < (x4_25.length : Int) := of_decide_eq_true (by assumption)
           obtain ⟨ad655, e655, hx655_0, hx655_1, hx655_2, hx655_3, hx655_4⟩ := at_T72 (Kd.R_reads' HO_4.out).2.2 x12_5 p655 q655
           cases e655
           replace p655 := eq_true p655
           replace q655 := eq_true q655
           try go_wp2_with (first | ((with_reducible refine gate_dst (N := 13) rfl ?_); refine box_event rfl (N := 13) rfl (cs := #[.string (⟨#[]⟩ : ByteArray), .int .i64 0, .bool false, .bool false, .int .i64 0]) (t := 72) (by first | (go_simp; done) | (go_simp; rfl)) ?_; intro gb1 hg w84 hbox hb; replace HO_4 := Aside0.mk (Kd.R_below (Kd.R_elderB HO_4.out gb1 (Nat.le_of_eq hg.symm)) hb); replace HO_10 := Aside0.mk (Kd.R_below (Kd.R_elderB HO_10.out gb1 (Nat.le_of_eq hg.symm)) hb); have BK1 := Aside0.mk hbox; have GW1 := mGw HB hg; have GE1 := GW1; replace HB := mSt HB hb; clear hb hbox hg; have hcz85 := blk_cell BK1.out; have hfz85 := blk_frozen BK1.out; have p657 : 0 ≤ (0 : Int) := (by omega); have q657 : 0 < (l0.length : Int) := of_decide_eq_true (by assumption); obtain ⟨ad657, e657, hx657_0, hx657_1, hx657_2, hx657_3⟩ := at_T43 HR0.out 0 p657 q657; obtain rfl : ad629 = ad657 := (by injection e657); have qi657 : (0 < l0.length) = True := eq_true (by omega); (try rw [show ((0 : Int)).toNat = 0 from rfl] at hx657_0); (try rw [show 0 * 4 = 0 from rfl] at hx657_0); (try rw [Addr.add_zero'] at hx657_0); (try rw [show ((0 : Int)).toNat = 0 from rfl] at hx657_1); (try rw [show 0 * 4 = 0 from rfl] at hx657_1); (try rw [Addr.add_zero'] at hx657_1); (try rw [show ((0 : Int)).toNat = 0 from rfl] at hx657_2); (try rw [show 0 * 4 = 0 from rfl] at hx657_2); (try rw [Addr.add_zero'] at hx657_2); (try rw [show ((0 : Int)).toNat = 0 from rfl] at hx657_3); (try rw [show 0 * 4 = 0 from rfl] at hx657_3); (try rw [Addr.add_zero'] at hx657_3); have hn657_0 : ad629.block ≠ gb1 := Nat.ne_of_lt (Nat.lt_of_lt_of_le (by have := World.block_lt_of_cell? _ _ hx657_0; first | rwa [add_block] at this | exact this) GW1.out); have hn657_1 : ad629.block ≠ gb1 := Nat.ne_of_lt (Nat.lt_of_lt_of_le (by have := World.block_lt_of_cell? _ _ hx657_0; first | rwa [add_block] at this | exact this) GW1.out); have hn657_2 : ad629.block ≠ gb1 := Nat.ne_of_lt (Nat.lt_of_lt_of_le (by have := World.block_lt_of_cell? _ _ hx657_0; first | rwa [add_block] at this | exact this) GW1.out); have hn657_3 : ad629.block ≠ gb1 := Nat.ne_of_lt (Nat.lt_of_lt_of_le (by have := World.block_lt_of_cell? _ _ hx657_0; first | rwa [add_block] at this | exact this) GW1.out); have hn657_4 : ad629.block ≠ gb1 := Nat.ne_of_lt (Nat.lt_of_lt_of_le (by have := World.block_lt_of_cell? _ _ hx657_0; first | rwa [add_block] at this | exact this) GW1.out); replace hx657_0 := mHx HB hx657_0; replace hx657_1 := mHx HB hx657_1; replace hx657_2 := mHx HB hx657_2; replace hx657_3 := mHx HB hx657_3; replace hx657_0 := (cell_far (p := ⟨gb1, 0, none⟩) (by first | (rw [add_block]; exact hn657_0) | (show (Addr.add _ _).block ≠ _; rw [add_block]; exact hn657_0) | exact hn657_0) (.string ((rd_T72 x4_25 x12_5).f0))).trans hx657_0; replace hx657_1 := (cell_far (p := ⟨gb1, 0, none⟩) (by first | (rw [add_block]; exact hn657_0) | (show (Addr.add _ _).block ≠ _; rw [add_block]; exact hn657_0) | exact hn657_0) (.string ((rd_T72 x4_25 x12_5).f0))).trans hx657_1; replace hx657_2 := (cell_far (p := ⟨gb1, 0, none⟩) (by first | (rw [add_block]; exact hn657_0) | (show (Addr.add _ _).block ≠ _; rw [add_block]; exact hn657_0) | exact hn657_0) (.string ((rd_T72 x4_25 x12_5).f0))).trans hx657_2; replace hx657_3 := (cell_far (p := ⟨gb1, 0, none⟩) (by first | (rw [add_block]; exact hn657_0) | (show (Addr.add _ _).block ≠ _; rw [add_block]; exact hn657_0) | exact hn657_0) (.string ((rd_T72 x4_25 x12_5).f0))).trans hx657_3; replace hx657_0 := (cell_far (p := ⟨gb1, 1, none⟩) (by first | (rw [add_block]; exact hn657_1) | (show (Addr.add _ _).block ≠ _; rw [add_block]; exact hn657_1) | exact hn657_1) (.int .i64 ((rd_T72 x4_25 x12_5).f1))).trans hx657_0; replace hx657_1 := (cell_far (p := ⟨gb1, 1, none⟩) (by first | (rw [add_block]; exact hn657_1) | (show (Addr.add _ _).block ≠ _; rw [add_block]; exact hn657_1) | exact hn657_1) (.int .i64 ((rd_T72 x4_25 x12_5).f1))).trans hx657_1; replace hx657_2 := (cell_far (p := ⟨gb1, 1, none⟩) (by first | (rw [add_block]; exact hn657_1) | (show (Addr.add _ _).block ≠ _; rw [add_block]; exact hn657_1) | exact hn657_1) (.int .i64 ((rd_T72 x4_25 x12_5).f1))).trans hx657_2; replace hx657_3 := (cell_far (p := ⟨gb1, 1, none⟩) (by first | (rw [add_block]; exact hn657_1) | (show (Addr.add _ _).block ≠ _; rw [add_block]; exact hn657_1) | exact hn657_1) (.int .i64 ((rd_T72 x4_25 x12_5).f1))).trans hx657_3; replace hx657_0 := (cell_far (p := ⟨gb1, 2, none⟩) (by first | (rw [add_block]; exact hn657_2) | (show (Addr.add _ _).block ≠ _; rw [add_block]; exact hn657_2) | exact hn657_2) (.bool ((rd_T72 x4_25 x12_5).f2))).trans hx657_0; replace hx657_1 := (cell_far (p := ⟨gb1, 2, none⟩) (by first | (rw [add_block]; exact hn657_2) | (show (Addr.add _ _).block ≠ _; rw [add_block]; exact hn657_2) | exact hn657_2) (.bool ((rd_T72 x4_25 x12_5).f2))).trans hx657_1; replace hx657_2 := (cell_far (p := ⟨gb1, 2, none⟩) (by first | (rw [add_block]; exact hn657_2) | (show (Addr.add _ _).block ≠ _; rw [add_block]; exact hn657_2) | exact hn657_2) (.bool ((rd_T72 x4_25 x12_5).f2))).trans hx657_2; replace hx657_3 := (cell_far (p := ⟨gb1, 2, none⟩) (by first | (rw [add_block]; exact hn657_2) | (show (Addr.add _ _).block ≠ _; rw [add_block]; exact hn657_2) | exact hn657_2) (.bool ((rd_T72 x4_25 x12_5).f2))).trans hx657_3; replace hx657_0 := (cell_far (p := ⟨gb1, 3, none⟩) (by first | (rw [add_block]; exact hn657_3) | (show (Addr.add _ _).block ≠ _; rw [add_block]; exact hn657_3) | exact hn657_3) (.bool ((rd_T72 x4_25 x12_5).f3))).trans hx657_0; replace hx657_1 := (cell_far (p := ⟨gb1, 3, none⟩) (by first | (rw [add_block]; exact hn657_3) | (show (Addr.add _ _).block ≠ _; rw [add_block]; exact hn657_3) | exact hn657_3) (.bool ((rd_T72 x4_25 x12_5).f3))).trans hx657_1; replace hx657_2 := (cell_far (p := ⟨gb1, 3, none⟩) (by first | (rw [add_block]; exact hn657_3) | (show (Addr.add _ _).block ≠ _; rw [add_block]; exact hn657_3) | exact hn657_3) (.bool ((rd_T72 x4_25 x12_5).f3))).trans hx657_2; replace hx657_3 := (cell_far (p := ⟨gb1, 3, none⟩) (by first | (rw [add_block]; exact hn657_3) | (show (Addr.add _ _).block ≠ _; rw [add_block]; exact hn657_3) | exact hn657_3) (.bool ((rd_T72 x4_25 x12_5).f3))).trans hx657_3; replace hx657_0 := (cell_far (p := ⟨gb1, 4, none⟩) (by first | (rw [add_block]; exact hn657_4) | (show (Addr.add _ _).block ≠ _; rw [add_block]; exact hn657_4) | exact hn657_4) (.int .i64 ((rd_T72 x4_25 x12_5).f4))).trans hx657_0; replace hx657_1 := (cell_far (p := ⟨gb1, 4, none⟩) (by first | (rw [add_block]; exact hn657_4) | (show (Addr.add _ _).block ≠ _; rw [add_block]; exact hn657_4) | exact hn657_4) (.int .i64 ((rd_T72 x4_25 x12_5).f4))).trans hx657_1; replace hx657_2 := (cell_far (p := ⟨gb1, 4, none⟩) (by first | (rw [add_block]; exact hn657_4) | (show (Addr.add _ _).block ≠ _; rw [add_block]; exact hn657_4) | exact hn657_4) (.int .i64 ((rd_T72 x4_25 x12_5).f4))).trans hx657_2; replace hx657_3 := (cell_far (p := ⟨gb1, 4, none⟩) (by first | (rw [add_block]; exact hn657_4) | (show (Addr.add _ _).block ≠ _; rw [add_block]; exact hn657_4) | exact hn657_4) (.int .i64 ((rd_T72 x4_25 x12_5).f4))).trans hx657_3; clear hn657_0 hn657_1 hn657_2 hn657_3 hn657_4; replace p657 := eq_true p657; replace q657 := eq_true q657))
           have n0_ : Aside0 (Kd.R k72 72 (((((w84.setCell ⟨gb1, 0, none⟩ (.string ((rd_T72 x4_25 x12_5).f0))).setCell ⟨gb1, 1, none⟩ (.int .i64 ((rd_T72 x4_25 x12_5).f1))).setCell ⟨gb1, 2, none⟩ (.bool ((rd_T72 x4_25 x12_5).f2))).setCell ⟨gb1, 3, none⟩ (.bool ((rd_T72 x4_25 x12_5).f3))).setCell ⟨gb1, 4, none⟩ (.int .i64 ((rd_T72 x4_25 x12_5).f4))) w.heap.size (fun k_ => some k_ ≠ (u10 : Value).ownBlock ∧ k_ ≠ gb1) (.slice (some ad655) x4_25.length co83) x4_25) := ⟨Kd.R_mono (Kd.R_far (p := ⟨gb1, 4, none⟩) (Kd.R_far (p := ⟨gb1, 3, none⟩) (Kd.R_far (p := ⟨gb1, 2, none⟩) (Kd.R_far (p := ⟨gb1, 1, none⟩) (Kd.R_far (p := ⟨gb1, 0, none⟩) (Kd.R_mono HO_4.out (fun k_ hk => (⟨hk, hk.2⟩ : _ ∧ k_ ≠ gb1))) (fun _ hk => hk.2) (.string ((rd_T72 x4_25 x12_5).f0))) (fun _ hk => hk.2) (.int .i64 ((rd_T72 x4_25 x12_5).f1))) (fun _ hk => hk.2) (.bool ((rd_T72 x4_25 x12_5).f2))) (fun _ hk => hk.2) (.bool ((rd_T72 x4_25 x12_5).f3))) (fun _ hk => hk.2) (.int .i64 ((rd_T72 x4_25 x12_5).f4))) (fun _ hk => ⟨hk.1.1, hk.1.2⟩)⟩
           have n1_ : Aside0 (Kd.R k72 72 (((((w84.setCell ⟨gb1, 0, none⟩ (.string ((rd_T72 x4_25 x12_5).f0))).setCell ⟨gb1, 1, none⟩ (.int .i64 ((rd_T72 x4_25 x12_5).f1))).setCell ⟨gb1, 2, none⟩ (.bool ((rd_T72 x4_25 x12_5).f2))).setCell ⟨gb1, 3, none⟩ (.bool ((rd_T72 x4_25 x12_5).f3))).setCell ⟨gb1, 4, none⟩ (.int .i64 ((rd_T72 x4_25 x12_5).f4))) w.heap.size (fun k_ => some k_ ≠ (.slice (some ad655) x4_25.length co83 : Value).ownBlock ∧ k_ ≠ gb1) u10 x10_5) := ⟨Kd.R_mono (Kd.R_far (p := ⟨gb1, 4, none⟩) (Kd.R_far (p := ⟨gb1, 3, none⟩) (Kd.R_far (p := ⟨gb1, 2, none⟩) (Kd.R_far (p := ⟨gb1, 1, none⟩) (Kd.R_far (p := ⟨gb1, 0, none⟩) (Kd.R_mono HO_10.out (fun k_ hk => (⟨hk, hk.2⟩ : _ ∧ k_ ≠ gb1))) (fun _ hk => hk.2) (.string ((rd_T72 x4_25 x12_5).f0))) (fun _ hk => hk.2) (.int .i64 ((rd_T72 x4_25 x12_5).f1))) (fun _ hk => hk.2) (.bool ((rd_T72 x4_25 x12_5).f2))) (fun _ hk => hk.2) (.bool ((rd_T72 x4_25 x12_5).f3))) (fun _ hk => hk.2) (.int .i64 ((rd_T72 x4_25 x12_5).f4))) (fun _ hk => ⟨hk.1.1, hk.1.2⟩)⟩
           have n2_ : Aside0 ((((((w84.setCell ⟨gb1, 0, none⟩ (.string ((rd_T72 x4_25 x12_5).f0))).setCell ⟨gb1, 1, none⟩ (.int .i64 ((rd_T72 x4_25 x12_5).f1))).setCell ⟨gb1, 2, none⟩ (.bool ((rd_T72 x4_25 x12_5).f2))).setCell ⟨gb1, 3, none⟩ (.bool ((rd_T72 x4_25 x12_5).f3))).setCell ⟨gb1, 4, none⟩ (.int .i64 ((rd_T72 x4_25 x12_5).f4))).heap[gb1]? = some (.cells #[.string ((rd_T72 x4_25 x12_5).f0), .int .i64 ((rd_T72 x4_25 x12_5).f1), .bool ((rd_T72 x4_25 x12_5).f2), .bool ((rd_T72 x4_25 x12_5).f3), .int .i64 ((rd_T72 x4_25 x12_5).f4)] 72 (0, 0))) := ⟨by refine blk_put (cs := #[.string ((rd_T72 x4_25 x12_5).f0), .int .i64 ((rd_T72 x4_25 x12_5).f1), .bool ((rd_T72 x4_25 x12_5).f2), .bool ((rd_T72 x4_25 x12_5).f3), .int .i64 0]) ?_ 4 _ rfl; refine blk_put (cs := #[.string ((rd_T72 x4_25 x12_5).f0), .int .i64 ((rd_T72 x4_25 x12_5).f1), .bool ((rd_T72 x4_25 x12_5).f2), .bool false, .int .i64 0]) ?_ 3 _ rfl; refine blk_put (cs := #[.string ((rd_T72 x4_25 x12_5).f0), .int .i64 ((rd_T72 x4_25 x12_5).f1), .bool false, .bool false, .int .i64 0]) ?_ 2 _ rfl; refine blk_put (cs := #[.string ((rd_T72 x4_25 x12_5).f0), .int .i64 0, .bool false, .bool false, .int .i64 0]) ?_ 1 _ rfl; refine blk_put (cs := #[.string (⟨#[]⟩ : ByteArray), .int .i64 0, .bool false, .bool false, .int .i64 0]) ?_ 0 _ rfl; exact BK1.out⟩
           have n3_ : Aside0 (Below w.heap.size w (((((w84.setCell ⟨gb1, 0, none⟩ (.string ((rd_T72 x4_25 x12_5).f0))).setCell ⟨gb1, 1, none⟩ (.int .i64 ((rd_T72 x4_25 x12_5).f1))).setCell ⟨gb1, 2, none⟩ (.bool ((rd_T72 x4_25 x12_5).f2))).setCell ⟨gb1, 3, none⟩ (.bool ((rd_T72 x4_25 x12_5).f3))).setCell ⟨gb1, 4, none⟩ (.int .i64 ((rd_T72 x4_25 x12_5).f4)))) := ⟨hO HB⟩
           (try clear HO_4)
           (try clear HO_10)
           (try clear BK1)
           (try clear HB)
           generalize (((((w84.setCell ⟨gb1, 0, none⟩ (.string ((rd_T72 x4_25 x12_5).f0))).setCell ⟨gb1, 1, none⟩ (.int .i64 ((rd_T72 x4_25 x12_5).f1))).setCell ⟨gb1, 2, none⟩ (.bool ((rd_T72 x4_25 x12_5).f2))).setCell ⟨gb1, 3, none⟩ (.bool ((rd_T72 x4_25 x12_5).f3))).setCell ⟨gb1, 4, none⟩ (.int .i64 ((rd_T72 x4_25 x12_5).f4))) = w86 at n0_ n1_ n2_ n3_ ⊢
           have HO_4 := n0_
           have HO_10 := n1_
           have BK1 := n2_
           have HB := n3_
           clear n0_ n1_ n2_ n3_
           replace HO_4 := Aside0.mk (Kd.R_drew HO_4.out); replace HO_10 := Aside0.mk (Kd.R_drew HO_10.out); replace BK1 := Aside0.mk (blk_drew BK1.out); replace HB := Aside0.mk (below_drew1 HB.out)
           have p668 : 0 ≤ (0 : Int) := (by omega)
           have q668 : 0 < (l0.length : Int) := of_decide_eq_true (by assumption)
           obtain ⟨ad668, e668, hx668_0, hx668_1, hx668_2, hx668_3⟩ := at_T43 HR0.out 0 p668 q668
           have hw668_3 := hx668_3
           (try rw [show ((0 : Int)).toNat = 0 from rfl] at hw668_3)
           (try rw [show 0 * 4 = 0 from rfl] at hw668_3)
           (try rw [Addr.add_zero'] at hw668_3)
           have hw668_2 := hx668_2
           (try rw [show ((0 : Int)).toNat = 0 from rfl] at hw668_2)
           (try rw [show 0 * 4 = 0 from rfl] at hw668_2)
           (try rw [Addr.add_zero'] at hw668_2)
           have hw668_1 := hx668_1
           (try rw [show ((0 : Int)).toNat = 0 from rfl] at hw668_1)
           (try rw [show 0 * 4 = 0 from rfl] at hw668_1)
           (try rw [Addr.add_zero'] at hw668_1)
           have hw668_0 := hx668_0
           (try rw [show ((0 : Int)).toNat = 0 from rfl] at hw668_0)
           (try rw [show 0 * 4 = 0 from rfl] at hw668_0)
           (try rw [Addr.add_zero'] at hw668_0)
           obtain rfl : ad629 = ad668 := (by injection e668)
           have qi668 : (0 < l0.length) = True := eq_true (by omega)
           (try rw [show ((0 : Int)).toNat = 0 from rfl] at hx668_0)
           (try rw [show 0 * 4 = 0 from rfl] at hx668_0)
           (try rw [Addr.add_zero'] at hx668_0)
           (try rw [show ((0 : Int)).toNat = 0 from rfl] at hx668_1)
           (try rw [show 0 * 4 = 0 from rfl] at hx668_1)
           (try rw [Addr.add_zero'] at hx668_1)
           (try rw [show ((0 : Int)).toNat = 0 from rfl] at hx668_2)
           (try rw [show 0 * 4 = 0 from rfl] at hx668_2)
           (try rw [Addr.add_zero'] at hx668_2)
           (try rw [show ((0 : Int)).toNat = 0 from rfl] at hx668_3)
           (try rw [show 0 * 4 = 0 from rfl] at hx668_3)
           (try rw [Addr.add_zero'] at hx668_3)
           replace hx668_0 := mHx HB hx668_0
           replace hx668_1 := mHx HB hx668_1
           replace hx668_2 := mHx HB hx668_2
           replace hx668_3 := mHx HB hx668_3
           replace p668 := eq_true p668
           replace q668 := eq_true q668
           refine start_ (n := 9) (S := fun w' => w'.cell? ⟨gb1, 0, none⟩ = some (.string ((rd_T72 x4_25 x12_5).f0)) ∧ w'.cell? ⟨gb1, 1, none⟩ = some (.int .i64 ((rd_T72 x4_25 x12_5).f1)) ∧ w'.cell? ⟨gb1, 2, none⟩ = some (.bool ((rd_T72 x4_25 x12_5).f2)) ∧ w'.cell? ⟨gb1, 3, none⟩ = some (.bool ((rd_T72 x4_25 x12_5).f3)) ∧ w'.cell? ⟨gb1, 4, none⟩ = some (.int .i64 ((rd_T72 x4_25 x12_5).f4)) ∧ w'.cell? ad629 = some (.int .i64 ((rd_T43 l0 0).f0)) ∧ w'.cell? ⟨ad629.block, ad629.off + 1, none⟩ = some (.string ((rd_T43 l0 0).f1)) ∧ w'.cell? ⟨ad629.block, ad629.off + 2, none⟩ = some (.int .i64 ((rd_T43 l0 0).f2)) ∧ w'.cell? ⟨ad629.block, ad629.off + 3, none⟩ = some (.int .i64 ((rd_T43 l0 0).f3))) (ds := [8]) #[false, false, false, false, false, false, false, false, false] (by kernel_rfl) rfl rfl ⟨(blk_cell BK1.out 0).trans rfl, (blk_cell BK1.out 1).trans rfl, (blk_cell BK1.out 2).trans rfl, (blk_cell BK1.out 3).trans rfl, (blk_cell BK1.out 4).trans rfl, ((HB.out.cell (World.block_lt_of_cell? w _ hw668_0)).trans hw668_0), ((HB.out.cell (World.block_lt_of_cell? w _ hw668_1)).trans hw668_1), ((HB.out.cell (World.block_lt_of_cell? w _ hw668_2)).trans hw668_2), ((HB.out.cell (World.block_lt_of_cell? w _ hw668_3)).trans hw668_3)⟩ (fun hHeld => ?_); refine with_tabW dancestudioref35_Leaves.tab34 dancestudioref35_Leaves.bits34 (fun HT_ HW_ => ?_)
           generalize w86.drew = w87 at HO_4 HO_10 BK1 HB hx668_0 hx668_1 hx668_2 hx668_3 hHeld ⊢
           refine pM 0 112 HT_ ?_
           refine pM 2 114 HT_ ?_
           refine pM 3 115 HT_ ?_
           refine pM 4 116 HT_ ?_
           refine tM 1 113 rfl HT_ HW_ (by rintro w' ⟨s0, s1, s2, s3, s4, s5, s6, s7, s8⟩; go_simp; with_reducible rfl) hHeld ?_
           refine tM 5 117 rfl HT_ HW_ (by rintro w' ⟨s0, s1, s2, s3, s4, s5, s6, s7, s8⟩; go_simp; with_reducible rfl) hHeld ?_
           refine pM 6 118 HT_ ?_
           refine pM 7 119 HT_ ?_
           refine last_ (i := 8) (N := none) #[true, true, true, true, true, true, true, true, true] rfl rfl (one_of HT_.out (by kernel_rfl)) (by decide) (fun K hK => ?_)
           have hs88 : w87.cell? ⟨gb1, 4, none⟩ = some (.int .i64 ((rd_T72 x4_25 x12_5).f4)) := (blk_cell BK1.out 4).trans rfl
           have hfs88 := blk_frozen BK1.out 4
           refine skip_ (w1 := ?_) (by rfl) rfl ?_ ?_
           rotate_left
           ·
            go_simp
            rfl
           refine hK.out _ _ ?_
           clear hK K
           refine done_ (done_of HT_.out (by kernel_rfl)) ?_
           have hcz89 := blk_cell BK1.out; have hfz89 := blk_frozen BK1.out
           try go_wp2_with (first | ((with_reducible refine gate_builtin (b := .append) (xs := #[.tmp 123, .tmp 125]) rfl ?_); at_builtin; refine Kd.R_append k72 (w0 := w) w.heap.size rfl (.tmp 123) (.tmp 125) 67 72 (.agg #[(.string ⟨#[]⟩), (.int .i64 0), (.bool false), (.bool false), (.int .i64 0)]) 40 rfl Tryd.underlying67 info72 rfl (by decide) (by omega) u10 x10_5 (⟨(rd_T72 x4_25 x12_5).f0, (rd_T72 x4_25 x12_5).f1, (rd_T72 x4_25 x12_5).f2, (rd_T72 x4_25 x12_5).f3, wrap64 (((rd_T72 x4_25 x12_5).f4) * ((rd_T43 l0 0).f2))⟩ : S72) [.string ((rd_T72 x4_25 x12_5).f0), .int .i64 ((rd_T72 x4_25 x12_5).f1), .bool ((rd_T72 x4_25 x12_5).f2), .bool ((rd_T72 x4_25 x12_5).f3), .int .i64 (wrap64 (((rd_T72 x4_25 x12_5).f4) * ((rd_T43 l0 0).f2)))] (fun k_ => some k_ ≠ (.slice (some ad655) x4_25.length co83 : Value).ownBlock ∧ k_ ≠ gb1) (fun _ => False) rfl (by first | (go_simp; done) | (go_simp; rfl)) ?aP (fun _ hk => hk.elim) ?aF ?aO ?aB ?aS ?aL ?_; (case aP => exact k72_mkM _ _ _ (⟨(rd_T72 x4_25 x12_5).f0, (rd_T72 x4_25 x12_5).f1, (rd_T72 x4_25 x12_5).f2, (rd_T72 x4_25 x12_5).f3, wrap64 (((rd_T72 x4_25 x12_5).f4) * ((rd_T43 l0 0).f2))⟩ : S72)); (case aB => exact (hO HB)); (case aF => exact (fun k_ hk => ⟨Kd.fresh' (Kd.R_lt (by exact (Kd.R_mono (Kd.R_far (p := ⟨gb1, 4, none⟩) (Kd.R_mono HO_4.out (fun k_ hk => (⟨hk, hk.2⟩ : _ ∧ k_ ≠ gb1))) (fun _ hk => hk.2) (.int .i64 (wrap64 (((rd_T72 x4_25 x12_5).f4) * ((rd_T43 l0 0).f2))))) (fun _ h_ => h_.1)))) k_ hk, Kd.freshB (g := gb1) (o := .cells #[.string ((rd_T72 x4_25 x12_5).f0), .int .i64 ((rd_T72 x4_25 x12_5).f1), .bool ((rd_T72 x4_25 x12_5).f2), .bool ((rd_T72 x4_25 x12_5).f3), .int .i64 (wrap64 (((rd_T72 x4_25 x12_5).f4) * ((rd_T43 l0 0).f2)))] 72 (0, 0)) (by refine blk_put (cs := #[.string ((rd_T72 x4_25 x12_5).f0), .int .i64 ((rd_T72 x4_25 x12_5).f1), .bool ((rd_T72 x4_25 x12_5).f2), .bool ((rd_T72 x4_25 x12_5).f3), .int .i64 ((rd_T72 x4_25 x12_5).f4)]) ?_ 4 _ rfl; exact BK1.out) k_ hk⟩)); (case aO => exact (by exact Kd.R_mono (Kd.R_far (p := ⟨gb1, 4, none⟩) (Kd.R_mono HO_10.out (fun k_ hk => (⟨hk, hk.2⟩ : _ ∧ k_ ≠ gb1))) (fun _ hk => hk.2) (.int .i64 (wrap64 (((rd_T72 x4_25 x12_5).f4) * ((rd_T43 l0 0).f2))))) (fun _ hk => ⟨hk.1.1, hk.1.2⟩))); (case aS => exact (below_size (hO HB))); (case aL => have := LMc82.out; omega); intro v670 w90 ho hb hg hat; rw [← Ny669.out] at ho; replace HO_4 := Aside0.mk (Kd.R_after (ok := (fun k_ => k_ ≠ gb1)) (by exact Kd.R_mono (Kd.R_far (p := ⟨gb1, 4, none⟩) (Kd.R_mono HO_4.out (fun k_ hk => (⟨hk, hk.2⟩ : _ ∧ k_ ≠ gb1))) (fun _ hk => hk.2) (.int .i64 (wrap64 (((rd_T72 x4_25 x12_5).f4) * ((rd_T43 l0 0).f2))))) (fun _ hk => ⟨hk.1.2, hk.1.1⟩)) hg hat); replace BK1 := Aside0.mk (blk_grown (g := gb1) (o := .cells #[.string ((rd_T72 x4_25 x12_5).f0), .int .i64 ((rd_T72 x4_25 x12_5).f1), .bool ((rd_T72 x4_25 x12_5).f2), .bool ((rd_T72 x4_25 x12_5).f3), .int .i64 (wrap64 (((rd_T72 x4_25 x12_5).f4) * ((rd_T43 l0 0).f2)))] 72 (0, 0)) (by refine blk_put (cs := #[.string ((rd_T72 x4_25 x12_5).f0), .int .i64 ((rd_T72 x4_25 x12_5).f1), .bool ((rd_T72 x4_25 x12_5).f2), .bool ((rd_T72 x4_25 x12_5).f3), .int .i64 ((rd_T72 x4_25 x12_5).f4)]) ?_ 4 _ rfl; exact BK1.out) hg (Kd.R_away HO_10.out (fun _ hk => hk.2))); replace HB := Aside0.mk hb; have HO671 := Aside0.mk ho; clear HO_10; clear ho hb hg hat))
           go_roundg k5
           case measure => have := HK1.out; have := HJ21.out; have := HJ25.out; have := HK4.out; have := HK5.out; omega
           case rel => exact ⟨(y669), (wrap64 (x12_5 + 1)), rfl, H', ⟨by have := HK1.out; have := HJ21.out; have := HJ25.out; have := HK4.out; have := HK5.out; omega⟩, ⟨Kd.R_mono HO_4.out (fun _ hk => hk.2)⟩, ⟨Kd.R_mono HO671.out (fun _ hk => hk.1)⟩, ⟨HB.out⟩⟩
end Go.Proofs.YtimikhbnihedkaaDoor.PAll
