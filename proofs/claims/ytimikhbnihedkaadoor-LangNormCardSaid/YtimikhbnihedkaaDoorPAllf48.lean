-- Written by wip/tools/handprint.py: walks of the functions that the law reaches; Lean checks them.
import Derived.Test.YtimikhbnihedkaaDoorMC0
import Derived.Test.YtimikhbnihedkaaDoorPAllf33
import Derived.Test.YtimikhbnihedkaaDoorPAllf55
namespace Go.Proofs.YtimikhbnihedkaaDoor.PAll
open Go.RowKit Go.Proofs.YtimikhbnihedkaaDoorW.PrintWords Go.Proofs.YtimikhbnihedkaaDoorW.PrintLast Go.Proofs.YtimikhbnihedkaaDoorW.PrintMore
attribute [local go_sem] max2_int min2_int max_two min_two max_three min_three max_four min_four   -- for this text's walks alone
set_option linter.unusedVariables false
set_option linter.unusedSimpArgs false

/-! ### dancestudioref35_long: function 48 -/
mutual
def dancestudioref35_long.l0 : Nat → List (S43) → List ByteArray → List Int → Int → List (List (S43)) → Int → Option (Int)
 | 0, _, _, _, _, _, _ => none
 | k + 1, x0, x1, x2, x7, x8, x9 => if x9 < (x8.length : Int) then (if 0 ≤ x9 then ((dancestudioref35_long.f k (rd_L3 x8 x9) x1 x2).bind fun t762 => (dancestudioref35_long.l0 k x0 x1 x2 (mn (wrap64 (x7 + t762)) 8193) x8 (wrap64 (x9 + 1)))) else (none)) else (if 0 < (x0.length : Int) then (if ((rd_T43 x0 0).f0) = 6 then (some (mn (wrap64 (x7 * ((rd_T43 x0 0).f2))) 8193)) else (if ((rd_T43 x0 0).f0) = 7 then (some (mn (wrap64 (x7 * ((rd_T43 x0 0).f2))) 8193)) else (some x7))) else (none))
def dancestudioref35_long.f : Nat → List (S43) → List ByteArray → List Int → Option (Int)
 | 0, _, _, _ => none
 | k + 1, l0, l1, l2 => if 0 < (l0.length : Int) then (if ((rd_T43 l0 0).f0) = 1 then ((dancestudioref35_index.f k l1 ((rd_T43 l0 0).f1)).bind fun t752 => (if 0 ≤ t752 then (if t752 < (l2.length : Int) then (some (rd l2 t752)) else (none)) else (none))) else (if 1 ≤ (l0.length : Int) then ((dancestudioref35_arguments.f k (l0.drop 1)).bind fun t758 => (dancestudioref35_long.l0 k l0 l1 l2 0 t758 0)) else (none))) else (none)
end
set_option maxHeartbeats 8000000 in
set_option maxRecDepth 100000 in
theorem dancestudioref35_long.calls (k : Nat) : ∀ (A0 : Option Addr) (c0 : Nat) (l0 : List (S43)) (A1 : Option Addr) (c1 : Nat) (l1 : List ByteArray) (A2 : Option Addr) (c2 : Nat) (l2 : List Int) (r : Int) (w : World) (hr0 : Kd.C k43 w A0 l0.length l0) (hc0 : l0.length ≤ c0) (hr1 : Kd.C Kd.string w A1 l1.length l1) (hc1 : l1.length ≤ c1) (hr2 : Kd.C (Kd.int .i64) w A2 l2.length l2) (hc2 : l2.length ≤ c2) (h : dancestudioref35_long.f k l0 l1 l2 = some r),
  Calls Tryd.prog 48 #[.slice A0 l0.length c0, .slice A1 l1.length c1, .slice A2 l2.length c2] w fun e w' => e = .returned (.int .i64 r) ∧ Below w.heap.size w w' := by
 induction k using Nat.strongRecOn with
 | _ k ih =>
 intro A0 c0 l0 A1 c1 l1 A2 c2 l2 r w hr0 hc0 hr1 hc1 hr2 hc2 h
 cases k with
 | zero => exact absurd h (by simp [dancestudioref35_long.f])
 | succ k =>
 simp only [dancestudioref35_long.f] at h
 have HR0 := Aside0.mk hr0
 have HC0 := Aside0.mk hc0
 clear hr0 hc0
 have HR1 := Aside0.mk hr1
 have HC1 := Aside0.mk hc1
 clear hr1 hc1
 have HR2 := Aside0.mk hr2
 have HC2 := Aside0.mk hc2
 clear hr2 hc2
 have HB := Aside0.mk (Below.refl w.heap.size w)
 have H := h
 unfold dancestudioref35_long.f at H
 clear h
 obtain ⟨c4, H⟩ : (0 < (l0.length : Int)) ∧ _ := mIf H
 have c4b0 := decide_eq_true c4
 have c4b1 : decide (0 < l0.length) = true := decide_eq_true (by omega)
 clear c4
 by_cases c5 : ((rd_T43 l0 0).f0) = 1
 ·
  rw [if_pos c5] at H
  have c5b0 := beq_iff_eq.mpr c5
  have c5b1 := bne_eq_false_iff_eq.mpr c5
  clear c5
  replace H := Option.bind_eq_some_iff.mp H
  obtain ⟨t752, A60, H⟩ := H
  try dsimp only at H
  have A6 := Aside0.mk A60
  clear A60
  obtain ⟨c7, H⟩ : (0 ≤ t752) ∧ _ := mIf H
  have c7b0 := decide_eq_true c7
  clear c7
  obtain ⟨c8, H⟩ : (t752 < (l2.length : Int)) ∧ _ := mIf H
  have c8b0 := decide_eq_true c8
  clear c8
  obtain rfl := Option.some.inj H
  have p750 : 0 ≤ (0 : Int) := (by omega)
  have q750 : 0 < (l0.length : Int) := of_decide_eq_true (by assumption)
  obtain ⟨ad750, e750, hx750_0, hx750_1, hx750_2, hx750_3⟩ := at_T43 HR0.out 0 p750 q750
  cases e750
  have qi750 : (0 < l0.length) = True := eq_true (by omega)
  (try rw [show ((0 : Int)).toNat = 0 from rfl] at hx750_0)
  (try rw [show 0 * 4 = 0 from rfl] at hx750_0)
  (try rw [Addr.add_zero'] at hx750_0)
  (try rw [show ((0 : Int)).toNat = 0 from rfl] at hx750_1)
  (try rw [show 0 * 4 = 0 from rfl] at hx750_1)
  (try rw [Addr.add_zero'] at hx750_1)
  (try rw [show ((0 : Int)).toNat = 0 from rfl] at hx750_2)
  (try rw [show 0 * 4 = 0 from rfl] at hx750_2)
  (try rw [Addr.add_zero'] at hx750_2)
  (try rw [show ((0 : Int)).toNat = 0 from rfl] at hx750_3)
  (try rw [show 0 * 4 = 0 from rfl] at hx750_3)
  (try rw [Addr.add_zero'] at hx750_3)
  replace p750 := eq_true p750
  replace q750 := eq_true q750
  have p751 : 0 ≤ (0 : Int) := (by omega)
  have q751 : 0 < (l0.length : Int) := of_decide_eq_true (by assumption)
  obtain ⟨ad751, e751, hx751_0, hx751_1, hx751_2, hx751_3⟩ := at_T43 HR0.out 0 p751 q751
  obtain rfl : ad750 = ad751 := (by injection e751)
  have qi751 : (0 < l0.length) = True := eq_true (by omega)
  (try rw [show ((0 : Int)).toNat = 0 from rfl] at hx751_0)
  (try rw [show 0 * 4 = 0 from rfl] at hx751_0)
  (try rw [Addr.add_zero'] at hx751_0)
  (try rw [show ((0 : Int)).toNat = 0 from rfl] at hx751_1)
  (try rw [show 0 * 4 = 0 from rfl] at hx751_1)
  (try rw [Addr.add_zero'] at hx751_1)
  (try rw [show ((0 : Int)).toNat = 0 from rfl] at hx751_2)
  (try rw [show 0 * 4 = 0 from rfl] at hx751_2)
  (try rw [Addr.add_zero'] at hx751_2)
  (try rw [show ((0 : Int)).toNat = 0 from rfl] at hx751_3)
  (try rw [show 0 * 4 = 0 from rfl] at hx751_3)
  (try rw [Addr.add_zero'] at hx751_3)
  replace p751 := eq_true p751
  replace q751 := eq_true q751
  go_enter Tryd.func48, Tryd.ntmps48
  go_wp2_with (first | ((with_reducible refine gate_callee (f := 33) rfl ?_); refine goesL_ (some 21) rfl rfl Tryd.func33 (by kernel_rfl) rfl #[.slice A1 l1.length c1, .string ((rd_T43 l0 0).f1)] rfl (mA2 rfl rfl) ?_; (with_reducible refine (dancestudioref35_index.calls k _ _ l1 ((rd_T43 l0 0).f1) t752 _ HR1.out HC1.out A6.out).mono ?_); rintro e w' ⟨rfl, ⟨nd, rfl⟩⟩; refine ⟨_, rfl, ?_⟩; have p753 : 0 ≤ (t752 : Int) := of_decide_eq_true (by assumption); have q753 : t752 < (l2.length : Int) := of_decide_eq_true (by assumption); obtain ⟨ad753, e753, hx753_0⟩ := Kd.at_int HR2.out t752 p753 q753; cases e753; replace p753 := eq_true p753; replace q753 := eq_true q753))
  go_ret
  exact ⟨rfl, hO HB⟩
 rw [if_neg c5] at H
 have c5b0 := beq_eq_false_iff_ne.mpr c5
 have c5b1 := bne_iff_ne.mpr c5
 obtain ⟨c9, H⟩ : (1 ≤ (l0.length : Int)) ∧ _ := mIf H
 have c9b0 := eq_true c9
 have c9b1 := decide_eq_true c9
 clear c9
 obtain ⟨y754, hy754⟩ : ∃ y_ : List (S43), y_ = (l0.drop 1) := ⟨_, rfl⟩
 rw [← hy754] at H
 have Ny754 := Aside0.mk hy754
 clear hy754
 replace H := Option.bind_eq_some_iff.mp H
 obtain ⟨t758, A100, H⟩ := H
 try dsimp only at H
 have A10 := Aside0.mk A100
 clear A100
 have H' := Aside0.mk H
 clear H
 have p750 : 0 ≤ (0 : Int) := (by omega)
 have q750 : 0 < (l0.length : Int) := of_decide_eq_true (by assumption)
 obtain ⟨ad750, e750, hx750_0, hx750_1, hx750_2, hx750_3⟩ := at_T43 HR0.out 0 p750 q750
 cases e750
 have qi750 : (0 < l0.length) = True := eq_true (by omega)
 (try rw [show ((0 : Int)).toNat = 0 from rfl] at hx750_0)
 (try rw [show 0 * 4 = 0 from rfl] at hx750_0)
 (try rw [Addr.add_zero'] at hx750_0)
 (try rw [show ((0 : Int)).toNat = 0 from rfl] at hx750_1)
 (try rw [show 0 * 4 = 0 from rfl] at hx750_1)
 (try rw [Addr.add_zero'] at hx750_1)
 (try rw [show ((0 : Int)).toNat = 0 from rfl] at hx750_2)
 (try rw [show 0 * 4 = 0 from rfl] at hx750_2)
 (try rw [Addr.add_zero'] at hx750_2)
 (try rw [show ((0 : Int)).toNat = 0 from rfl] at hx750_3)
 (try rw [show 0 * 4 = 0 from rfl] at hx750_3)
 (try rw [Addr.add_zero'] at hx750_3)
 replace p750 := eq_true p750
 replace q750 := eq_true q750
 have q11 : (1 : Int) ≤ ((l0.length : Int) : Int) := of_decide_eq_true (by assumption)
 obtain ⟨i011, hi011, _, hsz11, _⟩ := info_parts info43
 have hroom11 : l0.length ≤ c0 := HC0.out
 have hC11 : Kd.C k43 _ (some ad750) l0.length l0 := HR0.out
 have hcut11 := cut_from (P := Tryd.prog) 22 43 .i64 Tryd.underlying22 hi011 4 hsz11 (some ad750) l0.length c0 1 (by omega) q11
 have hr11 := Kd.C_drop (m := (1 : Int).toNat) (c := c0) hC11 (by omega) hroom11
 obtain ⟨A11, hA11⟩ : ∃ A1, A1 = (if c0 = (1 : Int).toNat then (some ad750) else ((some ad750) : Option Addr).map (·.add ((1 : Int).toNat * 4))) := ⟨_, rfl⟩
 obtain ⟨c11, hc11⟩ : ∃ c1, c1 = c0 - (1 : Int).toNat := ⟨_, rfl⟩
 have hy11 : y754.length = l0.length - (1 : Int).toNat := (by rw [Ny754.out, List.length_drop] <;> omega)
 rw [show (l0).drop (1 : Int).toNat = y754 from Ny754.out.symm] at hr11
 replace hr11 : Kd.C k43 _ A11 y754.length y754 := (by rw [hA11]; exact hr11)
 rw [← hy11, ← hA11, ← hc11] at hcut11
 have HR757 := Aside0.mk hr11
 have HC757 := Aside0.mk (show y754.length ≤ c11 from by rw [hy11, hc11]; exact Nat.sub_le_sub_right hroom11 _)
 clear hr11 hC11 hroom11 hi011 hsz11 hc11
 have KY11 := Aside0.mk hy11
 have KA11 := Aside0.mk hA11
 clear hy11 hA11
 replace q11 := eq_true q11
 go_enter Tryd.func48, Tryd.ntmps48
 go_wp2_with (first | ((with_reducible refine gate_callee (f := 55) rfl ?_); refine goesL_ (some 26) rfl rfl Tryd.func55 (by kernel_rfl) rfl #[.slice A11 y754.length c11] rfl (mA1 rfl) ?_; (with_reducible refine (dancestudioref35_arguments.calls k (fun k_ => k_ < w.heap.size) _ _ y754 t758 _ (Kd.V_mk HC757.out (Kd.F_below (Kd.C_F k43_heap HR757.out) HB.out)) A10.out).mono ?_); rintro e w12 ⟨v759, rfl, ho0, hb⟩; refine ⟨_, rfl, ?_⟩; have HO760 := Aside0.mk (Kd.N_lower (Kd.N_mono (ok' := fun k_ => True) ho0 (fun k_ hk_ => trivial)) (below_size HB.out)); replace HB := mSt HB hb; (try clear hb); (try clear ho0)))
 go_loopg [7, 9] k (fun kq v7 v9 w' => ∃ (x7_1 : Int) (x9_1 : Int), v7 = .int .i64 x7_1 ∧ v9 = .int .i64 x9_1 ∧ Aside0 (dancestudioref35_long.l0 kq l0 l1 l2 x7_1 t758 x9_1 = some r) ∧ Aside0 (kq ≤ k) ∧ Aside0 (Kd.N (Kd.slice 43 k43) 22 w' w.heap.size (fun _ => True) v759 t758) ∧ Aside0 (Below w.heap.size w w'))
 case atStart => exact ⟨(0), (0), rfl, rfl, H', ⟨Nat.le_refl _⟩, HO760, ⟨HB.out⟩⟩
 case round =>
  clear H'
  try clear c1; try clear q1; try clear c2; try clear p2; try clear c3; try clear c4; try clear c4b0; try clear c4b1; try clear c5; try clear c5b0; try clear c5b1; try clear c7; try clear c7b0; try clear p7; try clear q7; try clear hx7; try clear qi7; try clear c8; try clear c8b0; try clear c9; try clear c9b0; try clear c9b1; try clear c11; try clear q11; try clear hx750_0; try clear hx750_1; try clear hx750_2; try clear hx750_3; try clear hx751_0; try clear hx751_1; try clear hx751_2; try clear hx751_3; try clear hx753_0; try clear p750; try clear p751; try clear p753; try clear q750; try clear q751; try clear q753
  obtain ⟨x7_1, x9_1, rfl, rfl, HA, HK1, HO_8, HB⟩ := hrel
  cases gk with
  | zero => exact absurd HA.out (by simp [dancestudioref35_long.l0])
  | succ k1 =>
   have H := HA.out
   clear HA
   simp only [dancestudioref35_long.l0] at H
   by_cases c13 : x9_1 < (t758.length : Int)
   ·
    rw [if_pos c13] at H
    have c13b0 := decide_eq_true c13
    clear c13
    obtain ⟨c14, H⟩ : (0 ≤ x9_1) ∧ _ := mIf H
    have c14b0 := decide_eq_true c14
    clear c14
    replace H := Option.bind_eq_some_iff.mp H
    obtain ⟨t762, A150, H⟩ := H
    try dsimp only at H
    have A15 := Aside0.mk A150
    clear A150
    obtain ⟨ji16, hji16⟩ : ∃ j_ : Int, (mn (wrap64 (x7_1 + t762)) 8193) = j_ := ⟨_, rfl⟩
    replace H : (dancestudioref35_long.l0 k1 l0 l1 l2 ji16 t758 (wrap64 (x9_1 + 1))) = some r := by first | (rw [hji16] at H; exact H) | (simp only [hji16] at H ⊢; exact H)
    (try rw [hji16] at A15)
    have hji16_ : (if 8193 < (wrap64 (x7_1 + t762)) then 8193 else (wrap64 (x7_1 + t762))) = ji16 := hji16
    have H' := Aside0.mk H
    clear H
    obtain ⟨Ao17, co17, eo17⟩ := Kd.N_slice HO_8.out
    subst eo17
    have p761 : 0 ≤ (x9_1 : Int) := of_decide_eq_true (by assumption)
    have q761 : x9_1 < (t758.length : Int) := of_decide_eq_true (by assumption)
    obtain ⟨ad761, A761_0, c761_0, e761, hx761_0, hl761_0, hi761_0⟩ := at_L3 (Kd.N_reads' HO_8.out).2.2 x9_1 p761 q761
    cases e761
    obtain ⟨ce761, hce761, hMe761, hcc761⟩ := Kd.N_get HO_8.out [] x9_1 p761 (by first | exact q761 | exact of_decide_eq_true (by assumption) | (have e_ := (Kd.N_reads' HO_8.out).1; omega))
    obtain ⟨ua761_0, uc761_0, rfl, ul761_0, ge761_0⟩ := Kd.FK_slice_open hMe761
    have hv761_0 := hcc761 0 _ rfl
    rw [Nat.add_zero, show ((Kd.slice 43 k43)).sz = 1 from rfl, Nat.mul_one] at hv761_0
    replace hv761_0 := Option.some.inj (hv761_0.symm.trans hx761_0)
    injection hv761_0 with hva_ hvn_ hvc_
    rw [hva_] at ge761_0
    rw [hvc_] at ul761_0
    have HL761_0 := Aside0.mk (show Kd.V k43 43 _ w.heap.size _ _ (rd_L3 t758 x9_1) from Kd.V_mk ul761_0 ge761_0)
    clear hva_ hvn_ hvc_ ge761_0 ul761_0
    clear hcc761 hce761
    have HR761_0 := Aside0.mk hi761_0
    have HC761_0 := Aside0.mk hl761_0
    clear hi761_0 hl761_0
    replace p761 := eq_true p761
    replace q761 := eq_true q761
    go_wp2_with (first | ((with_reducible refine gate_callee (f := 48) rfl ?_); refine goesL_ (some 40) rfl rfl Tryd.func48 (by kernel_rfl) rfl #[.slice A761_0 (rd_L3 t758 x9_1).length c761_0, .slice A1 l1.length c1, .slice A2 l2.length c2] rfl (mA3 rfl rfl rfl) ?_; (with_reducible refine (ih k1 (by have := HK1.out; omega) _ _ (rd_L3 t758 x9_1) _ _ l1 _ _ l2 t762 _ ?side1 ?side2 ?side3 ?side4 ?side5 ?side6 A15.out).mono ?_); (case side1 => repeat (first | exact (by repeat (first | (with_reducible exact HR761_0.out) | (with_reducible refine Kd.C_alloc ?_ _) | (with_reducible refine Kd.C_drewN ?_ _) | (with_reducible refine Kd.C_drew ?_) | exact HR761_0.out)) | (with_reducible refine Kd.C_alloc ?_ _) | (with_reducible refine Kd.C_drewN ?_ _) | (with_reducible refine Kd.C_drew ?_))); (case side2 => exact HC761_0.out); (case side3 => exact Kd.C_below HR1.out HB.out); (case side4 => exact HC1.out); (case side5 => exact Kd.C_below HR2.out HB.out); (case side6 => exact HC2.out); rintro e w18 ⟨rfl, hb⟩; refine ⟨_, rfl, ?_⟩; replace HO_8 := Aside0.mk (Kd.N_below HO_8.out hb); replace HL761_0 := Aside0.mk (Kd.V_below HL761_0.out hb); replace HR761_0 := Aside0.mk (Kd.C_below (by repeat (first | (with_reducible exact HR761_0.out) | (with_reducible refine Kd.C_alloc ?_ _) | (with_reducible refine Kd.C_drewN ?_ _) | (with_reducible refine Kd.C_drew ?_) | exact HR761_0.out)) hb); replace HB := mSt HB hb; (try clear hb)))
    go_roundg k1
    case measure => have := HK1.out; omega
    case rel => exact ⟨(ji16), (wrap64 (x9_1 + 1)), (by first | rfl | (simp; done) | (simp only [← hji16] <;> (first | rfl | simp)) | (simp [*]; done)), rfl, H', ⟨by have := HK1.out; omega⟩, HO_8, ⟨HB.out⟩⟩
   rw [if_neg c13] at H
   have c13b0 := decide_eq_false c13
   clear c13
   obtain ⟨c19, H⟩ : (0 < (l0.length : Int)) ∧ _ := mIf H
   have c19b0 := decide_eq_true c19
   have c19b1 : decide (0 < l0.length) = true := decide_eq_true (by omega)
   clear c19
   by_cases c20 : ((rd_T43 l0 0).f0) = 6
   ·
    rw [if_pos c20] at H
    have c20b0 := beq_iff_eq.mpr c20
    have c20b1 := bne_eq_false_iff_eq.mpr c20
    clear c20
    obtain ⟨ji21, hji21⟩ : ∃ j_ : Int, (mn (wrap64 (x7_1 * ((rd_T43 l0 0).f2))) 8193) = j_ := ⟨_, rfl⟩
    replace H : (some ji21) = some r := by first | (rw [hji21] at H; exact H) | (simp only [hji21] at H ⊢; exact H)
    have hji21_ : (if 8193 < (wrap64 (x7_1 * ((rd_T43 l0 0).f2))) then 8193 else (wrap64 (x7_1 * ((rd_T43 l0 0).f2)))) = ji21 := hji21
    obtain rfl := Option.some.inj H
    obtain ⟨Ao22, co22, eo22⟩ := Kd.N_slice HO_8.out
    subst eo22
    have p763 : 0 ≤ (0 : Int) := (by omega)
    have q763 : 0 < (l0.length : Int) := of_decide_eq_true (by assumption)
    obtain ⟨ad763, e763, hx763_0, hx763_1, hx763_2, hx763_3⟩ := at_T43 HR0.out 0 p763 q763
    obtain rfl : ad750 = ad763 := (by injection e763)
    have qi763 : (0 < l0.length) = True := eq_true (by omega)
    (try rw [show ((0 : Int)).toNat = 0 from rfl] at hx763_0)
    (try rw [show 0 * 4 = 0 from rfl] at hx763_0)
    (try rw [Addr.add_zero'] at hx763_0)
    (try rw [show ((0 : Int)).toNat = 0 from rfl] at hx763_1)
    (try rw [show 0 * 4 = 0 from rfl] at hx763_1)
    (try rw [Addr.add_zero'] at hx763_1)
    (try rw [show ((0 : Int)).toNat = 0 from rfl] at hx763_2)
    (try rw [show 0 * 4 = 0 from rfl] at hx763_2)
    (try rw [Addr.add_zero'] at hx763_2)
    (try rw [show ((0 : Int)).toNat = 0 from rfl] at hx763_3)
    (try rw [show 0 * 4 = 0 from rfl] at hx763_3)
    (try rw [Addr.add_zero'] at hx763_3)
    replace hx763_0 := mHx HB hx763_0
    replace hx763_1 := mHx HB hx763_1
    replace hx763_2 := mHx HB hx763_2
    replace hx763_3 := mHx HB hx763_3
    replace p763 := eq_true p763
    replace q763 := eq_true q763
    have p764 : 0 ≤ (0 : Int) := (by omega)
    have q764 : 0 < (l0.length : Int) := of_decide_eq_true (by assumption)
    obtain ⟨ad764, e764, hx764_0, hx764_1, hx764_2, hx764_3⟩ := at_T43 HR0.out 0 p764 q764
    obtain rfl : ad750 = ad764 := (by injection e764)
    have qi764 : (0 < l0.length) = True := eq_true (by omega)
    (try rw [show ((0 : Int)).toNat = 0 from rfl] at hx764_0)
    (try rw [show 0 * 4 = 0 from rfl] at hx764_0)
    (try rw [Addr.add_zero'] at hx764_0)
    (try rw [show ((0 : Int)).toNat = 0 from rfl] at hx764_1)
    (try rw [show 0 * 4 = 0 from rfl] at hx764_1)
    (try rw [Addr.add_zero'] at hx764_1)
    (try rw [show ((0 : Int)).toNat = 0 from rfl] at hx764_2)
    (try rw [show 0 * 4 = 0 from rfl] at hx764_2)
    (try rw [Addr.add_zero'] at hx764_2)
    (try rw [show ((0 : Int)).toNat = 0 from rfl] at hx764_3)
    (try rw [show 0 * 4 = 0 from rfl] at hx764_3)
    (try rw [Addr.add_zero'] at hx764_3)
    replace hx764_0 := mHx HB hx764_0
    replace hx764_1 := mHx HB hx764_1
    replace hx764_2 := mHx HB hx764_2
    replace hx764_3 := mHx HB hx764_3
    replace p764 := eq_true p764
    replace q764 := eq_true q764
    go_wp2
    go_ret
    exact ⟨by first | rfl | (simp [errW_none, errW_some] <;> rfl) | (simp only [← hji21]; first | rfl | (simp [errW_none, errW_some] <;> rfl)) | (simp [*, errW_none, errW_some] <;> rfl), HB.out⟩
   rw [if_neg c20] at H
   have c20b0 := beq_eq_false_iff_ne.mpr c20
   have c20b1 := bne_iff_ne.mpr c20
   by_cases c23 : ((rd_T43 l0 0).f0) = 7
   rotate_left
   ·
    rw [if_neg c23] at H
    have c23b0 := beq_eq_false_iff_ne.mpr c23
    have c23b1 := bne_iff_ne.mpr c23
    obtain rfl := Option.some.inj H
    obtain ⟨Ao26, co26, eo26⟩ := Kd.N_slice HO_8.out
    subst eo26
    have p763 : 0 ≤ (0 : Int) := (by omega)
    have q763 : 0 < (l0.length : Int) := of_decide_eq_true (by assumption)
    obtain ⟨ad763, e763, hx763_0, hx763_1, hx763_2, hx763_3⟩ := at_T43 HR0.out 0 p763 q763
    obtain rfl : ad750 = ad763 := (by injection e763)
    have qi763 : (0 < l0.length) = True := eq_true (by omega)
    (try rw [show ((0 : Int)).toNat = 0 from rfl] at hx763_0)
    (try rw [show 0 * 4 = 0 from rfl] at hx763_0)
    (try rw [Addr.add_zero'] at hx763_0)
    (try rw [show ((0 : Int)).toNat = 0 from rfl] at hx763_1)
    (try rw [show 0 * 4 = 0 from rfl] at hx763_1)
    (try rw [Addr.add_zero'] at hx763_1)
    (try rw [show ((0 : Int)).toNat = 0 from rfl] at hx763_2)
    (try rw [show 0 * 4 = 0 from rfl] at hx763_2)
    (try rw [Addr.add_zero'] at hx763_2)
    (try rw [show ((0 : Int)).toNat = 0 from rfl] at hx763_3)
    (try rw [show 0 * 4 = 0 from rfl] at hx763_3)
    (try rw [Addr.add_zero'] at hx763_3)
    replace hx763_0 := mHx HB hx763_0
    replace hx763_1 := mHx HB hx763_1
    replace hx763_2 := mHx HB hx763_2
    replace hx763_3 := mHx HB hx763_3
    replace p763 := eq_true p763
    replace q763 := eq_true q763
    have p765 : 0 ≤ (0 : Int) := (by omega)
    have q765 : 0 < (l0.length : Int) := of_decide_eq_true (by assumption)
    obtain ⟨ad765, e765, hx765_0, hx765_1, hx765_2, hx765_3⟩ := at_T43 HR0.out 0 p765 q765
    obtain rfl : ad750 = ad765 := (by injection e765)
    have qi765 : (0 < l0.length) = True := eq_true (by omega)
    (try rw [show ((0 : Int)).toNat = 0 from rfl] at hx765_0)
    (try rw [show 0 * 4 = 0 from rfl] at hx765_0)
    (try rw [Addr.add_zero'] at hx765_0)
    (try rw [show ((0 : Int)).toNat = 0 from rfl] at hx765_1)
    (try rw [show 0 * 4 = 0 from rfl] at hx765_1)
    (try rw [Addr.add_zero'] at hx765_1)
    (try rw [show ((0 : Int)).toNat = 0 from rfl] at hx765_2)
    (try rw [show 0 * 4 = 0 from rfl] at hx765_2)
    (try rw [Addr.add_zero'] at hx765_2)
    (try rw [show ((0 : Int)).toNat = 0 from rfl] at hx765_3)
    (try rw [show 0 * 4 = 0 from rfl] at hx765_3)
    (try rw [Addr.add_zero'] at hx765_3)
    replace hx765_0 := mHx HB hx765_0
    replace hx765_1 := mHx HB hx765_1
    replace hx765_2 := mHx HB hx765_2
    replace hx765_3 := mHx HB hx765_3
    replace p765 := eq_true p765
    replace q765 := eq_true q765
    go_wp2
    go_ret
    exact ⟨rfl, HB.out⟩
   rw [if_pos c23] at H
   have c23b0 := beq_iff_eq.mpr c23
   have c23b1 := bne_eq_false_iff_eq.mpr c23
   clear c23
   obtain ⟨ji24, hji24⟩ : ∃ j_ : Int, (mn (wrap64 (x7_1 * ((rd_T43 l0 0).f2))) 8193) = j_ := ⟨_, rfl⟩
   replace H : (some ji24) = some r := by first | (rw [hji24] at H; exact H) | (simp only [hji24] at H ⊢; exact H)
   have hji24_ : (if 8193 < (wrap64 (x7_1 * ((rd_T43 l0 0).f2))) then 8193 else (wrap64 (x7_1 * ((rd_T43 l0 0).f2)))) = ji24 := hji24
   obtain rfl := Option.some.inj H
   obtain ⟨Ao25, co25, eo25⟩ := Kd.N_slice HO_8.out
   subst eo25
   have p763 : 0 ≤ (0 : Int) := (by omega)
   have q763 : 0 < (l0.length : Int) := of_decide_eq_true (by assumption)
   obtain ⟨ad763, e763, hx763_0, hx763_1, hx763_2, hx763_3⟩ := at_T43 HR0.out 0 p763 q763
   obtain rfl : ad750 = ad763 := (by injection e763)
   have qi763 : (0 < l0.length) = True := eq_true (by omega)
   (try rw [show ((0 : Int)).toNat = 0 from rfl] at hx763_0)
   (try rw [show 0 * 4 = 0 from rfl] at hx763_0)
   (try rw [Addr.add_zero'] at hx763_0)
   (try rw [show ((0 : Int)).toNat = 0 from rfl] at hx763_1)
   (try rw [show 0 * 4 = 0 from rfl] at hx763_1)
   (try rw [Addr.add_zero'] at hx763_1)
   (try rw [show ((0 : Int)).toNat = 0 from rfl] at hx763_2)
   (try rw [show 0 * 4 = 0 from rfl] at hx763_2)
   (try rw [Addr.add_zero'] at hx763_2)
   (try rw [show ((0 : Int)).toNat = 0 from rfl] at hx763_3)
   (try rw [show 0 * 4 = 0 from rfl] at hx763_3)
   (try rw [Addr.add_zero'] at hx763_3)
   replace hx763_0 := mHx HB hx763_0
   replace hx763_1 := mHx HB hx763_1
   replace hx763_2 := mHx HB hx763_2
   replace hx763_3 := mHx HB hx763_3
   replace p763 := eq_true p763
   replace q763 := eq_true q763
   have p765 : 0 ≤ (0 : Int) := (by omega)
   have q765 : 0 < (l0.length : Int) := of_decide_eq_true (by assumption)
   obtain ⟨ad765, e765, hx765_0, hx765_1, hx765_2, hx765_3⟩ := at_T43 HR0.out 0 p765 q765
   obtain rfl : ad750 = ad765 := (by injection e765)
   have qi765 : (0 < l0.length) = True := eq_true (by omega)
   (try rw [show ((0 : Int)).toNat = 0 from rfl] at hx765_0)
   (try rw [show 0 * 4 = 0 from rfl] at hx765_0)
   (try rw [Addr.add_zero'] at hx765_0)
   (try rw [show ((0 : Int)).toNat = 0 from rfl] at hx765_1)
   (try rw [show 0 * 4 = 0 from rfl] at hx765_1)
   (try rw [Addr.add_zero'] at hx765_1)
   (try rw [show ((0 : Int)).toNat = 0 from rfl] at hx765_2)
   (try rw [show 0 * 4 = 0 from rfl] at hx765_2)
   (try rw [Addr.add_zero'] at hx765_2)
   (try rw [show ((0 : Int)).toNat = 0 from rfl] at hx765_3)
   (try rw [show 0 * 4 = 0 from rfl] at hx765_3)
   (try rw [Addr.add_zero'] at hx765_3)
   replace hx765_0 := mHx HB hx765_0
   replace hx765_1 := mHx HB hx765_1
   replace hx765_2 := mHx HB hx765_2
   replace hx765_3 := mHx HB hx765_3
   replace p765 := eq_true p765
   replace q765 := eq_true q765
   have p766 : 0 ≤ (0 : Int) := (by omega)
   have q766 : 0 < (l0.length : Int) := of_decide_eq_true (by assumption)
   obtain ⟨ad766, e766, hx766_0, hx766_1, hx766_2, hx766_3⟩ := at_T43 HR0.out 0 p766 q766
   obtain rfl : ad750 = ad766 := (by injection e766)
   have qi766 : (0 < l0.length) = True := eq_true (by omega)
   (try rw [show ((0 : Int)).toNat = 0 from rfl] at hx766_0)
   (try rw [show 0 * 4 = 0 from rfl] at hx766_0)
   (try rw [Addr.add_zero'] at hx766_0)
   (try rw [show ((0 : Int)).toNat = 0 from rfl] at hx766_1)
   (try rw [show 0 * 4 = 0 from rfl] at hx766_1)
   (try rw [Addr.add_zero'] at hx766_1)
   (try rw [show ((0 : Int)).toNat = 0 from rfl] at hx766_2)
   (try rw [show 0 * 4 = 0 from rfl] at hx766_2)
   (try rw [Addr.add_zero'] at hx766_2)
   (try rw [show ((0 : Int)).toNat = 0 from rfl] at hx766_3)
   (try rw [show 0 * 4 = 0 from rfl] at hx766_3)
   (try rw [Addr.add_zero'] at hx766_3)
   replace hx766_0 := mHx HB hx766_0
   replace hx766_1 := mHx HB hx766_1
   replace hx766_2 := mHx HB hx766_2
   replace hx766_3 := mHx HB hx766_3
   replace p766 := eq_true p766
   replace q766 := eq_true q766
   go_wp2
   go_ret
   exact ⟨by first | rfl | (simp [errW_none, errW_some] <;> rfl) | (simp only [← hji24]; first | rfl | (simp [errW_none, errW_some] <;> rfl)) | (simp [*, errW_none, errW_some] <;> rfl), HB.out⟩
end Go.Proofs.YtimikhbnihedkaaDoor.PAll
