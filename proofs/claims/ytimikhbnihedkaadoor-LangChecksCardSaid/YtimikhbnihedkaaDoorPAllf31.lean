-- Written by wip/tools/handprint.py: walks of the functions that the law reaches; Lean checks them.
import Derived.Test.YtimikhbnihedkaaDoorMC0
import Derived.Test.YtimikhbnihedkaaDoorPAllf54
import Derived.Test.YtimikhbnihedkaaDoorPAllf55
import Derived.Test.YtimikhbnihedkaaDoorPAllf56
import Derived.Test.YtimikhbnihedkaaDoorPAllf57
namespace Go.Proofs.YtimikhbnihedkaaDoor.PAll
open Go.RowKit Go.Proofs.YtimikhbnihedkaaDoorW.PrintWords Go.Proofs.YtimikhbnihedkaaDoorW.PrintLast Go.Proofs.YtimikhbnihedkaaDoorW.PrintMore
attribute [local go_sem] max2_int min2_int max_two min_two max_three min_three max_four min_four   -- for this text's walks alone
set_option linter.unusedVariables false
set_option linter.unusedSimpArgs false

/-! ### dancestudioref35_printed: function 31 -/
mutual
def dancestudioref35_printed.l0 : Nat → List (S43) → ByteArray → List (List (S43)) → Int → Option (ByteArray)
 | 0, _, _, _, _ => none
 | k + 1, x0, x3, x4, x5 => if x5 < (x4.length : Int) then (if x5 > 0 then (if x3.size + 2 ≤ 9223372036854775807 then (if 0 ≤ x5 then ((dancestudioref35_printed.f k (rd_L3 x4 x5)).bind fun t471 => (if (x3 ++ (⟨#[44, 32]⟩ : ByteArray)).size + t471.size ≤ 9223372036854775807 then (dancestudioref35_printed.l0 k x0 ((x3 ++ (⟨#[44, 32]⟩ : ByteArray)) ++ t471) x4 (wrap64 (x5 + 1))) else (none))) else (none)) else (none)) else (if 0 ≤ x5 then ((dancestudioref35_printed.f k (rd_L3 x4 x5)).bind fun t473 => (if x3.size + t473.size ≤ 9223372036854775807 then (dancestudioref35_printed.l0 k x0 (x3 ++ t473) x4 (wrap64 (x5 + 1))) else (none))) else (none))) else (if 0 < (x0.length : Int) then ((dancestudioref35_numbered.f ((rd_T43 x0 0).f0)).bind fun t475 => (if t475 = true then (if x3.size + 2 ≤ 9223372036854775807 then ((dancestudioref35_digits.f k ((rd_T43 x0 0).f2)).bind fun t477 => (if (x3 ++ (⟨#[44, 32]⟩ : ByteArray)).size + t477.size ≤ 9223372036854775807 then (if ((x3 ++ (⟨#[44, 32]⟩ : ByteArray)) ++ t477).size + 1 ≤ 9223372036854775807 then (some (((x3 ++ (⟨#[44, 32]⟩ : ByteArray)) ++ t477) ++ (⟨#[41]⟩ : ByteArray))) else (none)) else (none))) else (none)) else (if x3.size + 1 ≤ 9223372036854775807 then (some (x3 ++ (⟨#[41]⟩ : ByteArray))) else (none)))) else (none))
def dancestudioref35_printed.f : Nat → List (S43) → Option (ByteArray)
 | 0, _ => none
 | k + 1, l0 => if 0 < (l0.length : Int) then (if ((rd_T43 l0 0).f0) = 1 then (some ((rd_T43 l0 0).f1)) else ((dancestudioref35_word.f ((rd_T43 l0 0).f0)).bind fun t462 => (if t462.size + 1 ≤ 9223372036854775807 then (if 1 ≤ (l0.length : Int) then ((dancestudioref35_arguments.f k (l0.drop 1)).bind fun t467 => (dancestudioref35_printed.l0 k l0 (t462 ++ (⟨#[40]⟩ : ByteArray)) t467 0)) else (none)) else (none)))) else (none)
end
set_option maxHeartbeats 8000000 in
set_option maxRecDepth 100000 in
theorem dancestudioref35_printed.calls (k : Nat) : ∀ (A0 : Option Addr) (c0 : Nat) (l0 : List (S43)) (r : ByteArray) (w : World) (hr0 : Kd.C k43 w A0 l0.length l0) (hc0 : l0.length ≤ c0) (h : dancestudioref35_printed.f k l0 = some r),
  Calls Tryd.prog 31 #[.slice A0 l0.length c0] w fun e w' => e = .returned (.string r) ∧ Below w.heap.size w w' := by
 induction k using Nat.strongRecOn with
 | _ k ih =>
 intro A0 c0 l0 r w hr0 hc0 h
 cases k with
 | zero => exact absurd h (by simp [dancestudioref35_printed.f])
 | succ k =>
 simp only [dancestudioref35_printed.f] at h
 have HR0 := Aside0.mk hr0
 have HC0 := Aside0.mk hc0
 clear hr0 hc0
 have HB := Aside0.mk (Below.refl w.heap.size w)
 have H := h
 unfold dancestudioref35_printed.f at H
 clear h
 obtain ⟨c2, H⟩ : (0 < (l0.length : Int)) ∧ _ := mIf H
 have c2b0 := decide_eq_true c2
 have c2b1 : decide (0 < l0.length) = true := decide_eq_true (by omega)
 clear c2
 by_cases c3 : ((rd_T43 l0 0).f0) = 1
 ·
  rw [if_pos c3] at H
  have c3b0 := beq_iff_eq.mpr c3
  have c3b1 := bne_eq_false_iff_eq.mpr c3
  clear c3
  obtain rfl := Option.some.inj H
  have p459 : 0 ≤ (0 : Int) := (by omega)
  have q459 : 0 < (l0.length : Int) := of_decide_eq_true (by assumption)
  obtain ⟨ad459, e459, hx459_0, hx459_1, hx459_2, hx459_3⟩ := at_T43 HR0.out 0 p459 q459
  cases e459
  have qi459 : (0 < l0.length) = True := eq_true (by omega)
  (try rw [show ((0 : Int)).toNat = 0 from rfl] at hx459_0)
  (try rw [show 0 * 4 = 0 from rfl] at hx459_0)
  (try rw [Addr.add_zero'] at hx459_0)
  (try rw [show ((0 : Int)).toNat = 0 from rfl] at hx459_1)
  (try rw [show 0 * 4 = 0 from rfl] at hx459_1)
  (try rw [Addr.add_zero'] at hx459_1)
  (try rw [show ((0 : Int)).toNat = 0 from rfl] at hx459_2)
  (try rw [show 0 * 4 = 0 from rfl] at hx459_2)
  (try rw [Addr.add_zero'] at hx459_2)
  (try rw [show ((0 : Int)).toNat = 0 from rfl] at hx459_3)
  (try rw [show 0 * 4 = 0 from rfl] at hx459_3)
  (try rw [Addr.add_zero'] at hx459_3)
  replace p459 := eq_true p459
  replace q459 := eq_true q459
  have p460 : 0 ≤ (0 : Int) := (by omega)
  have q460 : 0 < (l0.length : Int) := of_decide_eq_true (by assumption)
  obtain ⟨ad460, e460, hx460_0, hx460_1, hx460_2, hx460_3⟩ := at_T43 HR0.out 0 p460 q460
  obtain rfl : ad459 = ad460 := (by injection e460)
  have qi460 : (0 < l0.length) = True := eq_true (by omega)
  (try rw [show ((0 : Int)).toNat = 0 from rfl] at hx460_0)
  (try rw [show 0 * 4 = 0 from rfl] at hx460_0)
  (try rw [Addr.add_zero'] at hx460_0)
  (try rw [show ((0 : Int)).toNat = 0 from rfl] at hx460_1)
  (try rw [show 0 * 4 = 0 from rfl] at hx460_1)
  (try rw [Addr.add_zero'] at hx460_1)
  (try rw [show ((0 : Int)).toNat = 0 from rfl] at hx460_2)
  (try rw [show 0 * 4 = 0 from rfl] at hx460_2)
  (try rw [Addr.add_zero'] at hx460_2)
  (try rw [show ((0 : Int)).toNat = 0 from rfl] at hx460_3)
  (try rw [show 0 * 4 = 0 from rfl] at hx460_3)
  (try rw [Addr.add_zero'] at hx460_3)
  replace p460 := eq_true p460
  replace q460 := eq_true q460
  go_enter Tryd.func31, Tryd.ntmps31
  go_wp2
  go_ret
  exact ⟨rfl, HB.out⟩
 rw [if_neg c3] at H
 have c3b0 := beq_eq_false_iff_ne.mpr c3
 have c3b1 := bne_iff_ne.mpr c3
 replace H := Option.bind_eq_some_iff.mp H
 obtain ⟨t462, A40, H⟩ := H
 try dsimp only at H
 have A4 := Aside0.mk A40
 clear A40
 obtain ⟨c5, H⟩ : (t462.size + 1 ≤ 9223372036854775807) ∧ _ := mIf H
 have c5b0 := eq_true c5
 have c5b1 := decide_eq_true c5
 try have c5b2 : (9223372036854775807 < t462.size + 1) = False := eq_false (Nat.not_lt.2 c5)
 obtain ⟨c6, H⟩ : (1 ≤ (l0.length : Int)) ∧ _ := mIf H
 have c6b0 := eq_true c6
 have c6b1 := decide_eq_true c6
 clear c6
 obtain ⟨y463, hy463⟩ : ∃ y_ : List (S43), y_ = (l0.drop 1) := ⟨_, rfl⟩
 rw [← hy463] at H
 have Ny463 := Aside0.mk hy463
 clear hy463
 replace H := Option.bind_eq_some_iff.mp H
 obtain ⟨t467, A70, H⟩ := H
 try dsimp only at H
 have A7 := Aside0.mk A70
 clear A70
 have H' := Aside0.mk H
 clear H
 have p459 : 0 ≤ (0 : Int) := (by omega)
 have q459 : 0 < (l0.length : Int) := of_decide_eq_true (by assumption)
 obtain ⟨ad459, e459, hx459_0, hx459_1, hx459_2, hx459_3⟩ := at_T43 HR0.out 0 p459 q459
 cases e459
 have qi459 : (0 < l0.length) = True := eq_true (by omega)
 (try rw [show ((0 : Int)).toNat = 0 from rfl] at hx459_0)
 (try rw [show 0 * 4 = 0 from rfl] at hx459_0)
 (try rw [Addr.add_zero'] at hx459_0)
 (try rw [show ((0 : Int)).toNat = 0 from rfl] at hx459_1)
 (try rw [show 0 * 4 = 0 from rfl] at hx459_1)
 (try rw [Addr.add_zero'] at hx459_1)
 (try rw [show ((0 : Int)).toNat = 0 from rfl] at hx459_2)
 (try rw [show 0 * 4 = 0 from rfl] at hx459_2)
 (try rw [Addr.add_zero'] at hx459_2)
 (try rw [show ((0 : Int)).toNat = 0 from rfl] at hx459_3)
 (try rw [show 0 * 4 = 0 from rfl] at hx459_3)
 (try rw [Addr.add_zero'] at hx459_3)
 replace p459 := eq_true p459
 replace q459 := eq_true q459
 have p461 : 0 ≤ (0 : Int) := (by omega)
 have q461 : 0 < (l0.length : Int) := of_decide_eq_true (by assumption)
 obtain ⟨ad461, e461, hx461_0, hx461_1, hx461_2, hx461_3⟩ := at_T43 HR0.out 0 p461 q461
 obtain rfl : ad459 = ad461 := (by injection e461)
 have qi461 : (0 < l0.length) = True := eq_true (by omega)
 (try rw [show ((0 : Int)).toNat = 0 from rfl] at hx461_0)
 (try rw [show 0 * 4 = 0 from rfl] at hx461_0)
 (try rw [Addr.add_zero'] at hx461_0)
 (try rw [show ((0 : Int)).toNat = 0 from rfl] at hx461_1)
 (try rw [show 0 * 4 = 0 from rfl] at hx461_1)
 (try rw [Addr.add_zero'] at hx461_1)
 (try rw [show ((0 : Int)).toNat = 0 from rfl] at hx461_2)
 (try rw [show 0 * 4 = 0 from rfl] at hx461_2)
 (try rw [Addr.add_zero'] at hx461_2)
 (try rw [show ((0 : Int)).toNat = 0 from rfl] at hx461_3)
 (try rw [show 0 * 4 = 0 from rfl] at hx461_3)
 (try rw [Addr.add_zero'] at hx461_3)
 replace p461 := eq_true p461
 replace q461 := eq_true q461
 go_enter Tryd.func31, Tryd.ntmps31
 go_wp2_with (first | ((with_reducible refine gate_callee (f := 54) rfl ?_); refine goesL_ (some 19) rfl rfl Tryd.func54 (by kernel_rfl) rfl #[.int .i64 ((rd_T43 l0 0).f0)] rfl (mA1 rfl) ?_; (with_reducible refine (dancestudioref35_word.calls ((rd_T43 l0 0).f0) t462 _ A4.out).mono ?_); rintro e w' ⟨rfl, ⟨nd, rfl⟩⟩; refine ⟨_, rfl, ?_⟩; have q8 : (1 : Int) ≤ ((l0.length : Int) : Int) := of_decide_eq_true (by assumption); obtain ⟨i08, hi08, _, hsz8, _⟩ := info_parts info43; have hroom8 : l0.length ≤ c0 := HC0.out; have hC8 : Kd.C k43 _ (some ad459) l0.length l0 := HR0.out; have hcut8 := cut_from (P := Tryd.prog) 22 43 .i64 Tryd.underlying22 hi08 4 hsz8 (some ad459) l0.length c0 1 (by omega) q8; have hr8 := Kd.C_drop (m := (1 : Int).toNat) (c := c0) hC8 (by omega) hroom8; obtain ⟨A8, hA8⟩ : ∃ A1, A1 = (if c0 = (1 : Int).toNat then (some ad459) else ((some ad459) : Option Addr).map (·.add ((1 : Int).toNat * 4))) := ⟨_, rfl⟩; obtain ⟨c8, hc8⟩ : ∃ c1, c1 = c0 - (1 : Int).toNat := ⟨_, rfl⟩; have hy8 : y463.length = l0.length - (1 : Int).toNat := (by rw [Ny463.out, List.length_drop] <;> omega); rw [show (l0).drop (1 : Int).toNat = y463 from Ny463.out.symm] at hr8; replace hr8 : Kd.C k43 _ A8 y463.length y463 := (by rw [hA8]; exact hr8); rw [← hy8, ← hA8, ← hc8] at hcut8; have HR466 := Aside0.mk hr8; have HC466 := Aside0.mk (show y463.length ≤ c8 from by rw [hy8, hc8]; exact Nat.sub_le_sub_right hroom8 _); clear hr8 hC8 hroom8 hi08 hsz8 hc8; have KY8 := Aside0.mk hy8; have KA8 := Aside0.mk hA8; clear hy8 hA8; replace q8 := eq_true q8) | ((with_reducible refine gate_callee (f := 55) rfl ?_); refine goesL_ (some 23) rfl rfl Tryd.func55 (by kernel_rfl) rfl #[.slice A8 y463.length c8] rfl (mA1 rfl) ?_; (with_reducible refine (dancestudioref35_arguments.calls k (fun k_ => k_ < w.heap.size) _ _ y463 t467 _ (Kd.V_mk HC466.out (Kd.F_below (Kd.C_F k43_heap HR466.out) (hO HB))) A7.out).mono ?_); rintro e w9 ⟨v468, rfl, ho0, hb⟩; refine ⟨_, rfl, ?_⟩; have HO469 := Aside0.mk (Kd.N_lower (Kd.N_mono (ok' := fun k_ => True) ho0 (fun k_ hk_ => trivial)) (below_size (hO HB))); replace HB := mSx HB hb; (try clear hb); (try clear ho0)))
 go_loopg [3, 5] k (fun kq v3 v5 w' => ∃ (x3_1 : ByteArray) (x5_1 : Int), v3 = .string x3_1 ∧ v5 = .int .i64 x5_1 ∧ Aside0 (dancestudioref35_printed.l0 kq l0 x3_1 t467 x5_1 = some r) ∧ Aside0 (kq ≤ k) ∧ Aside0 (Kd.N (Kd.slice 43 k43) 22 w' w.heap.size (fun _ => True) v468 t467) ∧ Aside0 (Below w.heap.size w w'))
 case atStart => exact ⟨(t462 ++ (⟨#[40]⟩ : ByteArray)), (0), rfl, rfl, H', ⟨Nat.le_refl _⟩, HO469, ⟨HB.out⟩⟩
 case round =>
  clear H'
  try clear c1; try clear c2; try clear c2b0; try clear c2b1; try clear p2; try clear c3; try clear c3b0; try clear c3b1; try clear p4; try clear q4; try clear hx4; try clear qi4; try clear c5; try clear c5b0; try clear c5b1; try clear c5b2; try clear c6; try clear c6b0; try clear c6b1; try clear c8; try clear q8; try clear hx459_0; try clear hx459_1; try clear hx459_2; try clear hx459_3; try clear hx460_0; try clear hx460_1; try clear hx460_2; try clear hx460_3; try clear hx461_0; try clear hx461_1; try clear hx461_2; try clear hx461_3; try clear p459; try clear p460; try clear p461; try clear q459; try clear q460; try clear q461
  obtain ⟨x3_1, x5_1, rfl, rfl, HA, HK1, HO_4, HB⟩ := hrel
  cases gk with
  | zero => exact absurd HA.out (by simp [dancestudioref35_printed.l0])
  | succ k1 =>
   have H := HA.out
   clear HA
   simp only [dancestudioref35_printed.l0] at H
   by_cases c10 : x5_1 < (t467.length : Int)
   ·
    rw [if_pos c10] at H
    have c10b0 := decide_eq_true c10
    clear c10
    by_cases c11 : x5_1 > 0
    rotate_left
    ·
     rw [if_neg c11] at H
     have c11b0 := decide_eq_false c11
     clear c11
     obtain ⟨c18, H⟩ : (0 ≤ x5_1) ∧ _ := mIf H
     have c18b0 := decide_eq_true c18
     clear c18
     replace H := Option.bind_eq_some_iff.mp H
     obtain ⟨t473, A190, H⟩ := H
     try dsimp only at H
     have A19 := Aside0.mk A190
     clear A190
     obtain ⟨c20, H⟩ : (x3_1.size + t473.size ≤ 9223372036854775807) ∧ _ := mIf H
     have c20b0 := eq_true c20
     have c20b1 := decide_eq_true c20
     try have c20b2 : (9223372036854775807 < x3_1.size + t473.size) = False := eq_false (Nat.not_lt.2 c20)
     have H' := Aside0.mk H
     clear H
     obtain ⟨Ao21, co21, eo21⟩ := Kd.N_slice HO_4.out
     subst eo21
     have p472 : 0 ≤ (x5_1 : Int) := of_decide_eq_true (by assumption)
     have q472 : x5_1 < (t467.length : Int) := of_decide_eq_true (by assumption)
     obtain ⟨ad472, A472_0, c472_0, e472, hx472_0, hl472_0, hi472_0⟩ := at_L3 (Kd.N_reads' HO_4.out).2.2 x5_1 p472 q472
     cases e472
     obtain ⟨ce472, hce472, hMe472, hcc472⟩ := Kd.N_get HO_4.out [] x5_1 p472 (by first | exact q472 | exact of_decide_eq_true (by assumption) | (have e_ := (Kd.N_reads' HO_4.out).1; omega))
     obtain ⟨ua472_0, uc472_0, rfl, ul472_0, ge472_0⟩ := Kd.FK_slice_open hMe472
     have hv472_0 := hcc472 0 _ rfl
     rw [Nat.add_zero, show ((Kd.slice 43 k43)).sz = 1 from rfl, Nat.mul_one] at hv472_0
     replace hv472_0 := Option.some.inj (hv472_0.symm.trans hx472_0)
     injection hv472_0 with hva_ hvn_ hvc_
     rw [hva_] at ge472_0
     rw [hvc_] at ul472_0
     have HL472_0 := Aside0.mk (show Kd.V k43 43 _ w.heap.size _ _ (rd_L3 t467 x5_1) from Kd.V_mk ul472_0 ge472_0)
     clear hva_ hvn_ hvc_ ge472_0 ul472_0
     clear hcc472 hce472
     have HR472_0 := Aside0.mk hi472_0
     have HC472_0 := Aside0.mk hl472_0
     clear hi472_0 hl472_0
     replace p472 := eq_true p472
     replace q472 := eq_true q472
     go_wp2_with (first | ((with_reducible refine gate_callee (f := 31) rfl ?_); refine goesL_ (some 39) rfl rfl Tryd.func31 (by kernel_rfl) rfl #[.slice A472_0 (rd_L3 t467 x5_1).length c472_0] rfl (mA1 rfl) ?_; (with_reducible refine (ih k1 (by have := HK1.out; omega) _ _ (rd_L3 t467 x5_1) t473 _ ?side1 ?side2 A19.out).mono ?_); (case side1 => repeat (first | exact (by repeat (first | (with_reducible exact HR472_0.out) | (with_reducible refine Kd.C_alloc ?_ _) | (with_reducible refine Kd.C_drewN ?_ _) | (with_reducible refine Kd.C_drew ?_) | exact HR472_0.out)) | (with_reducible refine Kd.C_alloc ?_ _) | (with_reducible refine Kd.C_drewN ?_ _) | (with_reducible refine Kd.C_drew ?_))); (case side2 => exact HC472_0.out); rintro e w22 ⟨rfl, hb⟩; refine ⟨_, rfl, ?_⟩; replace HO_4 := Aside0.mk (Kd.N_below HO_4.out hb); replace HL472_0 := Aside0.mk (Kd.V_below HL472_0.out hb); replace HR472_0 := Aside0.mk (Kd.C_below (by repeat (first | (with_reducible exact HR472_0.out) | (with_reducible refine Kd.C_alloc ?_ _) | (with_reducible refine Kd.C_drewN ?_ _) | (with_reducible refine Kd.C_drew ?_) | exact HR472_0.out)) hb); replace HB := mSt HB hb; (try clear hb)))
     go_roundg k1
     case measure => have := HK1.out; omega
     case rel => exact ⟨(x3_1 ++ t473), (wrap64 (x5_1 + 1)), rfl, rfl, H', ⟨by have := HK1.out; omega⟩, HO_4, ⟨HB.out⟩⟩
    rw [if_pos c11] at H
    have c11b0 := decide_eq_true c11
    clear c11
    obtain ⟨c12, H⟩ : (x3_1.size + 2 ≤ 9223372036854775807) ∧ _ := mIf H
    have c12b0 := eq_true c12
    have c12b1 := decide_eq_true c12
    try have c12b2 : (9223372036854775807 < x3_1.size + 2) = False := eq_false (Nat.not_lt.2 c12)
    obtain ⟨c13, H⟩ : (0 ≤ x5_1) ∧ _ := mIf H
    have c13b0 := decide_eq_true c13
    clear c13
    replace H := Option.bind_eq_some_iff.mp H
    obtain ⟨t471, A140, H⟩ := H
    try dsimp only at H
    have A14 := Aside0.mk A140
    clear A140
    obtain ⟨c15, H⟩ : ((x3_1 ++ (⟨#[44, 32]⟩ : ByteArray)).size + t471.size ≤ 9223372036854775807) ∧ _ := mIf H
    have c15b0 := eq_true c15
    have c15b1 := decide_eq_true c15
    try (have c15b1s := c15b1; simp only [ByteArray.size_append, Int.natCast_add, show (⟨#[44, 32]⟩ : ByteArray).size = 2 from rfl, show ((2 : Nat) : Int) = 2 from rfl] at c15b1s)
    try have c15b2 : (9223372036854775807 < (x3_1 ++ (⟨#[44, 32]⟩ : ByteArray)).size + t471.size) = False := eq_false (Nat.not_lt.2 c15)
    try (have c15b9 := c15b2; simp only [ByteArray.size_append, show (⟨#[44, 32]⟩ : ByteArray).size = 2 from rfl] at c15b9)
    have H' := Aside0.mk H
    clear H
    obtain ⟨Ao16, co16, eo16⟩ := Kd.N_slice HO_4.out
    subst eo16
    have p470 : 0 ≤ (x5_1 : Int) := of_decide_eq_true (by assumption)
    have q470 : x5_1 < (t467.length : Int) := of_decide_eq_true (by assumption)
    obtain ⟨ad470, A470_0, c470_0, e470, hx470_0, hl470_0, hi470_0⟩ := at_L3 (Kd.N_reads' HO_4.out).2.2 x5_1 p470 q470
    cases e470
    obtain ⟨ce470, hce470, hMe470, hcc470⟩ := Kd.N_get HO_4.out [] x5_1 p470 (by first | exact q470 | exact of_decide_eq_true (by assumption) | (have e_ := (Kd.N_reads' HO_4.out).1; omega))
    obtain ⟨ua470_0, uc470_0, rfl, ul470_0, ge470_0⟩ := Kd.FK_slice_open hMe470
    have hv470_0 := hcc470 0 _ rfl
    rw [Nat.add_zero, show ((Kd.slice 43 k43)).sz = 1 from rfl, Nat.mul_one] at hv470_0
    replace hv470_0 := Option.some.inj (hv470_0.symm.trans hx470_0)
    injection hv470_0 with hva_ hvn_ hvc_
    rw [hva_] at ge470_0
    rw [hvc_] at ul470_0
    have HL470_0 := Aside0.mk (show Kd.V k43 43 _ w.heap.size _ _ (rd_L3 t467 x5_1) from Kd.V_mk ul470_0 ge470_0)
    clear hva_ hvn_ hvc_ ge470_0 ul470_0
    clear hcc470 hce470
    have HR470_0 := Aside0.mk hi470_0
    have HC470_0 := Aside0.mk hl470_0
    clear hi470_0 hl470_0
    replace p470 := eq_true p470
    replace q470 := eq_true q470
    go_wp2_with (first | ((with_reducible refine gate_callee (f := 31) rfl ?_); refine goesL_ (some 39) rfl rfl Tryd.func31 (by kernel_rfl) rfl #[.slice A470_0 (rd_L3 t467 x5_1).length c470_0] rfl (mA1 rfl) ?_; (with_reducible refine (ih k1 (by have := HK1.out; omega) _ _ (rd_L3 t467 x5_1) t471 _ ?side1 ?side2 A14.out).mono ?_); (case side1 => repeat (first | exact (by repeat (first | (with_reducible exact HR470_0.out) | (with_reducible refine Kd.C_alloc ?_ _) | (with_reducible refine Kd.C_drewN ?_ _) | (with_reducible refine Kd.C_drew ?_) | exact HR470_0.out)) | (with_reducible refine Kd.C_alloc ?_ _) | (with_reducible refine Kd.C_drewN ?_ _) | (with_reducible refine Kd.C_drew ?_))); (case side2 => exact HC470_0.out); rintro e w17 ⟨rfl, hb⟩; refine ⟨_, rfl, ?_⟩; replace HO_4 := Aside0.mk (Kd.N_below HO_4.out hb); replace HL470_0 := Aside0.mk (Kd.V_below HL470_0.out hb); replace HR470_0 := Aside0.mk (Kd.C_below (by repeat (first | (with_reducible exact HR470_0.out) | (with_reducible refine Kd.C_alloc ?_ _) | (with_reducible refine Kd.C_drewN ?_ _) | (with_reducible refine Kd.C_drew ?_) | exact HR470_0.out)) hb); replace HB := mSt HB hb; (try clear hb)))
    go_roundg k1
    case measure => have := HK1.out; omega
    case rel => exact ⟨((x3_1 ++ (⟨#[44, 32]⟩ : ByteArray)) ++ t471), (wrap64 (x5_1 + 1)), rfl, rfl, H', ⟨by have := HK1.out; omega⟩, HO_4, ⟨HB.out⟩⟩
   rw [if_neg c10] at H
   have c10b0 := decide_eq_false c10
   clear c10
   obtain ⟨c23, H⟩ : (0 < (l0.length : Int)) ∧ _ := mIf H
   have c23b0 := decide_eq_true c23
   have c23b1 : decide (0 < l0.length) = true := decide_eq_true (by omega)
   clear c23
   replace H := Option.bind_eq_some_iff.mp H
   obtain ⟨t475, A240, H⟩ := H
   try dsimp only at H
   have A24 := Aside0.mk A240
   clear A240
   by_cases c25 : t475 = true
   rotate_left
   ·
    replace c25 := Bool.eq_false_iff.mpr c25
    subst c25
    rw [if_neg (show ¬ (false = true) by decide)] at H
    obtain ⟨c32, H⟩ : (x3_1.size + 1 ≤ 9223372036854775807) ∧ _ := mIf H
    have c32b0 := eq_true c32
    have c32b1 := decide_eq_true c32
    try have c32b2 : (9223372036854775807 < x3_1.size + 1) = False := eq_false (Nat.not_lt.2 c32)
    obtain rfl := Option.some.inj H
    obtain ⟨Ao33, co33, eo33⟩ := Kd.N_slice HO_4.out
    subst eo33
    have p474 : 0 ≤ (0 : Int) := (by omega)
    have q474 : 0 < (l0.length : Int) := of_decide_eq_true (by assumption)
    obtain ⟨ad474, e474, hx474_0, hx474_1, hx474_2, hx474_3⟩ := at_T43 HR0.out 0 p474 q474
    obtain rfl : ad459 = ad474 := (by injection e474)
    have qi474 : (0 < l0.length) = True := eq_true (by omega)
    (try rw [show ((0 : Int)).toNat = 0 from rfl] at hx474_0)
    (try rw [show 0 * 4 = 0 from rfl] at hx474_0)
    (try rw [Addr.add_zero'] at hx474_0)
    (try rw [show ((0 : Int)).toNat = 0 from rfl] at hx474_1)
    (try rw [show 0 * 4 = 0 from rfl] at hx474_1)
    (try rw [Addr.add_zero'] at hx474_1)
    (try rw [show ((0 : Int)).toNat = 0 from rfl] at hx474_2)
    (try rw [show 0 * 4 = 0 from rfl] at hx474_2)
    (try rw [Addr.add_zero'] at hx474_2)
    (try rw [show ((0 : Int)).toNat = 0 from rfl] at hx474_3)
    (try rw [show 0 * 4 = 0 from rfl] at hx474_3)
    (try rw [Addr.add_zero'] at hx474_3)
    replace hx474_0 := mHx HB hx474_0
    replace hx474_1 := mHx HB hx474_1
    replace hx474_2 := mHx HB hx474_2
    replace hx474_3 := mHx HB hx474_3
    replace p474 := eq_true p474
    replace q474 := eq_true q474
    go_wp2_with (first | ((with_reducible refine gate_callee (f := 56) rfl ?_); refine goesL_ (some 45) rfl rfl Tryd.func56 (by kernel_rfl) rfl #[.int .i64 ((rd_T43 l0 0).f0)] rfl (mA1 rfl) ?_; (with_reducible refine (dancestudioref35_numbered.calls ((rd_T43 l0 0).f0) false _ A24.out).mono ?_); rintro e w' ⟨rfl, ⟨nd, rfl⟩⟩; refine ⟨_, rfl, ?_⟩))
    go_ret
    exact ⟨rfl, hO HB⟩
   subst c25
   rw [if_pos rfl] at H
   obtain ⟨c26, H⟩ : (x3_1.size + 2 ≤ 9223372036854775807) ∧ _ := mIf H
   have c26b0 := eq_true c26
   have c26b1 := decide_eq_true c26
   try have c26b2 : (9223372036854775807 < x3_1.size + 2) = False := eq_false (Nat.not_lt.2 c26)
   replace H := Option.bind_eq_some_iff.mp H
   obtain ⟨t477, A270, H⟩ := H
   try dsimp only at H
   have A27 := Aside0.mk A270
   clear A270
   obtain ⟨c28, H⟩ : ((x3_1 ++ (⟨#[44, 32]⟩ : ByteArray)).size + t477.size ≤ 9223372036854775807) ∧ _ := mIf H
   have c28b0 := eq_true c28
   have c28b1 := decide_eq_true c28
   try (have c28b1s := c28b1; simp only [ByteArray.size_append, Int.natCast_add, show (⟨#[44, 32]⟩ : ByteArray).size = 2 from rfl, show ((2 : Nat) : Int) = 2 from rfl] at c28b1s)
   try have c28b2 : (9223372036854775807 < (x3_1 ++ (⟨#[44, 32]⟩ : ByteArray)).size + t477.size) = False := eq_false (Nat.not_lt.2 c28)
   try (have c28b9 := c28b2; simp only [ByteArray.size_append, show (⟨#[44, 32]⟩ : ByteArray).size = 2 from rfl] at c28b9)
   obtain ⟨c29, H⟩ : (((x3_1 ++ (⟨#[44, 32]⟩ : ByteArray)) ++ t477).size + 1 ≤ 9223372036854775807) ∧ _ := mIf H
   have c29b0 := eq_true c29
   have c29b1 := decide_eq_true c29
   try (have c29b1s := c29b1; simp only [ByteArray.size_append, Int.natCast_add, show (⟨#[44, 32]⟩ : ByteArray).size = 2 from rfl, show ((2 : Nat) : Int) = 2 from rfl] at c29b1s)
   try have c29b2 : (9223372036854775807 < ((x3_1 ++ (⟨#[44, 32]⟩ : ByteArray)) ++ t477).size + 1) = False := eq_false (Nat.not_lt.2 c29)
   try (have c29b9 := c29b2; simp only [ByteArray.size_append, show (⟨#[44, 32]⟩ : ByteArray).size = 2 from rfl] at c29b9)
   obtain rfl := Option.some.inj H
   obtain ⟨Ao30, co30, eo30⟩ := Kd.N_slice HO_4.out
   subst eo30
   have p474 : 0 ≤ (0 : Int) := (by omega)
   have q474 : 0 < (l0.length : Int) := of_decide_eq_true (by assumption)
   obtain ⟨ad474, e474, hx474_0, hx474_1, hx474_2, hx474_3⟩ := at_T43 HR0.out 0 p474 q474
   obtain rfl : ad459 = ad474 := (by injection e474)
   have qi474 : (0 < l0.length) = True := eq_true (by omega)
   (try rw [show ((0 : Int)).toNat = 0 from rfl] at hx474_0)
   (try rw [show 0 * 4 = 0 from rfl] at hx474_0)
   (try rw [Addr.add_zero'] at hx474_0)
   (try rw [show ((0 : Int)).toNat = 0 from rfl] at hx474_1)
   (try rw [show 0 * 4 = 0 from rfl] at hx474_1)
   (try rw [Addr.add_zero'] at hx474_1)
   (try rw [show ((0 : Int)).toNat = 0 from rfl] at hx474_2)
   (try rw [show 0 * 4 = 0 from rfl] at hx474_2)
   (try rw [Addr.add_zero'] at hx474_2)
   (try rw [show ((0 : Int)).toNat = 0 from rfl] at hx474_3)
   (try rw [show 0 * 4 = 0 from rfl] at hx474_3)
   (try rw [Addr.add_zero'] at hx474_3)
   replace hx474_0 := mHx HB hx474_0
   replace hx474_1 := mHx HB hx474_1
   replace hx474_2 := mHx HB hx474_2
   replace hx474_3 := mHx HB hx474_3
   replace p474 := eq_true p474
   replace q474 := eq_true q474
   go_wp2_with (first | ((with_reducible refine gate_callee (f := 56) rfl ?_); refine goesL_ (some 45) rfl rfl Tryd.func56 (by kernel_rfl) rfl #[.int .i64 ((rd_T43 l0 0).f0)] rfl (mA1 rfl) ?_; (with_reducible refine (dancestudioref35_numbered.calls ((rd_T43 l0 0).f0) true _ A24.out).mono ?_); rintro e w' ⟨rfl, ⟨nd, rfl⟩⟩; refine ⟨_, rfl, ?_⟩; have p476 : 0 ≤ (0 : Int) := (by omega); have q476 : 0 < (l0.length : Int) := of_decide_eq_true (by assumption); obtain ⟨ad476, e476, hx476_0, hx476_1, hx476_2, hx476_3⟩ := at_T43 HR0.out 0 p476 q476; obtain rfl : ad459 = ad476 := (by injection e476); have qi476 : (0 < l0.length) = True := eq_true (by omega); (try rw [show ((0 : Int)).toNat = 0 from rfl] at hx476_0); (try rw [show 0 * 4 = 0 from rfl] at hx476_0); (try rw [Addr.add_zero'] at hx476_0); (try rw [show ((0 : Int)).toNat = 0 from rfl] at hx476_1); (try rw [show 0 * 4 = 0 from rfl] at hx476_1); (try rw [Addr.add_zero'] at hx476_1); (try rw [show ((0 : Int)).toNat = 0 from rfl] at hx476_2); (try rw [show 0 * 4 = 0 from rfl] at hx476_2); (try rw [Addr.add_zero'] at hx476_2); (try rw [show ((0 : Int)).toNat = 0 from rfl] at hx476_3); (try rw [show 0 * 4 = 0 from rfl] at hx476_3); (try rw [Addr.add_zero'] at hx476_3); replace hx476_0 := mHx HB hx476_0; replace hx476_1 := mHx HB hx476_1; replace hx476_2 := mHx HB hx476_2; replace hx476_3 := mHx HB hx476_3; replace p476 := eq_true p476; replace q476 := eq_true q476) | ((with_reducible refine gate_callee (f := 57) rfl ?_); refine goesL_ (some 52) rfl rfl Tryd.func57 (by kernel_rfl) rfl #[.int .i64 ((rd_T43 l0 0).f2)] rfl (mA1 rfl) ?_; (with_reducible refine (dancestudioref35_digits.calls k1 ((rd_T43 l0 0).f2) t477 _ A27.out).mono ?_); rintro e w31 ⟨rfl, hb⟩; refine ⟨_, rfl, ?_⟩; replace HO_4 := Aside0.mk (Kd.N_below (by (with_reducible repeat (first | apply Kd.N_alloc | apply Kd.N_drewN | apply Kd.N_drew)); exact HO_4.out) hb); replace HB := mSx HB hb; (try clear hb)))
   go_ret
   exact ⟨rfl, HB.out⟩
end Go.Proofs.YtimikhbnihedkaaDoor.PAll
