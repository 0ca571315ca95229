-- Written by wip/tools/handprint.py: walks of the functions that the law reaches; Lean checks them.
import Derived.Test.YtaggccbndmmbhaaDoorBase
import Derived.Test.YtaggccbndmmbhaaDoorPAllf60
import Derived.Test.YtaggccbndmmbhaaDoorPAllf61
namespace Go.Proofs.YtaggccbndmmbhaaDoor.PAll
open Go.RowKit Go.Proofs.YtaggccbndmmbhaaDoorW.PrintWords Go.Proofs.YtaggccbndmmbhaaDoorW.PrintLast Go.Proofs.YtaggccbndmmbhaaDoorW.PrintMore
attribute [local go_sem] max2_int min2_int max_two min_two max_three min_three max_four min_four   -- for this text's walks alone
set_option linter.unusedVariables false
set_option linter.unusedSimpArgs false

/-! ### dancestudioref11_Solve: function 37 -/
mutual
def dancestudioref11_Solve.l0 : Nat → List (List Int) → List Int → List Int → Int → Int → Option (List Int × Int × Int)
 | 0, _, _, _, _, _ => none
 | k + 1, x0, x6, x7, x8, x9 => if x9 < (x0.length : Int) then (dancestudioref11_Solve.l1 k x0 x6 x7 x8 x9 0) else (if 0 < (x6.length : Int) then (some (x7, rd x6 0, 0)) else (none))
def dancestudioref11_Solve.l1 : Nat → List (List Int) → List Int → List Int → Int → Int → Int → Option (List Int × Int × Int)
 | 0, _, _, _, _, _, _ => none
 | k + 1, x0, x6, x7, x8, x9, x10 => if x10 < (x0.length : Int) then (if 0 ≤ x10 then (if (Go.bits .and .i64 x8 (shl .i64 1 x10)) = 0 then (if 0 ≤ x9 then (if x9 < (x0.length : Int) then (if x10 < ((rd_L2 x0 x9).length : Int) then (if 0 ≤ (Go.bits .or .i64 x8 (shl .i64 1 x10)) then (if (Go.bits .or .i64 x8 (shl .i64 1 x10)) < (x6.length : Int) then (if 0 ≤ x8 then (if x8 < (x6.length : Int) then (if (wrap64 ((rd (rd_L2 x0 x9) x10) + (rd x6 (Go.bits .or .i64 x8 (shl .i64 1 x10))))) = (rd x6 x8) then (if x7.length < 17592186044416 then (dancestudioref11_Solve.l0 k x0 x6 (x7 ++ [x10]) (Go.bits .or .i64 x8 (shl .i64 1 x10)) (wrap64 (x9 + 1))) else (none)) else (dancestudioref11_Solve.l1 k x0 x6 x7 x8 x9 (wrap64 (x10 + 1)))) else (none)) else (none)) else (none)) else (none)) else (none)) else (none)) else (none)) else (dancestudioref11_Solve.l1 k x0 x6 x7 x8 x9 (wrap64 (x10 + 1)))) else (none)) else (dancestudioref11_Solve.l0 k x0 x6 x7 x8 (wrap64 (x9 + 1)))
end
def dancestudioref11_Solve.f (k : Nat) (l0 : List (List Int)) : Option (List Int × Int × Int) := (dancestudioref11_Check.f k l0).bind fun t537 => (if t537 = 0 then ((dancestudioref11_least.f k l0).bind fun t538 => (dancestudioref11_Solve.l0 k l0 t538 ([] : List Int) 0 0)) else (some (([] : List Int), 0, t537)))
set_option maxHeartbeats 8000000 in
set_option maxRecDepth 100000 in
theorem dancestudioref11_Solve.calls (k : Nat) (A0 : Option Addr) (c0 : Nat) (l0 : List (List Int)) (r1 : List Int) (r2 : Int) (r3 : Int) (w : World) (hr0 : Kd.C (Kd.slice 3 (Kd.int .i64)) w A0 l0.length l0) (hc0 : l0.length ≤ c0) (h : dancestudioref11_Solve.f k l0 = some (r1, r2, r3)) :
  Calls Tryd.prog 37 #[.slice A0 l0.length c0] w fun e w' => ∃ v0_ : Value, e = .returned (.tuple #[v0_, .int .i64 r2, .int .i64 r3]) ∧ Kd.R (Kd.int .i64) 3 w' w.heap.size (fun _ => True) v0_ r1 ∧ Below w.heap.size w w' := by
 have HR0 := Aside0.mk hr0
 have HC0 := Aside0.mk hc0
 clear hr0 hc0
 have HB := Aside0.mk (Below.refl w.heap.size w)
 have H := h
 unfold dancestudioref11_Solve.f at H
 clear h
 replace H := Option.bind_eq_some_iff.mp H
 obtain ⟨t537, A20, H⟩ := H
 try dsimp only at H
 have A2 := Aside0.mk A20
 clear A20
 by_cases c3 : t537 = 0
 rotate_left
 ·
  rw [if_neg c3] at H
  have c3b0 := beq_eq_false_iff_ne.mpr c3
  have c3b1 := bne_iff_ne.mpr c3
  simp only [Option.some.injEq, Prod.mk.injEq] at H
  obtain ⟨rfl, rfl, rfl⟩ := H
  go_enter Tryd.func37, Tryd.ntmps37
  go_wp2_with (first | (go_at_call 60; (with_reducible refine (dancestudioref11_Check.calls k _ _ l0 t537 _ HR0.out HC0.out A2.out).mono ?_); rintro e w' ⟨rfl, ⟨nd, rfl⟩⟩; (try first | exact ⟨rfl, _, World.drewN_drewN _ _ _⟩ | exact ⟨rfl, _, Eq.trans (World.drewN_drewN _ _ _) (congrArg (World.drewN _) (Nat.add_assoc _ _ _))⟩)))
  repeat (go_quiet (first | (go_at_call 60; (with_reducible refine (dancestudioref11_Check.calls k _ _ l0 t537 _ HR0.out HC0.out A2.out).mono ?_); rintro e w' ⟨rfl, ⟨nd, rfl⟩⟩; (try first | exact ⟨rfl, _, World.drewN_drewN _ _ _⟩ | exact ⟨rfl, _, Eq.trans (World.drewN_drewN _ _ _) (congrArg (World.drewN _) (Nat.add_assoc _ _ _))⟩))); try go_wp2_with (first | (go_at_call 60; (with_reducible refine (dancestudioref11_Check.calls k _ _ l0 t537 _ HR0.out HC0.out A2.out).mono ?_); rintro e w' ⟨rfl, ⟨nd, rfl⟩⟩; (try first | exact ⟨rfl, _, World.drewN_drewN _ _ _⟩ | exact ⟨rfl, _, Eq.trans (World.drewN_drewN _ _ _) (congrArg (World.drewN _) (Nat.add_assoc _ _ _))⟩))))
  go_ret3
  exact ⟨_, rfl, by first | exact Kd.R_nil _ _ _ _ _ | exact Kd.N_nil _ _ _ _ _ | exact Kd.V_nil _ _ _ _ _ | exact Kd.Q_nil _ _ _ _ _ | exact Kd.S_nil _ _ _ _ _, hO HB⟩
 rw [if_pos c3] at H
 have c3b0 := beq_iff_eq.mpr c3
 have c3b1 := bne_eq_false_iff_eq.mpr c3
 clear c3
 replace H := Option.bind_eq_some_iff.mp H
 obtain ⟨t538, A40, H⟩ := H
 try dsimp only at H
 have A4 := Aside0.mk A40
 clear A40
 have H' := Aside0.mk H
 clear H
 go_enter Tryd.func37, Tryd.ntmps37
 go_wp2_with (first | (go_at_call 60; (with_reducible refine (dancestudioref11_Check.calls k _ _ l0 t537 _ ?side1 ?side2 A2.out).mono ?_); (case side1 => exact HR0.out); (case side2 => exact HC0.out); rintro e w' ⟨rfl, ⟨nd, rfl⟩⟩; (try first | exact ⟨rfl, _, World.drewN_drewN _ _ _⟩ | exact ⟨rfl, _, Eq.trans (World.drewN_drewN _ _ _) (congrArg (World.drewN _) (Nat.add_assoc _ _ _))⟩)) | (go_at_call 61; (with_reducible refine (dancestudioref11_least.calls k _ _ l0 t538 _ ?side1 ?side2 A4.out).mono ?_); (case side1 => exact HR0.out); (case side2 => exact HC0.out); rintro e w5 ⟨v539, rfl, ho0, hb⟩; have HO540 := Aside0.mk (Kd.R_lower ho0 (below_size (hO HB))); replace HB := mSx HB hb; (try clear hb); (try clear ho0)))
 repeat (go_quiet (first | (go_at_call 60; (with_reducible refine (dancestudioref11_Check.calls k _ _ l0 t537 _ ?side1 ?side2 A2.out).mono ?_); (case side1 => exact HR0.out); (case side2 => exact HC0.out); rintro e w' ⟨rfl, ⟨nd, rfl⟩⟩; (try first | exact ⟨rfl, _, World.drewN_drewN _ _ _⟩ | exact ⟨rfl, _, Eq.trans (World.drewN_drewN _ _ _) (congrArg (World.drewN _) (Nat.add_assoc _ _ _))⟩)) | (go_at_call 61; (with_reducible refine (dancestudioref11_least.calls k _ _ l0 t538 _ ?side1 ?side2 A4.out).mono ?_); (case side1 => exact HR0.out); (case side2 => exact HC0.out); rintro e w5 ⟨v539, rfl, ho0, hb⟩; have n0_ := Aside0.mk (Kd.R_lower ho0 (below_size (hO HB))); have n1_ := mSx HB hb; clear HB; have HO540 := n0_; have HB := n1_; clear n0_ n1_; (try clear hb); (try clear hb2); (try clear hk); (try clear hi); (try clear ho0))); try go_wp2_with (first | (go_at_call 60; (with_reducible refine (dancestudioref11_Check.calls k _ _ l0 t537 _ ?side1 ?side2 A2.out).mono ?_); (case side1 => exact HR0.out); (case side2 => exact HC0.out); rintro e w' ⟨rfl, ⟨nd, rfl⟩⟩; (try first | exact ⟨rfl, _, World.drewN_drewN _ _ _⟩ | exact ⟨rfl, _, Eq.trans (World.drewN_drewN _ _ _) (congrArg (World.drewN _) (Nat.add_assoc _ _ _))⟩)) | (go_at_call 61; (with_reducible refine (dancestudioref11_least.calls k _ _ l0 t538 _ ?side1 ?side2 A4.out).mono ?_); (case side1 => exact HR0.out); (case side2 => exact HC0.out); rintro e w5 ⟨v539, rfl, ho0, hb⟩; have n0_ := Aside0.mk (Kd.R_lower ho0 (below_size (hO HB))); have n1_ := mSx HB hb; clear HB; have HO540 := n0_; have HB := n1_; clear n0_ n1_; (try clear hb); (try clear hb2); (try clear hk); (try clear hi); (try clear ho0))))
 go_loopg [7, 8, 9] k (fun kq v7 v8 v9 w' => ∃ (x7_1 : List Int) (x8_1 : Int) (x9_1 : Int), v8 = .int .i64 x8_1 ∧ v9 = .int .i64 x9_1 ∧ Aside0 (dancestudioref11_Solve.l0 kq l0 t538 x7_1 x8_1 x9_1 = some (r1, r2, r3)) ∧ Aside0 (kq ≤ k) ∧ Aside0 (Kd.R (Kd.int .i64) 3 w' w.heap.size (fun k_ => some k_ ≠ (v7 : Value).ownBlock) v539 t538) ∧ Aside0 (Kd.R (Kd.int .i64) 3 w' w.heap.size (fun k_ => some k_ ≠ (v539 : Value).ownBlock) v7 x7_1) ∧ Aside0 (Below w.heap.size w w'))
 case atStart => exact ⟨(([] : List Int)), (0), (0), rfl, rfl, H', ⟨Nat.le_refl _⟩, ⟨Kd.R_mono HO540.out (fun _ hk => (by simp [Value.ownBlock]))⟩, ⟨by first | exact Kd.R_nil _ _ _ _ _ | exact Kd.N_nil _ _ _ _ _ | exact Kd.V_nil _ _ _ _ _ | exact Kd.Q_nil _ _ _ _ _ | exact Kd.S_nil _ _ _ _ _⟩, ⟨HB.out⟩⟩
 case round =>
  clear H'
  clear c3b0 c3b1
  obtain ⟨x7_1, x8_1, x9_1, rfl, rfl, HA, HK1, HO_6, HO_7, HB⟩ := hrel
  cases gk with
  | zero => exact absurd HA.out (by simp [dancestudioref11_Solve.l0])
  | succ k1 =>
   have H := HA.out
   clear HA
   simp only [dancestudioref11_Solve.l0] at H
   by_cases c6 : x9_1 < (l0.length : Int)
   rotate_left
   ·
    rw [if_neg c6] at H
    have c6b0 := decide_eq_false c6
    clear c6
    obtain ⟨c27, H⟩ : (0 < (t538.length : Int)) ∧ _ := mIf H
    have c27b0 := decide_eq_true c27
    have c27b1 : decide (0 < t538.length) = true := decide_eq_true (by omega)
    clear c27
    simp only [Option.some.injEq, Prod.mk.injEq] at H
    obtain ⟨rfl, rfl, rfl⟩ := H
    obtain ⟨Ao28, co28, eo28⟩ := Kd.R_slice HO_6.out
    subst eo28
    have p541 : 0 ≤ (0 : Int) := (by omega)
    have q541 : 0 < (t538.length : Int) := of_decide_eq_true (by assumption)
    obtain ⟨ad541, e541, hx541_0⟩ := Kd.at_int (Kd.R_reads' HO_6.out).2.2 0 p541 q541
    cases e541
    have qi541 : (0 < t538.length) = True := eq_true (by omega)
    (try rw [show ((0 : Int)).toNat = 0 from rfl] at hx541_0)
    (try rw [Addr.add_zero'] at hx541_0)
    replace p541 := eq_true p541
    replace q541 := eq_true q541
    go_wp2
    repeat (go_quiet (fail); try go_wp2)
    go_ret3
    exact ⟨_, rfl, by exact Kd.R_mono HO_7.out (fun _ hk => trivial), hO HB⟩
   rw [if_pos c6] at H
   have c6b0 := decide_eq_true c6
   clear c6
   have H' := Aside0.mk H
   clear H
   go_wp2
   repeat (go_quiet (fail); try go_wp2)
   go_loopg [7, 8, 10] k1 (fun kq v7 v8 v10 w' => ∃ (x7_2 : List Int) (x8_2 : Int) (x10_2 : Int), v8 = .int .i64 x8_2 ∧ v10 = .int .i64 x10_2 ∧ Aside0 (dancestudioref11_Solve.l1 kq l0 t538 x7_2 x8_2 x9_1 x10_2 = some (r1, r2, r3)) ∧ Aside0 (kq ≤ k1) ∧ Aside0 (Kd.R (Kd.int .i64) 3 w' w.heap.size (fun k_ => some k_ ≠ (v7 : Value).ownBlock) v539 t538) ∧ Aside0 (Kd.R (Kd.int .i64) 3 w' w.heap.size (fun k_ => some k_ ≠ (v539 : Value).ownBlock) v7 x7_2) ∧ Aside0 (Below w.heap.size w w'))
   case atStart => exact ⟨(x7_1), (x8_1), (0), rfl, rfl, H', ⟨Nat.le_refl _⟩, HO_6, HO_7, ⟨HB.out⟩⟩
   case round =>
    clear H'
    clear c6b0
    obtain ⟨x7_2, x8_2, x10_2, rfl, rfl, HA, HK2, HO_6, HO_7, HB⟩ := hrel
    cases gk with
    | zero => exact absurd HA.out (by simp [dancestudioref11_Solve.l1])
    | succ k2 =>
     have H := HA.out
     clear HA
     simp only [dancestudioref11_Solve.l1] at H
     by_cases c7 : x10_2 < (l0.length : Int)
     rotate_left
     ·
      rw [if_neg c7] at H
      have c7b0 := decide_eq_false c7
      clear c7
      have H' := Aside0.mk H
      clear H
      go_wp2
      repeat (go_quiet (fail); try go_wp2)
      go_roundg k2
      case measure => have := HK1.out; have := HK2.out; omega
      case rel => exact ⟨(x7_2), (x8_2), (wrap64 (x9_1 + 1)), rfl, rfl, H', ⟨by have := HK1.out; have := HK2.out; omega⟩, HO_6, HO_7, ⟨HB.out⟩⟩
     rw [if_pos c7] at H
     have c7b0 := decide_eq_true c7
     clear c7
     obtain ⟨c8, H⟩ : (0 ≤ x10_2) ∧ _ := mIf H
     have c8b0 := eq_true c8
     have c8b1 := decide_eq_true c8
     clear c8
     obtain ⟨ji9, hji9⟩ : ∃ j_ : Int, (shl .i64 1 x10_2) = j_ := ⟨_, rfl⟩
     replace H : (if (Go.bits .and .i64 x8_2 (ji9)) = 0 then (if 0 ≤ x9_1 then (if x9_1 < (l0.length : Int) then (if x10_2 < ((rd_L2 l0 x9_1).length : Int) then (if 0 ≤ (Go.bits .or .i64 x8_2 (ji9)) then (if (Go.bits .or .i64 x8_2 (ji9)) < (t538.length : Int) then (if 0 ≤ x8_2 then (if x8_2 < (t538.length : Int) then (if (wrap64 ((rd (rd_L2 l0 x9_1) x10_2) + (rd t538 (Go.bits .or .i64 x8_2 (ji9))))) = (rd t538 x8_2) then (if x7_2.length < 17592186044416 then (dancestudioref11_Solve.l0 k2 l0 t538 (x7_2 ++ [x10_2]) (Go.bits .or .i64 x8_2 (ji9)) (wrap64 (x9_1 + 1))) else (none)) else (dancestudioref11_Solve.l1 k2 l0 t538 x7_2 x8_2 x9_1 (wrap64 (x10_2 + 1)))) else (none)) else (none)) else (none)) else (none)) else (none)) else (none)) else (none)) else (dancestudioref11_Solve.l1 k2 l0 t538 x7_2 x8_2 x9_1 (wrap64 (x10_2 + 1)))) = some (r1, r2, r3) := by first | (rw [hji9] at H; exact H) | (simp only [hji9] at H ⊢; exact H)
     have hji9_ : (IntKind.i64.wrap (1 * 2 ^ min x10_2.toNat 64)) = ji9 := hji9
     have hji9z : x10_2 ≤ 64 → (IntKind.i64.wrap (1 * 2 ^ x10_2.toNat)) = ji9 := shl_small hji9
     have hji9u : (IntKind.i64.wrap (2 ^ min x10_2.toNat 64)) = ji9 := by have h_ := hji9_; rw [Int.one_mul] at h_; exact h_
     have hji9v : x10_2 ≤ 64 → (IntKind.i64.wrap (2 ^ x10_2.toNat)) = ji9 := fun hle_ => by have h_ := hji9z hle_; rw [Int.one_mul] at h_; exact h_
     have hji9y : (wrap64 (1 * 2 ^ min x10_2.toNat 64)) = ji9 := (i64_w _).symm.trans hji9_
     have hji9x : x10_2 ≤ 64 → (wrap64 (1 * 2 ^ x10_2.toNat)) = ji9 := fun h_ => (i64_w _).symm.trans (hji9z h_)
     by_cases c10 : (Go.bits .and .i64 x8_2 (ji9)) = 0
     rotate_left
     ·
      rw [if_neg c10] at H
      have c10b0 := beq_eq_false_iff_ne.mpr c10
      have c10b1 := bne_iff_ne.mpr c10
      have H' := Aside0.mk H
      clear H
      go_wp2
      repeat (go_quiet (fail); try go_wp2)
      go_roundg k2
      case measure => have := HK1.out; have := HK2.out; omega
      case rel => exact ⟨(x7_2), (x8_2), (wrap64 (x10_2 + 1)), rfl, rfl, H', ⟨by have := HK1.out; have := HK2.out; omega⟩, HO_6, HO_7, ⟨hO HB⟩⟩
     rw [if_pos c10] at H
     have c10b0 := beq_iff_eq.mpr c10
     have c10b1 := bne_eq_false_iff_eq.mpr c10
     clear c10
     obtain ⟨c11, H⟩ : (0 ≤ x9_1) ∧ _ := mIf H
     have c11b0 := decide_eq_true c11
     clear c11
     obtain ⟨c12, H⟩ : (x9_1 < (l0.length : Int)) ∧ _ := mIf H
     have c12b0 := decide_eq_true c12
     clear c12
     obtain ⟨c13, H⟩ : (x10_2 < ((rd_L2 l0 x9_1).length : Int)) ∧ _ := mIf H
     have c13b0 := decide_eq_true c13
     clear c13
     have c14b0 := eq_true (of_decide_eq_true (by assumption) : 0 ≤ x10_2)
     obtain ⟨c16, H⟩ : (0 ≤ (Go.bits .or .i64 x8_2 (ji9))) ∧ _ := mIf H
     have c16b0 := decide_eq_true c16
     clear c16
     obtain ⟨c17, H⟩ : ((Go.bits .or .i64 x8_2 (ji9)) < (t538.length : Int)) ∧ _ := mIf H
     have c17b0 := decide_eq_true c17
     clear c17
     obtain ⟨c18, H⟩ : (0 ≤ x8_2) ∧ _ := mIf H
     have c18b0 := decide_eq_true c18
     clear c18
     obtain ⟨c19, H⟩ : (x8_2 < (t538.length : Int)) ∧ _ := mIf H
     have c19b0 := decide_eq_true c19
     clear c19
     by_cases c20 : (wrap64 ((rd (rd_L2 l0 x9_1) x10_2) + (rd t538 (Go.bits .or .i64 x8_2 (ji9))))) = (rd t538 x8_2)
     rotate_left
     ·
      rw [if_neg c20] at H
      have c20b0 := beq_eq_false_iff_ne.mpr c20
      have c20b1 := bne_iff_ne.mpr c20
      have H' := Aside0.mk H
      clear H
      have p542 : 0 ≤ (x9_1 : Int) := of_decide_eq_true (by assumption)
      have q542 : x9_1 < (l0.length : Int) := of_decide_eq_true (by assumption)
      obtain ⟨ad542, A542_0, c542_0, e542, hx542_0, hl542_0, hi542_0⟩ := at_L2 HR0.out x9_1 p542 q542
      cases e542
      replace hx542_0 := mHx HB hx542_0
      have HR542_0 := Aside0.mk hi542_0
      have HC542_0 := Aside0.mk hl542_0
      clear hi542_0 hl542_0
      replace p542 := eq_true p542
      replace q542 := eq_true q542
      have p543 : 0 ≤ (x10_2 : Int) := of_decide_eq_true (by assumption)
      have q543 : x10_2 < ((rd_L2 l0 x9_1).length : Int) := of_decide_eq_true (by assumption)
      obtain ⟨ad543, e543, hx543_0⟩ := Kd.at_int HR542_0.out x10_2 p543 q543
      cases e543
      replace hx543_0 := mHx HB hx543_0
      replace p543 := eq_true p543
      replace q543 := eq_true q543
      obtain ⟨Ao26, co26, eo26⟩ := Kd.R_slice HO_6.out
      subst eo26
      have p544 : 0 ≤ ((Go.bits .or .i64 x8_2 (ji9)) : Int) := of_decide_eq_true (by assumption)
      have q544 : (Go.bits .or .i64 x8_2 (ji9)) < (t538.length : Int) := of_decide_eq_true (by assumption)
      obtain ⟨ad544, e544, hx544_0⟩ := Kd.at_int (Kd.R_reads' HO_6.out).2.2 (Go.bits .or .i64 x8_2 (ji9)) p544 q544
      cases e544
      replace p544 := eq_true p544
      replace q544 := eq_true q544
      have p545 : 0 ≤ (x8_2 : Int) := of_decide_eq_true (by assumption)
      have q545 : x8_2 < (t538.length : Int) := of_decide_eq_true (by assumption)
      obtain ⟨ad545, e545, hx545_0⟩ := Kd.at_int (Kd.R_reads' HO_6.out).2.2 x8_2 p545 q545
      obtain rfl : ad544 = ad545 := (by injection e545)
      replace p545 := eq_true p545
      replace q545 := eq_true q545
      go_wp2
      repeat (go_quiet (fail); try go_wp2)
      go_roundg k2
      case measure => have := HK1.out; have := HK2.out; omega
      case rel => exact ⟨(x7_2), (x8_2), (wrap64 (x10_2 + 1)), rfl, rfl, H', ⟨by have := HK1.out; have := HK2.out; omega⟩, HO_6, HO_7, ⟨hO HB⟩⟩
     rw [if_pos c20] at H
     have c20b0 := beq_iff_eq.mpr c20
     have c20b1 := bne_eq_false_iff_eq.mpr c20
     clear c20
     obtain ⟨c21, H⟩ : (x7_2.length < 17592186044416) ∧ _ := mIf H
     have LMc21 := Aside0.mk c21
     clear c21
     obtain ⟨y546, hy546⟩ : ∃ y_ : List Int, y_ = (x7_2 ++ [x10_2]) := ⟨_, rfl⟩
     rw [← hy546] at H
     have Ny546 := Aside0.mk hy546
     clear hy546
     have c22b0 := eq_true (of_decide_eq_true (by assumption) : 0 ≤ x10_2)
     have H' := Aside0.mk H
     clear H
     have p542 : 0 ≤ (x9_1 : Int) := of_decide_eq_true (by assumption)
     have q542 : x9_1 < (l0.length : Int) := of_decide_eq_true (by assumption)
     obtain ⟨ad542, A542_0, c542_0, e542, hx542_0, hl542_0, hi542_0⟩ := at_L2 HR0.out x9_1 p542 q542
     cases e542
     replace hx542_0 := mHx HB hx542_0
     have HR542_0 := Aside0.mk hi542_0
     have HC542_0 := Aside0.mk hl542_0
     clear hi542_0 hl542_0
     replace p542 := eq_true p542
     replace q542 := eq_true q542
     have p543 : 0 ≤ (x10_2 : Int) := of_decide_eq_true (by assumption)
     have q543 : x10_2 < ((rd_L2 l0 x9_1).length : Int) := of_decide_eq_true (by assumption)
     obtain ⟨ad543, e543, hx543_0⟩ := Kd.at_int HR542_0.out x10_2 p543 q543
     cases e543
     replace hx543_0 := mHx HB hx543_0
     replace p543 := eq_true p543
     replace q543 := eq_true q543
     obtain ⟨Ao24, co24, eo24⟩ := Kd.R_slice HO_6.out
     subst eo24
     have p544 : 0 ≤ ((Go.bits .or .i64 x8_2 (ji9)) : Int) := of_decide_eq_true (by assumption)
     have q544 : (Go.bits .or .i64 x8_2 (ji9)) < (t538.length : Int) := of_decide_eq_true (by assumption)
     obtain ⟨ad544, e544, hx544_0⟩ := Kd.at_int (Kd.R_reads' HO_6.out).2.2 (Go.bits .or .i64 x8_2 (ji9)) p544 q544
     cases e544
     replace p544 := eq_true p544
     replace q544 := eq_true q544
     have p545 : 0 ≤ (x8_2 : Int) := of_decide_eq_true (by assumption)
     have q545 : x8_2 < (t538.length : Int) := of_decide_eq_true (by assumption)
     obtain ⟨ad545, e545, hx545_0⟩ := Kd.at_int (Kd.R_reads' HO_6.out).2.2 x8_2 p545 q545
     obtain rfl : ad544 = ad545 := (by injection e545)
     replace p545 := eq_true p545
     replace q545 := eq_true q545
     go_wp2_with (first | ((with_reducible refine gate_builtin (b := .append) (xs := #[.tmp 57, .tmp 59]) rfl ?_); at_builtin; refine Kd.R_append (Kd.int .i64) (w0 := w) w.heap.size rfl (.tmp 57) (.tmp 59) 29 3 (.int .i64 0) 8 rfl Tryd.underlying29 info3 rfl (by decide) (by omega) u7 x7_2 x10_2 [.int .i64 x10_2] (fun k_ => some k_ ≠ (.slice (some ad544) t538.length co24 : Value).ownBlock) (fun _ => False) rfl rfl ?aP (fun _ hk => hk.elim) ?aF ?aO ?aB ?aS ?aL ?_; (case aP => exact rfl); (case aB => exact HB.out); (case aF => exact (fun k_ hk => Kd.fresh' (Kd.R_lt HO_6.out) k_ hk)); (case aO => exact HO_7.out); (case aS => exact (below_size HB.out)); (case aL => have := LMc21.out; omega); intro v547 w25 ho hb hg hat; rw [← Ny546.out] at ho; replace HO_6 := Aside0.mk (Kd.R_after (ok := (fun _ => True)) (by exact Kd.R_mono HO_6.out (fun _ hk => ⟨trivial, hk⟩)) hg hat); replace HB := Aside0.mk hb; have HO548 := Aside0.mk ho; clear HO_7; clear ho hb hg hat))
     repeat (go_quiet (first | ((with_reducible refine gate_builtin (b := .append) (xs := #[.tmp 57, .tmp 59]) rfl ?_); at_builtin; refine Kd.R_append (Kd.int .i64) (w0 := w) w.heap.size rfl (.tmp 57) (.tmp 59) 29 3 (.int .i64 0) 8 rfl Tryd.underlying29 info3 rfl (by decide) (by omega) u7 x7_2 x10_2 [.int .i64 x10_2] (fun k_ => some k_ ≠ (.slice (some ad544) t538.length co24 : Value).ownBlock) (fun _ => False) rfl rfl ?aP (fun _ hk => hk.elim) ?aF ?aO ?aB ?aS ?aL ?_; (case aP => exact rfl); (case aB => exact (hO HB)); (case aF => exact (fun k_ hk => Kd.fresh' (Kd.R_lt (rO HO_6)) k_ hk)); (case aO => exact (rO HO_7)); (case aS => exact (below_size (hO HB))); (case aL => have := LMc21.out; omega); intro v547 w25 ho hb hg hat; rw [← Ny546.out] at ho; replace HO_6 := Aside0.mk (Kd.R_after (ok := (fun _ => True)) (by (with_reducible repeat (first | apply Kd.R_alloc | apply Kd.R_drewN | apply Kd.R_drew)); exact Kd.R_mono HO_6.out (fun _ hk => ⟨trivial, hk⟩)) hg hat); replace HB := Aside0.mk hb; have HO548 := Aside0.mk ho; clear HO_7; clear ho hb hg hat)); try go_wp2_with (first | ((with_reducible refine gate_builtin (b := .append) (xs := #[.tmp 57, .tmp 59]) rfl ?_); at_builtin; refine Kd.R_append (Kd.int .i64) (w0 := w) w.heap.size rfl (.tmp 57) (.tmp 59) 29 3 (.int .i64 0) 8 rfl Tryd.underlying29 info3 rfl (by decide) (by omega) u7 x7_2 x10_2 [.int .i64 x10_2] (fun k_ => some k_ ≠ (.slice (some ad544) t538.length co24 : Value).ownBlock) (fun _ => False) rfl rfl ?aP (fun _ hk => hk.elim) ?aF ?aO ?aB ?aS ?aL ?_; (case aP => exact rfl); (case aB => exact (hO HB)); (case aF => exact (fun k_ hk => Kd.fresh' (Kd.R_lt (rO HO_6)) k_ hk)); (case aO => exact (rO HO_7)); (case aS => exact (below_size (hO HB))); (case aL => have := LMc21.out; omega); intro v547 w25 ho hb hg hat; rw [← Ny546.out] at ho; replace HO_6 := Aside0.mk (Kd.R_after (ok := (fun _ => True)) (by (with_reducible repeat (first | apply Kd.R_alloc | apply Kd.R_drewN | apply Kd.R_drew)); exact Kd.R_mono HO_6.out (fun _ hk => ⟨trivial, hk⟩)) hg hat); replace HB := Aside0.mk hb; have HO548 := Aside0.mk ho; clear HO_7; clear ho hb hg hat)))
     go_roundg k2
     case measure => have := HK1.out; have := HK2.out; omega
     case rel => exact ⟨(y546), (Go.bits .or .i64 x8_2 (ji9)), (wrap64 (x9_1 + 1)), (by first | rfl | (simp; done) | (simp only [← hji9] <;> (first | rfl | simp)) | (simp [*]; done)), rfl, H', ⟨by have := HK1.out; have := HK2.out; omega⟩, ⟨Kd.R_mono HO_6.out (fun _ hk => hk.2)⟩, HO548, ⟨HB.out⟩⟩
end Go.Proofs.YtaggccbndmmbhaaDoor.PAll
