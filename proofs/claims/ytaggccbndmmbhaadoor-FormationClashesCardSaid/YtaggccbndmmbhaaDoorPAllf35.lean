-- Written by wip/tools/handprint.py: walks of the functions that the law reaches; Lean checks them.
import Derived.Test.YtaggccbndmmbhaaDoorBase
import Derived.Test.YtaggccbndmmbhaaDoorPAllf56
import Derived.Test.YtaggccbndmmbhaaDoorPAllf57
import Derived.Test.YtaggccbndmmbhaaDoorPAllf58
namespace Go.Proofs.YtaggccbndmmbhaaDoor.PAll
open Go.RowKit Go.Proofs.YtaggccbndmmbhaaDoorW.PrintWords Go.Proofs.YtaggccbndmmbhaaDoorW.PrintLast Go.Proofs.YtaggccbndmmbhaaDoorW.PrintMore
attribute [local go_sem] max2_int min2_int max_two min_two max_three min_three max_four min_four   -- for this text's walks alone
set_option linter.unusedVariables false
set_option linter.unusedSimpArgs false

/-! ### assign_Solve: function 35 -/
mutual
def assign_Solve.l0 : Nat → List (List Int) → Int → List Int → Int → Int → Option (List Int × Int × Int)
 | 0, _, _, _, _, _ => none
 | k + 1, x0, x6, x7, x23, x24 => if x24 < x23 then (if x7.length < 17592186044416 then (assign_Solve.l0 k x0 x6 (x7 ++ [x24]) x23 (wrap64 (x24 + 1))) else (none)) else (assign_Solve.l1 k x6 x7 ([] : List Int) x6 x0)
def assign_Solve.l1 : Nat → Int → List Int → List Int → Int → List (List Int) → Option (List Int × Int × Int)
 | 0, _, _, _, _, _ => none
 | k + 1, x6, x7, x8, x10, x11 => if (x11.length : Int) > 0 then (if 0 < (x11.length : Int) then (assign_Solve.l2 k x6 x7 x8 x10 x11 (rd_L2 x11 0) ((rd_L2 x11 0).length : Int) 0) else (none)) else (some (x8, x6, 0))
def assign_Solve.l2 : Nat → Int → List Int → List Int → Int → List (List Int) → List Int → Int → Int → Option (List Int × Int × Int)
 | 0, _, _, _, _, _, _, _, _ => none
 | k + 1, x6, x7, x8, x10, x11, x39, x40, x41 => if x41 < x40 then (if 0 ≤ x41 then (if x41 < (x39.length : Int) then ((assign_without.f k x11 x41).bind fun t233 => ((assign_cost.f k t233).bind fun t236 => (if (wrap64 ((rd x39 x41) + t236)) = x10 then (if x41 < (x7.length : Int) then (if x8.length < 17592186044416 then ((some (([] : List Int) : List Int)).bind fun y241 => (if x41 ≤ (x7.length : Int) then ((some (x7.take (x41 : Int).toNat : List Int)).bind fun y244 => (if y241.length + y244.length < 17592186044416 then ((some (y241 ++ y244 : List Int)).bind fun y248 => (if 0 ≤ (wrap64 (x41 + 1)) then (if (wrap64 (x41 + 1)) ≤ (x7.length : Int) then ((some (x7.drop ((wrap64 (x41 + 1)) : Int).toNat : List Int)).bind fun y251 => (if y248.length + y251.length < 17592186044416 then (assign_Solve.l1 k x6 (y248 ++ y251) (x8 ++ [rd x7 x41]) (wrap64 (x10 - (rd x39 x41))) t233) else (none))) else (none)) else (none))) else (none))) else (none))) else (none)) else (none)) else (assign_Solve.l2 k x6 x7 x8 x10 x11 x39 x40 (wrap64 (x41 + 1)))))) else (none)) else (none)) else (assign_Solve.l1 k x6 x7 x8 x10 x11)
end
def assign_Solve.f (k : Nat) (l0 : List (List Int)) : Option (List Int × Int × Int) := (assign_Check.f k l0).bind fun t226 => (if t226 = 0 then ((assign_cost.f k l0).bind fun t227 => (assign_Solve.l0 k l0 t227 ([] : List Int) (l0.length : Int) 0)) else (some (([] : List Int), 0, t226)))
def assign_Solve.T19 : Bool × List (List Nat × List Nat) := (true, [([], []), ([], []), ([], []), ([1, 2], [1, 2]), ([0, 3], [0, 3]), ([], []), ([], []), ([6], [6]), ([5, 7], [5, 7]), ([4, 8, 4], [4, 8]), ([9, 9, 0, 1, 2, 3, 4, 5, 6, 7, 8, 9], [1, 5, 9])])
def assign_Solve.B19 : List Nat := [0, 0, 0, 6, 15, 0, 0, 64, 224, 511, 1023]
theorem assign_Solve.tab19 : rtab .any (opsOf Tryd.f35 19) = assign_Solve.T19 := by kernel_rfl
theorem assign_Solve.bits19 : waitsOk assign_Solve.T19.2 assign_Solve.B19 = true := by kernel_rfl
set_option maxHeartbeats 8000000 in
set_option maxRecDepth 100000 in
theorem assign_Solve.calls (k : Nat) (P0_ : Nat → Prop) (A0 : Option Addr) (c0 : Nat) (l0 : List (List Int)) (r1 : List Int) (r2 : Int) (r3 : Int) (w : World) (hs0 : Kd.V (Kd.slice 3 (Kd.int .i64)) 29 w w.heap.size (fun k_ => P0_ k_) (.slice A0 l0.length c0) l0) (h : assign_Solve.f k l0 = some (r1, r2, r3)) :
  Calls Tryd.prog 35 #[.slice A0 l0.length c0] w fun e w' => ∃ v0_ : Value, e = .returned (.tuple #[v0_, .int .i64 r2, .int .i64 r3]) ∧ Kd.R (Kd.int .i64) 3 w' w.heap.size (fun k_ => (w.heap.size ≤ k_)) v0_ r1 ∧ Below w.heap.size w w' := by
 have HO0 := Aside0.mk (show Kd.V (Kd.slice 3 (Kd.int .i64)) 29 w w.heap.size (fun k_ => (P0_ k_ ∨ w.heap.size ≤ k_)) (.slice A0 l0.length c0) l0 from Kd.V_mono hs0 (fun k_ hk => .inl hk))
 have HB := Aside0.mk (Below.refl w.heap.size w)
 have H := h
 unfold assign_Solve.f at H
 clear h
 replace H := Option.bind_eq_some_iff.mp H
 obtain ⟨t226, A20, H⟩ := H
 try dsimp only at H
 have A2 := Aside0.mk A20
 clear A20
 by_cases c3 : t226 = 0
 rotate_left
 ·
  rw [if_neg c3] at H
  have c3b0 := beq_eq_false_iff_ne.mpr c3
  have c3b1 := bne_iff_ne.mpr c3
  simp only [Option.some.injEq, Prod.mk.injEq] at H
  obtain ⟨rfl, rfl, rfl⟩ := H
  go_enter Tryd.func35, Tryd.ntmps35
  go_wp2_with (first | ((with_reducible refine gate_callee (f := 56) rfl ?_); refine goesL_ (some 16) rfl rfl Tryd.func56 (by kernel_rfl) rfl #[.slice A0 l0.length c0] rfl (mA1 rfl) ?_; (with_reducible refine (assign_Check.calls k _ _ l0 t226 _ ((Kd.V_reads' HO0.out).2.2) ((Kd.V_reads' HO0.out).2.1) A2.out).mono ?_); rintro e w' ⟨rfl, ⟨nd, rfl⟩⟩; refine ⟨_, rfl, ?_⟩))
  go_ret3
  exact ⟨_, rfl, by first | exact Kd.R_nil _ _ _ _ _ | exact Kd.N_nil _ _ _ _ _ | exact Kd.V_nil _ _ _ _ _ | exact Kd.Q_nil _ _ _ _ _ | exact Kd.S_nil _ _ _ _ _, hO HB⟩
 rw [if_pos c3] at H
 have c3b0 := beq_iff_eq.mpr c3
 have c3b1 := bne_eq_false_iff_eq.mpr c3
 clear c3
 replace H := Option.bind_eq_some_iff.mp H
 obtain ⟨t227, A40, H⟩ := H
 try dsimp only at H
 have A4 := Aside0.mk A40
 clear A40
 have H' := Aside0.mk H
 clear H
 go_enter Tryd.func35, Tryd.ntmps35
 go_wp2_with (first | ((with_reducible refine gate_callee (f := 56) rfl ?_); refine goesL_ (some 16) rfl rfl Tryd.func56 (by kernel_rfl) rfl #[.slice A0 l0.length c0] rfl (mA1 rfl) ?_; (with_reducible refine (assign_Check.calls k _ _ l0 t226 _ (cO (Kd.V_reads' HO0.out).2.2) ((Kd.V_reads' HO0.out).2.1) A2.out).mono ?_); rintro e w' ⟨rfl, ⟨nd, rfl⟩⟩; refine ⟨_, rfl, ?_⟩) | ((with_reducible refine gate_callee (f := 57) rfl ?_); refine goesL_ (some 21) rfl rfl Tryd.func57 (by kernel_rfl) rfl #[.slice A0 l0.length c0] rfl (mA1 rfl) ?_; (with_reducible refine (assign_cost.calls k _ _ l0 t227 _ (cO (Kd.V_reads' HO0.out).2.2) ((Kd.V_reads' HO0.out).2.1) A4.out).mono ?_); rintro e w5 ⟨rfl, hb⟩; refine ⟨_, rfl, ?_⟩; replace HO0 := Aside0.mk (Kd.V_below (by (with_reducible repeat (first | apply Kd.V_alloc | apply Kd.V_drewN | apply Kd.V_drew)); exact HO0.out) hb); replace HB := mSx HB hb; (try clear hb)))
 go_loopg [7, 24] k (fun kq v7 v24 w' => ∃ (x7_1 : List Int) (x24_1 : Int), v24 = .int .i64 x24_1 ∧ Aside0 (assign_Solve.l0 kq l0 t227 x7_1 (l0.length : Int) x24_1 = some (r1, r2, r3)) ∧ Aside0 (kq ≤ k) ∧ Aside0 (Kd.V (Kd.slice 3 (Kd.int .i64)) 29 w' w.heap.size (fun k_ => (P0_ k_ ∨ w.heap.size ≤ k_) ∧ some k_ ≠ (v7 : Value).ownBlock) (.slice A0 l0.length c0) l0) ∧ Aside0 (Kd.R (Kd.int .i64) 3 w' w.heap.size (fun k_ => (w.heap.size ≤ k_)) v7 x7_1) ∧ Aside0 (Below w.heap.size w w'))
 case atStart => exact ⟨(([] : List Int)), (0), rfl, H', ⟨Nat.le_refl _⟩, ⟨Kd.V_mono HO0.out (fun _ hk => ⟨hk, (by simp [Value.ownBlock])⟩)⟩, ⟨by first | exact Kd.R_nil _ _ _ _ _ | exact Kd.N_nil _ _ _ _ _ | exact Kd.V_nil _ _ _ _ _ | exact Kd.Q_nil _ _ _ _ _ | exact Kd.S_nil _ _ _ _ _⟩, ⟨HB.out⟩⟩
 case round =>
  clear H'
  clear c3b0 c3b1
  obtain ⟨x7_1, x24_1, rfl, HA, HK1, HO_0, HO_7, HB⟩ := hrel
  cases gk with
  | zero => exact absurd HA.out (by simp [assign_Solve.l0])
  | succ k1 =>
   have H := HA.out
   clear HA
   simp only [assign_Solve.l0] at H
   by_cases c6 : x24_1 < (l0.length : Int)
   ·
    rw [if_pos c6] at H
    have c6b0 := decide_eq_true c6
    clear c6
    obtain ⟨c7, H⟩ : (x7_1.length < 17592186044416) ∧ _ := mIf H
    have LMc7 := Aside0.mk c7
    clear c7
    obtain ⟨y228, hy228⟩ : ∃ y_ : List Int, y_ = (x7_1 ++ [x24_1]) := ⟨_, rfl⟩
    rw [← hy228] at H
    have Ny228 := Aside0.mk hy228
    clear hy228
    have H' := Aside0.mk H
    clear H
    go_wp2_with (first | ((with_reducible refine gate_builtin (b := .append) (xs := #[.tmp 27, .tmp 29]) rfl ?_); at_builtin; refine Kd.R_append (Kd.int .i64) (w0 := w) w.heap.size rfl (.tmp 27) (.tmp 29) 29 3 (.int .i64 0) 8 rfl Tryd.underlying29 info3 rfl (by decide) (by omega) u7 x7_1 x24_1 [.int .i64 x24_1] (fun k_ => (w.heap.size ≤ k_)) (fun _ => False) rfl rfl ?aP (fun _ hk => hk.elim) ?aF ?aO ?aB ?aS ?aL ?_; (case aP => exact rfl); (case aB => exact HB.out); (case aF => exact (fun k_ hk => (Nat.le_trans (below_size HB.out) hk))); (case aO => exact HO_7.out); (case aS => exact (below_size HB.out)); (case aL => have := LMc7.out; omega); intro v229 w8 ho hb hg hat; rw [← Ny228.out] at ho; replace HO_0 := Aside0.mk (Kd.V_afterv (ok := (fun k_ => (P0_ k_ ∨ w.heap.size ≤ k_))) HO_0.out hg hat); replace HB := Aside0.mk hb; have HO230 := Aside0.mk ho; clear HO_7; clear ho hb hg hat))
    go_roundg k1
    case measure => have := HK1.out; omega
    case rel => exact ⟨(y228), (wrap64 (x24_1 + 1)), rfl, H', ⟨by have := HK1.out; omega⟩, HO_0, HO230, ⟨HB.out⟩⟩
   rw [if_neg c6] at H
   have c6b0 := decide_eq_false c6
   clear c6
   have H' := Aside0.mk H
   clear H
   go_wp2
   go_loopg [7, 8, 10, 11] k1 (fun kq v7 v8 v10 v11 w' => ∃ (x7_2 : List Int) (x8_2 : List Int) (x10_2 : Int) (x11_2 : List (List Int)), v10 = .int .i64 x10_2 ∧ Aside0 (assign_Solve.l1 kq t227 x7_2 x8_2 x10_2 x11_2 = some (r1, r2, r3)) ∧ Aside0 (kq ≤ k1) ∧ Aside0 (Kd.R (Kd.int .i64) 3 w' w.heap.size (fun k_ => (w.heap.size ≤ k_) ∧ some k_ ≠ (v8 : Value).ownBlock) v7 x7_2) ∧ Aside0 (Kd.R (Kd.int .i64) 3 w' w.heap.size (fun k_ => (w.heap.size ≤ k_) ∧ some k_ ≠ (v7 : Value).ownBlock) v8 x8_2) ∧ Aside0 (Kd.V (Kd.slice 3 (Kd.int .i64)) 29 w' w.heap.size (fun k_ => (P0_ k_ ∨ w.heap.size ≤ k_) ∧ some k_ ≠ (v7 : Value).ownBlock ∧ some k_ ≠ (v8 : Value).ownBlock) v11 x11_2) ∧ Aside0 (Below w.heap.size w w'))
   case atStart => exact ⟨(x7_1), (([] : List Int)), (t227), (l0), rfl, H', ⟨Nat.le_refl _⟩, ⟨Kd.R_mono HO_7.out (fun _ hk => ⟨hk, (by simp [Value.ownBlock])⟩)⟩, ⟨by first | exact Kd.R_nil _ _ _ _ _ | exact Kd.N_nil _ _ _ _ _ | exact Kd.V_nil _ _ _ _ _ | exact Kd.Q_nil _ _ _ _ _ | exact Kd.S_nil _ _ _ _ _⟩, ⟨Kd.V_mono HO_0.out (fun _ hk => ⟨hk.1, ⟨hk.2, (by simp [Value.ownBlock])⟩⟩)⟩, ⟨HB.out⟩⟩
   case round =>
    clear H'
    clear c6b0
    obtain ⟨x7_2, x8_2, x10_2, x11_2, rfl, HA, HK2, HO_7, HO_8, HO_11, HB⟩ := hrel
    cases gk with
    | zero => exact absurd HA.out (by simp [assign_Solve.l1])
    | succ k2 =>
     have H := HA.out
     clear HA
     simp only [assign_Solve.l1] at H
     by_cases c9 : (x11_2.length : Int) > 0
     rotate_left
     ·
      rw [if_neg c9] at H
      have c9b0 := decide_eq_false c9
      have c9b1 : decide (0 < x11_2.length) = false := decide_eq_false (by omega)
      clear c9
      simp only [Option.some.injEq, Prod.mk.injEq] at H
      obtain ⟨rfl, rfl, rfl⟩ := H
      obtain ⟨Ao44, co44, eo44⟩ := Kd.V_slice HO_11.out
      subst eo44
      go_wp2
      go_ret3
      exact ⟨_, rfl, by exact Kd.R_mono HO_8.out (fun _ hk => hk.1), HB.out⟩
     rw [if_pos c9] at H
     have c9b0 := decide_eq_true c9
     have c9b1 : decide (0 < x11_2.length) = true := decide_eq_true (by omega)
     clear c9
     obtain ⟨c10, H⟩ : (0 < (x11_2.length : Int)) ∧ _ := mIf H
     have c10b0 := decide_eq_true c10
     have c10b1 : decide (0 < x11_2.length) = true := decide_eq_true (by omega)
     clear c10
     have H' := Aside0.mk H
     clear H
     obtain ⟨Ao11, co11, eo11⟩ := Kd.V_slice HO_11.out
     subst eo11
     have p231 : 0 ≤ (0 : Int) := (by omega)
     have q231 : 0 < (x11_2.length : Int) := of_decide_eq_true (by assumption)
     obtain ⟨ad231, A231_0, c231_0, e231, hx231_0, hl231_0, hi231_0⟩ := at_L2 (Kd.V_reads' HO_11.out).2.2 0 p231 q231
     cases e231
     obtain ⟨ce231, hce231, hMe231, hcc231⟩ := Kd.V_get HO_11.out [] 0 p231 (by first | exact q231 | exact of_decide_eq_true (by assumption) | (have e_ := (Kd.V_reads' HO_11.out).1; omega))
     obtain ⟨ua231_0, uc231_0, rfl, ul231_0, ge231_0⟩ := Kd.FK_slice_open hMe231
     have hv231_0 := hcc231 0 _ rfl
     rw [Nat.add_zero, show ((Kd.slice 3 (Kd.int .i64))).sz = 1 from rfl, Nat.mul_one] at hv231_0
     replace hv231_0 := Option.some.inj (hv231_0.symm.trans hx231_0)
     injection hv231_0 with hva_ hvn_ hvc_
     rw [hva_] at ge231_0
     rw [hvc_] at ul231_0
     have HL231_0 := Aside0.mk (show Kd.V (Kd.int .i64) 3 _ w.heap.size _ _ (rd_L2 x11_2 0) from Kd.V_mk ul231_0 ge231_0)
     clear hva_ hvn_ hvc_ ge231_0 ul231_0
     clear hcc231 hce231
     have qi231 : (0 < x11_2.length) = True := eq_true (by omega)
     (try rw [show ((0 : Int)).toNat = 0 from rfl] at hx231_0)
     (try rw [Addr.add_zero'] at hx231_0)
     have HR231_0 := Aside0.mk hi231_0
     have HC231_0 := Aside0.mk hl231_0
     clear hi231_0 hl231_0
     replace p231 := eq_true p231
     replace q231 := eq_true q231
     go_wp2
     go_loopg [7, 8, 10, 11, 41] k2 (fun kq v7 v8 v10 v11 v41 w' => ∃ (x7_3 : List Int) (x8_3 : List Int) (x10_3 : Int) (x11_3 : List (List Int)) (x41_3 : Int), v10 = .int .i64 x10_3 ∧ v41 = .int .i64 x41_3 ∧ Aside0 (assign_Solve.l2 kq t227 x7_3 x8_3 x10_3 x11_3 (rd_L2 x11_2 0) ((rd_L2 x11_2 0).length : Int) x41_3 = some (r1, r2, r3)) ∧ Aside0 (kq ≤ k2) ∧ Aside0 (Kd.R (Kd.int .i64) 3 w' w.heap.size (fun k_ => (w.heap.size ≤ k_) ∧ some k_ ≠ (v8 : Value).ownBlock) v7 x7_3) ∧ Aside0 (Kd.R (Kd.int .i64) 3 w' w.heap.size (fun k_ => (w.heap.size ≤ k_) ∧ some k_ ≠ (v7 : Value).ownBlock) v8 x8_3) ∧ Aside0 (Kd.V (Kd.slice 3 (Kd.int .i64)) 29 w' w.heap.size (fun k_ => (P0_ k_ ∨ w.heap.size ≤ k_) ∧ some k_ ≠ (v7 : Value).ownBlock ∧ some k_ ≠ (v8 : Value).ownBlock) v11 x11_3) ∧ Aside0 (Kd.C (Kd.int .i64) w' A231_0 (rd_L2 x11_2 0).length (rd_L2 x11_2 0)) ∧ Aside0 (Below w.heap.size w w'))
     case atStart => exact ⟨(x7_2), (x8_2), (x10_2), (x11_2), (0), rfl, rfl, H', ⟨Nat.le_refl _⟩, HO_7, HO_8, HO_11, ⟨by repeat (first | (with_reducible exact HR231_0.out) | (with_reducible refine Kd.C_alloc ?_ _) | (with_reducible refine Kd.C_drewN ?_ _) | (with_reducible refine Kd.C_drew ?_) | exact HR231_0.out)⟩, ⟨HB.out⟩⟩
     case round =>
      clear H'
      clear c9b0 c9b1 c10b0 c10b1 hx231_0 p231 q231
      obtain ⟨x7_3, x8_3, x10_3, x11_3, x41_3, rfl, rfl, HA, HK3, HO_7, HO_8, HO_11, HR231_0, HB⟩ := hrel
      cases gk with
      | zero => exact absurd HA.out (by simp [assign_Solve.l2])
      | succ k3 =>
       have H := HA.out
       clear HA
       simp only [assign_Solve.l2] at H
       by_cases c12 : x41_3 < ((rd_L2 x11_2 0).length : Int)
       rotate_left
       ·
        rw [if_neg c12] at H
        have c12b0 := decide_eq_false c12
        clear c12
        have H' := Aside0.mk H
        clear H
        go_wp2
        go_roundg k3
        case measure => have := HK1.out; have := HK2.out; have := HK3.out; omega
        case rel => exact ⟨(x7_3), (x8_3), (x10_3), (x11_3), rfl, H', ⟨by have := HK1.out; have := HK2.out; have := HK3.out; omega⟩, HO_7, HO_8, HO_11, ⟨HB.out⟩⟩
       rw [if_pos c12] at H
       have c12b0 := decide_eq_true c12
       clear c12
       obtain ⟨c13, H⟩ : (0 ≤ x41_3) ∧ _ := mIf H
       have c13b0 := decide_eq_true c13
       clear c13
       obtain ⟨c14, H⟩ : (x41_3 < ((rd_L2 x11_2 0).length : Int)) ∧ _ := mIf H
       have c14b0 := decide_eq_true c14
       clear c14
       replace H := Option.bind_eq_some_iff.mp H
       obtain ⟨t233, A150, H⟩ := H
       try dsimp only at H
       have A15 := Aside0.mk A150
       clear A150
       replace H := Option.bind_eq_some_iff.mp H
       obtain ⟨t236, A160, H⟩ := H
       try dsimp only at H
       have A16 := Aside0.mk A160
       clear A160
       by_cases c17 : (wrap64 ((rd (rd_L2 x11_2 0) x41_3) + t236)) = x10_3
       rotate_left
       ·
        rw [if_neg c17] at H
        have c17b0 := beq_eq_false_iff_ne.mpr c17
        have c17b1 := bne_iff_ne.mpr c17
        have H' := Aside0.mk H
        clear H
        have p232 : 0 ≤ (x41_3 : Int) := of_decide_eq_true (by assumption)
        have q232 : x41_3 < ((rd_L2 x11_2 0).length : Int) := of_decide_eq_true (by assumption)
        obtain ⟨ad232, e232, hx232_0⟩ := Kd.at_int HR231_0.out x41_3 p232 q232
        cases e232
        try replace hx232_0 := mHx HB hx232_0
        replace p232 := eq_true p232
        replace q232 := eq_true q232
        obtain ⟨Ao40, co40, eo40⟩ := Kd.V_slice HO_11.out
        subst eo40
        go_wp2_with (first | ((with_reducible refine gate_callee (f := 58) rfl ?_); refine goesL_ (some 48) rfl rfl Tryd.func58 (by kernel_rfl) rfl #[.slice Ao40 x11_3.length co40, .int .i64 x41_3] rfl (mA2 rfl rfl) ?_; (with_reducible refine (assign_without.calls k3 _ _ x11_3 x41_3 t233 _ ((Kd.V_reads' HO_11.out).2.2) ((Kd.V_reads' HO_11.out).2.1) A15.out).mono ?_); rintro e w41 ⟨v234, rfl, ho0, hb⟩; refine ⟨_, rfl, ?_⟩; replace HO_11 := Aside0.mk (Kd.V_elder' HO_11.out (Kd.S_base ho0) hb); have HO235 := Aside0.mk (Kd.S_lower (Kd.S_new' (Kd.S_new' (Kd.S_newM (M := fun k_ => (w.heap.size ≤ k_)) ho0 (below_size HB.out) (fun k_ h_ => h_)) (Kd.R_lt HO_7.out)) (Kd.R_lt HO_8.out)) (below_size HB.out)); replace HO_7 := Aside0.mk (Kd.R_below HO_7.out hb); replace HO_8 := Aside0.mk (Kd.R_below HO_8.out hb); replace HR231_0 := Aside0.mk (Kd.C_below (by repeat (first | (with_reducible exact HR231_0.out) | (with_reducible refine Kd.C_alloc ?_ _) | (with_reducible refine Kd.C_drewN ?_ _) | (with_reducible refine Kd.C_drew ?_) | exact HR231_0.out)) hb); replace HB := mSt HB hb; (try clear hb); (try clear ho0); obtain ⟨Ao42, co42, eo42⟩ := Kd.S_slice HO235.out; subst eo42) | ((with_reducible refine gate_callee (f := 57) rfl ?_); refine goesL_ (some 51) rfl rfl Tryd.func57 (by kernel_rfl) rfl #[.slice Ao42 t233.length co42] rfl (mA1 rfl) ?_; (with_reducible refine (assign_cost.calls k3 _ _ t233 t236 _ ((Kd.S_reads' HO235.out).2.2) ((Kd.S_reads' HO235.out).2.1) A16.out).mono ?_); rintro e w43 ⟨rfl, hb⟩; refine ⟨_, rfl, ?_⟩; replace HO_7 := Aside0.mk (Kd.R_below HO_7.out hb); replace HO_8 := Aside0.mk (Kd.R_below HO_8.out hb); replace HO_11 := Aside0.mk (Kd.V_below HO_11.out hb); replace HO235 := Aside0.mk (Kd.S_below HO235.out hb); replace HR231_0 := Aside0.mk (Kd.C_below (by repeat (first | (with_reducible exact HR231_0.out) | (with_reducible refine Kd.C_alloc ?_ _) | (with_reducible refine Kd.C_drewN ?_ _) | (with_reducible refine Kd.C_drew ?_) | exact HR231_0.out)) hb); replace HB := mSt HB hb; (try clear hb)))
        go_roundg k3
        case measure => have := HK1.out; have := HK2.out; have := HK3.out; omega
        case rel => exact ⟨(x7_3), (x8_3), (x10_3), (x11_3), (wrap64 (x41_3 + 1)), rfl, rfl, H', ⟨by have := HK1.out; have := HK2.out; have := HK3.out; omega⟩, HO_7, HO_8, ⟨Kd.V_mono HO_11.out (fun _ hk => ⟨hk.1.1, ⟨hk.1.2.1, hk.1.2.2⟩⟩)⟩, ⟨by repeat (first | (with_reducible exact HR231_0.out) | (with_reducible refine Kd.C_alloc ?_ _) | (with_reducible refine Kd.C_drewN ?_ _) | (with_reducible refine Kd.C_drew ?_) | exact HR231_0.out)⟩, ⟨HB.out⟩⟩
       rw [if_pos c17] at H
       have c17b0 := beq_iff_eq.mpr c17
       have c17b1 := bne_eq_false_iff_eq.mpr c17
       clear c17
       obtain ⟨c18, H⟩ : (x41_3 < (x7_3.length : Int)) ∧ _ := mIf H
       have c18b0 := decide_eq_true c18
       clear c18
       obtain ⟨c19, H⟩ : (x8_3.length < 17592186044416) ∧ _ := mIf H
       have LMc19 := Aside0.mk c19
       clear c19
       obtain ⟨y238, hy238⟩ : ∃ y_ : List Int, y_ = (x8_3 ++ [rd x7_3 x41_3]) := ⟨_, rfl⟩
       rw [← hy238] at H
       have Ny238 := Aside0.mk hy238
       clear hy238
       obtain ⟨y241, hy241⟩ : ∃ y_ : List Int, y_ = (([] : List Int)) := ⟨_, rfl⟩
       rw [← hy241] at H
       have Ny241 := Aside0.mk hy241
       clear hy241
       have c20b0 := eq_true (of_decide_eq_true (by assumption) : 0 ≤ x41_3)
       obtain ⟨c21, H⟩ : (x41_3 ≤ (x7_3.length : Int)) ∧ _ := mIf H
       have c21b0 := eq_true c21
       have c21b1 := decide_eq_true c21
       clear c21
       obtain ⟨y244, hy244⟩ : ∃ y_ : List Int, y_ = (x7_3.take (x41_3 : Int).toNat) := ⟨_, rfl⟩
       rw [← hy244] at H
       have Ny244 := Aside0.mk hy244
       clear hy244
       obtain ⟨c22, H⟩ : (y241.length + y244.length < 17592186044416) ∧ _ := mIf H
       have LMc22 := Aside0.mk c22
       clear c22
       obtain ⟨y248, hy248⟩ : ∃ y_ : List Int, y_ = (y241 ++ y244) := ⟨_, rfl⟩
       rw [← hy248] at H
       have Ny248 := Aside0.mk hy248
       clear hy248
       obtain ⟨ji23, hji23⟩ : ∃ j_ : Int, (wrap64 (x41_3 + 1)) = j_ := ⟨_, rfl⟩
       replace H : (if 0 ≤ (ji23) then (if (ji23) ≤ (x7_3.length : Int) then ((some (x7_3.drop ((ji23) : Int).toNat : List Int)).bind fun y251 => (if y248.length + y251.length < 17592186044416 then (assign_Solve.l1 k3 t227 (y248 ++ y251) y238 (wrap64 (x10_3 - (rd (rd_L2 x11_2 0) x41_3))) t233) else (none))) else (none)) else (none)) = some (r1, r2, r3) := by first | (rw [hji23] at H; exact H) | (simp only [hji23] at H ⊢; exact H)
       (try rw [hji23] at A15)
       (try rw [hji23] at A16)
       have hji23w : (IntKind.i64.wrap (x41_3 + 1)) = ji23 := (i64_w _).trans hji23
       obtain ⟨c24, H⟩ : (0 ≤ (ji23)) ∧ _ := mIf H
       have c24b0 := eq_true c24
       have c24b1 := decide_eq_true c24
       clear c24
       obtain ⟨c25, H⟩ : ((ji23) ≤ (x7_3.length : Int)) ∧ _ := mIf H
       have c25b0 := eq_true c25
       have c25b1 := decide_eq_true c25
       clear c25
       obtain ⟨y251, hy251⟩ : ∃ y_ : List Int, y_ = (x7_3.drop ((ji23) : Int).toNat) := ⟨_, rfl⟩
       rw [← hy251] at H
       have Ny251 := Aside0.mk hy251
       clear hy251
       obtain ⟨c26, H⟩ : (y248.length + y251.length < 17592186044416) ∧ _ := mIf H
       have LMc26 := Aside0.mk c26
       clear c26
       obtain ⟨y255, hy255⟩ : ∃ y_ : List Int, y_ = (y248 ++ y251) := ⟨_, rfl⟩
       rw [← hy255] at H
       have Ny255 := Aside0.mk hy255
       clear hy255
       have H' := Aside0.mk H
       clear H
       have p232 : 0 ≤ (x41_3 : Int) := of_decide_eq_true (by assumption)
       have q232 : x41_3 < ((rd_L2 x11_2 0).length : Int) := of_decide_eq_true (by assumption)
       obtain ⟨ad232, e232, hx232_0⟩ := Kd.at_int HR231_0.out x41_3 p232 q232
       cases e232
       try replace hx232_0 := mHx HB hx232_0
       replace p232 := eq_true p232
       replace q232 := eq_true q232
       obtain ⟨Ao27, co27, eo27⟩ := Kd.V_slice HO_11.out
       subst eo27
       try go_wp2_with (first | ((with_reducible refine gate_callee (f := 58) rfl ?_); refine goesL_ (some 48) rfl rfl Tryd.func58 (by kernel_rfl) rfl #[.slice Ao27 x11_3.length co27, .int .i64 x41_3] rfl (mA2 rfl rfl) ?_; (with_reducible refine (assign_without.calls k3 _ _ x11_3 x41_3 t233 _ ((Kd.V_reads' HO_11.out).2.2) ((Kd.V_reads' HO_11.out).2.1) A15.out).mono ?_); rintro e w28 ⟨v234, rfl, ho0, hb⟩; refine ⟨_, rfl, ?_⟩; replace HO_11 := Aside0.mk (Kd.V_elder' HO_11.out (Kd.S_base ho0) hb); have HO235 := Aside0.mk (Kd.S_lower (Kd.S_new' (Kd.S_new' (Kd.S_newM (M := fun k_ => (w.heap.size ≤ k_)) ho0 (below_size HB.out) (fun k_ h_ => h_)) (Kd.R_lt HO_7.out)) (Kd.R_lt HO_8.out)) (below_size HB.out)); replace HO_7 := Aside0.mk (Kd.R_below HO_7.out hb); replace HO_8 := Aside0.mk (Kd.R_below HO_8.out hb); replace HR231_0 := Aside0.mk (Kd.C_below (by repeat (first | (with_reducible exact HR231_0.out) | (with_reducible refine Kd.C_alloc ?_ _) | (with_reducible refine Kd.C_drewN ?_ _) | (with_reducible refine Kd.C_drew ?_) | exact HR231_0.out)) hb); replace HB := mSt HB hb; (try clear hb); (try clear ho0); obtain ⟨Ao29, co29, eo29⟩ := Kd.S_slice HO235.out; subst eo29) | ((with_reducible refine gate_callee (f := 57) rfl ?_); refine goesL_ (some 51) rfl rfl Tryd.func57 (by kernel_rfl) rfl #[.slice Ao29 t233.length co29] rfl (mA1 rfl) ?_; (with_reducible refine (assign_cost.calls k3 _ _ t233 t236 _ ((Kd.S_reads' HO235.out).2.2) ((Kd.S_reads' HO235.out).2.1) A16.out).mono ?_); rintro e w30 ⟨rfl, hb⟩; refine ⟨_, rfl, ?_⟩; replace HO_7 := Aside0.mk (Kd.R_below HO_7.out hb); replace HO_8 := Aside0.mk (Kd.R_below HO_8.out hb); replace HO_11 := Aside0.mk (Kd.V_below HO_11.out hb); replace HO235 := Aside0.mk (Kd.S_below HO235.out hb); replace HR231_0 := Aside0.mk (Kd.C_below (by repeat (first | (with_reducible exact HR231_0.out) | (with_reducible refine Kd.C_alloc ?_ _) | (with_reducible refine Kd.C_drewN ?_ _) | (with_reducible refine Kd.C_drew ?_) | exact HR231_0.out)) hb); replace HB := mSt HB hb; (try clear hb); obtain ⟨Ao31, co31, eo31⟩ := Kd.R_slice HO_7.out; subst eo31; have p237 : 0 ≤ (x41_3 : Int) := of_decide_eq_true (by assumption); have q237 : x41_3 < (x7_3.length : Int) := of_decide_eq_true (by assumption); obtain ⟨ad237, e237, hx237_0⟩ := Kd.at_int (Kd.R_reads' HO_7.out).2.2 x41_3 p237 q237; cases e237; replace p237 := eq_true p237; replace q237 := eq_true q237) | ((with_reducible refine gate_builtin (b := .append) (xs := #[.tmp 55, .tmp 60]) rfl ?_); at_builtin; refine Kd.R_append (Kd.int .i64) (w0 := w) w.heap.size rfl (.tmp 55) (.tmp 60) 29 3 (.int .i64 0) 8 rfl Tryd.underlying29 info3 rfl (by decide) (by omega) u8 x8_3 (rd x7_3 x41_3) [.int .i64 (rd x7_3 x41_3)] (fun k_ => (w.heap.size ≤ k_) ∧ some k_ ≠ (.slice (some ad237) x7_3.length co31 : Value).ownBlock) (fun _ => False) rfl rfl ?aP (fun _ hk => hk.elim) ?aF ?aO ?aB ?aS ?aL ?_; (case aP => exact rfl); (case aB => exact HB.out); (case aF => exact (fun k_ hk => ⟨(Nat.le_trans (below_size HB.out) hk), Kd.fresh' (Kd.R_lt HO_7.out) k_ hk⟩)); (case aO => exact HO_8.out); (case aS => exact (below_size HB.out)); (case aL => have := LMc19.out; omega); intro v239 w32 ho hb hg hat; rw [← Ny238.out] at ho; replace HO_7 := Aside0.mk (Kd.R_after (ok := (fun k_ => (w.heap.size ≤ k_))) HO_7.out hg hat); replace HO_11 := Aside0.mk (Kd.V_afterv (ok := (fun k_ => (P0_ k_ ∨ w.heap.size ≤ k_) ∧ some k_ ≠ (.slice (some ad237) x7_3.length co31 : Value).ownBlock ∧ some k_ ≠ (.slice Ao29 t233.length co29 : Value).ownBlock)) (by (with_reducible repeat (first | apply Kd.V_alloc | apply Kd.V_drewN | apply Kd.V_drew)); exact Kd.V_mono HO_11.out (fun _ hk => ⟨⟨hk.1.1, ⟨hk.1.2.1, hk.2⟩⟩, hk.1.2.2⟩)) hg hat); replace HO235 := Aside0.mk (Kd.S_after (ok := (fun k_ => (w.heap.size ≤ k_) ∧ some k_ ≠ (.slice (some ad237) x7_3.length co31 : Value).ownBlock)) (by (with_reducible repeat (first | apply Kd.S_alloc | apply Kd.S_drewN | apply Kd.S_drew)); exact Kd.S_mono HO235.out (fun _ hk => ⟨⟨hk.1.1.1, hk.1.2⟩, hk.2⟩)) hg hat); replace HB := Aside0.mk hb; have HO240 := Aside0.mk ho; clear HO_8; clear ho hb hg hat))
       replace HO_7 := Aside0.mk (Kd.R_drew HO_7.out); replace HO_11 := Aside0.mk (Kd.V_drew HO_11.out); replace HO235 := Aside0.mk (Kd.S_drew HO235.out); replace HO240 := Aside0.mk (Kd.R_drew HO240.out); replace HB := Aside0.mk (below_drew1 HB.out)
       have q34 : (x41_3 : Int) ≤ ((x7_3.length : Int) : Int) := of_decide_eq_true (by assumption)
       obtain ⟨i034, hi034, _, hsz34, _⟩ := info_parts info3
       have hroom34 : x7_3.length ≤ co31 := (Kd.R_reads' HO_7.out).2.1
       have hC34 : Kd.C (Kd.int .i64) _ (some ad237) x7_3.length x7_3 := (Kd.R_reads' HO_7.out).2.2
       have hcut34 := cut_to (P := Tryd.prog) 29 3 .i64 Tryd.underlying29 hi034 (some ad237) x7_3.length co31 x41_3 (of_decide_eq_true (by assumption)) q34 hroom34
       have hr34 := Kd.C_take (m := (x41_3 : Int).toNat) hC34 (by omega)
       have hy34 : y244.length = (x41_3 : Int).toNat := (by rw [Ny244.out, List.length_take]; omega)
       rw [← Ny244.out] at hr34
       rw [← hy34] at hcut34
       have HR247 := Aside0.mk hr34
       have HC247 := Aside0.mk (show y244.length ≤ co31 from by omega)
       clear hr34 hC34 hroom34 hi034 hsz34
       have KY34 := Aside0.mk hy34
       clear hy34
       have KL34 := Aside0.mk (show (x41_3 : Int).toNat ≤ x7_3.length from by omega)
       replace q34 := eq_true q34
       have q35 : ((ji23) : Int) ≤ ((x7_3.length : Int) : Int) := of_decide_eq_true (by assumption)
       obtain ⟨i035, hi035, _, hsz35, _⟩ := info_parts info3
       have hroom35 : x7_3.length ≤ co31 := (Kd.R_reads' HO_7.out).2.1
       have hC35 : Kd.C (Kd.int .i64) _ (some ad237) x7_3.length x7_3 := (Kd.R_reads' HO_7.out).2.2
       have q035 : (0 : Int) ≤ ((ji23) : Int) := of_decide_eq_true (by assumption)
       have hcut35 := cut_from (P := Tryd.prog) 29 3 .i64 Tryd.underlying29 hi035 1 hsz35 (some ad237) x7_3.length co31 (ji23) q035 q35
       have hr35 := Kd.C_drop (m := ((ji23) : Int).toNat) (c := co31) hC35 (by omega) hroom35
       obtain ⟨A35, hA35⟩ : ∃ A1, A1 = (if co31 = ((ji23) : Int).toNat then (some ad237) else ((some ad237) : Option Addr).map (·.add (((ji23) : Int).toNat * 1))) := ⟨_, rfl⟩
       obtain ⟨c35, hc35⟩ : ∃ c1, c1 = co31 - ((ji23) : Int).toNat := ⟨_, rfl⟩
       have hy35 : y251.length = x7_3.length - ((ji23) : Int).toNat := (by rw [Ny251.out, List.length_drop] <;> omega)
       rw [show (x7_3).drop ((ji23) : Int).toNat = y251 from Ny251.out.symm] at hr35
       replace hr35 : Kd.C (Kd.int .i64) _ A35 y251.length y251 := (by rw [hA35]; exact hr35)
       rw [← hy35, ← hA35, ← hc35] at hcut35
       have HR254 := Aside0.mk hr35
       have HC254 := Aside0.mk (show y251.length ≤ c35 from by rw [hy35, hc35]; exact Nat.sub_le_sub_right hroom35 _)
       clear hr35 hC35 hroom35 hi035 hsz35 hc35
       have KY35 := Aside0.mk hy35
       have KA35 := Aside0.mk hA35
       clear hy35 hA35
       have KL35 := Aside0.mk (show ((ji23) : Int).toNat ≤ x7_3.length from by omega)
       replace q35 := eq_true q35
       refine start_ (n := 11) (S := fun w' => True) (ds := []) #[false, false, false, false, false, false, false, false, false, false, false] (by kernel_rfl) rfl rfl trivial (fun hHeld => ?_); refine with_tabW assign_Solve.tab19 assign_Solve.bits19 (fun HT_ HW_ => ?_)
       generalize w32.drew = w33 at HO_7 HO_11 HO235 HO240 HB HR247 HR254 hHeld ⊢
       refine pM 1 63 HT_ ?_
       refine pM 2 64 HT_ ?_
       refine pM 3 65 HT_ ?_
       refine pM 5 67 HT_ ?_
       refine pM 6 68 HT_ ?_
       refine pM 7 69 HT_ ?_
       refine pM 8 70 HT_ ?_
       refine one_ (i := 0) (N := some 62) #[true, true, true, true, false, true, true, true, true, false, false] rfl rfl (one_of HT_.out (by kernel_rfl)) (by decide) (fun K hK => ?_)
       refine Kd.R_lit_step (Kd.int .i64) _ 3 ?hg (N := 62) ?hd (xs := ([] : List Int)) (inner := []) (ok := fun _ => True) (okp := fun _ => True) ?hr ?hp (fun _ hk => hk) trivial (Below.refl _ _) (Nat.le_refl _) (by simp) ?_; (case hd => rfl); (case hg => rfl); (case hr => first | (go_simp; done) | (go_simp; rfl)); (case hp => exact (Reps.none _ _))
       intro v242 w36 ho37 hb hg_ hnew_
       clear hg_ hnew_
       (first | rw [← Ny241.out] at ho37 | (simp only [Int.reduceToNat] at ho37; rw [← Ny241.out] at ho37))
       replace HO_11 := Aside0.mk (Kd.V_elder' HO_11.out (Kd.R_base ho37) hb); replace HO235 := Aside0.mk (Kd.S_elder' HO235.out (Kd.R_base ho37) hb); have HO243 := Aside0.mk (Kd.R_lower (Kd.R_new' (Kd.R_new' (Kd.R_newM (M := fun k_ => (w.heap.size ≤ k_)) ho37 (below_size HB.out) (fun k_ h_ => h_)) (Kd.R_lt HO_7.out)) (Kd.R_lt HO240.out)) (below_size HB.out)); replace HO_7 := Aside0.mk (Kd.R_elder' HO_7.out (Kd.R_base ho37) hb); replace HO240 := Aside0.mk (Kd.R_elder' HO240.out (Kd.R_base ho37) hb); replace HR247 := Aside0.mk (Kd.C_below (by repeat (first | (with_reducible exact HR247.out) | (with_reducible refine Kd.C_alloc ?_ _) | (with_reducible refine Kd.C_drewN ?_ _) | (with_reducible refine Kd.C_drew ?_) | exact HR247.out)) hb); replace HR254 := Aside0.mk (Kd.C_below (by repeat (first | (with_reducible exact HR254.out) | (with_reducible refine Kd.C_alloc ?_ _) | (with_reducible refine Kd.C_drewN ?_ _) | (with_reducible refine Kd.C_drew ?_) | exact HR254.out)) hb); replace HB := mSt HB hb
       clear hb ho37
       refine hK.out _ _ trivial (fun hHeld => ?_)
       clear hK K
       refine norm_ (by show Act.put _ (some 62) _ = _; simp only [mP]; rfl) ?_
       refine one_ (i := 4) (N := some 66) #[true, true, true, true, true, true, true, true, true, false, false] rfl rfl (one_of HT_.out (by kernel_rfl)) (by decide) (fun K hK => ?_)
       refine Kd.R_append_rows_step (Kd.int .i64) (w0 := w) w.heap.size (by rfl) (.tmp 62) (.tmp 65) 29 3 (.int .i64 0) 8 rfl Tryd.underlying29 info3 rfl (by decide) (by omega) v242 y241 y244 _ _ _ (fun k_ => (w.heap.size ≤ k_) ∧ some k_ ≠ (.slice (some ad237) x7_3.length co31 : Value).ownBlock ∧ some k_ ≠ (v239 : Value).ownBlock) (fun _ => False) rfl rfl ?aO ?aR (fun _ _ h => h) (fun _ h => h.elim) ?aF ?aB ?aS ?aL ?_
       (case aR => repeat (first | exact (by repeat (first | (with_reducible exact HR247.out) | (with_reducible refine Kd.C_alloc ?_ _) | (with_reducible refine Kd.C_drewN ?_ _) | (with_reducible refine Kd.C_drew ?_) | exact HR247.out)) | (with_reducible refine Kd.C_alloc ?_ _) | (with_reducible refine Kd.C_drewN ?_ _) | (with_reducible refine Kd.C_drew ?_)))
       (case aB => exact HB.out)
       (case aF => exact (fun k_ hk => ⟨(Nat.le_trans (below_size HB.out) hk), Kd.fresh' (Kd.R_lt HO_7.out) k_ hk, Kd.fresh' (Kd.R_lt HO240.out) k_ hk⟩))
       (case aO => exact (by exact Kd.R_mono HO243.out (fun _ hk => ⟨hk.1.1.1, ⟨hk.1.2, hk.2⟩⟩)))
       (case aS => exact (below_size HB.out))
       (case aL => have := LMc22.out; omega)
       intro v249 w38 ho hb hg hat
       rw [← Ny248.out] at ho
       replace HO_11 := Aside0.mk (Kd.V_afterv (ok := (fun k_ => (P0_ k_ ∨ w.heap.size ≤ k_) ∧ some k_ ≠ (.slice (some ad237) x7_3.length co31 : Value).ownBlock ∧ some k_ ≠ (.slice Ao29 t233.length co29 : Value).ownBlock ∧ some k_ ≠ (v239 : Value).ownBlock)) (by (with_reducible repeat (first | apply Kd.V_alloc | apply Kd.V_drewN | apply Kd.V_drew)); exact Kd.V_mono HO_11.out (fun _ hk => ⟨⟨hk.1.1.1, ⟨hk.1.1.2.1, ⟨hk.1.1.2.2, hk.1.2⟩⟩⟩, hk.2⟩)) hg hat); replace HO235 := Aside0.mk (Kd.S_after (ok := (fun k_ => (w.heap.size ≤ k_) ∧ some k_ ≠ (.slice (some ad237) x7_3.length co31 : Value).ownBlock ∧ some k_ ≠ (v239 : Value).ownBlock)) (by (with_reducible repeat (first | apply Kd.S_alloc | apply Kd.S_drewN | apply Kd.S_drew)); exact Kd.S_mono HO235.out (fun _ hk => ⟨⟨hk.1.1.1, ⟨hk.1.1.2, hk.1.2⟩⟩, hk.2⟩)) hg hat); replace HO240 := Aside0.mk (Kd.R_after (ok := (fun k_ => (w.heap.size ≤ k_) ∧ some k_ ≠ (.slice (some ad237) x7_3.length co31 : Value).ownBlock)) HO240.out hg hat); replace HB := Aside0.mk hb; replace HR247 := Aside0.mk ((show Kd.C (Kd.int .i64) w38 (some ad237) y244.length y244 from by rw [Ny244.out]; exact Kd.C_take (m := (x41_3 : Int).toNat) ((Kd.R_reads' (Kd.R_after (ok := (fun k_ => (w.heap.size ≤ k_) ∧ some k_ ≠ (v239 : Value).ownBlock)) HO_7.out hg hat)).2.2) KL34.out)); replace HR254 := Aside0.mk ((show Kd.C (Kd.int .i64) w38 A35 y251.length y251 from by rw [Ny251.out, KA35.out]; exact Kd.C_drop (m := ((ji23) : Int).toNat) (c := co31) ((Kd.R_reads' (Kd.R_after (ok := (fun k_ => (w.heap.size ≤ k_) ∧ some k_ ≠ (v239 : Value).ownBlock)) HO_7.out hg hat)).2.2) KL35.out ((Kd.R_reads' (Kd.R_after (ok := (fun k_ => (w.heap.size ≤ k_) ∧ some k_ ≠ (v239 : Value).ownBlock)) HO_7.out hg hat)).2.1))); replace HO_7 := Aside0.mk (Kd.R_after (ok := (fun k_ => (w.heap.size ≤ k_) ∧ some k_ ≠ (v239 : Value).ownBlock)) HO_7.out hg hat); have HO250 := Aside0.mk ho; clear HO243
       clear ho hb hg hat
       refine hK.out _ _ trivial (fun hHeld => ?_)
       clear hK K
       refine norm_ (by show Act.put _ (some 66) _ = _; simp only [mP]; rfl) ?_
       refine one_ (i := 9) (N := some 71) #[true, true, true, true, true, true, true, true, true, true, false] rfl rfl (one_of HT_.out (by kernel_rfl)) (by decide) (fun K hK => ?_)
       refine Kd.R_append_rows_step (Kd.int .i64) (w0 := w) w.heap.size (by rfl) (.tmp 66) (.tmp 70) 29 3 (.int .i64 0) 8 rfl Tryd.underlying29 info3 rfl (by decide) (by omega) v249 y248 y251 _ _ _ (fun k_ => (w.heap.size ≤ k_) ∧ some k_ ≠ (.slice (some ad237) x7_3.length co31 : Value).ownBlock ∧ some k_ ≠ (v239 : Value).ownBlock) (fun _ => False) rfl rfl ?aO ?aR (fun _ _ h => h) (fun _ h => h.elim) ?aF ?aB ?aS ?aL ?_
       (case aR => repeat (first | exact (by repeat (first | (with_reducible exact HR254.out) | (with_reducible refine Kd.C_alloc ?_ _) | (with_reducible refine Kd.C_drewN ?_ _) | (with_reducible refine Kd.C_drew ?_) | exact HR254.out)) | (with_reducible refine Kd.C_alloc ?_ _) | (with_reducible refine Kd.C_drewN ?_ _) | (with_reducible refine Kd.C_drew ?_)))
       (case aB => exact HB.out)
       (case aF => exact (fun k_ hk => ⟨(Nat.le_trans (below_size HB.out) hk), Kd.fresh' (Kd.R_lt HO_7.out) k_ hk, Kd.fresh' (Kd.R_lt HO240.out) k_ hk⟩))
       (case aO => exact HO250.out)
       (case aS => exact (below_size HB.out))
       (case aL => have := LMc26.out; omega)
       intro v256 w39 ho hb hg hat
       rw [← Ny255.out] at ho
       replace HO_11 := Aside0.mk (Kd.V_afterv (ok := (fun k_ => (P0_ k_ ∨ w.heap.size ≤ k_) ∧ some k_ ≠ (.slice (some ad237) x7_3.length co31 : Value).ownBlock ∧ some k_ ≠ (.slice Ao29 t233.length co29 : Value).ownBlock ∧ some k_ ≠ (v239 : Value).ownBlock)) HO_11.out hg hat); replace HO235 := Aside0.mk (Kd.S_after (ok := (fun k_ => (w.heap.size ≤ k_) ∧ some k_ ≠ (.slice (some ad237) x7_3.length co31 : Value).ownBlock ∧ some k_ ≠ (v239 : Value).ownBlock)) HO235.out hg hat); replace HO240 := Aside0.mk (Kd.R_after (ok := (fun k_ => (w.heap.size ≤ k_) ∧ some k_ ≠ (.slice (some ad237) x7_3.length co31 : Value).ownBlock)) HO240.out hg hat); replace HB := Aside0.mk hb; replace HR247 := Aside0.mk ((show Kd.C (Kd.int .i64) w39 (some ad237) y244.length y244 from by rw [Ny244.out]; exact Kd.C_take (m := (x41_3 : Int).toNat) ((Kd.R_reads' (Kd.R_after (ok := (fun k_ => (w.heap.size ≤ k_) ∧ some k_ ≠ (v239 : Value).ownBlock)) HO_7.out hg hat)).2.2) KL34.out)); replace HR254 := Aside0.mk ((show Kd.C (Kd.int .i64) w39 A35 y251.length y251 from by rw [Ny251.out, KA35.out]; exact Kd.C_drop (m := ((ji23) : Int).toNat) (c := co31) ((Kd.R_reads' (Kd.R_after (ok := (fun k_ => (w.heap.size ≤ k_) ∧ some k_ ≠ (v239 : Value).ownBlock)) HO_7.out hg hat)).2.2) KL35.out ((Kd.R_reads' (Kd.R_after (ok := (fun k_ => (w.heap.size ≤ k_) ∧ some k_ ≠ (v239 : Value).ownBlock)) HO_7.out hg hat)).2.1))); replace HO_7 := Aside0.mk (Kd.R_after (ok := (fun k_ => (w.heap.size ≤ k_) ∧ some k_ ≠ (v239 : Value).ownBlock)) HO_7.out hg hat); have HO257 := Aside0.mk ho; clear HO250
       clear ho hb hg hat
       refine hK.out _ _ trivial (fun hHeld => ?_)
       clear hK K
       refine norm_ (by show Act.put _ (some 71) _ = _; simp only [mP]; rfl) ?_
       refine pM 10 7 HT_ ?_
       refine done_ (done_of HT_.out (by kernel_rfl)) ?_
       try go_wp2
       go_roundg k3
       case measure => have := HK1.out; have := HK2.out; have := HK3.out; omega
       case rel => exact ⟨(y255), (y238), (wrap64 (x10_3 - (rd (rd_L2 x11_2 0) x41_3))), (t233), rfl, H', ⟨by have := HK1.out; have := HK2.out; have := HK3.out; omega⟩, ⟨Kd.R_mono HO257.out (fun _ hk => ⟨hk.1, hk.2.2⟩)⟩, ⟨Kd.R_mono HO240.out (fun _ hk => ⟨hk.1.1, hk.2⟩)⟩, ⟨Kd.V_mono (Kd.S_V HO235.out) (fun k_ hk => ⟨.inr (hk.1.1), ⟨hk.2, hk.1.2.2⟩⟩)⟩, ⟨HB.out⟩⟩
end Go.Proofs.YtaggccbndmmbhaaDoor.PAll
