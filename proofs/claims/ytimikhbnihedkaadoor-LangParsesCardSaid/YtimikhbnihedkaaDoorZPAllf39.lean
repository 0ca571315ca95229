import Derived.Test.YtimikhbnihedkaaDoorZMC0
import Derived.Test.YtimikhbnihedkaaDoorZPAllf56
import Derived.Test.YtimikhbnihedkaaDoorZPAllf64
import Derived.Test.YtimikhbnihedkaaDoorZPAllf66
import Derived.Test.YtimikhbnihedkaaDoorZPAllf67
import Derived.Test.YtimikhbnihedkaaDoorZPAllf68
namespace Go.Proofs.YtimikhbnihedkaaDoor.PAll
open Go.RowKit Go.Proofs.YtimikhbnihedkaaDoorW.PrintWords Go.Proofs.YtimikhbnihedkaaDoorW.PrintLast Go.Proofs.YtimikhbnihedkaaDoorW.PrintMore
attribute [local go_sem] max2_int min2_int max_two min_two max_three min_three max_four min_four
set_option linter.unusedVariables false
set_option linter.unusedSimpArgs false

/-! ### dancestudioref35_tree: function 39 -/
mutual
def dancestudioref35_tree.j0 : Nat → List ByteArray → Bool → Option ((List (S43)) × List ByteArray × Bool)
 | 0, _, _ => none
 | k + 1, x0, x23 => if x23 = true then (some (([] : List (S43)), ([] : List ByteArray), false)) else (if 1 ≤ (x0.length : Int) then ((dancestudioref35_is.f (x0.drop 1) (⟨#[40]⟩ : ByteArray)).bind fun t540 => (if t540 = true then (if 0 < (x0.length : Int) then ((dancestudioref35_op.f k (rdOf ByteArray.empty x0 0)).bind fun t551 => (if t551 = 0 then (some (([] : List (S43)), ([] : List ByteArray), false)) else (if 2 ≤ (x0.length : Int) then (dancestudioref35_tree.l0 k (([(⟨t551, (⟨#[]⟩ : ByteArray), 0, 0⟩ : S43)] : List (S43))) (x0.drop 2) t551 (⟨#[]⟩ : ByteArray) 0 0) else (none)))) else (none)) else (if 0 < (x0.length : Int) then (some ((([(⟨1, rdOf ByteArray.empty x0 0, 0, 0⟩ : S43)] : List (S43))), (x0.drop 1), true)) else (none)))) else (none))
def dancestudioref35_tree.j2 : Nat → List (S43) → List ByteArray → Int → ByteArray → Int → Int → Option ((List (S43)) × List ByteArray × Bool)
 | 0, _, _, _, _, _, _ => none
 | k + 1, x6, x7, x553000, x553001, x553002, x553003 => (dancestudioref35_numbered.f x553000).bind fun t579 => (if t579 = true then (if (x7.length : Int) < 2 then (dancestudioref35_tree.j3 k x6 x7 true) else (if 0 < (x7.length : Int) then (dancestudioref35_tree.j3 k x6 x7 ((rdOf ByteArray.empty x7 0).toList != ([44] : List UInt8))) else (none))) else ((dancestudioref35_is.f x7 (⟨#[41]⟩ : ByteArray)).bind fun t596 => (if t596 = true then (if 1 ≤ (x7.length : Int) then (some (x6, (x7.drop 1), true)) else (none)) else (some (([] : List (S43)), ([] : List ByteArray), false)))))
def dancestudioref35_tree.j3 : Nat → List (S43) → List ByteArray → Bool → Option ((List (S43)) × List ByteArray × Bool)
 | 0, _, _, _ => none
 | k + 1, x6, x7, x87 => if x87 = true then (some (([] : List (S43)), ([] : List ByteArray), false)) else (if 1 < (x7.length : Int) then ((dancestudioref35_number.f k (rdOf ByteArray.empty x7 1)).bind fun bt582 => (if bt582.2 = true then (if 0 < (x6.length : Int) then (if 2 ≤ (x7.length : Int) then ((some (x7.drop 2 : List ByteArray)).bind fun y585 => ((dancestudioref35_is.f y585 (⟨#[41]⟩ : ByteArray)).bind fun t590 => (if t590 = true then (if 1 ≤ (y585.length : Int) then (some ((x6.set (0 : Int).toNat (⟨(rd_T43 x6 0).f0, (rd_T43 x6 0).f1, bt582.1, (rd_T43 x6 0).f3⟩ : S43)), (y585.drop 1), true)) else (none)) else (some (([] : List (S43)), ([] : List ByteArray), false))))) else (none)) else (none)) else (some (([] : List (S43)), ([] : List ByteArray), false)))) else (none))
def dancestudioref35_tree.l0 : Nat → List (S43) → List ByteArray → Int → ByteArray → Int → Int → Option ((List (S43)) × List ByteArray × Bool)
 | 0, _, _, _, _, _, _ => none
 | k + 1, x6, x7, x553000, x553001, x553002, x553003 => (dancestudioref35_tree.f k x7).bind fun bt561 => (if bt561.2.2 = true then (if x6.length + bt561.1.length < 3518437208883 then ((some (x6 ++ bt561.1 : List (S43))).bind fun y568 => (if 0 < (y568.length : Int) then ((some (y568.set (0 : Int).toNat (⟨(rd_T43 y568 0).f0, (rd_T43 y568 0).f1, (rd_T43 y568 0).f2, wrap64 (((rd_T43 y568 0).f3) + 1)⟩ : S43) : List (S43))).bind fun y572 => (if x553000 = 2 then ((dancestudioref35_is.f bt561.2.1 (⟨#[44]⟩ : ByteArray)).bind fun t573 => (if t573 = true then (if 1 ≤ (bt561.2.1.length : Int) then (dancestudioref35_tree.l0 k y572 (bt561.2.1.drop 1) x553000 x553001 x553002 x553003) else (none)) else (dancestudioref35_tree.j2 k y572 bt561.2.1 x553000 x553001 x553002 x553003))) else (dancestudioref35_tree.j2 k y572 bt561.2.1 x553000 x553001 x553002 x553003))) else (none))) else (none)) else (some (([] : List (S43)), ([] : List ByteArray), false)))
def dancestudioref35_tree.f : Nat → List ByteArray → Option ((List (S43)) × List ByteArray × Bool)
 | 0, _ => none
 | k + 1, l0 => if (l0.length : Int) = 0 then (dancestudioref35_tree.j0 k l0 true) else (if 0 < (l0.length : Int) then (if 0 < ((rdOf ByteArray.empty l0 0).size : Int) then ((dancestudioref35_small.f (bt (rdOf ByteArray.empty l0 0) 0)).bind fun t534 => (dancestudioref35_tree.j0 k l0 (!t534))) else (none)) else (none))
end
def dancestudioref35_tree.T4 : Bool × List (List Nat × List Nat) := (true, [([], []), ([0], [0]), ([1], [1]), ([2], [2]), ([3], [3]), ([], []), ([5], [5]), ([4, 0, 1, 2, 3, 4], [4]), ([6, 7, 0, 1, 2, 3, 4, 5, 6, 7], [6]), ([8, 0, 1, 2, 3, 4, 5, 6, 7, 8], [])])
def dancestudioref35_tree.B4 : List Nat := [0, 1, 3, 7, 15, 0, 32, 31, 255, 511]
theorem dancestudioref35_tree.tab4 : rtab .any (opsOf Tryd.f39 4) = dancestudioref35_tree.T4 := by kernel_rfl
theorem dancestudioref35_tree.bits4 : waitsOk dancestudioref35_tree.T4.2 dancestudioref35_tree.B4 = true := by kernel_rfl
set_option maxHeartbeats 8000000 in
set_option maxRecDepth 100000 in
theorem dancestudioref35_tree.calls (k : Nat) : ∀ (P0_ : Nat → Prop) (A0 : Option Addr) (c0 : Nat) (l0 : List ByteArray) (r1 : List (S43)) (r2 : List ByteArray) (r3 : Bool) (w : World) (hs0 : Kd.V Kd.string 9 w w.heap.size (fun k_ => P0_ k_) (.slice A0 l0.length c0) l0) (h : dancestudioref35_tree.f k l0 = some (r1, r2, r3)),
  Calls Tryd.prog 39 #[.slice A0 l0.length c0] w fun e w' => ∃ v0_ v1_ : Value, e = .returned (.tuple #[v0_, v1_, .bool r3]) ∧ Kd.R k43 43 w' w.heap.size (fun k_ => (w.heap.size ≤ k_)) v0_ r1 ∧ Kd.V Kd.string 9 w' w.heap.size (fun k_ => (P0_ k_ ∨ w.heap.size ≤ k_) ∧ some k_ ≠ (v0_ : Value).ownBlock) v1_ r2 ∧ Below w.heap.size w w' := by
 induction k using Nat.strongRecOn with
 | _ k ih =>
 intro P0_ A0 c0 l0 r1 r2 r3 w hs0 h
 cases k with
 | zero => exact absurd h (by simp [dancestudioref35_tree.f])
 | succ k =>
 simp only [dancestudioref35_tree.f] at h
 have hu43 := Tryd.underlying43
 have HO0 := Aside0.mk (show Kd.V Kd.string 9 w w.heap.size (fun k_ => (P0_ k_ ∨ w.heap.size ≤ k_)) (.slice A0 l0.length c0) l0 from Kd.V_mono hs0 (fun k_ hk => .inl hk))
 have HB := Aside0.mk (Below.refl w.heap.size w)
 have H := h
 unfold dancestudioref35_tree.f at H
 clear h
 have HC2 := Aside0.mk H
 clear H
 go_enter Tryd.func39, Tryd.ntmps39
 go_upto_region 1 with (fail)
 go_cut [23] (fun v23 wc => ∃ (kq : Nat) (x23_1 : Bool), v23 = .bool x23_1 ∧ Aside0 (dancestudioref35_tree.j0 kq l0 x23_1 = some (r1, r2, r3)) ∧ Aside0 (kq ≤ k) ∧ Aside0 (Kd.V Kd.string 9 wc w.heap.size (fun k_ => (P0_ k_ ∨ w.heap.size ≤ k_)) (.slice A0 l0.length c0) l0) ∧ Aside0 (Below w.heap.size w wc))
 case first =>
  have H := HC2.out
  clear HC2
  by_cases c3 : (l0.length : Int) = 0
  ·
   rw [if_pos c3] at H
   have c3b0 := beq_iff_eq.mpr c3
   have c3b1 := bne_eq_false_iff_eq.mpr c3
   clear c3
   (first | rw [c3b0] | (simp only [i64_w, i32_w]; rw [c3b0]) | skip)
   have H' := Aside0.mk H
   clear H
   go_wp2
   go_meet
   case rel => exact ⟨_, (true), rfl, H', ⟨by first | omega | exact Nat.le_refl _⟩, HO0, HB⟩
  ·
   rw [if_neg c3] at H
   have c3b0 := beq_eq_false_iff_ne.mpr c3
   have c3b1 := bne_iff_ne.mpr c3
   have c3b2 : ¬ (l0 = []) := fun h_ => c3 (by rw [h_]; rfl)
   (first | rw [c3b0] | (simp only [i64_w, i32_w]; rw [c3b0]) | skip)
   by_cases c4 : 0 < (l0.length : Int)
   ·
    rw [if_pos c4] at H
    have c4b0 := decide_eq_true c4
    have c4b1 : decide (0 < l0.length) = true := decide_eq_true (by omega)
    clear c4
    by_cases c5 : 0 < ((rdOf ByteArray.empty l0 0).size : Int)
    ·
     rw [if_pos c5] at H
     have c5b0 := decide_eq_true c5
     have c5b1 : decide (0 < (rdOf ByteArray.empty l0 0).size) = true := decide_eq_true (by omega)
     clear c5
     replace H := Option.bind_eq_some_iff.mp H
     obtain ⟨t534, A70, H⟩ := H
     replace H : (dancestudioref35_tree.j0 k l0 (!t534)) = some (r1, r2, r3) := H
     have A7 := Aside0.mk A70
     clear A70
     have H' := Aside0.mk H
     clear H
     have p533 : 0 ≤ (0 : Int) := (by omega)
     have q533 : 0 < (l0.length : Int) := of_decide_eq_true (by assumption)
     obtain ⟨ad533, e533, hx533_0⟩ := Kd.at_string (Kd.V_reads' HO0.out).2.2 0 p533 q533
     cases e533
     have qi533 : (0 < l0.length) = True := eq_true (by omega)
     (try rw [show ((0 : Int)).toNat = 0 from rfl] at hx533_0)
     (try rw [Addr.add_zero'] at hx533_0)
     replace p533 := eq_true p533
     replace q533 := eq_true q533
     have p6 : 0 ≤ (0 : Int) := (by omega)
     have q6 : 0 < (rdOf ByteArray.empty l0 0).size := (by have : (0 : Int) < ((rdOf ByteArray.empty l0 0).size : Int) := of_decide_eq_true (by assumption); omega)
     have hx6 : ∀ h : 0 < (rdOf ByteArray.empty l0 0).size, (((rdOf ByteArray.empty l0 0)[0]'h).toNat : Int) = bt (rdOf ByteArray.empty l0 0) 0 := bt_at (rdOf ByteArray.empty l0 0) 0
     clear p6
     have qi6 : (0 < ((rdOf ByteArray.empty l0 0).size : Int)) = True := eq_true (of_decide_eq_true (by assumption))
     replace q6 := eq_true q6
     go_wp2_with (first | (go_at_call 64; (with_reducible refine (dancestudioref35_small.calls (bt (rdOf ByteArray.empty l0 0) 0) t534 _ A7.out).mono ?_); rintro e w' ⟨rfl, ⟨nd, rfl⟩⟩))
     go_meet
     case rel => exact ⟨_, (!t534), rfl, H', ⟨by first | omega | exact Nat.le_refl _⟩, HO0, ⟨hO HB⟩⟩
    ·
     exact mNo c5 H
   ·
    exact mNo c4 H
 case rest =>
  clear HC2
  obtain ⟨kq, x23_1, rfl, HA, HJ1, HO_0, HB⟩ := hcut
  cases kq with
  | zero => exact absurd HA.out (by simp [dancestudioref35_tree.j0])
  | succ kj1 =>
   have H := HA.out
   clear HA
   simp only [dancestudioref35_tree.j0] at H
   by_cases c8 : x23_1 = true
   ·
    subst c8
    have H1 : (some (([] : List (S43)), ([] : List ByteArray), false)) = some (r1, r2, r3) := by rw [if_pos rfl] at H; exact H
    clear H
    have H := H1
    clear H1
    simp only [Option.some.injEq, Prod.mk.injEq] at H
    obtain ⟨rfl, rfl, rfl⟩ := H
    go_wp2
    go_ret3
    exact ⟨_, _, rfl, by first | exact Kd.R_nil _ _ _ _ _ | exact Kd.N_nil _ _ _ _ _ | exact Kd.V_nil _ _ _ _ _ | exact Kd.Q_nil _ _ _ _ _ | exact Kd.S_nil _ _ _ _ _, Kd.V_nil _ _ _ _ _, hO HB⟩
   ·
    replace c8 := Bool.eq_false_iff.mpr c8
    subst c8
    have H1 : (if 1 ≤ (l0.length : Int) then ((dancestudioref35_is.f (l0.drop 1) (⟨#[40]⟩ : ByteArray)).bind fun t540 => (if t540 = true then (if 0 < (l0.length : Int) then ((dancestudioref35_op.f kj1 (rdOf ByteArray.empty l0 0)).bind fun t551 => (if t551 = 0 then (some (([] : List (S43)), ([] : List ByteArray), false)) else (if 2 ≤ (l0.length : Int) then (dancestudioref35_tree.l0 kj1 (([(⟨t551, (⟨#[]⟩ : ByteArray), 0, 0⟩ : S43)] : List (S43))) (l0.drop 2) t551 (⟨#[]⟩ : ByteArray) 0 0) else (none)))) else (none)) else (if 0 < (l0.length : Int) then (some ((([(⟨1, rdOf ByteArray.empty l0 0, 0, 0⟩ : S43)] : List (S43))), (l0.drop 1), true)) else (none)))) else (none)) = some (r1, r2, r3) := by rw [if_neg (show ¬ (false = true) by decide)] at H; exact H
    clear H
    have H := H1
    clear H1
    by_cases c9 : 1 ≤ (l0.length : Int)
    ·
     rw [if_pos c9] at H
     have c9b0 := eq_true c9
     have c9b1 := decide_eq_true c9
     clear c9
     obtain ⟨y535, hy535⟩ : ∃ y_ : List ByteArray, y_ = (l0.drop 1) := ⟨_, rfl⟩
     replace H : ((dancestudioref35_is.f y535 (⟨#[40]⟩ : ByteArray)).bind fun t540 => (if t540 = true then (if 0 < (l0.length : Int) then ((dancestudioref35_op.f kj1 (rdOf ByteArray.empty l0 0)).bind fun t551 => (if t551 = 0 then (some (([] : List (S43)), ([] : List ByteArray), false)) else (if 2 ≤ (l0.length : Int) then (dancestudioref35_tree.l0 kj1 (([(⟨t551, (⟨#[]⟩ : ByteArray), 0, 0⟩ : S43)] : List (S43))) (l0.drop 2) t551 (⟨#[]⟩ : ByteArray) 0 0) else (none)))) else (none)) else (if 0 < (l0.length : Int) then (some ((([(⟨1, rdOf ByteArray.empty l0 0, 0, 0⟩ : S43)] : List (S43))), (l0.drop 1), true)) else (none)))) = some (r1, r2, r3) := by first | (rw [hy535]; with_reducible exact H) | (have H2_ := (Option.bind_some _ _).symm.trans H; rw [hy535]; with_reducible exact H2_) | (have H2_ := (Option.bind_some _ _).symm.trans H; with_reducible exact H2_) | with_reducible exact H | (rw [hy535]; exact H) | exact H
     have Ny535 := Aside0.mk hy535
     clear hy535
     replace H := Option.bind_eq_some_iff.mp H
     obtain ⟨t540, A100, H⟩ := H
     replace H : (if t540 = true then (if 0 < (l0.length : Int) then ((dancestudioref35_op.f kj1 (rdOf ByteArray.empty l0 0)).bind fun t551 => (if t551 = 0 then (some (([] : List (S43)), ([] : List ByteArray), false)) else (if 2 ≤ (l0.length : Int) then (dancestudioref35_tree.l0 kj1 (([(⟨t551, (⟨#[]⟩ : ByteArray), 0, 0⟩ : S43)] : List (S43))) (l0.drop 2) t551 (⟨#[]⟩ : ByteArray) 0 0) else (none)))) else (none)) else (if 0 < (l0.length : Int) then (some ((([(⟨1, rdOf ByteArray.empty l0 0, 0, 0⟩ : S43)] : List (S43))), (l0.drop 1), true)) else (none))) = some (r1, r2, r3) := H
     have A10 := Aside0.mk A100
     clear A100
     by_cases c11 : t540 = true
     ·
      subst c11
      have H1 : (if 0 < (l0.length : Int) then ((dancestudioref35_op.f kj1 (rdOf ByteArray.empty l0 0)).bind fun t551 => (if t551 = 0 then (some (([] : List (S43)), ([] : List ByteArray), false)) else (if 2 ≤ (l0.length : Int) then (dancestudioref35_tree.l0 kj1 (([(⟨t551, (⟨#[]⟩ : ByteArray), 0, 0⟩ : S43)] : List (S43))) (l0.drop 2) t551 (⟨#[]⟩ : ByteArray) 0 0) else (none)))) else (none)) = some (r1, r2, r3) := by rw [if_pos rfl] at H; exact H
      clear H
      have H := H1
      clear H1
      by_cases c12 : 0 < (l0.length : Int)
      ·
       rw [if_pos c12] at H
       have c12b0 := decide_eq_true c12
       have c12b1 : decide (0 < l0.length) = true := decide_eq_true (by omega)
       clear c12
       replace H := Option.bind_eq_some_iff.mp H
       obtain ⟨t551, A130, H⟩ := H
       replace H : (if t551 = 0 then (some (([] : List (S43)), ([] : List ByteArray), false)) else (if 2 ≤ (l0.length : Int) then (dancestudioref35_tree.l0 kj1 (([(⟨t551, (⟨#[]⟩ : ByteArray), 0, 0⟩ : S43)] : List (S43))) (l0.drop 2) t551 (⟨#[]⟩ : ByteArray) 0 0) else (none))) = some (r1, r2, r3) := H
       have A13 := Aside0.mk A130
       clear A130
       by_cases c14 : t551 = 0
       ·
        rw [if_pos c14] at H
        have c14b0 := beq_iff_eq.mpr c14
        have c14b1 := bne_eq_false_iff_eq.mpr c14
        clear c14
        simp only [Option.some.injEq, Prod.mk.injEq] at H
        obtain ⟨rfl, rfl, rfl⟩ := H
        have q15 : (1 : Int) ≤ ((l0.length : Int) : Int) := of_decide_eq_true (by assumption)
        obtain ⟨i015, hi015, _, hsz15, _⟩ := info_parts info9
        have hroom15 : l0.length ≤ c0 := (Kd.V_reads' HO_0.out).2.1
        have hC15 : Kd.F Kd.string _ _ A0 l0.length l0 := (Kd.V_at (base := w.heap.size) HO_0.out).2.2
        have hcut15 := cut_from (P := Tryd.prog) 28 9 .i64 Tryd.underlying28 hi015 1 hsz15 A0 l0.length c0 1 (by omega) q15
        have hr15 := Kd.F_cut (m := (1 : Int).toNat) (c := c0) hC15 (by omega) hroom15
        obtain ⟨A15, hA15⟩ : ∃ A1, A1 = (if c0 = (1 : Int).toNat then A0 else (A0 : Option Addr).map (·.add ((1 : Int).toNat * 1))) := ⟨_, rfl⟩
        obtain ⟨c15, hc15⟩ : ∃ c1, c1 = c0 - (1 : Int).toNat := ⟨_, rfl⟩
        have hy15 : y535.length = l0.length - (1 : Int).toNat := (by rw [Ny535.out, List.length_drop] <;> omega)
        rw [show (l0).drop (1 : Int).toNat = y535 from Ny535.out.symm] at hr15
        replace hr15 : Kd.F Kd.string _ _ A15 y535.length y535 := (by rw [hA15]; exact hr15)
        rw [← hy15, ← hA15, ← hc15] at hcut15
        have HO539 := Aside0.mk (show Kd.V Kd.string 9 _ w.heap.size _ (.slice A15 y535.length c15) y535 from Kd.V_mk (by rw [hy15, hc15]; exact Nat.sub_le_sub_right hroom15 _) hr15)
        have HC539 := Aside0.mk (show y535.length ≤ c15 from by rw [hy15, hc15]; exact Nat.sub_le_sub_right hroom15 _)
        clear hr15 hC15 hroom15 hi015 hsz15 hc15
        have KY15 := Aside0.mk hy15
        have KA15 := Aside0.mk hA15
        clear hy15 hA15
        replace q15 := eq_true q15
        go_wp2_with (first | ((with_reducible refine gate_callee (f := 66) rfl ?_); refine goesL_ (some 26) rfl rfl Tryd.func66 (by kernel_rfl) rfl #[.slice A15 y535.length c15, .string (⟨#[40]⟩ : ByteArray)] rfl (mA2 rfl rfl) ?_; (with_reducible refine (dancestudioref35_is.calls _ _ y535 (⟨#[40]⟩ : ByteArray) true _ ((Kd.V_reads' HO539.out).2.2) ((Kd.V_reads' HO539.out).2.1) A10.out).mono ?_); rintro e w' ⟨rfl, ⟨nd, rfl⟩⟩; refine ⟨_, rfl, ?_⟩; (try (rw [drewN_self wc]; generalize hq_ : World.drewN wc _ = wc; have n0_ : Aside0 (Kd.V Kd.string 9 wc w.heap.size (fun k_ => (P0_ k_ ∨ w.heap.size ≤ k_)) (.slice A15 y535.length c15) y535) := ⟨by rw [← hq_]; exact HO539.out⟩; have n1_ : Aside0 (Kd.V Kd.string 9 wc w.heap.size (fun k_ => (P0_ k_ ∨ w.heap.size ≤ k_)) (.slice A0 l0.length c0) l0) := ⟨by rw [← hq_]; exact HO_0.out⟩; have n2_ : Aside0 (Below w.heap.size w wc) := ⟨by rw [← hq_]; exact (hO HB)⟩; clear HO539 HO_0 HB hq_; have HO539 := n0_; have HO_0 := n1_; have HB := n2_; clear n0_ n1_ n2_)); have p550 : 0 ≤ (0 : Int) := (by omega); have q550 : 0 < (l0.length : Int) := of_decide_eq_true (by assumption); obtain ⟨ad550, e550, hx550_0⟩ := Kd.at_string (Kd.V_reads' HO_0.out).2.2 0 p550 q550; cases e550; have qi550 : (0 < l0.length) = True := eq_true (by omega); (try rw [show ((0 : Int)).toNat = 0 from rfl] at hx550_0); (try rw [Addr.add_zero'] at hx550_0); replace p550 := eq_true p550; replace q550 := eq_true q550) | ((with_reducible refine gate_callee (f := 67) rfl ?_); refine goesL_ (some 38) rfl rfl Tryd.func67 (by kernel_rfl) rfl #[.string (rdOf ByteArray.empty l0 0)] rfl (mA1 rfl) ?_; (with_reducible refine (dancestudioref35_op.calls kj1 (rdOf ByteArray.empty l0 0) t551 _ A13.out).mono ?_); rintro e w' ⟨rfl, ⟨nd, rfl⟩⟩; refine ⟨_, rfl, ?_⟩; (try (rw [drewN_self wc]; generalize hq_ : World.drewN wc _ = wc; have n0_ : Aside0 (Kd.V Kd.string 9 wc w.heap.size (fun k_ => (P0_ k_ ∨ w.heap.size ≤ k_)) (.slice A15 y535.length c15) y535) := ⟨by rw [← hq_]; exact HO539.out⟩; have n1_ : Aside0 (Kd.V Kd.string 9 wc w.heap.size (fun k_ => (P0_ k_ ∨ w.heap.size ≤ k_)) (.slice (some ad550) l0.length c0) l0) := ⟨by rw [← hq_]; exact HO_0.out⟩; have n2_ : Aside0 (Below w.heap.size w wc) := ⟨by rw [← hq_]; exact (hO HB)⟩; clear HO539 HO_0 HB hq_; have HO539 := n0_; have HO_0 := n1_; have HB := n2_; clear n0_ n1_ n2_))) | ((with_reducible refine gate_dst (N := 5) rfl ?_); refine box_event rfl (N := 5) rfl (cs := #[.int .i64 0, .string (⟨#[]⟩ : ByteArray), .int .i64 0, .int .i64 0]) (t := 43) (by first | (go_simp; done) | (go_simp; rfl)) ?_; intro gb552 hg w16 hbox hb; have n0_ := Aside0.mk (Kd.V_below (Kd.V_elderB HO_0.out gb552 (Nat.le_of_eq hg.symm)) hb); have n1_ := Aside0.mk (Kd.V_below (Kd.V_elderB HO539.out gb552 (Nat.le_of_eq hg.symm)) hb); have n2_ := mSx HB hb; have n3_ := Aside0.mk (hbox); have n4_ := Aside0.mk ((by rw [hg]; exact (below_size (hO HB)) : w.heap.size ≤ gb552)); have n5_ := Aside0.mk ((by rw [hg]; exact (below_size (hO HB)) : w.heap.size ≤ gb552)); clear HO_0 HO539 HB; have HO_0 := n0_; have HO539 := n1_; have HB := n2_; have BK552 := n3_; have GW552 := n4_; have GE552 := n5_; clear n0_ n1_ n2_ n3_ n4_ n5_; clear hb hbox hg; have hcz17_0 : w16.cell? ⟨gb552, 0, none⟩ = some (.int .i64 0) := (blk_cell BK552.out 0).trans rfl; have hcz17_1 : w16.cell? ⟨gb552, 1, none⟩ = some (.string (⟨#[]⟩ : ByteArray)) := (blk_cell BK552.out 1).trans rfl; have hcz17_2 : w16.cell? ⟨gb552, 2, none⟩ = some (.int .i64 0) := (blk_cell BK552.out 2).trans rfl; have hcz17_3 : w16.cell? ⟨gb552, 3, none⟩ = some (.int .i64 0) := (blk_cell BK552.out 3).trans rfl; have hfz17_0 := blk_frozen BK552.out 0; have hfz17_1 := blk_frozen BK552.out 1; have hfz17_2 := blk_frozen BK552.out 2; have hfz17_3 := blk_frozen BK552.out 3))
        go_ret3
        exact ⟨_, _, rfl, by first | exact Kd.R_nil _ _ _ _ _ | exact Kd.N_nil _ _ _ _ _ | exact Kd.V_nil _ _ _ _ _ | exact Kd.Q_nil _ _ _ _ _ | exact Kd.S_nil _ _ _ _ _, Kd.V_nil _ _ _ _ _, hO HB⟩
       ·
        rw [if_neg c14] at H
        have c14b0 := beq_eq_false_iff_ne.mpr c14
        have c14b1 := bne_iff_ne.mpr c14
        obtain ⟨y553, hy553⟩ : ∃ y_ : List (S43), y_ = (([(⟨t551, (⟨#[]⟩ : ByteArray), 0, 0⟩ : S43)] : List (S43))) := ⟨_, rfl⟩
        replace H : (if 2 ≤ (l0.length : Int) then (dancestudioref35_tree.l0 kj1 y553 (l0.drop 2) t551 (⟨#[]⟩ : ByteArray) 0 0) else (none)) = some (r1, r2, r3) := by first | (rw [hy553]; with_reducible exact H) | (have H2_ := (Option.bind_some _ _).symm.trans H; rw [hy553]; with_reducible exact H2_) | (have H2_ := (Option.bind_some _ _).symm.trans H; with_reducible exact H2_) | with_reducible exact H | (rw [hy553]; exact H) | exact H
        have Ny553 := Aside0.mk hy553
        clear hy553
        by_cases c18 : 2 ≤ (l0.length : Int)
        ·
         rw [if_pos c18] at H
         have c18b0 := eq_true c18
         have c18b1 := decide_eq_true c18
         clear c18
         obtain ⟨y556, hy556⟩ : ∃ y_ : List ByteArray, y_ = (l0.drop 2) := ⟨_, rfl⟩
         replace H : (dancestudioref35_tree.l0 kj1 y553 y556 t551 (⟨#[]⟩ : ByteArray) 0 0) = some (r1, r2, r3) := by first | (rw [hy556]; with_reducible exact H) | (have H2_ := (Option.bind_some _ _).symm.trans H; rw [hy556]; with_reducible exact H2_) | (have H2_ := (Option.bind_some _ _).symm.trans H; with_reducible exact H2_) | with_reducible exact H | (rw [hy556]; exact H) | exact H
         have Ny556 := Aside0.mk hy556
         clear hy556
         have HC19 := Aside0.mk H
         clear H
         have q20 : (1 : Int) ≤ ((l0.length : Int) : Int) := of_decide_eq_true (by assumption)
         obtain ⟨i020, hi020, _, hsz20, _⟩ := info_parts info9
         have hroom20 : l0.length ≤ c0 := (Kd.V_reads' HO_0.out).2.1
         have hC20 : Kd.F Kd.string _ _ A0 l0.length l0 := (Kd.V_at (base := w.heap.size) HO_0.out).2.2
         have hcut20 := cut_from (P := Tryd.prog) 28 9 .i64 Tryd.underlying28 hi020 1 hsz20 A0 l0.length c0 1 (by omega) q20
         have hr20 := Kd.F_cut (m := (1 : Int).toNat) (c := c0) hC20 (by omega) hroom20
         obtain ⟨A20, hA20⟩ : ∃ A1, A1 = (if c0 = (1 : Int).toNat then A0 else (A0 : Option Addr).map (·.add ((1 : Int).toNat * 1))) := ⟨_, rfl⟩
         obtain ⟨c20, hc20⟩ : ∃ c1, c1 = c0 - (1 : Int).toNat := ⟨_, rfl⟩
         have hy20 : y535.length = l0.length - (1 : Int).toNat := (by rw [Ny535.out, List.length_drop] <;> omega)
         rw [show (l0).drop (1 : Int).toNat = y535 from Ny535.out.symm] at hr20
         replace hr20 : Kd.F Kd.string _ _ A20 y535.length y535 := (by rw [hA20]; exact hr20)
         rw [← hy20, ← hA20, ← hc20] at hcut20
         have HO539 := Aside0.mk (show Kd.V Kd.string 9 _ w.heap.size _ (.slice A20 y535.length c20) y535 from Kd.V_mk (by rw [hy20, hc20]; exact Nat.sub_le_sub_right hroom20 _) hr20)
         have HC539 := Aside0.mk (show y535.length ≤ c20 from by rw [hy20, hc20]; exact Nat.sub_le_sub_right hroom20 _)
         clear hr20 hC20 hroom20 hi020 hsz20 hc20
         have KY20 := Aside0.mk hy20
         have KA20 := Aside0.mk hA20
         clear hy20 hA20
         replace q20 := eq_true q20
         go_upto_block 0 with (first | ((with_reducible refine gate_callee (f := 66) rfl ?_); refine goesL_ (some 26) rfl rfl Tryd.func66 (by kernel_rfl) rfl #[.slice A20 y535.length c20, .string (⟨#[40]⟩ : ByteArray)] rfl (mA2 rfl rfl) ?_; (with_reducible refine (dancestudioref35_is.calls _ _ y535 (⟨#[40]⟩ : ByteArray) true _ ((Kd.V_reads' HO539.out).2.2) ((Kd.V_reads' HO539.out).2.1) A10.out).mono ?_); rintro e w' ⟨rfl, ⟨nd, rfl⟩⟩; refine ⟨_, rfl, ?_⟩; (try (rw [drewN_self wc]; generalize hq_ : World.drewN wc _ = wc; have n0_ : Aside0 (Kd.V Kd.string 9 wc w.heap.size (fun k_ => (P0_ k_ ∨ w.heap.size ≤ k_)) (.slice A20 y535.length c20) y535) := ⟨by rw [← hq_]; exact HO539.out⟩; have n1_ : Aside0 (Kd.V Kd.string 9 wc w.heap.size (fun k_ => (P0_ k_ ∨ w.heap.size ≤ k_)) (.slice A0 l0.length c0) l0) := ⟨by rw [← hq_]; exact HO_0.out⟩; have n2_ : Aside0 (Below w.heap.size w wc) := ⟨by rw [← hq_]; exact (hO HB)⟩; clear HO539 HO_0 HB hq_; have HO539 := n0_; have HO_0 := n1_; have HB := n2_; clear n0_ n1_ n2_)); have p550 : 0 ≤ (0 : Int) := (by omega); have q550 : 0 < (l0.length : Int) := of_decide_eq_true (by assumption); obtain ⟨ad550, e550, hx550_0⟩ := Kd.at_string (Kd.V_reads' HO_0.out).2.2 0 p550 q550; cases e550; have qi550 : (0 < l0.length) = True := eq_true (by omega); (try rw [show ((0 : Int)).toNat = 0 from rfl] at hx550_0); (try rw [Addr.add_zero'] at hx550_0); replace p550 := eq_true p550; replace q550 := eq_true q550) | ((with_reducible refine gate_callee (f := 67) rfl ?_); refine goesL_ (some 38) rfl rfl Tryd.func67 (by kernel_rfl) rfl #[.string (rdOf ByteArray.empty l0 0)] rfl (mA1 rfl) ?_; (with_reducible refine (dancestudioref35_op.calls kj1 (rdOf ByteArray.empty l0 0) t551 _ A13.out).mono ?_); rintro e w' ⟨rfl, ⟨nd, rfl⟩⟩; refine ⟨_, rfl, ?_⟩; (try (rw [drewN_self wc]; generalize hq_ : World.drewN wc _ = wc; have n0_ : Aside0 (Kd.V Kd.string 9 wc w.heap.size (fun k_ => (P0_ k_ ∨ w.heap.size ≤ k_)) (.slice A20 y535.length c20) y535) := ⟨by rw [← hq_]; exact HO539.out⟩; have n1_ : Aside0 (Kd.V Kd.string 9 wc w.heap.size (fun k_ => (P0_ k_ ∨ w.heap.size ≤ k_)) (.slice (some ad550) l0.length c0) l0) := ⟨by rw [← hq_]; exact HO_0.out⟩; have n2_ : Aside0 (Below w.heap.size w wc) := ⟨by rw [← hq_]; exact (hO HB)⟩; clear HO539 HO_0 HB hq_; have HO539 := n0_; have HO_0 := n1_; have HB := n2_; clear n0_ n1_ n2_))) | ((with_reducible refine gate_dst (N := 5) rfl ?_); refine box_event rfl (N := 5) rfl (cs := #[.int .i64 0, .string (⟨#[]⟩ : ByteArray), .int .i64 0, .int .i64 0]) (t := 43) (by first | (go_simp; done) | (go_simp; rfl)) ?_; intro gb552 hg w21 hbox hb; have n0_ := Aside0.mk (Kd.V_below (Kd.V_elderB HO_0.out gb552 (Nat.le_of_eq hg.symm)) hb); have n1_ := Aside0.mk (Kd.V_below (Kd.V_elderB HO539.out gb552 (Nat.le_of_eq hg.symm)) hb); have n2_ := mSx HB hb; have n3_ := Aside0.mk (hbox); have n4_ := Aside0.mk ((by rw [hg]; exact (below_size (hO HB)) : w.heap.size ≤ gb552)); have n5_ := Aside0.mk ((by rw [hg]; exact (below_size (hO HB)) : w.heap.size ≤ gb552)); clear HO_0 HO539 HB; have HO_0 := n0_; have HO539 := n1_; have HB := n2_; have BK552 := n3_; have GW552 := n4_; have GE552 := n5_; clear n0_ n1_ n2_ n3_ n4_ n5_; clear hb hbox hg; have hcz22_0 : w21.cell? ⟨gb552, 0, none⟩ = some (.int .i64 0) := (blk_cell BK552.out 0).trans rfl; have hcz22_1 : w21.cell? ⟨gb552, 1, none⟩ = some (.string (⟨#[]⟩ : ByteArray)) := (blk_cell BK552.out 1).trans rfl; have hcz22_2 : w21.cell? ⟨gb552, 2, none⟩ = some (.int .i64 0) := (blk_cell BK552.out 2).trans rfl; have hcz22_3 : w21.cell? ⟨gb552, 3, none⟩ = some (.int .i64 0) := (blk_cell BK552.out 3).trans rfl; have hfz22_0 := blk_frozen BK552.out 0; have hfz22_1 := blk_frozen BK552.out 1; have hfz22_2 := blk_frozen BK552.out 2; have hfz22_3 := blk_frozen BK552.out 3) | ((with_reducible refine gate_dst (N := 44) rfl ?_); refine Kd.R_lit k43 _ 43 ?hg (N := 44) ?hd (xs := ([(⟨t551, (⟨#[]⟩ : ByteArray), 0, 0⟩ : S43)] : List (S43))) (inner := [.int .i64 t551, .string (⟨#[]⟩ : ByteArray), .int .i64 0, .int .i64 0]) (ok := fun _ => True) (okp := fun _ => True) ?hr ?hp (fun _ hk => hk) trivial (Below.refl _ _) (Nat.le_refl _) (by simp) ?_; (case hd => rfl); (case hg => rfl); (case hr => first | (go_simp; done) | (go_simp; rfl)); (case hp => exact (Reps.c4 (show Kd.M k43 _ _ _ (⟨t551, (⟨#[]⟩ : ByteArray), 0, 0⟩ : S43) [.int .i64 t551, .string (⟨#[]⟩ : ByteArray), .int .i64 0, .int .i64 0] from (k43_mkM _ _ _ (⟨t551, (⟨#[]⟩ : ByteArray), 0, 0⟩ : S43) )) (Reps.none _ _))); intro v554 w23 ho24 hb hg_ hnew_; clear hg_ hnew_; (first | rw [← Ny553.out] at ho24 | (simp only [Int.reduceToNat] at ho24; rw [← Ny553.out] at ho24)); have n0_ := Aside0.mk (Kd.V_elder' (by (with_reducible repeat (first | apply Kd.V_alloc | apply Kd.V_drewN | apply Kd.V_drew)); exact (Kd.V_mono (Kd.V_far (p := ⟨gb552, 3, none⟩) (Kd.V_far (p := ⟨gb552, 2, none⟩) (Kd.V_far (p := ⟨gb552, 1, none⟩) (Kd.V_far (p := ⟨gb552, 0, none⟩) (Kd.V_mono HO_0.out (fun k_ hk => (⟨hk, hk.2⟩ : _ ∧ k_ ≠ gb552))) (fun _ hk => hk.2) (.int .i64 t551)) (fun _ hk => hk.2) (.string (⟨#[]⟩ : ByteArray))) (fun _ hk => hk.2) (.int .i64 0)) (fun _ hk => hk.2) (.int .i64 0)) (fun _ h_ => h_.1))) (Kd.R_base ho24) hb); have n1_ := Aside0.mk (Kd.V_elder' (by (with_reducible repeat (first | apply Kd.V_alloc | apply Kd.V_drewN | apply Kd.V_drew)); exact (Kd.V_mono (Kd.V_far (p := ⟨gb552, 3, none⟩) (Kd.V_far (p := ⟨gb552, 2, none⟩) (Kd.V_far (p := ⟨gb552, 1, none⟩) (Kd.V_far (p := ⟨gb552, 0, none⟩) (Kd.V_mono HO539.out (fun k_ hk => (⟨hk, hk.2⟩ : _ ∧ k_ ≠ gb552))) (fun _ hk => hk.2) (.int .i64 t551)) (fun _ hk => hk.2) (.string (⟨#[]⟩ : ByteArray))) (fun _ hk => hk.2) (.int .i64 0)) (fun _ hk => hk.2) (.int .i64 0)) (fun _ h_ => h_.1))) (Kd.R_base ho24) hb); have n2_ := Aside0.mk (Kd.R_lower (Kd.R_newB (Kd.R_newM (M := fun k_ => (w.heap.size ≤ k_)) ho24 (below_size (hO HB)) (fun k_ h_ => h_)) (g := gb552) (o := .cells #[.int .i64 t551, .string (⟨#[]⟩ : ByteArray), .int .i64 0, .int .i64 0] 43 (0, 0)) (by refine blk_put (cs := #[.int .i64 t551, .string (⟨#[]⟩ : ByteArray), .int .i64 0, .int .i64 0]) ?_ 3 _ rfl; refine blk_put (cs := #[.int .i64 t551, .string (⟨#[]⟩ : ByteArray), .int .i64 0, .int .i64 0]) ?_ 2 _ rfl; refine blk_put (cs := #[.int .i64 t551, .string (⟨#[]⟩ : ByteArray), .int .i64 0, .int .i64 0]) ?_ 1 _ rfl; refine blk_put (cs := #[.int .i64 0, .string (⟨#[]⟩ : ByteArray), .int .i64 0, .int .i64 0]) ?_ 0 _ rfl; exact BK552.out)) (below_size (hO HB))); have n3_ := Aside0.mk (blk_below (g := gb552) (o := .cells #[.int .i64 t551, .string (⟨#[]⟩ : ByteArray), .int .i64 0, .int .i64 0] 43 (0, 0)) (by refine blk_put (cs := #[.int .i64 t551, .string (⟨#[]⟩ : ByteArray), .int .i64 0, .int .i64 0]) ?_ 3 _ rfl; refine blk_put (cs := #[.int .i64 t551, .string (⟨#[]⟩ : ByteArray), .int .i64 0, .int .i64 0]) ?_ 2 _ rfl; refine blk_put (cs := #[.int .i64 t551, .string (⟨#[]⟩ : ByteArray), .int .i64 0, .int .i64 0]) ?_ 1 _ rfl; refine blk_put (cs := #[.int .i64 0, .string (⟨#[]⟩ : ByteArray), .int .i64 0, .int .i64 0]) ?_ 0 _ rfl; exact BK552.out) hb); have n4_ := mSx HB hb; clear HO_0 HO539 BK552 HB; have HO_0 := n0_; have HO539 := n1_; have HO555 := n2_; have BK552 := n3_; have HB := n4_; clear n0_ n1_ n2_ n3_ n4_; clear hb ho24; have q25 : (2 : Int) ≤ ((l0.length : Int) : Int) := of_decide_eq_true (by assumption); obtain ⟨i025, hi025, _, hsz25, _⟩ := info_parts info9; have hroom25 : l0.length ≤ c0 := (Kd.V_reads' HO_0.out).2.1; have hC25 : Kd.F Kd.string _ _ (some ad550) l0.length l0 := (Kd.V_at (base := w.heap.size) HO_0.out).2.2; have hcut25 := cut_from (P := Tryd.prog) 28 9 .i64 Tryd.underlying28 hi025 1 hsz25 (some ad550) l0.length c0 2 (by omega) q25; have hr25 := Kd.F_cut (m := (2 : Int).toNat) (c := c0) hC25 (by omega) hroom25; obtain ⟨A25, hA25⟩ : ∃ A1, A1 = (if c0 = (2 : Int).toNat then (some ad550) else ((some ad550) : Option Addr).map (·.add ((2 : Int).toNat * 1))) := ⟨_, rfl⟩; obtain ⟨c25, hc25⟩ : ∃ c1, c1 = c0 - (2 : Int).toNat := ⟨_, rfl⟩; have hy25 : y556.length = l0.length - (2 : Int).toNat := (by rw [Ny556.out, List.length_drop] <;> omega); rw [show (l0).drop (2 : Int).toNat = y556 from Ny556.out.symm] at hr25; replace hr25 : Kd.F Kd.string _ _ A25 y556.length y556 := (by rw [hA25]; exact hr25); rw [← hy25, ← hA25, ← hc25] at hcut25; have HO560 := Aside0.mk (show Kd.V Kd.string 9 _ w.heap.size _ (.slice A25 y556.length c25) y556 from Kd.V_mk (by rw [hy25, hc25]; exact Nat.sub_le_sub_right hroom25 _) hr25); have HC560 := Aside0.mk (show y556.length ≤ c25 from by rw [hy25, hc25]; exact Nat.sub_le_sub_right hroom25 _); clear hr25 hC25 hroom25 hi025 hsz25 hc25; have KY25 := Aside0.mk hy25; have KA25 := Aside0.mk hA25; clear hy25 hA25; replace q25 := eq_true q25))
         (try simp only [Act.put, List.setIfInBounds_toArray, List.set_cons_zero, List.set_cons_succ])
         go_cut [6, 7] (fun v6 v7 wc => ∃ (kq : Nat) (x6_18 : List (S43)) (x7_18 : List ByteArray) (x553003_18 : Int), Aside0 (dancestudioref35_tree.j2 kq x6_18 x7_18 t551 (⟨#[]⟩ : ByteArray) 0 x553003_18 = some (r1, r2, r3)) ∧ Aside0 (kq ≤ kj1) ∧ Aside0 (Kd.R k43 43 wc w.heap.size (fun k_ => (w.heap.size ≤ k_) ∧ k_ ≠ gb552) v6 x6_18) ∧ Aside0 (Kd.V Kd.string 9 wc w.heap.size (fun k_ => (P0_ k_ ∨ w.heap.size ≤ k_) ∧ some k_ ≠ (v6 : Value).ownBlock ∧ k_ ≠ gb552) v7 x7_18) ∧ Aside0 (wc.heap[gb552]? = some (.cells #[.int .i64 t551, .string (⟨#[]⟩ : ByteArray), .int .i64 0, .int .i64 x553003_18] 43 (0, 0))) ∧ Aside0 (Below w.heap.size w wc))
         case first =>
          have H := HC19.out
          clear HC19
          have H' := Aside0.mk H
          clear H
          go_wp2
          go_loopg [6, 7] kj1 (fun kq v6 v7 w' => ∃ (x6_2 : List (S43)) (x7_2 : List ByteArray) (x553003_2 : Int), Aside0 (dancestudioref35_tree.l0 kq x6_2 x7_2 t551 (⟨#[]⟩ : ByteArray) 0 x553003_2 = some (r1, r2, r3)) ∧ Aside0 (kq ≤ kj1) ∧ Aside0 (Kd.R k43 43 w' w.heap.size (fun k_ => (w.heap.size ≤ k_) ∧ k_ ≠ gb552) v6 x6_2) ∧ Aside0 (Kd.V Kd.string 9 w' w.heap.size (fun k_ => (P0_ k_ ∨ w.heap.size ≤ k_) ∧ some k_ ≠ (v6 : Value).ownBlock ∧ k_ ≠ gb552) v7 x7_2) ∧ Aside0 (w'.heap[gb552]? = some (.cells #[.int .i64 t551, .string (⟨#[]⟩ : ByteArray), .int .i64 0, .int .i64 x553003_2] 43 (0, 0))) ∧ Aside0 (Below w.heap.size w w'))
          case atStart => exact ⟨(y553), (y556), (0), H', ⟨Nat.le_refl _⟩, ⟨Kd.R_mono HO555.out (fun _ hk => ⟨hk.1.1, hk.2⟩)⟩, ⟨Kd.V_mono HO560.out (fun _ hk => ⟨hk.1.1, ⟨hk.2, hk.1.2⟩⟩)⟩, BK552, HB⟩
          case round =>
           clear H'
           try clear c1
           try clear c8
           clear c9b0 c9b1
           try clear c11
           clear c12b0 c12b1 c14 c14b0 c14b1 c18b0 c18b1
           try clear c20
           clear q20
           try clear c25
           clear q25 hcz22_0 hcz22_1 hcz22_2 hcz22_3 hfz22_0 hfz22_1 hfz22_2 hfz22_3 hx550_0 p550 q550
           obtain ⟨x6_2, x7_2, x553003_2, HA, HK2, HO_6, HO_7, BK552, HB⟩ := hrel
           cases gk with
           | zero => exact absurd HA.out (by simp [dancestudioref35_tree.l0])
           | succ k2 =>
            have H := HA.out
            clear HA
            simp only [dancestudioref35_tree.l0] at H
            replace H := Option.bind_eq_some_iff.mp H
            obtain ⟨⟨t561, t564, t567⟩, A260, H⟩ := H
            replace H : (if t567 = true then (if x6_2.length + t561.length < 3518437208883 then ((some (x6_2 ++ t561 : List (S43))).bind fun y568 => (if 0 < (y568.length : Int) then ((some (y568.set (0 : Int).toNat (⟨(rd_T43 y568 0).f0, (rd_T43 y568 0).f1, (rd_T43 y568 0).f2, wrap64 (((rd_T43 y568 0).f3) + 1)⟩ : S43) : List (S43))).bind fun y572 => (if t551 = 2 then ((dancestudioref35_is.f t564 (⟨#[44]⟩ : ByteArray)).bind fun t573 => (if t573 = true then (if 1 ≤ (t564.length : Int) then (dancestudioref35_tree.l0 k2 y572 (t564.drop 1) t551 (⟨#[]⟩ : ByteArray) 0 x553003_2) else (none)) else (dancestudioref35_tree.j2 k2 y572 t564 t551 (⟨#[]⟩ : ByteArray) 0 x553003_2))) else (dancestudioref35_tree.j2 k2 y572 t564 t551 (⟨#[]⟩ : ByteArray) 0 x553003_2))) else (none))) else (none)) else (some (([] : List (S43)), ([] : List ByteArray), false))) = some (r1, r2, r3) := H
            have A26 := Aside0.mk A260
            clear A260
            by_cases c27 : t567 = true
            ·
             subst c27
             have H1 : (if x6_2.length + t561.length < 3518437208883 then ((some (x6_2 ++ t561 : List (S43))).bind fun y568 => (if 0 < (y568.length : Int) then ((some (y568.set (0 : Int).toNat (⟨(rd_T43 y568 0).f0, (rd_T43 y568 0).f1, (rd_T43 y568 0).f2, wrap64 (((rd_T43 y568 0).f3) + 1)⟩ : S43) : List (S43))).bind fun y572 => (if t551 = 2 then ((dancestudioref35_is.f t564 (⟨#[44]⟩ : ByteArray)).bind fun t573 => (if t573 = true then (if 1 ≤ (t564.length : Int) then (dancestudioref35_tree.l0 k2 y572 (t564.drop 1) t551 (⟨#[]⟩ : ByteArray) 0 x553003_2) else (none)) else (dancestudioref35_tree.j2 k2 y572 t564 t551 (⟨#[]⟩ : ByteArray) 0 x553003_2))) else (dancestudioref35_tree.j2 k2 y572 t564 t551 (⟨#[]⟩ : ByteArray) 0 x553003_2))) else (none))) else (none)) = some (r1, r2, r3) := by rw [if_pos rfl] at H; exact H
             clear H
             have H := H1
             clear H1
             by_cases c28 : x6_2.length + t561.length < 3518437208883
             ·
              rw [if_pos c28] at H
              have LMc28 := Aside0.mk c28
              clear c28
              obtain ⟨y568, hy568⟩ : ∃ y_ : List (S43), y_ = (x6_2 ++ t561) := ⟨_, rfl⟩
              replace H : (if 0 < (y568.length : Int) then ((some (y568.set (0 : Int).toNat (⟨(rd_T43 y568 0).f0, (rd_T43 y568 0).f1, (rd_T43 y568 0).f2, wrap64 (((rd_T43 y568 0).f3) + 1)⟩ : S43) : List (S43))).bind fun y572 => (if t551 = 2 then ((dancestudioref35_is.f t564 (⟨#[44]⟩ : ByteArray)).bind fun t573 => (if t573 = true then (if 1 ≤ (t564.length : Int) then (dancestudioref35_tree.l0 k2 y572 (t564.drop 1) t551 (⟨#[]⟩ : ByteArray) 0 x553003_2) else (none)) else (dancestudioref35_tree.j2 k2 y572 t564 t551 (⟨#[]⟩ : ByteArray) 0 x553003_2))) else (dancestudioref35_tree.j2 k2 y572 t564 t551 (⟨#[]⟩ : ByteArray) 0 x553003_2))) else (none)) = some (r1, r2, r3) := by first | (rw [hy568]; with_reducible exact H) | (have H2_ := (Option.bind_some _ _).symm.trans H; rw [hy568]; with_reducible exact H2_) | (have H2_ := (Option.bind_some _ _).symm.trans H; with_reducible exact H2_) | with_reducible exact H | (rw [hy568]; exact H) | exact H
              have Ny568 := Aside0.mk hy568
              clear hy568
              by_cases c29 : 0 < (y568.length : Int)
              ·
               rw [if_pos c29] at H
               have c29b0 := decide_eq_true c29
               have c29b1 : decide (0 < y568.length) = true := decide_eq_true (by omega)
               clear c29
               (first | rw [c29b0] | (simp only [i64_w, i32_w]; rw [c29b0]) | skip)
               obtain ⟨y572, hy572⟩ : ∃ y_ : List (S43), y_ = (y568.set (0 : Int).toNat (⟨(rd_T43 y568 0).f0, (rd_T43 y568 0).f1, (rd_T43 y568 0).f2, wrap64 (((rd_T43 y568 0).f3) + 1)⟩ : S43)) := ⟨_, rfl⟩
               replace H : (if t551 = 2 then ((dancestudioref35_is.f t564 (⟨#[44]⟩ : ByteArray)).bind fun t573 => (if t573 = true then (if 1 ≤ (t564.length : Int) then (dancestudioref35_tree.l0 k2 y572 (t564.drop 1) t551 (⟨#[]⟩ : ByteArray) 0 x553003_2) else (none)) else (dancestudioref35_tree.j2 k2 y572 t564 t551 (⟨#[]⟩ : ByteArray) 0 x553003_2))) else (dancestudioref35_tree.j2 k2 y572 t564 t551 (⟨#[]⟩ : ByteArray) 0 x553003_2)) = some (r1, r2, r3) := by first | (rw [hy572]; with_reducible exact H) | (have H2_ := (Option.bind_some _ _).symm.trans H; rw [hy572]; with_reducible exact H2_) | (have H2_ := (Option.bind_some _ _).symm.trans H; with_reducible exact H2_) | with_reducible exact H | (rw [hy572]; exact H) | exact H
               have Ny572 := Aside0.mk hy572
               clear hy572
               by_cases c31 : t551 = 2
               ·
                rw [if_pos c31] at H
                have c31b0 := beq_iff_eq.mpr c31
                have c31b1 := bne_eq_false_iff_eq.mpr c31
                clear c31
                replace H := Option.bind_eq_some_iff.mp H
                obtain ⟨t573, A320, H⟩ := H
                replace H : (if t573 = true then (if 1 ≤ (t564.length : Int) then (dancestudioref35_tree.l0 k2 y572 (t564.drop 1) t551 (⟨#[]⟩ : ByteArray) 0 x553003_2) else (none)) else (dancestudioref35_tree.j2 k2 y572 t564 t551 (⟨#[]⟩ : ByteArray) 0 x553003_2)) = some (r1, r2, r3) := H
                have A32 := Aside0.mk A320
                clear A320
                by_cases c33 : t573 = true
                ·
                 subst c33
                 have H1 : (if 1 ≤ (t564.length : Int) then (dancestudioref35_tree.l0 k2 y572 (t564.drop 1) t551 (⟨#[]⟩ : ByteArray) 0 x553003_2) else (none)) = some (r1, r2, r3) := by rw [if_pos rfl] at H; exact H
                 clear H
                 have H := H1
                 clear H1
                 by_cases c34 : 1 ≤ (t564.length : Int)
                 ·
                  rw [if_pos c34] at H
                  have c34b0 := eq_true c34
                  have c34b1 := decide_eq_true c34
                  clear c34
                  obtain ⟨y574, hy574⟩ : ∃ y_ : List ByteArray, y_ = (t564.drop 1) := ⟨_, rfl⟩
                  replace H : (dancestudioref35_tree.l0 k2 y572 y574 t551 (⟨#[]⟩ : ByteArray) 0 x553003_2) = some (r1, r2, r3) := by first | (rw [hy574]; with_reducible exact H) | (have H2_ := (Option.bind_some _ _).symm.trans H; rw [hy574]; with_reducible exact H2_) | (have H2_ := (Option.bind_some _ _).symm.trans H; with_reducible exact H2_) | with_reducible exact H | (rw [hy574]; exact H) | exact H
                  have Ny574 := Aside0.mk hy574
                  clear hy574
                  have H' := Aside0.mk H
                  clear H
                  obtain ⟨Ao35, co35, eo35⟩ := Kd.V_slice HO_7.out
                  subst eo35
                  go_wp2_with (first | ((with_reducible refine gate_callee (f := 39) rfl ?_); refine goesL_ (some 49) rfl rfl Tryd.func39 (by kernel_rfl) rfl #[.slice Ao35 x7_2.length co35] rfl (mA1 rfl) ?_; (with_reducible refine (ih k2 (by have := HJ1.out; have := HK2.out; omega) (fun k_ => ((P0_ k_ ∨ w.heap.size ≤ k_) ∧ (some k_ ≠ (u6 : Value).ownBlock ∧ k_ ≠ gb552))) _ _ x7_2 t561 t564 true _ ?side1 A26.out).mono ?_); (case side1 => exact HO_7.out); rintro e w36 ⟨v562, v565, rfl, ho0, ho1, hb⟩; refine ⟨_, rfl, ?_⟩; have n0_ := Aside0.mk (Kd.R_elder' (rO HO_6) (Kd.R_base ho0) hb); have n1_ := Aside0.mk (Kd.V_elder' HO_7.out (Kd.R_base ho0) hb); have n2_ := Aside0.mk (Kd.R_lower (Kd.R_newB (Kd.R_new' (Kd.R_newM (M := fun k_ => (w.heap.size ≤ k_)) (Kd.R_mono (ok' := fun k_ => True) ho0 (fun _ hk_ => trivial)) (below_size (hO HB)) (fun k_ h_ => h_)) (Kd.R_lt (rO HO_6))) (g := gb552) (o := .cells #[.int .i64 t551, .string (⟨#[]⟩ : ByteArray), .int .i64 0, .int .i64 x553003_2] 43 (0, 0)) (bO BK552)) (below_size (hO HB))); have n3_ := Aside0.mk (Kd.V_lower (Kd.V_mono (ok' := fun k_ => (P0_ k_ ∨ w.heap.size ≤ k_) ∧ some k_ ≠ (v562 : Value).ownBlock ∧ some k_ ≠ (u6 : Value).ownBlock ∧ k_ ≠ gb552) ho1 (fun k_ hk_ => ⟨Or.elim hk_.1 (fun hs_ => hs_.1) (fun hn_ => (.inr (Nat.le_trans (below_size (hO HB)) hn_))), hk_.2, Or.elim hk_.1 (fun hs_ => hs_.2.1) (fun hn_ => (Kd.fresh' (Kd.R_lt (rO HO_6)) k_ hn_)), Or.elim hk_.1 (fun hs_ => hs_.2.2) (fun hn_ => (Kd.freshB (g := gb552) (o := .cells #[.int .i64 t551, .string (⟨#[]⟩ : ByteArray), .int .i64 0, .int .i64 x553003_2] 43 (0, 0)) (bO BK552) k_ hn_))⟩)) (below_size (hO HB))); have n4_ := Aside0.mk (blk_below (g := gb552) (o := .cells #[.int .i64 t551, .string (⟨#[]⟩ : ByteArray), .int .i64 0, .int .i64 x553003_2] 43 (0, 0)) (bO BK552) hb); have n5_ := mSx HB hb; clear HO_6 HO_7 BK552 HB; have HO_6 := n0_; have HO_7 := n1_; have HO563 := n2_; have HO566 := n3_; have BK552 := n4_; have HB := n5_; clear n0_ n1_ n2_ n3_ n4_ n5_; (try clear hb); (try clear hb2); (try clear hk); (try clear hi); (try clear ho0); (try clear ho1); obtain ⟨Ao38, co38, eo38⟩ := Kd.R_slice HO563.out; subst eo38) | ((with_reducible refine gate_builtin (b := .append) (xs := #[.tmp 55, .tmp 56]) rfl ?_); at_builtin; refine Kd.R_append_rows k43 (w0 := w) w.heap.size rfl (.tmp 55) (.tmp 56) 22 43 (.agg #[(.int .i64 0), (.string ⟨#[]⟩), (.int .i64 0), (.int .i64 0)]) 40 rfl Tryd.underlying22 info43 rfl (by decide) (by omega) u6 x6_2 t561 _ _ _ (fun k_ => (w.heap.size ≤ k_) ∧ some k_ ≠ (.slice Ao38 t561.length co38 : Value).ownBlock ∧ k_ ≠ gb552) (fun _ => False) rfl rfl ?aO ?aR (fun _ _ h => h) (fun _ h => h.elim) ?aF ?aB ?aS ?aL ?_; (case aR => repeat (first | exact (Kd.R_reads' HO563.out).2.2 | (with_reducible refine Kd.C_alloc ?_ _) | (with_reducible refine Kd.C_drewN ?_ _) | (with_reducible refine Kd.C_drew ?_))); (case aB => exact (hO HB)); (case aF => exact (fun k_ hk => ⟨(Nat.le_trans (below_size (hO HB)) hk), Kd.fresh' (Kd.R_lt (rO HO563)) k_ hk, Kd.freshB (g := gb552) (o := .cells #[.int .i64 t551, .string (⟨#[]⟩ : ByteArray), .int .i64 0, .int .i64 x553003_2] 43 (0, 0)) (bO BK552) k_ hk⟩)); (case aO => exact (by exact Kd.R_mono HO_6.out (fun _ hk => ⟨hk.1.1, ⟨hk.2, hk.1.2⟩⟩))); (case aS => exact (below_size (hO HB))); (case aL => have := LMc28.out; omega); intro v569 w37 ho hb hg hat; rw [← Ny568.out] at ho; have n0_ := Aside0.mk (Kd.V_afterv (ok := (fun k_ => (P0_ k_ ∨ w.heap.size ≤ k_) ∧ some k_ ≠ (.slice Ao38 t561.length co38 : Value).ownBlock ∧ k_ ≠ gb552)) (by (with_reducible repeat (first | apply Kd.V_alloc | apply Kd.V_drewN | apply Kd.V_drew)); exact Kd.V_mono HO_7.out (fun _ hk => ⟨⟨hk.1.1, ⟨hk.2, hk.1.2.2⟩⟩, hk.1.2.1⟩)) hg hat); have n1_ := Aside0.mk (blk_grown (g := gb552) (o := .cells #[.int .i64 t551, .string (⟨#[]⟩ : ByteArray), .int .i64 0, .int .i64 x553003_2] 43 (0, 0)) (bO BK552) hg (Kd.R_away HO_6.out (fun _ hk => hk.1.2))); have n2_ := Aside0.mk (Kd.R_after (ok := (fun k_ => (w.heap.size ≤ k_) ∧ k_ ≠ gb552)) (by exact Kd.R_mono HO563.out (fun _ hk => ⟨⟨hk.1.1.1, hk.2⟩, hk.1.2⟩)) hg hat); have n3_ := Aside0.mk (Kd.V_afterv (ok := (fun k_ => (P0_ k_ ∨ w.heap.size ≤ k_) ∧ some k_ ≠ (.slice Ao38 t561.length co38 : Value).ownBlock ∧ k_ ≠ gb552)) (by (with_reducible repeat (first | apply Kd.V_alloc | apply Kd.V_drewN | apply Kd.V_drew)); exact Kd.V_mono HO566.out (fun _ hk => ⟨⟨hk.1, ⟨hk.2.1, hk.2.2.2⟩⟩, hk.2.2.1⟩)) hg hat); have n4_ := Aside0.mk (hb); have n5_ := Aside0.mk (ho); clear HO_7 BK552 HO563 HO566 HB HO_6; have HO_7 := n0_; have BK552 := n1_; have HO563 := n2_; have HO566 := n3_; have HB := n4_; have HO570 := n5_; clear n0_ n1_ n2_ n3_ n4_ n5_; clear ho hb hg hat; obtain ⟨Ao39, co39, eo39⟩ := Kd.R_slice HO570.out; subst eo39; have p571 : 0 ≤ (0 : Int) := (by omega); have q571 : 0 < (y568.length : Int) := of_decide_eq_true (by assumption); obtain ⟨ad571, e571, hx571_0, hx571_1, hx571_2, hx571_3⟩ := at_T43 (Kd.R_reads' HO570.out).2.2 0 p571 q571; cases e571; have qi571 : (0 < y568.length) = True := eq_true (by omega); (try rw [show ((0 : Int)).toNat = 0 from rfl] at hx571_0); (try rw [show 0 * 4 = 0 from rfl] at hx571_0); (try rw [Addr.add_zero'] at hx571_0); (try rw [show ((0 : Int)).toNat = 0 from rfl] at hx571_1); (try rw [show 0 * 4 = 0 from rfl] at hx571_1); (try rw [Addr.add_zero'] at hx571_1); (try rw [show ((0 : Int)).toNat = 0 from rfl] at hx571_2); (try rw [show 0 * 4 = 0 from rfl] at hx571_2); (try rw [Addr.add_zero'] at hx571_2); (try rw [show ((0 : Int)).toNat = 0 from rfl] at hx571_3); (try rw [show 0 * 4 = 0 from rfl] at hx571_3); (try rw [Addr.add_zero'] at hx571_3); replace p571 := eq_true p571; replace q571 := eq_true q571; have p30 : 0 ≤ (0 : Int) := (by omega); have q30 : (0 : Int) < ((y568.length : Int) : Int) := of_decide_eq_true (by assumption); have qi30 : (0 < y568.length) = True := eq_true (by omega); obtain ⟨go30, co30, eo30, gb30, gl30, cl30, HG30⟩ := Kd.R_form HO570.out (by omega); (first | cases eo30 | (injection eo30 with ea_ en_ ec_; (first | subst ea_ | (injection ea_ with ea_; subst ea_)); subst ec_; clear en_)); have GB30 := Aside0.mk gb30; have GG30 := Aside0.mk HG30; clear gb30 gl30 HG30; (first | simp only [add_plain] at hx571_0 | skip); (first | simp only [add_plain] at hx571_1 | skip); (first | simp only [add_plain] at hx571_2 | skip); (first | simp only [add_plain] at hx571_3 | skip); obtain ⟨ce30, hcl30, hM30, hcc30, hfr30⟩ := Kd.R_elem HO570.out z43 (0 : Int) p30 q30; obtain rfl := k43_openM hM30; have hx30_0 : w37.cell? ⟨go30, (0 : Int).toNat * 4, none⟩ = some (.int .i64 ((rd_T43 y568 0).f0)) := hcc30 0 _ rfl; have hx30_1 : w37.cell? ⟨go30, (0 : Int).toNat * 4 + 1, none⟩ = some (.string ((rd_T43 y568 0).f1)) := hcc30 1 _ rfl; have hx30_2 : w37.cell? ⟨go30, (0 : Int).toNat * 4 + 2, none⟩ = some (.int .i64 ((rd_T43 y568 0).f2)) := hcc30 2 _ rfl; have hx30_3 : w37.cell? ⟨go30, (0 : Int).toNat * 4 + 3, none⟩ = some (.int .i64 ((rd_T43 y568 0).f3)) := hcc30 3 _ rfl; have hf30_0 : w37.frozen? ⟨go30, (0 : Int).toNat * 4, none⟩ = false := hfr30 0; have hf30_1 : w37.frozen? ⟨go30, (0 : Int).toNat * 4 + 1, none⟩ = false := hfr30 1; have hf30_2 : w37.frozen? ⟨go30, (0 : Int).toNat * 4 + 2, none⟩ = false := hfr30 2; have hf30_3 : w37.frozen? ⟨go30, (0 : Int).toNat * 4 + 3, none⟩ = false := hfr30 3; clear hcl30 hcc30 hfr30 hM30; (try rw [show ((0 : Int)).toNat = 0 from rfl] at hx30_0); (try simp only [Nat.reduceMul, Nat.zero_mul, Nat.zero_add, Nat.reduceAdd] at hx30_0); (try rw [show ((0 : Int)).toNat = 0 from rfl] at hf30_0); (try simp only [Nat.reduceMul, Nat.zero_mul, Nat.zero_add, Nat.reduceAdd] at hf30_0); (try rw [show ((0 : Int)).toNat = 0 from rfl] at hx30_1); (try simp only [Nat.reduceMul, Nat.zero_mul, Nat.zero_add, Nat.reduceAdd] at hx30_1); (try rw [show ((0 : Int)).toNat = 0 from rfl] at hf30_1); (try simp only [Nat.reduceMul, Nat.zero_mul, Nat.zero_add, Nat.reduceAdd] at hf30_1); (try rw [show ((0 : Int)).toNat = 0 from rfl] at hx30_2); (try simp only [Nat.reduceMul, Nat.zero_mul, Nat.zero_add, Nat.reduceAdd] at hx30_2); (try rw [show ((0 : Int)).toNat = 0 from rfl] at hf30_2); (try simp only [Nat.reduceMul, Nat.zero_mul, Nat.zero_add, Nat.reduceAdd] at hf30_2); (try rw [show ((0 : Int)).toNat = 0 from rfl] at hx30_3); (try simp only [Nat.reduceMul, Nat.zero_mul, Nat.zero_add, Nat.reduceAdd] at hx30_3); (try rw [show ((0 : Int)).toNat = 0 from rfl] at hf30_3); (try simp only [Nat.reduceMul, Nat.zero_mul, Nat.zero_add, Nat.reduceAdd] at hf30_3); replace p30 := eq_true p30; replace q30 := eq_true q30; have HX40 := Aside0.mk (show Kd.R k43 43 w37 w.heap.size (fun k_ => (w.heap.size ≤ k_) ∧ some k_ ≠ (.slice Ao38 t561.length co38 : Value).ownBlock ∧ k_ ≠ gb552) (.slice (some ⟨go30, 0, none⟩) y568.length co39) y568 from (rO HO570)); obtain ⟨ce40, hcl40, hM40, hcc40, hfr40⟩ := Kd.R_elem HX40.out z43 (0 : Int) (by omega) (by have h_ : (0 : Int) < ((y568.length : Int) : Int) := of_decide_eq_true (by assumption); first | exact h_ | (have e_ := (Kd.R_reads' HO570.out).1; omega) | simpa using h_); obtain rfl := k43_openM hM40; have HP40 := Kd.R_seg HX40.out (0 : Int) (by omega) (by have h_ : (0 : Int) < ((y568.length : Int) : Int) := of_decide_eq_true (by assumption); first | exact h_ | (have e_ := (Kd.R_reads' HO570.out).1; omega) | simpa using h_) (seg := [.int .i64 (wrap64 (((rd_T43 y568 0).f3) + 1))]) (j := 3) hcl40 hcc40 (show 4 ≤ 4 from by decide) (x' := (⟨(rd_T43 y568 0).f0, (rd_T43 y568 0).f1, (rd_T43 y568 0).f2, wrap64 (((rd_T43 y568 0).f3) + 1)⟩ : S43)) (k43_mkM _ _ _ (⟨(rd_T43 y568 0).f0, (rd_T43 y568 0).f1, (rd_T43 y568 0).f2, wrap64 (((rd_T43 y568 0).f3) + 1)⟩ : S43) ) (fun _ hk => hk); have hx40_3 := hcc40 3 _ rfl; (try simp only [show (k43).sz = 4 from rfl, Nat.mul_one, Nat.add_zero] at hx40_3); (try rw [show ((0 : Int)).toNat = 0 from rfl] at hx40_3); (try simp only [Nat.reduceMul, Nat.zero_mul, Nat.zero_add, Nat.reduceAdd] at hx40_3); have hf40_3 := hfr40 3; (try simp only [show (k43).sz = 4 from rfl, Nat.mul_one, Nat.add_zero] at hf40_3); (try rw [show ((0 : Int)).toNat = 0 from rfl] at hf40_3); (try simp only [Nat.reduceMul, Nat.zero_mul, Nat.zero_add, Nat.reduceAdd] at hf40_3); clear hcl40 hcc40 hfr40 hM40) | ((with_reducible refine gate_store (t := 3) (p := 64) rfl ?_); refine store_event (t := 3) (p := 64) (v := ?vo_w41) (w1 := (w37.setCell ⟨go30, 3, none⟩ (.int .i64 (wrap64 (((rd_T43 y568 0).f3) + 1))))) ?hg ?ho ?hn ?hr ?_; (case ho => rfl); (case hg => rfl); (case hn => rfl); (case hr => first | (go_simp; done) | (go_simp; rfl)); intro w41 hw; have hg : w37.grownBy w41 (some go30) := (by rw [hw]; exact HP40.2); have hp_ : Kd.R k43 43 w41 w.heap.size (fun k_ => (w.heap.size ≤ k_) ∧ some k_ ≠ (.slice Ao38 t561.length co38 : Value).ownBlock ∧ k_ ≠ gb552) (.slice (some ⟨go30, 0, none⟩) y568.length co39) y572 := (by rw [hw, Ny572.out]; exact HP40.1); clear HP40; have n0_ := Aside0.mk (Kd.V_afterv (v := (.slice (some ⟨go30, 0, none⟩) y568.length co39)) (v1 := (.slice (some ⟨go30, 0, none⟩) y568.length co39)) (ok := (fun k_ => (P0_ k_ ∨ w.heap.size ≤ k_) ∧ some k_ ≠ (.slice Ao38 t561.length co38 : Value).ownBlock ∧ k_ ≠ gb552)) HO_7.out hg (.inl rfl)); have n1_ := Aside0.mk (blk_grown (g := gb552) (o := .cells #[.int .i64 t551, .string (⟨#[]⟩ : ByteArray), .int .i64 0, .int .i64 x553003_2] 43 (0, 0)) (bO BK552) hg (Kd.R_away HO570.out (fun _ hk => hk.2.2))); have n2_ := Aside0.mk (Kd.R_after (v := (.slice (some ⟨go30, 0, none⟩) y568.length co39)) (v1 := (.slice (some ⟨go30, 0, none⟩) y568.length co39)) (ok := (fun k_ => (w.heap.size ≤ k_) ∧ k_ ≠ gb552)) (rO HO563) hg (.inl rfl)); have n3_ := Aside0.mk (Kd.V_afterv (v := (.slice (some ⟨go30, 0, none⟩) y568.length co39)) (v1 := (.slice (some ⟨go30, 0, none⟩) y568.length co39)) (ok := (fun k_ => (P0_ k_ ∨ w.heap.size ≤ k_) ∧ some k_ ≠ (.slice Ao38 t561.length co38 : Value).ownBlock ∧ k_ ≠ gb552)) HO566.out hg (.inl rfl)); have n4_ := Aside0.mk (hp_); have n5_ := Aside0.mk ((by rw [hw]; exact below_set (HB.out) GB30.out : Below w.heap.size w w41)); clear HO_7 BK552 HO563 HO566 HO570 HB; have HO_7 := n0_; have BK552 := n1_; have HO563 := n2_; have HO566 := n3_; have HO570 := n4_; have HB := n5_; clear n0_ n1_ n2_ n3_ n4_ n5_; clear hg hw hp_; have hcz42_0 : w41.cell? ⟨gb552, 0, none⟩ = some (.int .i64 t551) := (blk_cell BK552.out 0).trans rfl; have hcz42_1 : w41.cell? ⟨gb552, 1, none⟩ = some (.string (⟨#[]⟩ : ByteArray)) := (blk_cell BK552.out 1).trans rfl; have hcz42_2 : w41.cell? ⟨gb552, 2, none⟩ = some (.int .i64 0) := (blk_cell BK552.out 2).trans rfl; have hcz42_3 : w41.cell? ⟨gb552, 3, none⟩ = some (.int .i64 x553003_2) := (blk_cell BK552.out 3).trans rfl; have hfz42_0 := blk_frozen BK552.out 0; have hfz42_1 := blk_frozen BK552.out 1; have hfz42_2 := blk_frozen BK552.out 2; have hfz42_3 := blk_frozen BK552.out 3; obtain ⟨Ao43, co43, eo43⟩ := Kd.V_slice HO566.out; subst eo43) | (go_at_call 66; (with_reducible refine (dancestudioref35_is.calls _ _ t564 (⟨#[44]⟩ : ByteArray) true _ ((Kd.V_reads' HO566.out).2.2) ((Kd.V_reads' HO566.out).2.1) A32.out).mono ?_); rintro e w' ⟨rfl, ⟨nd, rfl⟩⟩; have q44 : (1 : Int) ≤ ((t564.length : Int) : Int) := of_decide_eq_true (by assumption); obtain ⟨i044, hi044, _, hsz44, _⟩ := info_parts info9; have hroom44 : t564.length ≤ co43 := (Kd.V_reads' HO566.out).2.1; have hC44 : Kd.F Kd.string _ _ Ao43 t564.length t564 := (Kd.V_at (base := w.heap.size) HO566.out).2.2; have hcut44 := cut_from (P := Tryd.prog) 28 9 .i64 Tryd.underlying28 hi044 1 hsz44 Ao43 t564.length co43 1 (by omega) q44; have hr44 := Kd.F_cut (m := (1 : Int).toNat) (c := co43) hC44 (by omega) hroom44; obtain ⟨A44, hA44⟩ : ∃ A1, A1 = (if co43 = (1 : Int).toNat then Ao43 else (Ao43 : Option Addr).map (·.add ((1 : Int).toNat * 1))) := ⟨_, rfl⟩; obtain ⟨c44, hc44⟩ : ∃ c1, c1 = co43 - (1 : Int).toNat := ⟨_, rfl⟩; have hy44 : y574.length = t564.length - (1 : Int).toNat := (by rw [Ny574.out, List.length_drop] <;> omega); rw [show (t564).drop (1 : Int).toNat = y574 from Ny574.out.symm] at hr44; replace hr44 : Kd.F Kd.string _ _ A44 y574.length y574 := (by rw [hA44]; exact hr44); rw [← hy44, ← hA44, ← hc44] at hcut44; have HO578 := Aside0.mk (show Kd.V Kd.string 9 _ w.heap.size _ (.slice A44 y574.length c44) y574 from Kd.V_mk (by rw [hy44, hc44]; exact Nat.sub_le_sub_right hroom44 _) hr44); have HC578 := Aside0.mk (show y574.length ≤ c44 from by rw [hy44, hc44]; exact Nat.sub_le_sub_right hroom44 _); clear hr44 hC44 hroom44 hi044 hsz44 hc44; have KY44 := Aside0.mk hy44; have KA44 := Aside0.mk hA44; clear hy44 hA44; replace q44 := eq_true q44))
                  go_roundg k2
                  case measure => have := HJ1.out; have := HK2.out; omega
                  case rel => exact ⟨(y572), (y574), (x553003_2), H', ⟨by have := HJ1.out; have := HK2.out; omega⟩, ⟨Kd.R_mono HO570.out (fun _ hk => ⟨hk.1, hk.2.2⟩)⟩, ⟨Kd.V_mono HO578.out (fun _ hk => ⟨hk.1.1, ⟨hk.2, hk.1.2.2⟩⟩)⟩, BK552, ⟨hO HB⟩⟩
                 ·
                  exact mNo c34 H
                ·
                 replace c33 := Bool.eq_false_iff.mpr c33
                 subst c33
                 have H1 : (dancestudioref35_tree.j2 k2 y572 t564 t551 (⟨#[]⟩ : ByteArray) 0 x553003_2) = some (r1, r2, r3) := by rw [if_neg (show ¬ (false = true) by decide)] at H; exact H
                 clear H
                 have H := H1
                 clear H1
                 have H' := Aside0.mk H
                 clear H
                 obtain ⟨Ao45, co45, eo45⟩ := Kd.V_slice HO_7.out
                 subst eo45
                 go_wp2_with (first | ((with_reducible refine gate_callee (f := 39) rfl ?_); refine goesL_ (some 49) rfl rfl Tryd.func39 (by kernel_rfl) rfl #[.slice Ao45 x7_2.length co45] rfl (mA1 rfl) ?_; (with_reducible refine (ih k2 (by have := HJ1.out; have := HK2.out; omega) (fun k_ => ((P0_ k_ ∨ w.heap.size ≤ k_) ∧ (some k_ ≠ (u6 : Value).ownBlock ∧ k_ ≠ gb552))) _ _ x7_2 t561 t564 true _ ?side1 A26.out).mono ?_); (case side1 => exact HO_7.out); rintro e w46 ⟨v562, v565, rfl, ho0, ho1, hb⟩; refine ⟨_, rfl, ?_⟩; have n0_ := Aside0.mk (Kd.R_elder' (rO HO_6) (Kd.R_base ho0) hb); have n1_ := Aside0.mk (Kd.V_elder' HO_7.out (Kd.R_base ho0) hb); have n2_ := Aside0.mk (Kd.R_lower (Kd.R_newB (Kd.R_new' (Kd.R_newM (M := fun k_ => (w.heap.size ≤ k_)) (Kd.R_mono (ok' := fun k_ => True) ho0 (fun _ hk_ => trivial)) (below_size (hO HB)) (fun k_ h_ => h_)) (Kd.R_lt (rO HO_6))) (g := gb552) (o := .cells #[.int .i64 t551, .string (⟨#[]⟩ : ByteArray), .int .i64 0, .int .i64 x553003_2] 43 (0, 0)) (bO BK552)) (below_size (hO HB))); have n3_ := Aside0.mk (Kd.V_lower (Kd.V_mono (ok' := fun k_ => (P0_ k_ ∨ w.heap.size ≤ k_) ∧ some k_ ≠ (v562 : Value).ownBlock ∧ some k_ ≠ (u6 : Value).ownBlock ∧ k_ ≠ gb552) ho1 (fun k_ hk_ => ⟨Or.elim hk_.1 (fun hs_ => hs_.1) (fun hn_ => (.inr (Nat.le_trans (below_size (hO HB)) hn_))), hk_.2, Or.elim hk_.1 (fun hs_ => hs_.2.1) (fun hn_ => (Kd.fresh' (Kd.R_lt (rO HO_6)) k_ hn_)), Or.elim hk_.1 (fun hs_ => hs_.2.2) (fun hn_ => (Kd.freshB (g := gb552) (o := .cells #[.int .i64 t551, .string (⟨#[]⟩ : ByteArray), .int .i64 0, .int .i64 x553003_2] 43 (0, 0)) (bO BK552) k_ hn_))⟩)) (below_size (hO HB))); have n4_ := Aside0.mk (blk_below (g := gb552) (o := .cells #[.int .i64 t551, .string (⟨#[]⟩ : ByteArray), .int .i64 0, .int .i64 x553003_2] 43 (0, 0)) (bO BK552) hb); have n5_ := mSx HB hb; clear HO_6 HO_7 BK552 HB; have HO_6 := n0_; have HO_7 := n1_; have HO563 := n2_; have HO566 := n3_; have BK552 := n4_; have HB := n5_; clear n0_ n1_ n2_ n3_ n4_ n5_; (try clear hb); (try clear hb2); (try clear hk); (try clear hi); (try clear ho0); (try clear ho1); obtain ⟨Ao48, co48, eo48⟩ := Kd.R_slice HO563.out; subst eo48) | ((with_reducible refine gate_builtin (b := .append) (xs := #[.tmp 55, .tmp 56]) rfl ?_); at_builtin; refine Kd.R_append_rows k43 (w0 := w) w.heap.size rfl (.tmp 55) (.tmp 56) 22 43 (.agg #[(.int .i64 0), (.string ⟨#[]⟩), (.int .i64 0), (.int .i64 0)]) 40 rfl Tryd.underlying22 info43 rfl (by decide) (by omega) u6 x6_2 t561 _ _ _ (fun k_ => (w.heap.size ≤ k_) ∧ some k_ ≠ (.slice Ao48 t561.length co48 : Value).ownBlock ∧ k_ ≠ gb552) (fun _ => False) rfl rfl ?aO ?aR (fun _ _ h => h) (fun _ h => h.elim) ?aF ?aB ?aS ?aL ?_; (case aR => repeat (first | exact (Kd.R_reads' HO563.out).2.2 | (with_reducible refine Kd.C_alloc ?_ _) | (with_reducible refine Kd.C_drewN ?_ _) | (with_reducible refine Kd.C_drew ?_))); (case aB => exact (hO HB)); (case aF => exact (fun k_ hk => ⟨(Nat.le_trans (below_size (hO HB)) hk), Kd.fresh' (Kd.R_lt (rO HO563)) k_ hk, Kd.freshB (g := gb552) (o := .cells #[.int .i64 t551, .string (⟨#[]⟩ : ByteArray), .int .i64 0, .int .i64 x553003_2] 43 (0, 0)) (bO BK552) k_ hk⟩)); (case aO => exact (by exact Kd.R_mono HO_6.out (fun _ hk => ⟨hk.1.1, ⟨hk.2, hk.1.2⟩⟩))); (case aS => exact (below_size (hO HB))); (case aL => have := LMc28.out; omega); intro v569 w47 ho hb hg hat; rw [← Ny568.out] at ho; have n0_ := Aside0.mk (Kd.V_afterv (ok := (fun k_ => (P0_ k_ ∨ w.heap.size ≤ k_) ∧ some k_ ≠ (.slice Ao48 t561.length co48 : Value).ownBlock ∧ k_ ≠ gb552)) (by (with_reducible repeat (first | apply Kd.V_alloc | apply Kd.V_drewN | apply Kd.V_drew)); exact Kd.V_mono HO_7.out (fun _ hk => ⟨⟨hk.1.1, ⟨hk.2, hk.1.2.2⟩⟩, hk.1.2.1⟩)) hg hat); have n1_ := Aside0.mk (blk_grown (g := gb552) (o := .cells #[.int .i64 t551, .string (⟨#[]⟩ : ByteArray), .int .i64 0, .int .i64 x553003_2] 43 (0, 0)) (bO BK552) hg (Kd.R_away HO_6.out (fun _ hk => hk.1.2))); have n2_ := Aside0.mk (Kd.R_after (ok := (fun k_ => (w.heap.size ≤ k_) ∧ k_ ≠ gb552)) (by exact Kd.R_mono HO563.out (fun _ hk => ⟨⟨hk.1.1.1, hk.2⟩, hk.1.2⟩)) hg hat); have n3_ := Aside0.mk (Kd.V_afterv (ok := (fun k_ => (P0_ k_ ∨ w.heap.size ≤ k_) ∧ some k_ ≠ (.slice Ao48 t561.length co48 : Value).ownBlock ∧ k_ ≠ gb552)) (by (with_reducible repeat (first | apply Kd.V_alloc | apply Kd.V_drewN | apply Kd.V_drew)); exact Kd.V_mono HO566.out (fun _ hk => ⟨⟨hk.1, ⟨hk.2.1, hk.2.2.2⟩⟩, hk.2.2.1⟩)) hg hat); have n4_ := Aside0.mk (hb); have n5_ := Aside0.mk (ho); clear HO_7 BK552 HO563 HO566 HB HO_6; have HO_7 := n0_; have BK552 := n1_; have HO563 := n2_; have HO566 := n3_; have HB := n4_; have HO570 := n5_; clear n0_ n1_ n2_ n3_ n4_ n5_; clear ho hb hg hat; obtain ⟨Ao49, co49, eo49⟩ := Kd.R_slice HO570.out; subst eo49; have p571 : 0 ≤ (0 : Int) := (by omega); have q571 : 0 < (y568.length : Int) := of_decide_eq_true (by assumption); obtain ⟨ad571, e571, hx571_0, hx571_1, hx571_2, hx571_3⟩ := at_T43 (Kd.R_reads' HO570.out).2.2 0 p571 q571; cases e571; have qi571 : (0 < y568.length) = True := eq_true (by omega); (try rw [show ((0 : Int)).toNat = 0 from rfl] at hx571_0); (try rw [show 0 * 4 = 0 from rfl] at hx571_0); (try rw [Addr.add_zero'] at hx571_0); (try rw [show ((0 : Int)).toNat = 0 from rfl] at hx571_1); (try rw [show 0 * 4 = 0 from rfl] at hx571_1); (try rw [Addr.add_zero'] at hx571_1); (try rw [show ((0 : Int)).toNat = 0 from rfl] at hx571_2); (try rw [show 0 * 4 = 0 from rfl] at hx571_2); (try rw [Addr.add_zero'] at hx571_2); (try rw [show ((0 : Int)).toNat = 0 from rfl] at hx571_3); (try rw [show 0 * 4 = 0 from rfl] at hx571_3); (try rw [Addr.add_zero'] at hx571_3); replace p571 := eq_true p571; replace q571 := eq_true q571; have p30 : 0 ≤ (0 : Int) := (by omega); have q30 : (0 : Int) < ((y568.length : Int) : Int) := of_decide_eq_true (by assumption); have qi30 : (0 < y568.length) = True := eq_true (by omega); obtain ⟨go30, co30, eo30, gb30, gl30, cl30, HG30⟩ := Kd.R_form HO570.out (by omega); (first | cases eo30 | (injection eo30 with ea_ en_ ec_; (first | subst ea_ | (injection ea_ with ea_; subst ea_)); subst ec_; clear en_)); have GB30 := Aside0.mk gb30; have GG30 := Aside0.mk HG30; clear gb30 gl30 HG30; (first | simp only [add_plain] at hx571_0 | skip); (first | simp only [add_plain] at hx571_1 | skip); (first | simp only [add_plain] at hx571_2 | skip); (first | simp only [add_plain] at hx571_3 | skip); obtain ⟨ce30, hcl30, hM30, hcc30, hfr30⟩ := Kd.R_elem HO570.out z43 (0 : Int) p30 q30; obtain rfl := k43_openM hM30; have hx30_0 : w47.cell? ⟨go30, (0 : Int).toNat * 4, none⟩ = some (.int .i64 ((rd_T43 y568 0).f0)) := hcc30 0 _ rfl; have hx30_1 : w47.cell? ⟨go30, (0 : Int).toNat * 4 + 1, none⟩ = some (.string ((rd_T43 y568 0).f1)) := hcc30 1 _ rfl; have hx30_2 : w47.cell? ⟨go30, (0 : Int).toNat * 4 + 2, none⟩ = some (.int .i64 ((rd_T43 y568 0).f2)) := hcc30 2 _ rfl; have hx30_3 : w47.cell? ⟨go30, (0 : Int).toNat * 4 + 3, none⟩ = some (.int .i64 ((rd_T43 y568 0).f3)) := hcc30 3 _ rfl; have hf30_0 : w47.frozen? ⟨go30, (0 : Int).toNat * 4, none⟩ = false := hfr30 0; have hf30_1 : w47.frozen? ⟨go30, (0 : Int).toNat * 4 + 1, none⟩ = false := hfr30 1; have hf30_2 : w47.frozen? ⟨go30, (0 : Int).toNat * 4 + 2, none⟩ = false := hfr30 2; have hf30_3 : w47.frozen? ⟨go30, (0 : Int).toNat * 4 + 3, none⟩ = false := hfr30 3; clear hcl30 hcc30 hfr30 hM30; (try rw [show ((0 : Int)).toNat = 0 from rfl] at hx30_0); (try simp only [Nat.reduceMul, Nat.zero_mul, Nat.zero_add, Nat.reduceAdd] at hx30_0); (try rw [show ((0 : Int)).toNat = 0 from rfl] at hf30_0); (try simp only [Nat.reduceMul, Nat.zero_mul, Nat.zero_add, Nat.reduceAdd] at hf30_0); (try rw [show ((0 : Int)).toNat = 0 from rfl] at hx30_1); (try simp only [Nat.reduceMul, Nat.zero_mul, Nat.zero_add, Nat.reduceAdd] at hx30_1); (try rw [show ((0 : Int)).toNat = 0 from rfl] at hf30_1); (try simp only [Nat.reduceMul, Nat.zero_mul, Nat.zero_add, Nat.reduceAdd] at hf30_1); (try rw [show ((0 : Int)).toNat = 0 from rfl] at hx30_2); (try simp only [Nat.reduceMul, Nat.zero_mul, Nat.zero_add, Nat.reduceAdd] at hx30_2); (try rw [show ((0 : Int)).toNat = 0 from rfl] at hf30_2); (try simp only [Nat.reduceMul, Nat.zero_mul, Nat.zero_add, Nat.reduceAdd] at hf30_2); (try rw [show ((0 : Int)).toNat = 0 from rfl] at hx30_3); (try simp only [Nat.reduceMul, Nat.zero_mul, Nat.zero_add, Nat.reduceAdd] at hx30_3); (try rw [show ((0 : Int)).toNat = 0 from rfl] at hf30_3); (try simp only [Nat.reduceMul, Nat.zero_mul, Nat.zero_add, Nat.reduceAdd] at hf30_3); replace p30 := eq_true p30; replace q30 := eq_true q30; have HX50 := Aside0.mk (show Kd.R k43 43 w47 w.heap.size (fun k_ => (w.heap.size ≤ k_) ∧ some k_ ≠ (.slice Ao48 t561.length co48 : Value).ownBlock ∧ k_ ≠ gb552) (.slice (some ⟨go30, 0, none⟩) y568.length co49) y568 from (rO HO570)); obtain ⟨ce50, hcl50, hM50, hcc50, hfr50⟩ := Kd.R_elem HX50.out z43 (0 : Int) (by omega) (by have h_ : (0 : Int) < ((y568.length : Int) : Int) := of_decide_eq_true (by assumption); first | exact h_ | (have e_ := (Kd.R_reads' HO570.out).1; omega) | simpa using h_); obtain rfl := k43_openM hM50; have HP50 := Kd.R_seg HX50.out (0 : Int) (by omega) (by have h_ : (0 : Int) < ((y568.length : Int) : Int) := of_decide_eq_true (by assumption); first | exact h_ | (have e_ := (Kd.R_reads' HO570.out).1; omega) | simpa using h_) (seg := [.int .i64 (wrap64 (((rd_T43 y568 0).f3) + 1))]) (j := 3) hcl50 hcc50 (show 4 ≤ 4 from by decide) (x' := (⟨(rd_T43 y568 0).f0, (rd_T43 y568 0).f1, (rd_T43 y568 0).f2, wrap64 (((rd_T43 y568 0).f3) + 1)⟩ : S43)) (k43_mkM _ _ _ (⟨(rd_T43 y568 0).f0, (rd_T43 y568 0).f1, (rd_T43 y568 0).f2, wrap64 (((rd_T43 y568 0).f3) + 1)⟩ : S43) ) (fun _ hk => hk); have hx50_3 := hcc50 3 _ rfl; (try simp only [show (k43).sz = 4 from rfl, Nat.mul_one, Nat.add_zero] at hx50_3); (try rw [show ((0 : Int)).toNat = 0 from rfl] at hx50_3); (try simp only [Nat.reduceMul, Nat.zero_mul, Nat.zero_add, Nat.reduceAdd] at hx50_3); have hf50_3 := hfr50 3; (try simp only [show (k43).sz = 4 from rfl, Nat.mul_one, Nat.add_zero] at hf50_3); (try rw [show ((0 : Int)).toNat = 0 from rfl] at hf50_3); (try simp only [Nat.reduceMul, Nat.zero_mul, Nat.zero_add, Nat.reduceAdd] at hf50_3); clear hcl50 hcc50 hfr50 hM50) | ((with_reducible refine gate_store (t := 3) (p := 64) rfl ?_); refine store_event (t := 3) (p := 64) (v := ?vo_w51) (w1 := (w47.setCell ⟨go30, 3, none⟩ (.int .i64 (wrap64 (((rd_T43 y568 0).f3) + 1))))) ?hg ?ho ?hn ?hr ?_; (case ho => rfl); (case hg => rfl); (case hn => rfl); (case hr => first | (go_simp; done) | (go_simp; rfl)); intro w51 hw; have hg : w47.grownBy w51 (some go30) := (by rw [hw]; exact HP50.2); have hp_ : Kd.R k43 43 w51 w.heap.size (fun k_ => (w.heap.size ≤ k_) ∧ some k_ ≠ (.slice Ao48 t561.length co48 : Value).ownBlock ∧ k_ ≠ gb552) (.slice (some ⟨go30, 0, none⟩) y568.length co49) y572 := (by rw [hw, Ny572.out]; exact HP50.1); clear HP50; have n0_ := Aside0.mk (Kd.V_afterv (v := (.slice (some ⟨go30, 0, none⟩) y568.length co49)) (v1 := (.slice (some ⟨go30, 0, none⟩) y568.length co49)) (ok := (fun k_ => (P0_ k_ ∨ w.heap.size ≤ k_) ∧ some k_ ≠ (.slice Ao48 t561.length co48 : Value).ownBlock ∧ k_ ≠ gb552)) HO_7.out hg (.inl rfl)); have n1_ := Aside0.mk (blk_grown (g := gb552) (o := .cells #[.int .i64 t551, .string (⟨#[]⟩ : ByteArray), .int .i64 0, .int .i64 x553003_2] 43 (0, 0)) (bO BK552) hg (Kd.R_away HO570.out (fun _ hk => hk.2.2))); have n2_ := Aside0.mk (Kd.R_after (v := (.slice (some ⟨go30, 0, none⟩) y568.length co49)) (v1 := (.slice (some ⟨go30, 0, none⟩) y568.length co49)) (ok := (fun k_ => (w.heap.size ≤ k_) ∧ k_ ≠ gb552)) (rO HO563) hg (.inl rfl)); have n3_ := Aside0.mk (Kd.V_afterv (v := (.slice (some ⟨go30, 0, none⟩) y568.length co49)) (v1 := (.slice (some ⟨go30, 0, none⟩) y568.length co49)) (ok := (fun k_ => (P0_ k_ ∨ w.heap.size ≤ k_) ∧ some k_ ≠ (.slice Ao48 t561.length co48 : Value).ownBlock ∧ k_ ≠ gb552)) HO566.out hg (.inl rfl)); have n4_ := Aside0.mk (hp_); have n5_ := Aside0.mk ((by rw [hw]; exact below_set (HB.out) GB30.out : Below w.heap.size w w51)); clear HO_7 BK552 HO563 HO566 HO570 HB; have HO_7 := n0_; have BK552 := n1_; have HO563 := n2_; have HO566 := n3_; have HO570 := n4_; have HB := n5_; clear n0_ n1_ n2_ n3_ n4_ n5_; clear hg hw hp_; have hcz52_0 : w51.cell? ⟨gb552, 0, none⟩ = some (.int .i64 t551) := (blk_cell BK552.out 0).trans rfl; have hcz52_1 : w51.cell? ⟨gb552, 1, none⟩ = some (.string (⟨#[]⟩ : ByteArray)) := (blk_cell BK552.out 1).trans rfl; have hcz52_2 : w51.cell? ⟨gb552, 2, none⟩ = some (.int .i64 0) := (blk_cell BK552.out 2).trans rfl; have hcz52_3 : w51.cell? ⟨gb552, 3, none⟩ = some (.int .i64 x553003_2) := (blk_cell BK552.out 3).trans rfl; have hfz52_0 := blk_frozen BK552.out 0; have hfz52_1 := blk_frozen BK552.out 1; have hfz52_2 := blk_frozen BK552.out 2; have hfz52_3 := blk_frozen BK552.out 3; obtain ⟨Ao53, co53, eo53⟩ := Kd.V_slice HO566.out; subst eo53) | (go_at_call 66; (with_reducible refine (dancestudioref35_is.calls _ _ t564 (⟨#[44]⟩ : ByteArray) false _ ((Kd.V_reads' HO566.out).2.2) ((Kd.V_reads' HO566.out).2.1) A32.out).mono ?_); rintro e w' ⟨rfl, ⟨nd, rfl⟩⟩))
                 go_meet
                 case rel => exact ⟨_, (y572), (t564), (x553003_2), H', ⟨by have := HJ1.out; have := HK2.out; first | omega | exact Nat.le_refl _⟩, ⟨Kd.R_mono HO570.out (fun _ hk => ⟨hk.1, hk.2.2⟩)⟩, ⟨Kd.V_mono HO566.out (fun _ hk => ⟨hk.1.1, ⟨hk.2, hk.1.2.2⟩⟩)⟩, BK552, ⟨hO HB⟩⟩
               ·
                rw [if_neg c31] at H
                have c31b0 := beq_eq_false_iff_ne.mpr c31
                have c31b1 := bne_iff_ne.mpr c31
                have H' := Aside0.mk H
                clear H
                obtain ⟨Ao54, co54, eo54⟩ := Kd.V_slice HO_7.out
                subst eo54
                go_wp2_with (first | ((with_reducible refine gate_callee (f := 39) rfl ?_); refine goesL_ (some 49) rfl rfl Tryd.func39 (by kernel_rfl) rfl #[.slice Ao54 x7_2.length co54] rfl (mA1 rfl) ?_; (with_reducible refine (ih k2 (by have := HJ1.out; have := HK2.out; omega) (fun k_ => ((P0_ k_ ∨ w.heap.size ≤ k_) ∧ (some k_ ≠ (u6 : Value).ownBlock ∧ k_ ≠ gb552))) _ _ x7_2 t561 t564 true _ ?side1 A26.out).mono ?_); (case side1 => exact HO_7.out); rintro e w55 ⟨v562, v565, rfl, ho0, ho1, hb⟩; refine ⟨_, rfl, ?_⟩; have n0_ := Aside0.mk (Kd.R_elder' (rO HO_6) (Kd.R_base ho0) hb); have n1_ := Aside0.mk (Kd.V_elder' HO_7.out (Kd.R_base ho0) hb); have n2_ := Aside0.mk (Kd.R_lower (Kd.R_newB (Kd.R_new' (Kd.R_newM (M := fun k_ => (w.heap.size ≤ k_)) (Kd.R_mono (ok' := fun k_ => True) ho0 (fun _ hk_ => trivial)) (below_size (hO HB)) (fun k_ h_ => h_)) (Kd.R_lt (rO HO_6))) (g := gb552) (o := .cells #[.int .i64 t551, .string (⟨#[]⟩ : ByteArray), .int .i64 0, .int .i64 x553003_2] 43 (0, 0)) (bO BK552)) (below_size (hO HB))); have n3_ := Aside0.mk (Kd.V_lower (Kd.V_mono (ok' := fun k_ => (P0_ k_ ∨ w.heap.size ≤ k_) ∧ some k_ ≠ (v562 : Value).ownBlock ∧ some k_ ≠ (u6 : Value).ownBlock ∧ k_ ≠ gb552) ho1 (fun k_ hk_ => ⟨Or.elim hk_.1 (fun hs_ => hs_.1) (fun hn_ => (.inr (Nat.le_trans (below_size (hO HB)) hn_))), hk_.2, Or.elim hk_.1 (fun hs_ => hs_.2.1) (fun hn_ => (Kd.fresh' (Kd.R_lt (rO HO_6)) k_ hn_)), Or.elim hk_.1 (fun hs_ => hs_.2.2) (fun hn_ => (Kd.freshB (g := gb552) (o := .cells #[.int .i64 t551, .string (⟨#[]⟩ : ByteArray), .int .i64 0, .int .i64 x553003_2] 43 (0, 0)) (bO BK552) k_ hn_))⟩)) (below_size (hO HB))); have n4_ := Aside0.mk (blk_below (g := gb552) (o := .cells #[.int .i64 t551, .string (⟨#[]⟩ : ByteArray), .int .i64 0, .int .i64 x553003_2] 43 (0, 0)) (bO BK552) hb); have n5_ := mSx HB hb; clear HO_6 HO_7 BK552 HB; have HO_6 := n0_; have HO_7 := n1_; have HO563 := n2_; have HO566 := n3_; have BK552 := n4_; have HB := n5_; clear n0_ n1_ n2_ n3_ n4_ n5_; (try clear hb); (try clear hb2); (try clear hk); (try clear hi); (try clear ho0); (try clear ho1); obtain ⟨Ao57, co57, eo57⟩ := Kd.R_slice HO563.out; subst eo57) | ((with_reducible refine gate_builtin (b := .append) (xs := #[.tmp 55, .tmp 56]) rfl ?_); at_builtin; refine Kd.R_append_rows k43 (w0 := w) w.heap.size rfl (.tmp 55) (.tmp 56) 22 43 (.agg #[(.int .i64 0), (.string ⟨#[]⟩), (.int .i64 0), (.int .i64 0)]) 40 rfl Tryd.underlying22 info43 rfl (by decide) (by omega) u6 x6_2 t561 _ _ _ (fun k_ => (w.heap.size ≤ k_) ∧ some k_ ≠ (.slice Ao57 t561.length co57 : Value).ownBlock ∧ k_ ≠ gb552) (fun _ => False) rfl rfl ?aO ?aR (fun _ _ h => h) (fun _ h => h.elim) ?aF ?aB ?aS ?aL ?_; (case aR => repeat (first | exact (Kd.R_reads' HO563.out).2.2 | (with_reducible refine Kd.C_alloc ?_ _) | (with_reducible refine Kd.C_drewN ?_ _) | (with_reducible refine Kd.C_drew ?_))); (case aB => exact (hO HB)); (case aF => exact (fun k_ hk => ⟨(Nat.le_trans (below_size (hO HB)) hk), Kd.fresh' (Kd.R_lt (rO HO563)) k_ hk, Kd.freshB (g := gb552) (o := .cells #[.int .i64 t551, .string (⟨#[]⟩ : ByteArray), .int .i64 0, .int .i64 x553003_2] 43 (0, 0)) (bO BK552) k_ hk⟩)); (case aO => exact (by exact Kd.R_mono HO_6.out (fun _ hk => ⟨hk.1.1, ⟨hk.2, hk.1.2⟩⟩))); (case aS => exact (below_size (hO HB))); (case aL => have := LMc28.out; omega); intro v569 w56 ho hb hg hat; rw [← Ny568.out] at ho; have n0_ := Aside0.mk (Kd.V_afterv (ok := (fun k_ => (P0_ k_ ∨ w.heap.size ≤ k_) ∧ some k_ ≠ (.slice Ao57 t561.length co57 : Value).ownBlock ∧ k_ ≠ gb552)) (by (with_reducible repeat (first | apply Kd.V_alloc | apply Kd.V_drewN | apply Kd.V_drew)); exact Kd.V_mono HO_7.out (fun _ hk => ⟨⟨hk.1.1, ⟨hk.2, hk.1.2.2⟩⟩, hk.1.2.1⟩)) hg hat); have n1_ := Aside0.mk (blk_grown (g := gb552) (o := .cells #[.int .i64 t551, .string (⟨#[]⟩ : ByteArray), .int .i64 0, .int .i64 x553003_2] 43 (0, 0)) (bO BK552) hg (Kd.R_away HO_6.out (fun _ hk => hk.1.2))); have n2_ := Aside0.mk (Kd.R_after (ok := (fun k_ => (w.heap.size ≤ k_) ∧ k_ ≠ gb552)) (by exact Kd.R_mono HO563.out (fun _ hk => ⟨⟨hk.1.1.1, hk.2⟩, hk.1.2⟩)) hg hat); have n3_ := Aside0.mk (Kd.V_afterv (ok := (fun k_ => (P0_ k_ ∨ w.heap.size ≤ k_) ∧ some k_ ≠ (.slice Ao57 t561.length co57 : Value).ownBlock ∧ k_ ≠ gb552)) (by (with_reducible repeat (first | apply Kd.V_alloc | apply Kd.V_drewN | apply Kd.V_drew)); exact Kd.V_mono HO566.out (fun _ hk => ⟨⟨hk.1, ⟨hk.2.1, hk.2.2.2⟩⟩, hk.2.2.1⟩)) hg hat); have n4_ := Aside0.mk (hb); have n5_ := Aside0.mk (ho); clear HO_7 BK552 HO563 HO566 HB HO_6; have HO_7 := n0_; have BK552 := n1_; have HO563 := n2_; have HO566 := n3_; have HB := n4_; have HO570 := n5_; clear n0_ n1_ n2_ n3_ n4_ n5_; clear ho hb hg hat; obtain ⟨Ao58, co58, eo58⟩ := Kd.R_slice HO570.out; subst eo58; have p571 : 0 ≤ (0 : Int) := (by omega); have q571 : 0 < (y568.length : Int) := of_decide_eq_true (by assumption); obtain ⟨ad571, e571, hx571_0, hx571_1, hx571_2, hx571_3⟩ := at_T43 (Kd.R_reads' HO570.out).2.2 0 p571 q571; cases e571; have qi571 : (0 < y568.length) = True := eq_true (by omega); (try rw [show ((0 : Int)).toNat = 0 from rfl] at hx571_0); (try rw [show 0 * 4 = 0 from rfl] at hx571_0); (try rw [Addr.add_zero'] at hx571_0); (try rw [show ((0 : Int)).toNat = 0 from rfl] at hx571_1); (try rw [show 0 * 4 = 0 from rfl] at hx571_1); (try rw [Addr.add_zero'] at hx571_1); (try rw [show ((0 : Int)).toNat = 0 from rfl] at hx571_2); (try rw [show 0 * 4 = 0 from rfl] at hx571_2); (try rw [Addr.add_zero'] at hx571_2); (try rw [show ((0 : Int)).toNat = 0 from rfl] at hx571_3); (try rw [show 0 * 4 = 0 from rfl] at hx571_3); (try rw [Addr.add_zero'] at hx571_3); replace p571 := eq_true p571; replace q571 := eq_true q571; have p30 : 0 ≤ (0 : Int) := (by omega); have q30 : (0 : Int) < ((y568.length : Int) : Int) := of_decide_eq_true (by assumption); have qi30 : (0 < y568.length) = True := eq_true (by omega); obtain ⟨go30, co30, eo30, gb30, gl30, cl30, HG30⟩ := Kd.R_form HO570.out (by omega); (first | cases eo30 | (injection eo30 with ea_ en_ ec_; (first | subst ea_ | (injection ea_ with ea_; subst ea_)); subst ec_; clear en_)); have GB30 := Aside0.mk gb30; have GG30 := Aside0.mk HG30; clear gb30 gl30 HG30; (first | simp only [add_plain] at hx571_0 | skip); (first | simp only [add_plain] at hx571_1 | skip); (first | simp only [add_plain] at hx571_2 | skip); (first | simp only [add_plain] at hx571_3 | skip); obtain ⟨ce30, hcl30, hM30, hcc30, hfr30⟩ := Kd.R_elem HO570.out z43 (0 : Int) p30 q30; obtain rfl := k43_openM hM30; have hx30_0 : w56.cell? ⟨go30, (0 : Int).toNat * 4, none⟩ = some (.int .i64 ((rd_T43 y568 0).f0)) := hcc30 0 _ rfl; have hx30_1 : w56.cell? ⟨go30, (0 : Int).toNat * 4 + 1, none⟩ = some (.string ((rd_T43 y568 0).f1)) := hcc30 1 _ rfl; have hx30_2 : w56.cell? ⟨go30, (0 : Int).toNat * 4 + 2, none⟩ = some (.int .i64 ((rd_T43 y568 0).f2)) := hcc30 2 _ rfl; have hx30_3 : w56.cell? ⟨go30, (0 : Int).toNat * 4 + 3, none⟩ = some (.int .i64 ((rd_T43 y568 0).f3)) := hcc30 3 _ rfl; have hf30_0 : w56.frozen? ⟨go30, (0 : Int).toNat * 4, none⟩ = false := hfr30 0; have hf30_1 : w56.frozen? ⟨go30, (0 : Int).toNat * 4 + 1, none⟩ = false := hfr30 1; have hf30_2 : w56.frozen? ⟨go30, (0 : Int).toNat * 4 + 2, none⟩ = false := hfr30 2; have hf30_3 : w56.frozen? ⟨go30, (0 : Int).toNat * 4 + 3, none⟩ = false := hfr30 3; clear hcl30 hcc30 hfr30 hM30; (try rw [show ((0 : Int)).toNat = 0 from rfl] at hx30_0); (try simp only [Nat.reduceMul, Nat.zero_mul, Nat.zero_add, Nat.reduceAdd] at hx30_0); (try rw [show ((0 : Int)).toNat = 0 from rfl] at hf30_0); (try simp only [Nat.reduceMul, Nat.zero_mul, Nat.zero_add, Nat.reduceAdd] at hf30_0); (try rw [show ((0 : Int)).toNat = 0 from rfl] at hx30_1); (try simp only [Nat.reduceMul, Nat.zero_mul, Nat.zero_add, Nat.reduceAdd] at hx30_1); (try rw [show ((0 : Int)).toNat = 0 from rfl] at hf30_1); (try simp only [Nat.reduceMul, Nat.zero_mul, Nat.zero_add, Nat.reduceAdd] at hf30_1); (try rw [show ((0 : Int)).toNat = 0 from rfl] at hx30_2); (try simp only [Nat.reduceMul, Nat.zero_mul, Nat.zero_add, Nat.reduceAdd] at hx30_2); (try rw [show ((0 : Int)).toNat = 0 from rfl] at hf30_2); (try simp only [Nat.reduceMul, Nat.zero_mul, Nat.zero_add, Nat.reduceAdd] at hf30_2); (try rw [show ((0 : Int)).toNat = 0 from rfl] at hx30_3); (try simp only [Nat.reduceMul, Nat.zero_mul, Nat.zero_add, Nat.reduceAdd] at hx30_3); (try rw [show ((0 : Int)).toNat = 0 from rfl] at hf30_3); (try simp only [Nat.reduceMul, Nat.zero_mul, Nat.zero_add, Nat.reduceAdd] at hf30_3); replace p30 := eq_true p30; replace q30 := eq_true q30; have HX59 := Aside0.mk (show Kd.R k43 43 w56 w.heap.size (fun k_ => (w.heap.size ≤ k_) ∧ some k_ ≠ (.slice Ao57 t561.length co57 : Value).ownBlock ∧ k_ ≠ gb552) (.slice (some ⟨go30, 0, none⟩) y568.length co58) y568 from (rO HO570)); obtain ⟨ce59, hcl59, hM59, hcc59, hfr59⟩ := Kd.R_elem HX59.out z43 (0 : Int) (by omega) (by have h_ : (0 : Int) < ((y568.length : Int) : Int) := of_decide_eq_true (by assumption); first | exact h_ | (have e_ := (Kd.R_reads' HO570.out).1; omega) | simpa using h_); obtain rfl := k43_openM hM59; have HP59 := Kd.R_seg HX59.out (0 : Int) (by omega) (by have h_ : (0 : Int) < ((y568.length : Int) : Int) := of_decide_eq_true (by assumption); first | exact h_ | (have e_ := (Kd.R_reads' HO570.out).1; omega) | simpa using h_) (seg := [.int .i64 (wrap64 (((rd_T43 y568 0).f3) + 1))]) (j := 3) hcl59 hcc59 (show 4 ≤ 4 from by decide) (x' := (⟨(rd_T43 y568 0).f0, (rd_T43 y568 0).f1, (rd_T43 y568 0).f2, wrap64 (((rd_T43 y568 0).f3) + 1)⟩ : S43)) (k43_mkM _ _ _ (⟨(rd_T43 y568 0).f0, (rd_T43 y568 0).f1, (rd_T43 y568 0).f2, wrap64 (((rd_T43 y568 0).f3) + 1)⟩ : S43) ) (fun _ hk => hk); have hx59_3 := hcc59 3 _ rfl; (try simp only [show (k43).sz = 4 from rfl, Nat.mul_one, Nat.add_zero] at hx59_3); (try rw [show ((0 : Int)).toNat = 0 from rfl] at hx59_3); (try simp only [Nat.reduceMul, Nat.zero_mul, Nat.zero_add, Nat.reduceAdd] at hx59_3); have hf59_3 := hfr59 3; (try simp only [show (k43).sz = 4 from rfl, Nat.mul_one, Nat.add_zero] at hf59_3); (try rw [show ((0 : Int)).toNat = 0 from rfl] at hf59_3); (try simp only [Nat.reduceMul, Nat.zero_mul, Nat.zero_add, Nat.reduceAdd] at hf59_3); clear hcl59 hcc59 hfr59 hM59) | ((with_reducible refine gate_store (t := 3) (p := 64) rfl ?_); refine store_event (t := 3) (p := 64) (v := ?vo_w60) (w1 := (w56.setCell ⟨go30, 3, none⟩ (.int .i64 (wrap64 (((rd_T43 y568 0).f3) + 1))))) ?hg ?ho ?hn ?hr ?_; (case ho => rfl); (case hg => rfl); (case hn => rfl); (case hr => first | (go_simp; done) | (go_simp; rfl)); intro w60 hw; have hg : w56.grownBy w60 (some go30) := (by rw [hw]; exact HP59.2); have hp_ : Kd.R k43 43 w60 w.heap.size (fun k_ => (w.heap.size ≤ k_) ∧ some k_ ≠ (.slice Ao57 t561.length co57 : Value).ownBlock ∧ k_ ≠ gb552) (.slice (some ⟨go30, 0, none⟩) y568.length co58) y572 := (by rw [hw, Ny572.out]; exact HP59.1); clear HP59; have n0_ := Aside0.mk (Kd.V_afterv (v := (.slice (some ⟨go30, 0, none⟩) y568.length co58)) (v1 := (.slice (some ⟨go30, 0, none⟩) y568.length co58)) (ok := (fun k_ => (P0_ k_ ∨ w.heap.size ≤ k_) ∧ some k_ ≠ (.slice Ao57 t561.length co57 : Value).ownBlock ∧ k_ ≠ gb552)) HO_7.out hg (.inl rfl)); have n1_ := Aside0.mk (blk_grown (g := gb552) (o := .cells #[.int .i64 t551, .string (⟨#[]⟩ : ByteArray), .int .i64 0, .int .i64 x553003_2] 43 (0, 0)) (bO BK552) hg (Kd.R_away HO570.out (fun _ hk => hk.2.2))); have n2_ := Aside0.mk (Kd.R_after (v := (.slice (some ⟨go30, 0, none⟩) y568.length co58)) (v1 := (.slice (some ⟨go30, 0, none⟩) y568.length co58)) (ok := (fun k_ => (w.heap.size ≤ k_) ∧ k_ ≠ gb552)) (rO HO563) hg (.inl rfl)); have n3_ := Aside0.mk (Kd.V_afterv (v := (.slice (some ⟨go30, 0, none⟩) y568.length co58)) (v1 := (.slice (some ⟨go30, 0, none⟩) y568.length co58)) (ok := (fun k_ => (P0_ k_ ∨ w.heap.size ≤ k_) ∧ some k_ ≠ (.slice Ao57 t561.length co57 : Value).ownBlock ∧ k_ ≠ gb552)) HO566.out hg (.inl rfl)); have n4_ := Aside0.mk (hp_); have n5_ := Aside0.mk ((by rw [hw]; exact below_set (HB.out) GB30.out : Below w.heap.size w w60)); clear HO_7 BK552 HO563 HO566 HO570 HB; have HO_7 := n0_; have BK552 := n1_; have HO563 := n2_; have HO566 := n3_; have HO570 := n4_; have HB := n5_; clear n0_ n1_ n2_ n3_ n4_ n5_; clear hg hw hp_; have hcz61_0 : w60.cell? ⟨gb552, 0, none⟩ = some (.int .i64 t551) := (blk_cell BK552.out 0).trans rfl; have hcz61_1 : w60.cell? ⟨gb552, 1, none⟩ = some (.string (⟨#[]⟩ : ByteArray)) := (blk_cell BK552.out 1).trans rfl; have hcz61_2 : w60.cell? ⟨gb552, 2, none⟩ = some (.int .i64 0) := (blk_cell BK552.out 2).trans rfl; have hcz61_3 : w60.cell? ⟨gb552, 3, none⟩ = some (.int .i64 x553003_2) := (blk_cell BK552.out 3).trans rfl; have hfz61_0 := blk_frozen BK552.out 0; have hfz61_1 := blk_frozen BK552.out 1; have hfz61_2 := blk_frozen BK552.out 2; have hfz61_3 := blk_frozen BK552.out 3))
                go_meet
                case rel => exact ⟨_, (y572), (t564), (x553003_2), H', ⟨by have := HJ1.out; have := HK2.out; first | omega | exact Nat.le_refl _⟩, ⟨Kd.R_mono HO570.out (fun _ hk => ⟨hk.1, hk.2.2⟩)⟩, ⟨Kd.V_mono HO566.out (fun _ hk => ⟨hk.1.1, ⟨hk.2, hk.1.2.2⟩⟩)⟩, BK552, HB⟩
              ·
               exact mNo c29 H
             ·
              exact mNo c28 H
            ·
             replace c27 := Bool.eq_false_iff.mpr c27
             subst c27
             have H1 : (some (([] : List (S43)), ([] : List ByteArray), false)) = some (r1, r2, r3) := by rw [if_neg (show ¬ (false = true) by decide)] at H; exact H
             clear H
             have H := H1
             clear H1
             simp only [Option.some.injEq, Prod.mk.injEq] at H
             obtain ⟨rfl, rfl, rfl⟩ := H
             obtain ⟨Ao62, co62, eo62⟩ := Kd.V_slice HO_7.out
             subst eo62
             go_wp2_with (first | ((with_reducible refine gate_callee (f := 39) rfl ?_); refine goesL_ (some 49) rfl rfl Tryd.func39 (by kernel_rfl) rfl #[.slice Ao62 x7_2.length co62] rfl (mA1 rfl) ?_; (with_reducible refine (ih k2 (by have := HJ1.out; have := HK2.out; omega) (fun k_ => ((P0_ k_ ∨ w.heap.size ≤ k_) ∧ (some k_ ≠ (u6 : Value).ownBlock ∧ k_ ≠ gb552))) _ _ x7_2 t561 t564 false _ ?side1 A26.out).mono ?_); (case side1 => exact HO_7.out); rintro e w63 ⟨v562, v565, rfl, ho0, ho1, hb⟩; refine ⟨_, rfl, ?_⟩; have n0_ := Aside0.mk (Kd.R_elder' (rO HO_6) (Kd.R_base ho0) hb); have n1_ := Aside0.mk (Kd.V_elder' HO_7.out (Kd.R_base ho0) hb); have n2_ := Aside0.mk (Kd.R_lower (Kd.R_newB (Kd.R_new' (Kd.R_newM (M := fun k_ => (w.heap.size ≤ k_)) (Kd.R_mono (ok' := fun k_ => True) ho0 (fun _ hk_ => trivial)) (below_size (hO HB)) (fun k_ h_ => h_)) (Kd.R_lt (rO HO_6))) (g := gb552) (o := .cells #[.int .i64 t551, .string (⟨#[]⟩ : ByteArray), .int .i64 0, .int .i64 x553003_2] 43 (0, 0)) (bO BK552)) (below_size (hO HB))); have n3_ := Aside0.mk (Kd.V_lower (Kd.V_mono (ok' := fun k_ => (P0_ k_ ∨ w.heap.size ≤ k_) ∧ some k_ ≠ (v562 : Value).ownBlock ∧ some k_ ≠ (u6 : Value).ownBlock ∧ k_ ≠ gb552) ho1 (fun k_ hk_ => ⟨Or.elim hk_.1 (fun hs_ => hs_.1) (fun hn_ => (.inr (Nat.le_trans (below_size (hO HB)) hn_))), hk_.2, Or.elim hk_.1 (fun hs_ => hs_.2.1) (fun hn_ => (Kd.fresh' (Kd.R_lt (rO HO_6)) k_ hn_)), Or.elim hk_.1 (fun hs_ => hs_.2.2) (fun hn_ => (Kd.freshB (g := gb552) (o := .cells #[.int .i64 t551, .string (⟨#[]⟩ : ByteArray), .int .i64 0, .int .i64 x553003_2] 43 (0, 0)) (bO BK552) k_ hn_))⟩)) (below_size (hO HB))); have n4_ := Aside0.mk (blk_below (g := gb552) (o := .cells #[.int .i64 t551, .string (⟨#[]⟩ : ByteArray), .int .i64 0, .int .i64 x553003_2] 43 (0, 0)) (bO BK552) hb); have n5_ := mSx HB hb; clear HO_6 HO_7 BK552 HB; have HO_6 := n0_; have HO_7 := n1_; have HO563 := n2_; have HO566 := n3_; have BK552 := n4_; have HB := n5_; clear n0_ n1_ n2_ n3_ n4_ n5_; (try clear hb); (try clear hb2); (try clear hk); (try clear hi); (try clear ho0); (try clear ho1)))
             go_ret3
             exact ⟨_, _, rfl, by first | exact Kd.R_nil _ _ _ _ _ | exact Kd.N_nil _ _ _ _ _ | exact Kd.V_nil _ _ _ _ _ | exact Kd.Q_nil _ _ _ _ _ | exact Kd.S_nil _ _ _ _ _, Kd.V_nil _ _ _ _ _, hO HB⟩
         case rest =>
          clear HC19
          try clear c1
          try clear c8
          clear c9b0 c9b1
          try clear c11
          clear c12b0 c12b1 c14 c14b0 c14b1 c18b0 c18b1
          try clear c20
          clear q20
          try clear c25
          clear q25 hcz22_0 hcz22_1 hcz22_2 hcz22_3 hfz22_0 hfz22_1 hfz22_2 hfz22_3 hx550_0 p550 q550
          obtain ⟨kq, x6_18, x7_18, x553003_18, HA, HJ18, HO_6, HO_7, BK552, HB⟩ := hcut
          cases kq with
          | zero => exact absurd HA.out (by simp [dancestudioref35_tree.j2])
          | succ kj18 =>
           have H := HA.out
           clear HA
           simp only [dancestudioref35_tree.j2] at H
           replace H := Option.bind_eq_some_iff.mp H
           obtain ⟨t579, A640, H⟩ := H
           replace H : (if t579 = true then (if (x7_18.length : Int) < 2 then (dancestudioref35_tree.j3 kj18 x6_18 x7_18 true) else (if 0 < (x7_18.length : Int) then (dancestudioref35_tree.j3 kj18 x6_18 x7_18 ((rdOf ByteArray.empty x7_18 0).toList != ([44] : List UInt8))) else (none))) else ((dancestudioref35_is.f x7_18 (⟨#[41]⟩ : ByteArray)).bind fun t596 => (if t596 = true then (if 1 ≤ (x7_18.length : Int) then (some (x6_18, (x7_18.drop 1), true)) else (none)) else (some (([] : List (S43)), ([] : List ByteArray), false))))) = some (r1, r2, r3) := H
           have A64 := Aside0.mk A640
           clear A640
           by_cases c65 : t579 = true
           ·
            subst c65
            have H1 : (if (x7_18.length : Int) < 2 then (dancestudioref35_tree.j3 kj18 x6_18 x7_18 true) else (if 0 < (x7_18.length : Int) then (dancestudioref35_tree.j3 kj18 x6_18 x7_18 ((rdOf ByteArray.empty x7_18 0).toList != ([44] : List UInt8))) else (none))) = some (r1, r2, r3) := by rw [if_pos rfl] at H; exact H
            clear H
            have H := H1
            clear H1
            have HC66 := Aside0.mk H
            clear H
            have hcz67_0 : wc.cell? ⟨gb552, 0, none⟩ = some (.int .i64 t551) := (blk_cell BK552.out 0).trans rfl
            have hcz67_1 : wc.cell? ⟨gb552, 1, none⟩ = some (.string (⟨#[]⟩ : ByteArray)) := (blk_cell BK552.out 1).trans rfl
            have hcz67_2 : wc.cell? ⟨gb552, 2, none⟩ = some (.int .i64 0) := (blk_cell BK552.out 2).trans rfl
            have hcz67_3 : wc.cell? ⟨gb552, 3, none⟩ = some (.int .i64 x553003_18) := (blk_cell BK552.out 3).trans rfl
            have hfz67_0 := blk_frozen BK552.out 0
            have hfz67_1 := blk_frozen BK552.out 1
            have hfz67_2 := blk_frozen BK552.out 2
            have hfz67_3 := blk_frozen BK552.out 3
            go_upto_region 19 with (first | ((with_reducible refine gate_callee (f := 56) rfl ?_); refine goesL_ (some 78) rfl rfl Tryd.func56 (by kernel_rfl) rfl #[.int .i64 t551] rfl (mA1 rfl) ?_; (with_reducible refine (dancestudioref35_numbered.calls t551 true _ A64.out).mono ?_); rintro e w' ⟨rfl, ⟨nd, rfl⟩⟩; refine ⟨_, rfl, ?_⟩))
            (try simp only [Act.put, List.setIfInBounds_toArray, List.set_cons_zero, List.set_cons_succ])
            go_cut [87] (fun v87 wc => ∃ (kq : Nat) (x87_65 : Bool), v87 = .bool x87_65 ∧ Aside0 (dancestudioref35_tree.j3 kq x6_18 x7_18 x87_65 = some (r1, r2, r3)) ∧ Aside0 (kq ≤ kj18) ∧ Aside0 (Kd.R k43 43 wc w.heap.size (fun k_ => (w.heap.size ≤ k_) ∧ k_ ≠ gb552) u6 x6_18) ∧ Aside0 (Kd.V Kd.string 9 wc w.heap.size (fun k_ => (P0_ k_ ∨ w.heap.size ≤ k_) ∧ some k_ ≠ (u6 : Value).ownBlock ∧ k_ ≠ gb552) u7 x7_18) ∧ Aside0 (wc.heap[gb552]? = some (.cells #[.int .i64 t551, .string (⟨#[]⟩ : ByteArray), .int .i64 0, .int .i64 x553003_18] 43 (0, 0))) ∧ Aside0 (Below w.heap.size w wc))
            case first =>
             have H := HC66.out
             clear HC66
             by_cases c68 : (x7_18.length : Int) < 2
             ·
              rw [if_pos c68] at H
              have c68b0 := decide_eq_true c68
              have c68b1 : decide (x7_18.length < 2) = true := decide_eq_true (by omega)
              clear c68
              (first | rw [c68b0] | (simp only [i64_w, i32_w]; rw [c68b0]) | skip)
              have H' := Aside0.mk H
              clear H
              obtain ⟨Ao69, co69, eo69⟩ := Kd.V_slice HO_7.out
              subst eo69
              go_wp2
              go_meet
              case rel => exact ⟨_, (true), rfl, H', ⟨by have := HJ1.out; have := HJ18.out; first | omega | exact Nat.le_refl _⟩, HO_6, HO_7, BK552, ⟨hO HB⟩⟩
             ·
              rw [if_neg c68] at H
              have c68b0 := decide_eq_false c68
              have c68b1 : decide (x7_18.length < 2) = false := decide_eq_false (by omega)
              clear c68
              (first | rw [c68b0] | (simp only [i64_w, i32_w]; rw [c68b0]) | skip)
              by_cases c70 : 0 < (x7_18.length : Int)
              ·
               rw [if_pos c70] at H
               have c70b0 := decide_eq_true c70
               have c70b1 : decide (0 < x7_18.length) = true := decide_eq_true (by omega)
               clear c70
               have H' := Aside0.mk H
               clear H
               obtain ⟨Ao71, co71, eo71⟩ := Kd.V_slice HO_7.out
               subst eo71
               have p580 : 0 ≤ (0 : Int) := (by omega)
               have q580 : 0 < (x7_18.length : Int) := of_decide_eq_true (by assumption)
               obtain ⟨ad580, e580, hx580_0⟩ := Kd.at_string (Kd.V_reads' HO_7.out).2.2 0 p580 q580
               cases e580
               have qi580 : (0 < x7_18.length) = True := eq_true (by omega)
               (try rw [show ((0 : Int)).toNat = 0 from rfl] at hx580_0)
               (try rw [Addr.add_zero'] at hx580_0)
               replace p580 := eq_true p580
               replace q580 := eq_true q580
               go_wp2
               go_meet
               case rel => exact ⟨_, (((rdOf ByteArray.empty x7_18 0).toList != ([44] : List UInt8))), rfl, H', ⟨by have := HJ1.out; have := HJ18.out; first | omega | exact Nat.le_refl _⟩, HO_6, HO_7, BK552, ⟨hO HB⟩⟩
              ·
               exact mNo c70 H
            case rest =>
             clear HC66
             try clear c65
             clear hcz67_0 hcz67_1 hcz67_2 hcz67_3 hfz67_0 hfz67_1 hfz67_2 hfz67_3
             obtain ⟨kq, x87_65, rfl, HA, HJ65, HO_6, HO_7, BK552, HB⟩ := hcut
             cases kq with
             | zero => exact absurd HA.out (by simp [dancestudioref35_tree.j3])
             | succ kj65 =>
              have H := HA.out
              clear HA
              simp only [dancestudioref35_tree.j3] at H
              by_cases c72 : x87_65 = true
              ·
               subst c72
               have H1 : (some (([] : List (S43)), ([] : List ByteArray), false)) = some (r1, r2, r3) := by rw [if_pos rfl] at H; exact H
               clear H
               have H := H1
               clear H1
               simp only [Option.some.injEq, Prod.mk.injEq] at H
               obtain ⟨rfl, rfl, rfl⟩ := H
               go_wp2
               go_ret3
               exact ⟨_, _, rfl, by first | exact Kd.R_nil _ _ _ _ _ | exact Kd.N_nil _ _ _ _ _ | exact Kd.V_nil _ _ _ _ _ | exact Kd.Q_nil _ _ _ _ _ | exact Kd.S_nil _ _ _ _ _, Kd.V_nil _ _ _ _ _, hO HB⟩
              ·
               replace c72 := Bool.eq_false_iff.mpr c72
               subst c72
               have H1 : (if 1 < (x7_18.length : Int) then ((dancestudioref35_number.f kj65 (rdOf ByteArray.empty x7_18 1)).bind fun bt582 => (if bt582.2 = true then (if 0 < (x6_18.length : Int) then (if 2 ≤ (x7_18.length : Int) then ((some (x7_18.drop 2 : List ByteArray)).bind fun y585 => ((dancestudioref35_is.f y585 (⟨#[41]⟩ : ByteArray)).bind fun t590 => (if t590 = true then (if 1 ≤ (y585.length : Int) then (some ((x6_18.set (0 : Int).toNat (⟨(rd_T43 x6_18 0).f0, (rd_T43 x6_18 0).f1, bt582.1, (rd_T43 x6_18 0).f3⟩ : S43)), (y585.drop 1), true)) else (none)) else (some (([] : List (S43)), ([] : List ByteArray), false))))) else (none)) else (none)) else (some (([] : List (S43)), ([] : List ByteArray), false)))) else (none)) = some (r1, r2, r3) := by rw [if_neg (show ¬ (false = true) by decide)] at H; exact H
               clear H
               have H := H1
               clear H1
               by_cases c73 : 1 < (x7_18.length : Int)
               ·
                rw [if_pos c73] at H
                have c73b0 := decide_eq_true c73
                have c73b1 : decide (1 < x7_18.length) = true := decide_eq_true (by omega)
                clear c73
                replace H := Option.bind_eq_some_iff.mp H
                obtain ⟨⟨t582, t583⟩, A740, H⟩ := H
                replace H : (if t583 = true then (if 0 < (x6_18.length : Int) then (if 2 ≤ (x7_18.length : Int) then ((some (x7_18.drop 2 : List ByteArray)).bind fun y585 => ((dancestudioref35_is.f y585 (⟨#[41]⟩ : ByteArray)).bind fun t590 => (if t590 = true then (if 1 ≤ (y585.length : Int) then (some ((x6_18.set (0 : Int).toNat (⟨(rd_T43 x6_18 0).f0, (rd_T43 x6_18 0).f1, t582, (rd_T43 x6_18 0).f3⟩ : S43)), (y585.drop 1), true)) else (none)) else (some (([] : List (S43)), ([] : List ByteArray), false))))) else (none)) else (none)) else (some (([] : List (S43)), ([] : List ByteArray), false))) = some (r1, r2, r3) := H
                have A74 := Aside0.mk A740
                clear A740
                by_cases c75 : t583 = true
                ·
                 subst c75
                 have H1 : (if 0 < (x6_18.length : Int) then (if 2 ≤ (x7_18.length : Int) then ((some (x7_18.drop 2 : List ByteArray)).bind fun y585 => ((dancestudioref35_is.f y585 (⟨#[41]⟩ : ByteArray)).bind fun t590 => (if t590 = true then (if 1 ≤ (y585.length : Int) then (some ((x6_18.set (0 : Int).toNat (⟨(rd_T43 x6_18 0).f0, (rd_T43 x6_18 0).f1, t582, (rd_T43 x6_18 0).f3⟩ : S43)), (y585.drop 1), true)) else (none)) else (some (([] : List (S43)), ([] : List ByteArray), false))))) else (none)) else (none)) = some (r1, r2, r3) := by rw [if_pos rfl] at H; exact H
                 clear H
                 have H := H1
                 clear H1
                 by_cases c76 : 0 < (x6_18.length : Int)
                 ·
                  rw [if_pos c76] at H
                  have c76b0 := decide_eq_true c76
                  have c76b1 : decide (0 < x6_18.length) = true := decide_eq_true (by omega)
                  clear c76
                  obtain ⟨y584, hy584⟩ : ∃ y_ : List (S43), y_ = (x6_18.set (0 : Int).toNat (⟨(rd_T43 x6_18 0).f0, (rd_T43 x6_18 0).f1, t582, (rd_T43 x6_18 0).f3⟩ : S43)) := ⟨_, rfl⟩
                  replace H : (if 2 ≤ (x7_18.length : Int) then ((some (x7_18.drop 2 : List ByteArray)).bind fun y585 => ((dancestudioref35_is.f y585 (⟨#[41]⟩ : ByteArray)).bind fun t590 => (if t590 = true then (if 1 ≤ (y585.length : Int) then (some (y584, (y585.drop 1), true)) else (none)) else (some (([] : List (S43)), ([] : List ByteArray), false))))) else (none)) = some (r1, r2, r3) := by first | (rw [hy584]; with_reducible exact H) | (have H2_ := (Option.bind_some _ _).symm.trans H; rw [hy584]; with_reducible exact H2_) | (have H2_ := (Option.bind_some _ _).symm.trans H; with_reducible exact H2_) | with_reducible exact H | (rw [hy584]; exact H) | exact H
                  have Ny584 := Aside0.mk hy584
                  clear hy584
                  by_cases c78 : 2 ≤ (x7_18.length : Int)
                  ·
                   rw [if_pos c78] at H
                   have c78b0 := eq_true c78
                   have c78b1 := decide_eq_true c78
                   clear c78
                   obtain ⟨y585, hy585⟩ : ∃ y_ : List ByteArray, y_ = (x7_18.drop 2) := ⟨_, rfl⟩
                   replace H : ((dancestudioref35_is.f y585 (⟨#[41]⟩ : ByteArray)).bind fun t590 => (if t590 = true then (if 1 ≤ (y585.length : Int) then (some (y584, (y585.drop 1), true)) else (none)) else (some (([] : List (S43)), ([] : List ByteArray), false)))) = some (r1, r2, r3) := by first | (rw [hy585]; with_reducible exact H) | (have H2_ := (Option.bind_some _ _).symm.trans H; rw [hy585]; with_reducible exact H2_) | (have H2_ := (Option.bind_some _ _).symm.trans H; with_reducible exact H2_) | with_reducible exact H | (rw [hy585]; exact H) | exact H
                   have Ny585 := Aside0.mk hy585
                   clear hy585
                   replace H := Option.bind_eq_some_iff.mp H
                   obtain ⟨t590, A790, H⟩ := H
                   replace H : (if t590 = true then (if 1 ≤ (y585.length : Int) then (some (y584, (y585.drop 1), true)) else (none)) else (some (([] : List (S43)), ([] : List ByteArray), false))) = some (r1, r2, r3) := H
                   have A79 := Aside0.mk A790
                   clear A790
                   by_cases c80 : t590 = true
                   ·
                    subst c80
                    have H1 : (if 1 ≤ (y585.length : Int) then (some (y584, (y585.drop 1), true)) else (none)) = some (r1, r2, r3) := by rw [if_pos rfl] at H; exact H
                    clear H
                    have H := H1
                    clear H1
                    by_cases c81 : 1 ≤ (y585.length : Int)
                    ·
                     rw [if_pos c81] at H
                     have c81b0 := eq_true c81
                     have c81b1 := decide_eq_true c81
                     clear c81
                     obtain ⟨y591, hy591⟩ : ∃ y_ : List ByteArray, y_ = (y585.drop 1) := ⟨_, rfl⟩
                     replace H : (some (y584, y591, true)) = some (r1, r2, r3) := by first | (rw [hy591]; with_reducible exact H) | (have H2_ := (Option.bind_some _ _).symm.trans H; rw [hy591]; with_reducible exact H2_) | (have H2_ := (Option.bind_some _ _).symm.trans H; with_reducible exact H2_) | with_reducible exact H | (rw [hy591]; exact H) | exact H
                     have Ny591 := Aside0.mk hy591
                     clear hy591
                     simp only [Option.some.injEq, Prod.mk.injEq] at H
                     obtain ⟨rfl, rfl, rfl⟩ := H
                     obtain ⟨Ao82, co82, eo82⟩ := Kd.V_slice HO_7.out
                     subst eo82
                     have p581 : 0 ≤ (1 : Int) := (by omega)
                     have q581 : 1 < (x7_18.length : Int) := of_decide_eq_true (by assumption)
                     obtain ⟨ad581, e581, hx581_0⟩ := Kd.at_string (Kd.V_reads' HO_7.out).2.2 1 p581 q581
                     cases e581
                     (try simp only [show (1 : Int).toNat = 1 from rfl, Nat.reduceMul, Nat.reduceEqDiff, Go.Addr.add, ↓reduceIte] at hx581_0)
                     have qi581 : (1 < x7_18.length) = True := eq_true (by omega)
                     (try rw [show ((1 : Int)).toNat = 1 from rfl] at hx581_0)
                     replace p581 := eq_true p581
                     replace q581 := eq_true q581
                     try go_wp2_with (first | ((with_reducible refine gate_callee (f := 68) rfl ?_); refine goesL_ (some 92) rfl rfl Tryd.func68 (by kernel_rfl) rfl #[.string (rdOf ByteArray.empty x7_18 1)] rfl (mA1 rfl) ?_; (with_reducible refine (dancestudioref35_number.calls kj65 (rdOf ByteArray.empty x7_18 1) t582 true _ A74.out).mono ?_); rintro e w' ⟨rfl, ⟨nd, rfl⟩⟩; refine ⟨_, rfl, ?_⟩; (try (rw [drewN_self wc]; generalize hq_ : World.drewN wc _ = wc; have n0_ : Aside0 (Kd.R k43 43 wc w.heap.size (fun k_ => (w.heap.size ≤ k_) ∧ k_ ≠ gb552) u6 x6_18) := ⟨by rw [← hq_]; exact (rO HO_6)⟩; have n1_ : Aside0 (Kd.V Kd.string 9 wc w.heap.size (fun k_ => (P0_ k_ ∨ w.heap.size ≤ k_) ∧ some k_ ≠ (u6 : Value).ownBlock ∧ k_ ≠ gb552) (.slice (some ad581) x7_18.length co82) x7_18) := ⟨by rw [← hq_]; exact HO_7.out⟩; have n2_ : Aside0 (wc.heap[gb552]? = some (.cells #[.int .i64 t551, .string (⟨#[]⟩ : ByteArray), .int .i64 0, .int .i64 x553003_18] 43 (0, 0))) := ⟨by rw [← hq_]; exact (bO BK552)⟩; have n3_ : Aside0 (Below w.heap.size w wc) := ⟨by rw [← hq_]; exact (hO HB)⟩; clear HO_6 HO_7 BK552 HB hq_; have HO_6 := n0_; have HO_7 := n1_; have BK552 := n2_; have HB := n3_; clear n0_ n1_ n2_ n3_)); have p77 : 0 ≤ (0 : Int) := (by omega); have q77 : (0 : Int) < ((x6_18.length : Int) : Int) := of_decide_eq_true (by assumption); have qi77 : (0 < x6_18.length) = True := eq_true (by omega); obtain ⟨go77, co77, eo77, gb77, gl77, cl77, HG77⟩ := Kd.R_form HO_6.out (by omega); (first | cases eo77 | (injection eo77 with ea_ en_ ec_; (first | subst ea_ | (injection ea_ with ea_; subst ea_)); subst ec_; clear en_)); have GB77 := Aside0.mk gb77; have GG77 := Aside0.mk HG77; clear gb77 gl77 HG77; obtain ⟨ce77, hcl77, hM77, hcc77, hfr77⟩ := Kd.R_elem HO_6.out z43 (0 : Int) p77 q77; obtain rfl := k43_openM hM77; have hx77_0 : wc.cell? ⟨go77, (0 : Int).toNat * 4, none⟩ = some (.int .i64 ((rd_T43 x6_18 0).f0)) := hcc77 0 _ rfl; have hx77_1 : wc.cell? ⟨go77, (0 : Int).toNat * 4 + 1, none⟩ = some (.string ((rd_T43 x6_18 0).f1)) := hcc77 1 _ rfl; have hx77_2 : wc.cell? ⟨go77, (0 : Int).toNat * 4 + 2, none⟩ = some (.int .i64 ((rd_T43 x6_18 0).f2)) := hcc77 2 _ rfl; have hx77_3 : wc.cell? ⟨go77, (0 : Int).toNat * 4 + 3, none⟩ = some (.int .i64 ((rd_T43 x6_18 0).f3)) := hcc77 3 _ rfl; have hf77_0 : wc.frozen? ⟨go77, (0 : Int).toNat * 4, none⟩ = false := hfr77 0; have hf77_1 : wc.frozen? ⟨go77, (0 : Int).toNat * 4 + 1, none⟩ = false := hfr77 1; have hf77_2 : wc.frozen? ⟨go77, (0 : Int).toNat * 4 + 2, none⟩ = false := hfr77 2; have hf77_3 : wc.frozen? ⟨go77, (0 : Int).toNat * 4 + 3, none⟩ = false := hfr77 3; clear hcl77 hcc77 hfr77 hM77; (try rw [show ((0 : Int)).toNat = 0 from rfl] at hx77_0); (try simp only [Nat.reduceMul, Nat.zero_mul, Nat.zero_add, Nat.reduceAdd] at hx77_0); (try rw [show ((0 : Int)).toNat = 0 from rfl] at hf77_0); (try simp only [Nat.reduceMul, Nat.zero_mul, Nat.zero_add, Nat.reduceAdd] at hf77_0); (try rw [show ((0 : Int)).toNat = 0 from rfl] at hx77_1); (try simp only [Nat.reduceMul, Nat.zero_mul, Nat.zero_add, Nat.reduceAdd] at hx77_1); (try rw [show ((0 : Int)).toNat = 0 from rfl] at hf77_1); (try simp only [Nat.reduceMul, Nat.zero_mul, Nat.zero_add, Nat.reduceAdd] at hf77_1); (try rw [show ((0 : Int)).toNat = 0 from rfl] at hx77_2); (try simp only [Nat.reduceMul, Nat.zero_mul, Nat.zero_add, Nat.reduceAdd] at hx77_2); (try rw [show ((0 : Int)).toNat = 0 from rfl] at hf77_2); (try simp only [Nat.reduceMul, Nat.zero_mul, Nat.zero_add, Nat.reduceAdd] at hf77_2); (try rw [show ((0 : Int)).toNat = 0 from rfl] at hx77_3); (try simp only [Nat.reduceMul, Nat.zero_mul, Nat.zero_add, Nat.reduceAdd] at hx77_3); (try rw [show ((0 : Int)).toNat = 0 from rfl] at hf77_3); (try simp only [Nat.reduceMul, Nat.zero_mul, Nat.zero_add, Nat.reduceAdd] at hf77_3); replace p77 := eq_true p77; replace q77 := eq_true q77; have HX83 := Aside0.mk (show Kd.R k43 43 wc w.heap.size (fun k_ => (w.heap.size ≤ k_) ∧ k_ ≠ gb552) (.slice (some ⟨go77, 0, none⟩) x6_18.length co77) x6_18 from (rO HO_6)); obtain ⟨ce83, hcl83, hM83, hcc83, hfr83⟩ := Kd.R_elem HX83.out z43 (0 : Int) (by omega) (by have h_ : (0 : Int) < ((x6_18.length : Int) : Int) := of_decide_eq_true (by assumption); first | exact h_ | (have e_ := (Kd.R_reads' HO_6.out).1; omega) | simpa using h_); obtain rfl := k43_openM hM83; have HP83 := Kd.R_seg HX83.out (0 : Int) (by omega) (by have h_ : (0 : Int) < ((x6_18.length : Int) : Int) := of_decide_eq_true (by assumption); first | exact h_ | (have e_ := (Kd.R_reads' HO_6.out).1; omega) | simpa using h_) (seg := [.int .i64 t582]) (j := 2) hcl83 hcc83 (show 3 ≤ 4 from by decide) (x' := (⟨(rd_T43 x6_18 0).f0, (rd_T43 x6_18 0).f1, t582, (rd_T43 x6_18 0).f3⟩ : S43)) (k43_mkM _ _ _ (⟨(rd_T43 x6_18 0).f0, (rd_T43 x6_18 0).f1, t582, (rd_T43 x6_18 0).f3⟩ : S43) ) (fun _ hk => hk); have hx83_2 := hcc83 2 _ rfl; (try simp only [show (k43).sz = 4 from rfl, Nat.mul_one, Nat.add_zero] at hx83_2); (try rw [show ((0 : Int)).toNat = 0 from rfl] at hx83_2); (try simp only [Nat.reduceMul, Nat.zero_mul, Nat.zero_add, Nat.reduceAdd] at hx83_2); have hf83_2 := hfr83 2; (try simp only [show (k43).sz = 4 from rfl, Nat.mul_one, Nat.add_zero] at hf83_2); (try rw [show ((0 : Int)).toNat = 0 from rfl] at hf83_2); (try simp only [Nat.reduceMul, Nat.zero_mul, Nat.zero_add, Nat.reduceAdd] at hf83_2); clear hcl83 hcc83 hfr83 hM83) | ((with_reducible refine gate_store (t := 3) (p := 100) rfl ?_); refine store_event (t := 3) (p := 100) (v := ?vo_w84) (w1 := (wc.setCell ⟨go77, 2, none⟩ (.int .i64 t582))) ?hg ?ho ?hn ?hr ?_; (case ho => rfl); (case hg => rfl); (case hn => rfl); (case hr => first | (go_simp; done) | (go_simp; rfl)); intro w84 hw; have hg : wc.grownBy w84 (some go77) := (by rw [hw]; exact HP83.2); have hp_ : Kd.R k43 43 w84 w.heap.size (fun k_ => (w.heap.size ≤ k_) ∧ k_ ≠ gb552) (.slice (some ⟨go77, 0, none⟩) x6_18.length co77) y584 := (by rw [hw, Ny584.out]; exact HP83.1); clear HP83; have n0_ := Aside0.mk (hp_); have n1_ := Aside0.mk (Kd.V_afterv (v := (.slice (some ⟨go77, 0, none⟩) x6_18.length co77)) (v1 := (.slice (some ⟨go77, 0, none⟩) x6_18.length co77)) (ok := (fun k_ => (P0_ k_ ∨ w.heap.size ≤ k_) ∧ k_ ≠ gb552)) (by (with_reducible repeat (first | apply Kd.V_alloc | apply Kd.V_drewN | apply Kd.V_drew)); exact Kd.V_mono HO_7.out (fun _ hk => ⟨⟨hk.1, hk.2.2⟩, hk.2.1⟩)) hg (.inl rfl)); have n2_ := Aside0.mk (blk_grown (g := gb552) (o := .cells #[.int .i64 t551, .string (⟨#[]⟩ : ByteArray), .int .i64 0, .int .i64 x553003_18] 43 (0, 0)) (bO BK552) hg (Kd.R_away HO_6.out (fun _ hk => hk.2))); have n3_ := Aside0.mk ((by rw [hw]; exact below_set (HB.out) GB77.out : Below w.heap.size w w84)); clear HO_6 HO_7 BK552 HB; have HO_6 := n0_; have HO_7 := n1_; have BK552 := n2_; have HB := n3_; clear n0_ n1_ n2_ n3_; clear hg hw hp_; have q85 : (2 : Int) ≤ ((x7_18.length : Int) : Int) := of_decide_eq_true (by assumption); obtain ⟨i085, hi085, _, hsz85, _⟩ := info_parts info9; have hroom85 : x7_18.length ≤ co82 := (Kd.V_reads' HO_7.out).2.1; have hC85 : Kd.F Kd.string _ _ (some ad581) x7_18.length x7_18 := (Kd.V_at (base := w.heap.size) HO_7.out).2.2; have hcut85 := cut_from (P := Tryd.prog) 28 9 .i64 Tryd.underlying28 hi085 1 hsz85 (some ad581) x7_18.length co82 2 (by omega) q85; have hr85 := Kd.F_cut (m := (2 : Int).toNat) (c := co82) hC85 (by omega) hroom85; obtain ⟨A85, hA85⟩ : ∃ A1, A1 = (if co82 = (2 : Int).toNat then (some ad581) else ((some ad581) : Option Addr).map (·.add ((2 : Int).toNat * 1))) := ⟨_, rfl⟩; obtain ⟨c85, hc85⟩ : ∃ c1, c1 = co82 - (2 : Int).toNat := ⟨_, rfl⟩; have hy85 : y585.length = x7_18.length - (2 : Int).toNat := (by rw [Ny585.out, List.length_drop] <;> omega); rw [show (x7_18).drop (2 : Int).toNat = y585 from Ny585.out.symm] at hr85; replace hr85 : Kd.F Kd.string _ _ A85 y585.length y585 := (by rw [hA85]; exact hr85); rw [← hy85, ← hA85, ← hc85] at hcut85; have HO589 := Aside0.mk (show Kd.V Kd.string 9 _ w.heap.size _ (.slice A85 y585.length c85) y585 from Kd.V_mk (by rw [hy85, hc85]; exact Nat.sub_le_sub_right hroom85 _) hr85); have HC589 := Aside0.mk (show y585.length ≤ c85 from by rw [hy85, hc85]; exact Nat.sub_le_sub_right hroom85 _); clear hr85 hC85 hroom85 hi085 hsz85 hc85; have KY85 := Aside0.mk hy85; have KA85 := Aside0.mk hA85; clear hy85 hA85; replace q85 := eq_true q85) | ((with_reducible refine gate_callee (f := 66) rfl ?_); refine goesL_ (some 104) rfl rfl Tryd.func66 (by kernel_rfl) rfl #[.slice A85 y585.length c85, .string (⟨#[41]⟩ : ByteArray)] rfl (mA2 rfl rfl) ?_; (with_reducible refine (dancestudioref35_is.calls _ _ y585 (⟨#[41]⟩ : ByteArray) true _ ((Kd.V_reads' HO589.out).2.2) ((Kd.V_reads' HO589.out).2.1) A79.out).mono ?_); rintro e w' ⟨rfl, ⟨nd, rfl⟩⟩; refine ⟨_, rfl, ?_⟩))
                     (try (rw [drewN_self w84]; generalize hq_ : World.drewN w84 _ = w84; have n0_ : Aside0 (Kd.V Kd.string 9 w84 w.heap.size (fun k_ => (P0_ k_ ∨ w.heap.size ≤ k_) ∧ some k_ ≠ (.slice (some ⟨go77, 0, none⟩) x6_18.length co77 : Value).ownBlock ∧ k_ ≠ gb552) (.slice A85 y585.length c85) y585) := ⟨by rw [← hq_]; exact (by (with_reducible repeat (first | apply Kd.V_alloc | apply Kd.V_drewN | apply Kd.V_drew)); exact Kd.V_mono HO589.out (fun _ hk => ⟨hk.1.1, ⟨hk.2, hk.1.2⟩⟩))⟩; have n1_ : Aside0 (Kd.R k43 43 w84 w.heap.size (fun k_ => (w.heap.size ≤ k_) ∧ k_ ≠ gb552) (.slice (some ⟨go77, 0, none⟩) x6_18.length co77) y584) := ⟨by rw [← hq_]; exact (rO HO_6)⟩; have n2_ : Aside0 (Kd.V Kd.string 9 w84 w.heap.size (fun k_ => (P0_ k_ ∨ w.heap.size ≤ k_) ∧ some k_ ≠ (.slice (some ⟨go77, 0, none⟩) x6_18.length co77 : Value).ownBlock ∧ k_ ≠ gb552) (.slice (some ad581) x7_18.length co82) x7_18) := ⟨by rw [← hq_]; exact (by (with_reducible repeat (first | apply Kd.V_alloc | apply Kd.V_drewN | apply Kd.V_drew)); exact Kd.V_mono HO_7.out (fun _ hk => ⟨hk.1.1, ⟨hk.2, hk.1.2⟩⟩))⟩; have n3_ : Aside0 (w84.heap[gb552]? = some (.cells #[.int .i64 t551, .string (⟨#[]⟩ : ByteArray), .int .i64 0, .int .i64 x553003_18] 43 (0, 0))) := ⟨by rw [← hq_]; exact (bO BK552)⟩; have n4_ : Aside0 (Below w.heap.size w w84) := ⟨by rw [← hq_]; exact (hO HB)⟩; clear HO589 HO_6 HO_7 BK552 HB hq_; have HO589 := n0_; have HO_6 := n1_; have HO_7 := n2_; have BK552 := n3_; have HB := n4_; clear n0_ n1_ n2_ n3_ n4_))
                     have n0_ := Aside0.mk (Kd.R_drew HO_6.out)
                     have n1_ := Aside0.mk (Kd.V_drew HO_7.out)
                     have n2_ := Aside0.mk (Kd.V_drew HO589.out)
                     have n3_ := Aside0.mk (blk_drew BK552.out)
                     have n4_ := Aside0.mk (below_drew1 HB.out)
                     clear HO_6 HO_7 HO589 BK552 HB
                     have HO_6 := n0_
                     have HO_7 := n1_
                     have HO589 := n2_
                     have BK552 := n3_
                     have HB := n4_
                     clear n0_ n1_ n2_ n3_ n4_
                     have q87 : (1 : Int) ≤ ((y585.length : Int) : Int) := of_decide_eq_true (by assumption)
                     obtain ⟨i087, hi087, _, hsz87, _⟩ := info_parts info9
                     have hroom87 : y585.length ≤ c85 := (Kd.V_reads' HO589.out).2.1
                     have hC87 : Kd.F Kd.string _ _ A85 y585.length y585 := (Kd.V_at (base := w.heap.size) HO589.out).2.2
                     have hcut87 := cut_from (P := Tryd.prog) 28 9 .i64 Tryd.underlying28 hi087 1 hsz87 A85 y585.length c85 1 (by omega) q87
                     have hr87 := Kd.F_cut (m := (1 : Int).toNat) (c := c85) hC87 (by omega) hroom87
                     obtain ⟨A87, hA87⟩ : ∃ A1, A1 = (if c85 = (1 : Int).toNat then A85 else (A85 : Option Addr).map (·.add ((1 : Int).toNat * 1))) := ⟨_, rfl⟩
                     obtain ⟨c87, hc87⟩ : ∃ c1, c1 = c85 - (1 : Int).toNat := ⟨_, rfl⟩
                     have hy87 : y591.length = y585.length - (1 : Int).toNat := (by rw [Ny591.out, List.length_drop] <;> omega)
                     rw [show (y585).drop (1 : Int).toNat = y591 from Ny591.out.symm] at hr87
                     replace hr87 : Kd.F Kd.string _ _ A87 y591.length y591 := (by rw [hA87]; exact hr87)
                     rw [← hy87, ← hA87, ← hc87] at hcut87
                     have HO595 := Aside0.mk (show Kd.V Kd.string 9 _ w.heap.size _ (.slice A87 y591.length c87) y591 from Kd.V_mk (by rw [hy87, hc87]; exact Nat.sub_le_sub_right hroom87 _) hr87)
                     have HC595 := Aside0.mk (show y591.length ≤ c87 from by rw [hy87, hc87]; exact Nat.sub_le_sub_right hroom87 _)
                     clear hr87 hC87 hroom87 hi087 hsz87 hc87
                     have KY87 := Aside0.mk hy87
                     have KA87 := Aside0.mk hA87
                     clear hy87 hA87
                     replace q87 := eq_true q87
                     refine start_ (n := 6) (S := fun w' => True) (ds := []) #[false, false, false, false, false, false] (by kernel_rfl) rfl rfl trivial (fun hHeld => ?_)
                     generalize w84.drew = w86 at HO_6 HO_7 HO589 BK552 HB HO595 hHeld ⊢
                     refine pure_ (i := 0) (N := some 106) (v := ?_) (a' := ?_) #[true, false, false, false, false, false] rfl rfl (by kernel_rfl) (fun _ _ _ h => h) (Or.inl ⟨by rfl, ?_⟩) ?_ ?_
                     rotate_left
                     ·
                      intro w'
                      go_simp
                      with_reducible rfl
                     rotate_left
                     ·
                      simp only [mP]
                      rfl
                     refine pure_ (i := 1) (N := some 107) (v := ?_) (a' := ?_) #[true, true, false, false, false, false] rfl rfl (by kernel_rfl) (fun _ _ _ h => h) (Or.inl ⟨by rfl, ?_⟩) ?_ ?_
                     rotate_left
                     ·
                      intro w'
                      go_simp
                      with_reducible rfl
                     rotate_left
                     ·
                      simp only [mP]
                      rfl
                     refine pure_ (i := 2) (N := some 108) (v := ?_) (a' := ?_) #[true, true, true, false, false, false] rfl rfl (by kernel_rfl) (fun _ _ _ h => h) (Or.inl ⟨by rfl, ?_⟩) ?_ ?_
                     rotate_left
                     ·
                      intro w'
                      go_simp
                      with_reducible rfl
                     rotate_left
                     ·
                      simp only [mP]
                      rfl
                     refine pure_ (i := 3) (N := some 2) (v := ?_) (a' := ?_) #[true, true, true, true, false, false] rfl rfl (by kernel_rfl) (fun _ _ _ h => h) (Or.inl ⟨by rfl, ?_⟩) ?_ ?_
                     rotate_left
                     ·
                      intro w'
                      go_simp
                      with_reducible rfl
                     rotate_left
                     ·
                      simp only [mP]
                      rfl
                     refine pure_ (i := 4) (N := some 3) (v := ?_) (a' := ?_) #[true, true, true, true, true, false] rfl rfl (by kernel_rfl) (fun _ _ _ h => h) (Or.inl ⟨by rfl, ?_⟩) ?_ ?_
                     rotate_left
                     ·
                      intro w'
                      go_simp
                      with_reducible rfl
                     rotate_left
                     ·
                      simp only [mP]
                      rfl
                     refine pure_ (i := 5) (N := some 4) (v := ?_) (a' := ?_) #[true, true, true, true, true, true] rfl rfl (by kernel_rfl) (fun _ _ _ h => h) (Or.inl ⟨by rfl, ?_⟩) ?_ ?_
                     rotate_left
                     ·
                      intro w'
                      go_simp
                      with_reducible rfl
                     rotate_left
                     ·
                      simp only [mP]
                      rfl
                     refine done_ (by kernel_rfl) ?_
                     try go_wp2
                     go_ret3
                     exact ⟨_, _, rfl, by exact Kd.R_mono HO_6.out (fun _ hk => hk.1), by (with_reducible repeat (first | apply Kd.V_alloc | apply Kd.V_drewN | apply Kd.V_drew)); exact Kd.V_mono HO595.out (fun _ hk => by first | exact ⟨hk.1.1, hk.2⟩ | exact ⟨hk.1, hk.2.1⟩ | exact ⟨hk.1, hk.2⟩), hO HB⟩
                    ·
                     exact mNo c81 H
                   ·
                    replace c80 := Bool.eq_false_iff.mpr c80
                    subst c80
                    have H1 : (some (([] : List (S43)), ([] : List ByteArray), false)) = some (r1, r2, r3) := by rw [if_neg (show ¬ (false = true) by decide)] at H; exact H
                    clear H
                    have H := H1
                    clear H1
                    simp only [Option.some.injEq, Prod.mk.injEq] at H
                    obtain ⟨rfl, rfl, rfl⟩ := H
                    obtain ⟨Ao88, co88, eo88⟩ := Kd.V_slice HO_7.out
                    subst eo88
                    have p581 : 0 ≤ (1 : Int) := (by omega)
                    have q581 : 1 < (x7_18.length : Int) := of_decide_eq_true (by assumption)
                    obtain ⟨ad581, e581, hx581_0⟩ := Kd.at_string (Kd.V_reads' HO_7.out).2.2 1 p581 q581
                    cases e581
                    (try simp only [show (1 : Int).toNat = 1 from rfl, Nat.reduceMul, Nat.reduceEqDiff, Go.Addr.add, ↓reduceIte] at hx581_0)
                    have qi581 : (1 < x7_18.length) = True := eq_true (by omega)
                    (try rw [show ((1 : Int)).toNat = 1 from rfl] at hx581_0)
                    replace p581 := eq_true p581
                    replace q581 := eq_true q581
                    go_wp2_with (first | ((with_reducible refine gate_callee (f := 68) rfl ?_); refine goesL_ (some 92) rfl rfl Tryd.func68 (by kernel_rfl) rfl #[.string (rdOf ByteArray.empty x7_18 1)] rfl (mA1 rfl) ?_; (with_reducible refine (dancestudioref35_number.calls kj65 (rdOf ByteArray.empty x7_18 1) t582 true _ A74.out).mono ?_); rintro e w' ⟨rfl, ⟨nd, rfl⟩⟩; refine ⟨_, rfl, ?_⟩; (try (rw [drewN_self wc]; generalize hq_ : World.drewN wc _ = wc; have n0_ : Aside0 (Kd.R k43 43 wc w.heap.size (fun k_ => (w.heap.size ≤ k_) ∧ k_ ≠ gb552) u6 x6_18) := ⟨by rw [← hq_]; exact (rO HO_6)⟩; have n1_ : Aside0 (Kd.V Kd.string 9 wc w.heap.size (fun k_ => (P0_ k_ ∨ w.heap.size ≤ k_) ∧ some k_ ≠ (u6 : Value).ownBlock ∧ k_ ≠ gb552) (.slice (some ad581) x7_18.length co88) x7_18) := ⟨by rw [← hq_]; exact HO_7.out⟩; have n2_ : Aside0 (wc.heap[gb552]? = some (.cells #[.int .i64 t551, .string (⟨#[]⟩ : ByteArray), .int .i64 0, .int .i64 x553003_18] 43 (0, 0))) := ⟨by rw [← hq_]; exact (bO BK552)⟩; have n3_ : Aside0 (Below w.heap.size w wc) := ⟨by rw [← hq_]; exact (hO HB)⟩; clear HO_6 HO_7 BK552 HB hq_; have HO_6 := n0_; have HO_7 := n1_; have BK552 := n2_; have HB := n3_; clear n0_ n1_ n2_ n3_)); have p77 : 0 ≤ (0 : Int) := (by omega); have q77 : (0 : Int) < ((x6_18.length : Int) : Int) := of_decide_eq_true (by assumption); have qi77 : (0 < x6_18.length) = True := eq_true (by omega); obtain ⟨go77, co77, eo77, gb77, gl77, cl77, HG77⟩ := Kd.R_form HO_6.out (by omega); (first | cases eo77 | (injection eo77 with ea_ en_ ec_; (first | subst ea_ | (injection ea_ with ea_; subst ea_)); subst ec_; clear en_)); have GB77 := Aside0.mk gb77; have GG77 := Aside0.mk HG77; clear gb77 gl77 HG77; obtain ⟨ce77, hcl77, hM77, hcc77, hfr77⟩ := Kd.R_elem HO_6.out z43 (0 : Int) p77 q77; obtain rfl := k43_openM hM77; have hx77_0 : wc.cell? ⟨go77, (0 : Int).toNat * 4, none⟩ = some (.int .i64 ((rd_T43 x6_18 0).f0)) := hcc77 0 _ rfl; have hx77_1 : wc.cell? ⟨go77, (0 : Int).toNat * 4 + 1, none⟩ = some (.string ((rd_T43 x6_18 0).f1)) := hcc77 1 _ rfl; have hx77_2 : wc.cell? ⟨go77, (0 : Int).toNat * 4 + 2, none⟩ = some (.int .i64 ((rd_T43 x6_18 0).f2)) := hcc77 2 _ rfl; have hx77_3 : wc.cell? ⟨go77, (0 : Int).toNat * 4 + 3, none⟩ = some (.int .i64 ((rd_T43 x6_18 0).f3)) := hcc77 3 _ rfl; have hf77_0 : wc.frozen? ⟨go77, (0 : Int).toNat * 4, none⟩ = false := hfr77 0; have hf77_1 : wc.frozen? ⟨go77, (0 : Int).toNat * 4 + 1, none⟩ = false := hfr77 1; have hf77_2 : wc.frozen? ⟨go77, (0 : Int).toNat * 4 + 2, none⟩ = false := hfr77 2; have hf77_3 : wc.frozen? ⟨go77, (0 : Int).toNat * 4 + 3, none⟩ = false := hfr77 3; clear hcl77 hcc77 hfr77 hM77; (try rw [show ((0 : Int)).toNat = 0 from rfl] at hx77_0); (try simp only [Nat.reduceMul, Nat.zero_mul, Nat.zero_add, Nat.reduceAdd] at hx77_0); (try rw [show ((0 : Int)).toNat = 0 from rfl] at hf77_0); (try simp only [Nat.reduceMul, Nat.zero_mul, Nat.zero_add, Nat.reduceAdd] at hf77_0); (try rw [show ((0 : Int)).toNat = 0 from rfl] at hx77_1); (try simp only [Nat.reduceMul, Nat.zero_mul, Nat.zero_add, Nat.reduceAdd] at hx77_1); (try rw [show ((0 : Int)).toNat = 0 from rfl] at hf77_1); (try simp only [Nat.reduceMul, Nat.zero_mul, Nat.zero_add, Nat.reduceAdd] at hf77_1); (try rw [show ((0 : Int)).toNat = 0 from rfl] at hx77_2); (try simp only [Nat.reduceMul, Nat.zero_mul, Nat.zero_add, Nat.reduceAdd] at hx77_2); (try rw [show ((0 : Int)).toNat = 0 from rfl] at hf77_2); (try simp only [Nat.reduceMul, Nat.zero_mul, Nat.zero_add, Nat.reduceAdd] at hf77_2); (try rw [show ((0 : Int)).toNat = 0 from rfl] at hx77_3); (try simp only [Nat.reduceMul, Nat.zero_mul, Nat.zero_add, Nat.reduceAdd] at hx77_3); (try rw [show ((0 : Int)).toNat = 0 from rfl] at hf77_3); (try simp only [Nat.reduceMul, Nat.zero_mul, Nat.zero_add, Nat.reduceAdd] at hf77_3); replace p77 := eq_true p77; replace q77 := eq_true q77; have HX89 := Aside0.mk (show Kd.R k43 43 wc w.heap.size (fun k_ => (w.heap.size ≤ k_) ∧ k_ ≠ gb552) (.slice (some ⟨go77, 0, none⟩) x6_18.length co77) x6_18 from (rO HO_6)); obtain ⟨ce89, hcl89, hM89, hcc89, hfr89⟩ := Kd.R_elem HX89.out z43 (0 : Int) (by omega) (by have h_ : (0 : Int) < ((x6_18.length : Int) : Int) := of_decide_eq_true (by assumption); first | exact h_ | (have e_ := (Kd.R_reads' HO_6.out).1; omega) | simpa using h_); obtain rfl := k43_openM hM89; have HP89 := Kd.R_seg HX89.out (0 : Int) (by omega) (by have h_ : (0 : Int) < ((x6_18.length : Int) : Int) := of_decide_eq_true (by assumption); first | exact h_ | (have e_ := (Kd.R_reads' HO_6.out).1; omega) | simpa using h_) (seg := [.int .i64 t582]) (j := 2) hcl89 hcc89 (show 3 ≤ 4 from by decide) (x' := (⟨(rd_T43 x6_18 0).f0, (rd_T43 x6_18 0).f1, t582, (rd_T43 x6_18 0).f3⟩ : S43)) (k43_mkM _ _ _ (⟨(rd_T43 x6_18 0).f0, (rd_T43 x6_18 0).f1, t582, (rd_T43 x6_18 0).f3⟩ : S43) ) (fun _ hk => hk); have hx89_2 := hcc89 2 _ rfl; (try simp only [show (k43).sz = 4 from rfl, Nat.mul_one, Nat.add_zero] at hx89_2); (try rw [show ((0 : Int)).toNat = 0 from rfl] at hx89_2); (try simp only [Nat.reduceMul, Nat.zero_mul, Nat.zero_add, Nat.reduceAdd] at hx89_2); have hf89_2 := hfr89 2; (try simp only [show (k43).sz = 4 from rfl, Nat.mul_one, Nat.add_zero] at hf89_2); (try rw [show ((0 : Int)).toNat = 0 from rfl] at hf89_2); (try simp only [Nat.reduceMul, Nat.zero_mul, Nat.zero_add, Nat.reduceAdd] at hf89_2); clear hcl89 hcc89 hfr89 hM89) | ((with_reducible refine gate_store (t := 3) (p := 100) rfl ?_); refine store_event (t := 3) (p := 100) (v := ?vo_w90) (w1 := (wc.setCell ⟨go77, 2, none⟩ (.int .i64 t582))) ?hg ?ho ?hn ?hr ?_; (case ho => rfl); (case hg => rfl); (case hn => rfl); (case hr => first | (go_simp; done) | (go_simp; rfl)); intro w90 hw; have hg : wc.grownBy w90 (some go77) := (by rw [hw]; exact HP89.2); have hp_ : Kd.R k43 43 w90 w.heap.size (fun k_ => (w.heap.size ≤ k_) ∧ k_ ≠ gb552) (.slice (some ⟨go77, 0, none⟩) x6_18.length co77) y584 := (by rw [hw, Ny584.out]; exact HP89.1); clear HP89; have n0_ := Aside0.mk (hp_); have n1_ := Aside0.mk (Kd.V_afterv (v := (.slice (some ⟨go77, 0, none⟩) x6_18.length co77)) (v1 := (.slice (some ⟨go77, 0, none⟩) x6_18.length co77)) (ok := (fun k_ => (P0_ k_ ∨ w.heap.size ≤ k_) ∧ k_ ≠ gb552)) (by (with_reducible repeat (first | apply Kd.V_alloc | apply Kd.V_drewN | apply Kd.V_drew)); exact Kd.V_mono HO_7.out (fun _ hk => ⟨⟨hk.1, hk.2.2⟩, hk.2.1⟩)) hg (.inl rfl)); have n2_ := Aside0.mk (blk_grown (g := gb552) (o := .cells #[.int .i64 t551, .string (⟨#[]⟩ : ByteArray), .int .i64 0, .int .i64 x553003_18] 43 (0, 0)) (bO BK552) hg (Kd.R_away HO_6.out (fun _ hk => hk.2))); have n3_ := Aside0.mk ((by rw [hw]; exact below_set (HB.out) GB77.out : Below w.heap.size w w90)); clear HO_6 HO_7 BK552 HB; have HO_6 := n0_; have HO_7 := n1_; have BK552 := n2_; have HB := n3_; clear n0_ n1_ n2_ n3_; clear hg hw hp_; have q91 : (2 : Int) ≤ ((x7_18.length : Int) : Int) := of_decide_eq_true (by assumption); obtain ⟨i091, hi091, _, hsz91, _⟩ := info_parts info9; have hroom91 : x7_18.length ≤ co88 := (Kd.V_reads' HO_7.out).2.1; have hC91 : Kd.F Kd.string _ _ (some ad581) x7_18.length x7_18 := (Kd.V_at (base := w.heap.size) HO_7.out).2.2; have hcut91 := cut_from (P := Tryd.prog) 28 9 .i64 Tryd.underlying28 hi091 1 hsz91 (some ad581) x7_18.length co88 2 (by omega) q91; have hr91 := Kd.F_cut (m := (2 : Int).toNat) (c := co88) hC91 (by omega) hroom91; obtain ⟨A91, hA91⟩ : ∃ A1, A1 = (if co88 = (2 : Int).toNat then (some ad581) else ((some ad581) : Option Addr).map (·.add ((2 : Int).toNat * 1))) := ⟨_, rfl⟩; obtain ⟨c91, hc91⟩ : ∃ c1, c1 = co88 - (2 : Int).toNat := ⟨_, rfl⟩; have hy91 : y585.length = x7_18.length - (2 : Int).toNat := (by rw [Ny585.out, List.length_drop] <;> omega); rw [show (x7_18).drop (2 : Int).toNat = y585 from Ny585.out.symm] at hr91; replace hr91 : Kd.F Kd.string _ _ A91 y585.length y585 := (by rw [hA91]; exact hr91); rw [← hy91, ← hA91, ← hc91] at hcut91; have HO589 := Aside0.mk (show Kd.V Kd.string 9 _ w.heap.size _ (.slice A91 y585.length c91) y585 from Kd.V_mk (by rw [hy91, hc91]; exact Nat.sub_le_sub_right hroom91 _) hr91); have HC589 := Aside0.mk (show y585.length ≤ c91 from by rw [hy91, hc91]; exact Nat.sub_le_sub_right hroom91 _); clear hr91 hC91 hroom91 hi091 hsz91 hc91; have KY91 := Aside0.mk hy91; have KA91 := Aside0.mk hA91; clear hy91 hA91; replace q91 := eq_true q91) | ((with_reducible refine gate_callee (f := 66) rfl ?_); refine goesL_ (some 104) rfl rfl Tryd.func66 (by kernel_rfl) rfl #[.slice A91 y585.length c91, .string (⟨#[41]⟩ : ByteArray)] rfl (mA2 rfl rfl) ?_; (with_reducible refine (dancestudioref35_is.calls _ _ y585 (⟨#[41]⟩ : ByteArray) false _ ((Kd.V_reads' HO589.out).2.2) ((Kd.V_reads' HO589.out).2.1) A79.out).mono ?_); rintro e w' ⟨rfl, ⟨nd, rfl⟩⟩; refine ⟨_, rfl, ?_⟩))
                    go_ret3
                    exact ⟨_, _, rfl, by first | exact Kd.R_nil _ _ _ _ _ | exact Kd.N_nil _ _ _ _ _ | exact Kd.V_nil _ _ _ _ _ | exact Kd.Q_nil _ _ _ _ _ | exact Kd.S_nil _ _ _ _ _, Kd.V_nil _ _ _ _ _, hO HB⟩
                  ·
                   exact mNo c78 H
                 ·
                  exact mNo c76 H
                ·
                 replace c75 := Bool.eq_false_iff.mpr c75
                 subst c75
                 have H1 : (some (([] : List (S43)), ([] : List ByteArray), false)) = some (r1, r2, r3) := by rw [if_neg (show ¬ (false = true) by decide)] at H; exact H
                 clear H
                 have H := H1
                 clear H1
                 simp only [Option.some.injEq, Prod.mk.injEq] at H
                 obtain ⟨rfl, rfl, rfl⟩ := H
                 obtain ⟨Ao92, co92, eo92⟩ := Kd.V_slice HO_7.out
                 subst eo92
                 have p581 : 0 ≤ (1 : Int) := (by omega)
                 have q581 : 1 < (x7_18.length : Int) := of_decide_eq_true (by assumption)
                 obtain ⟨ad581, e581, hx581_0⟩ := Kd.at_string (Kd.V_reads' HO_7.out).2.2 1 p581 q581
                 cases e581
                 (try simp only [show (1 : Int).toNat = 1 from rfl, Nat.reduceMul, Nat.reduceEqDiff, Go.Addr.add, ↓reduceIte] at hx581_0)
                 have qi581 : (1 < x7_18.length) = True := eq_true (by omega)
                 (try rw [show ((1 : Int)).toNat = 1 from rfl] at hx581_0)
                 replace p581 := eq_true p581
                 replace q581 := eq_true q581
                 go_wp2_with (first | ((with_reducible refine gate_callee (f := 68) rfl ?_); refine goesL_ (some 92) rfl rfl Tryd.func68 (by kernel_rfl) rfl #[.string (rdOf ByteArray.empty x7_18 1)] rfl (mA1 rfl) ?_; (with_reducible refine (dancestudioref35_number.calls kj65 (rdOf ByteArray.empty x7_18 1) t582 false _ A74.out).mono ?_); rintro e w' ⟨rfl, ⟨nd, rfl⟩⟩; refine ⟨_, rfl, ?_⟩))
                 go_ret3
                 exact ⟨_, _, rfl, by first | exact Kd.R_nil _ _ _ _ _ | exact Kd.N_nil _ _ _ _ _ | exact Kd.V_nil _ _ _ _ _ | exact Kd.Q_nil _ _ _ _ _ | exact Kd.S_nil _ _ _ _ _, Kd.V_nil _ _ _ _ _, hO HB⟩
               ·
                exact mNo c73 H
           ·
            replace c65 := Bool.eq_false_iff.mpr c65
            subst c65
            have H1 : ((dancestudioref35_is.f x7_18 (⟨#[41]⟩ : ByteArray)).bind fun t596 => (if t596 = true then (if 1 ≤ (x7_18.length : Int) then (some (x6_18, (x7_18.drop 1), true)) else (none)) else (some (([] : List (S43)), ([] : List ByteArray), false)))) = some (r1, r2, r3) := by rw [if_neg (show ¬ (false = true) by decide)] at H; exact H
            clear H
            have H := H1
            clear H1
            replace H := Option.bind_eq_some_iff.mp H
            obtain ⟨t596, A930, H⟩ := H
            replace H : (if t596 = true then (if 1 ≤ (x7_18.length : Int) then (some (x6_18, (x7_18.drop 1), true)) else (none)) else (some (([] : List (S43)), ([] : List ByteArray), false))) = some (r1, r2, r3) := H
            have A93 := Aside0.mk A930
            clear A930
            by_cases c94 : t596 = true
            ·
             subst c94
             have H1 : (if 1 ≤ (x7_18.length : Int) then (some (x6_18, (x7_18.drop 1), true)) else (none)) = some (r1, r2, r3) := by rw [if_pos rfl] at H; exact H
             clear H
             have H := H1
             clear H1
             by_cases c95 : 1 ≤ (x7_18.length : Int)
             ·
              rw [if_pos c95] at H
              have c95b0 := eq_true c95
              have c95b1 := decide_eq_true c95
              clear c95
              obtain ⟨y597, hy597⟩ : ∃ y_ : List ByteArray, y_ = (x7_18.drop 1) := ⟨_, rfl⟩
              replace H : (some (x6_18, y597, true)) = some (r1, r2, r3) := by first | (rw [hy597]; with_reducible exact H) | (have H2_ := (Option.bind_some _ _).symm.trans H; rw [hy597]; with_reducible exact H2_) | (have H2_ := (Option.bind_some _ _).symm.trans H; with_reducible exact H2_) | with_reducible exact H | (rw [hy597]; exact H) | exact H
              have Ny597 := Aside0.mk hy597
              clear hy597
              simp only [Option.some.injEq, Prod.mk.injEq] at H
              obtain ⟨rfl, rfl, rfl⟩ := H
              have hcz96_0 : wc.cell? ⟨gb552, 0, none⟩ = some (.int .i64 t551) := (blk_cell BK552.out 0).trans rfl
              have hcz96_1 : wc.cell? ⟨gb552, 1, none⟩ = some (.string (⟨#[]⟩ : ByteArray)) := (blk_cell BK552.out 1).trans rfl
              have hcz96_2 : wc.cell? ⟨gb552, 2, none⟩ = some (.int .i64 0) := (blk_cell BK552.out 2).trans rfl
              have hcz96_3 : wc.cell? ⟨gb552, 3, none⟩ = some (.int .i64 x553003_18) := (blk_cell BK552.out 3).trans rfl
              have hfz96_0 := blk_frozen BK552.out 0
              have hfz96_1 := blk_frozen BK552.out 1
              have hfz96_2 := blk_frozen BK552.out 2
              have hfz96_3 := blk_frozen BK552.out 3
              try go_wp2_with (first | ((with_reducible refine gate_callee (f := 56) rfl ?_); refine goesL_ (some 78) rfl rfl Tryd.func56 (by kernel_rfl) rfl #[.int .i64 t551] rfl (mA1 rfl) ?_; (with_reducible refine (dancestudioref35_numbered.calls t551 false _ A64.out).mono ?_); rintro e w' ⟨rfl, ⟨nd, rfl⟩⟩; refine ⟨_, rfl, ?_⟩; obtain ⟨Ao97, co97, eo97⟩ := Kd.V_slice HO_7.out; subst eo97) | ((with_reducible refine gate_callee (f := 66) rfl ?_); refine goesL_ (some 104) rfl rfl Tryd.func66 (by kernel_rfl) rfl #[.slice Ao97 x7_18.length co97, .string (⟨#[41]⟩ : ByteArray)] rfl (mA2 rfl rfl) ?_; (with_reducible refine (dancestudioref35_is.calls _ _ x7_18 (⟨#[41]⟩ : ByteArray) true _ ?side1 ?side2 A93.out).mono ?_); (case side1 => exact (Kd.V_reads' HO_7.out).2.2); (case side2 => exact (Kd.V_reads' HO_7.out).2.1); rintro e w' ⟨rfl, ⟨nd, rfl⟩⟩; refine ⟨_, rfl, ?_⟩))
              (try (rw [drewN_self wc]; generalize hq_ : World.drewN wc _ = wc; have n0_ : Aside0 (Kd.R k43 43 wc w.heap.size (fun k_ => (w.heap.size ≤ k_) ∧ k_ ≠ gb552) u6 x6_18) := ⟨by rw [← hq_]; exact (rO HO_6)⟩; have n1_ : Aside0 (Kd.V Kd.string 9 wc w.heap.size (fun k_ => (P0_ k_ ∨ w.heap.size ≤ k_) ∧ some k_ ≠ (u6 : Value).ownBlock ∧ k_ ≠ gb552) (.slice Ao97 x7_18.length co97) x7_18) := ⟨by rw [← hq_]; exact HO_7.out⟩; have n2_ : Aside0 (wc.heap[gb552]? = some (.cells #[.int .i64 t551, .string (⟨#[]⟩ : ByteArray), .int .i64 0, .int .i64 x553003_18] 43 (0, 0))) := ⟨by rw [← hq_]; exact (bO BK552)⟩; have n3_ : Aside0 (Below w.heap.size w wc) := ⟨by rw [← hq_]; exact (hO HB)⟩; clear HO_6 HO_7 BK552 HB hq_; have HO_6 := n0_; have HO_7 := n1_; have BK552 := n2_; have HB := n3_; clear n0_ n1_ n2_ n3_))
              have n0_ := Aside0.mk (Kd.R_drew HO_6.out)
              have n1_ := Aside0.mk (Kd.V_drew HO_7.out)
              have n2_ := Aside0.mk (blk_drew BK552.out)
              have n3_ := Aside0.mk (below_drew1 HB.out)
              clear HO_6 HO_7 BK552 HB
              have HO_6 := n0_
              have HO_7 := n1_
              have BK552 := n2_
              have HB := n3_
              clear n0_ n1_ n2_ n3_
              have q99 : (1 : Int) ≤ ((x7_18.length : Int) : Int) := of_decide_eq_true (by assumption)
              obtain ⟨i099, hi099, _, hsz99, _⟩ := info_parts info9
              have hroom99 : x7_18.length ≤ co97 := (Kd.V_reads' HO_7.out).2.1
              have hC99 : Kd.F Kd.string _ _ Ao97 x7_18.length x7_18 := (Kd.V_at (base := w.heap.size) HO_7.out).2.2
              have hcut99 := cut_from (P := Tryd.prog) 28 9 .i64 Tryd.underlying28 hi099 1 hsz99 Ao97 x7_18.length co97 1 (by omega) q99
              have hr99 := Kd.F_cut (m := (1 : Int).toNat) (c := co97) hC99 (by omega) hroom99
              obtain ⟨A99, hA99⟩ : ∃ A1, A1 = (if co97 = (1 : Int).toNat then Ao97 else (Ao97 : Option Addr).map (·.add ((1 : Int).toNat * 1))) := ⟨_, rfl⟩
              obtain ⟨c99, hc99⟩ : ∃ c1, c1 = co97 - (1 : Int).toNat := ⟨_, rfl⟩
              have hy99 : y597.length = x7_18.length - (1 : Int).toNat := (by rw [Ny597.out, List.length_drop] <;> omega)
              rw [show (x7_18).drop (1 : Int).toNat = y597 from Ny597.out.symm] at hr99
              replace hr99 : Kd.F Kd.string _ _ A99 y597.length y597 := (by rw [hA99]; exact hr99)
              rw [← hy99, ← hA99, ← hc99] at hcut99
              have HO601 := Aside0.mk (show Kd.V Kd.string 9 _ w.heap.size _ (.slice A99 y597.length c99) y597 from Kd.V_mk (by rw [hy99, hc99]; exact Nat.sub_le_sub_right hroom99 _) hr99)
              have HC601 := Aside0.mk (show y597.length ≤ c99 from by rw [hy99, hc99]; exact Nat.sub_le_sub_right hroom99 _)
              clear hr99 hC99 hroom99 hi099 hsz99 hc99
              have KY99 := Aside0.mk hy99
              have KA99 := Aside0.mk hA99
              clear hy99 hA99
              replace q99 := eq_true q99
              refine start_ (n := 6) (S := fun w' => True) (ds := []) #[false, false, false, false, false, false] (by kernel_rfl) rfl rfl trivial (fun hHeld => ?_)
              generalize wc.drew = w98 at HO_6 HO_7 BK552 HB HO601 hHeld ⊢
              refine pure_ (i := 0) (N := some 106) (v := ?_) (a' := ?_) #[true, false, false, false, false, false] rfl rfl (by kernel_rfl) (fun _ _ _ h => h) (Or.inl ⟨by rfl, ?_⟩) ?_ ?_
              rotate_left
              ·
               intro w'
               go_simp
               with_reducible rfl
              rotate_left
              ·
               simp only [mP]
               rfl
              refine pure_ (i := 1) (N := some 107) (v := ?_) (a' := ?_) #[true, true, false, false, false, false] rfl rfl (by kernel_rfl) (fun _ _ _ h => h) (Or.inl ⟨by rfl, ?_⟩) ?_ ?_
              rotate_left
              ·
               intro w'
               go_simp
               with_reducible rfl
              rotate_left
              ·
               simp only [mP]
               rfl
              refine pure_ (i := 2) (N := some 108) (v := ?_) (a' := ?_) #[true, true, true, false, false, false] rfl rfl (by kernel_rfl) (fun _ _ _ h => h) (Or.inl ⟨by rfl, ?_⟩) ?_ ?_
              rotate_left
              ·
               intro w'
               go_simp
               with_reducible rfl
              rotate_left
              ·
               simp only [mP]
               rfl
              refine pure_ (i := 3) (N := some 2) (v := ?_) (a' := ?_) #[true, true, true, true, false, false] rfl rfl (by kernel_rfl) (fun _ _ _ h => h) (Or.inl ⟨by rfl, ?_⟩) ?_ ?_
              rotate_left
              ·
               intro w'
               go_simp
               with_reducible rfl
              rotate_left
              ·
               simp only [mP]
               rfl
              refine pure_ (i := 4) (N := some 3) (v := ?_) (a' := ?_) #[true, true, true, true, true, false] rfl rfl (by kernel_rfl) (fun _ _ _ h => h) (Or.inl ⟨by rfl, ?_⟩) ?_ ?_
              rotate_left
              ·
               intro w'
               go_simp
               with_reducible rfl
              rotate_left
              ·
               simp only [mP]
               rfl
              refine pure_ (i := 5) (N := some 4) (v := ?_) (a' := ?_) #[true, true, true, true, true, true] rfl rfl (by kernel_rfl) (fun _ _ _ h => h) (Or.inl ⟨by rfl, ?_⟩) ?_ ?_
              rotate_left
              ·
               intro w'
               go_simp
               with_reducible rfl
              rotate_left
              ·
               simp only [mP]
               rfl
              refine done_ (by kernel_rfl) ?_
              try go_wp2
              go_ret3
              exact ⟨_, _, rfl, by exact Kd.R_mono HO_6.out (fun _ hk => hk.1), by (with_reducible repeat (first | apply Kd.V_alloc | apply Kd.V_drewN | apply Kd.V_drew)); exact Kd.V_mono HO601.out (fun _ hk => ⟨hk.1, hk.2.1⟩), hO HB⟩
             ·
              exact mNo c95 H
            ·
             replace c94 := Bool.eq_false_iff.mpr c94
             subst c94
             have H1 : (some (([] : List (S43)), ([] : List ByteArray), false)) = some (r1, r2, r3) := by rw [if_neg (show ¬ (false = true) by decide)] at H; exact H
             clear H
             have H := H1
             clear H1
             simp only [Option.some.injEq, Prod.mk.injEq] at H
             obtain ⟨rfl, rfl, rfl⟩ := H
             have hcz100_0 : wc.cell? ⟨gb552, 0, none⟩ = some (.int .i64 t551) := (blk_cell BK552.out 0).trans rfl
             have hcz100_1 : wc.cell? ⟨gb552, 1, none⟩ = some (.string (⟨#[]⟩ : ByteArray)) := (blk_cell BK552.out 1).trans rfl
             have hcz100_2 : wc.cell? ⟨gb552, 2, none⟩ = some (.int .i64 0) := (blk_cell BK552.out 2).trans rfl
             have hcz100_3 : wc.cell? ⟨gb552, 3, none⟩ = some (.int .i64 x553003_18) := (blk_cell BK552.out 3).trans rfl
             have hfz100_0 := blk_frozen BK552.out 0
             have hfz100_1 := blk_frozen BK552.out 1
             have hfz100_2 := blk_frozen BK552.out 2
             have hfz100_3 := blk_frozen BK552.out 3
             go_wp2_with (first | ((with_reducible refine gate_callee (f := 56) rfl ?_); refine goesL_ (some 78) rfl rfl Tryd.func56 (by kernel_rfl) rfl #[.int .i64 t551] rfl (mA1 rfl) ?_; (with_reducible refine (dancestudioref35_numbered.calls t551 false _ A64.out).mono ?_); rintro e w' ⟨rfl, ⟨nd, rfl⟩⟩; refine ⟨_, rfl, ?_⟩; obtain ⟨Ao101, co101, eo101⟩ := Kd.V_slice HO_7.out; subst eo101) | ((with_reducible refine gate_callee (f := 66) rfl ?_); refine goesL_ (some 104) rfl rfl Tryd.func66 (by kernel_rfl) rfl #[.slice Ao101 x7_18.length co101, .string (⟨#[41]⟩ : ByteArray)] rfl (mA2 rfl rfl) ?_; (with_reducible refine (dancestudioref35_is.calls _ _ x7_18 (⟨#[41]⟩ : ByteArray) false _ ?side1 ?side2 A93.out).mono ?_); (case side1 => exact (Kd.V_reads' HO_7.out).2.2); (case side2 => exact (Kd.V_reads' HO_7.out).2.1); rintro e w' ⟨rfl, ⟨nd, rfl⟩⟩; refine ⟨_, rfl, ?_⟩))
             go_ret3
             exact ⟨_, _, rfl, by first | exact Kd.R_nil _ _ _ _ _ | exact Kd.N_nil _ _ _ _ _ | exact Kd.V_nil _ _ _ _ _ | exact Kd.Q_nil _ _ _ _ _ | exact Kd.S_nil _ _ _ _ _, Kd.V_nil _ _ _ _ _, hO HB⟩
        ·
         exact mNo c18 H
      ·
       exact mNo c12 H
     ·
      replace c11 := Bool.eq_false_iff.mpr c11
      subst c11
      have H1 : (if 0 < (l0.length : Int) then (some ((([(⟨1, rdOf ByteArray.empty l0 0, 0, 0⟩ : S43)] : List (S43))), (l0.drop 1), true)) else (none)) = some (r1, r2, r3) := by rw [if_neg (show ¬ (false = true) by decide)] at H; exact H
      clear H
      have H := H1
      clear H1
      by_cases c102 : 0 < (l0.length : Int)
      ·
       rw [if_pos c102] at H
       have c102b0 := decide_eq_true c102
       have c102b1 : decide (0 < l0.length) = true := decide_eq_true (by omega)
       clear c102
       obtain ⟨y542, hy542⟩ : ∃ y_ : List (S43), y_ = (([(⟨1, rdOf ByteArray.empty l0 0, 0, 0⟩ : S43)] : List (S43))) := ⟨_, rfl⟩
       replace H : (some (y542, (l0.drop 1), true)) = some (r1, r2, r3) := by first | (rw [hy542]; with_reducible exact H) | (have H2_ := (Option.bind_some _ _).symm.trans H; rw [hy542]; with_reducible exact H2_) | (have H2_ := (Option.bind_some _ _).symm.trans H; with_reducible exact H2_) | with_reducible exact H | (rw [hy542]; exact H) | exact H
       have Ny542 := Aside0.mk hy542
       clear hy542
       have c103b0 := eq_true (of_decide_eq_true (by assumption) : 1 ≤ (l0.length : Int))
       obtain ⟨y545, hy545⟩ : ∃ y_ : List ByteArray, y_ = (l0.drop 1) := ⟨_, rfl⟩
       replace H : (some (y542, y545, true)) = some (r1, r2, r3) := by first | (rw [hy545]; with_reducible exact H) | (have H2_ := (Option.bind_some _ _).symm.trans H; rw [hy545]; with_reducible exact H2_) | (have H2_ := (Option.bind_some _ _).symm.trans H; with_reducible exact H2_) | with_reducible exact H | (rw [hy545]; exact H) | exact H
       have Ny545 := Aside0.mk hy545
       clear hy545
       simp only [Option.some.injEq, Prod.mk.injEq] at H
       obtain ⟨rfl, rfl, rfl⟩ := H
       have q104 : (1 : Int) ≤ ((l0.length : Int) : Int) := of_decide_eq_true (by assumption)
       obtain ⟨i0104, hi0104, _, hsz104, _⟩ := info_parts info9
       have hroom104 : l0.length ≤ c0 := (Kd.V_reads' HO_0.out).2.1
       have hC104 : Kd.F Kd.string _ _ A0 l0.length l0 := (Kd.V_at (base := w.heap.size) HO_0.out).2.2
       have hcut104 := cut_from (P := Tryd.prog) 28 9 .i64 Tryd.underlying28 hi0104 1 hsz104 A0 l0.length c0 1 (by omega) q104
       have hr104 := Kd.F_cut (m := (1 : Int).toNat) (c := c0) hC104 (by omega) hroom104
       obtain ⟨A104, hA104⟩ : ∃ A1, A1 = (if c0 = (1 : Int).toNat then A0 else (A0 : Option Addr).map (·.add ((1 : Int).toNat * 1))) := ⟨_, rfl⟩
       obtain ⟨c104, hc104⟩ : ∃ c1, c1 = c0 - (1 : Int).toNat := ⟨_, rfl⟩
       have hy104 : y535.length = l0.length - (1 : Int).toNat := (by rw [Ny535.out, List.length_drop] <;> omega)
       rw [show (l0).drop (1 : Int).toNat = y535 from Ny535.out.symm] at hr104
       replace hr104 : Kd.F Kd.string _ _ A104 y535.length y535 := (by rw [hA104]; exact hr104)
       rw [← hy104, ← hA104, ← hc104] at hcut104
       have HO539 := Aside0.mk (show Kd.V Kd.string 9 _ w.heap.size _ (.slice A104 y535.length c104) y535 from Kd.V_mk (by rw [hy104, hc104]; exact Nat.sub_le_sub_right hroom104 _) hr104)
       have HC539 := Aside0.mk (show y535.length ≤ c104 from by rw [hy104, hc104]; exact Nat.sub_le_sub_right hroom104 _)
       clear hr104 hC104 hroom104 hi0104 hsz104 hc104
       have KY104 := Aside0.mk hy104
       have KA104 := Aside0.mk hA104
       clear hy104 hA104
       replace q104 := eq_true q104
       try go_wp2_with (first | ((with_reducible refine gate_callee (f := 66) rfl ?_); refine goesL_ (some 26) rfl rfl Tryd.func66 (by kernel_rfl) rfl #[.slice A104 y535.length c104, .string (⟨#[40]⟩ : ByteArray)] rfl (mA2 rfl rfl) ?_; (with_reducible refine (dancestudioref35_is.calls _ _ y535 (⟨#[40]⟩ : ByteArray) false _ ((Kd.V_reads' HO539.out).2.2) ((Kd.V_reads' HO539.out).2.1) A10.out).mono ?_); rintro e w' ⟨rfl, ⟨nd, rfl⟩⟩; refine ⟨_, rfl, ?_⟩))
       (try (rw [drewN_self wc]; generalize hq_ : World.drewN wc _ = wc; have n0_ : Aside0 (Kd.V Kd.string 9 wc w.heap.size (fun k_ => (P0_ k_ ∨ w.heap.size ≤ k_)) (.slice A104 y535.length c104) y535) := ⟨by rw [← hq_]; exact HO539.out⟩; have n1_ : Aside0 (Kd.V Kd.string 9 wc w.heap.size (fun k_ => (P0_ k_ ∨ w.heap.size ≤ k_)) (.slice A0 l0.length c0) l0) := ⟨by rw [← hq_]; exact HO_0.out⟩; have n2_ : Aside0 (Below w.heap.size w wc) := ⟨by rw [← hq_]; exact (hO HB)⟩; clear HO539 HO_0 HB hq_; have HO539 := n0_; have HO_0 := n1_; have HB := n2_; clear n0_ n1_ n2_))
       have n0_ := Aside0.mk (Kd.V_drew HO_0.out)
       have n1_ := Aside0.mk (Kd.V_drew HO539.out)
       have n2_ := Aside0.mk (below_drew1 HB.out)
       clear HO_0 HO539 HB
       have HO_0 := n0_
       have HO539 := n1_
       have HB := n2_
       clear n0_ n1_ n2_
       have p541 : 0 ≤ (0 : Int) := (by omega)
       have q541 : 0 < (l0.length : Int) := of_decide_eq_true (by assumption)
       obtain ⟨ad541, e541, hx541_0⟩ := Kd.at_string (Kd.V_reads' HO_0.out).2.2 0 p541 q541
       cases e541
       have qi541 : (0 < l0.length) = True := eq_true (by omega)
       (try rw [show ((0 : Int)).toNat = 0 from rfl] at hx541_0)
       (try rw [Addr.add_zero'] at hx541_0)
       replace p541 := eq_true p541
       replace q541 := eq_true q541
       have q106 : (1 : Int) ≤ ((l0.length : Int) : Int) := of_decide_eq_true (by assumption)
       obtain ⟨i0106, hi0106, _, hsz106, _⟩ := info_parts info9
       have hroom106 : l0.length ≤ c0 := (Kd.V_reads' HO_0.out).2.1
       have hC106 : Kd.F Kd.string _ _ (some ad541) l0.length l0 := (Kd.V_at (base := w.heap.size) HO_0.out).2.2
       have hcut106 := cut_from (P := Tryd.prog) 28 9 .i64 Tryd.underlying28 hi0106 1 hsz106 (some ad541) l0.length c0 1 (by omega) q106
       have hr106 := Kd.F_cut (m := (1 : Int).toNat) (c := c0) hC106 (by omega) hroom106
       obtain ⟨A106, hA106⟩ : ∃ A1, A1 = (if c0 = (1 : Int).toNat then (some ad541) else ((some ad541) : Option Addr).map (·.add ((1 : Int).toNat * 1))) := ⟨_, rfl⟩
       obtain ⟨c106, hc106⟩ : ∃ c1, c1 = c0 - (1 : Int).toNat := ⟨_, rfl⟩
       have hy106 : y545.length = l0.length - (1 : Int).toNat := (by rw [Ny545.out, List.length_drop] <;> omega)
       rw [show (l0).drop (1 : Int).toNat = y545 from Ny545.out.symm] at hr106
       replace hr106 : Kd.F Kd.string _ _ A106 y545.length y545 := (by rw [hA106]; exact hr106)
       rw [← hy106, ← hA106, ← hc106] at hcut106
       have HO549 := Aside0.mk (show Kd.V Kd.string 9 _ w.heap.size _ (.slice A106 y545.length c106) y545 from Kd.V_mk (by rw [hy106, hc106]; exact Nat.sub_le_sub_right hroom106 _) hr106)
       have HC549 := Aside0.mk (show y545.length ≤ c106 from by rw [hy106, hc106]; exact Nat.sub_le_sub_right hroom106 _)
       clear hr106 hC106 hroom106 hi0106 hsz106 hc106
       have KY106 := Aside0.mk hy106
       have KA106 := Aside0.mk hA106
       clear hy106 hA106
       replace q106 := eq_true q106
       refine start_ (n := 10) (S := fun w' => w'.cell? ad541 = some (.string (rdOf ByteArray.empty l0 0))) (ds := []) #[false, false, false, false, false, false, false, false, false, false] (by kernel_rfl) rfl rfl (hx541_0) (fun hHeld => ?_); refine with_tabW dancestudioref35_tree.tab4 dancestudioref35_tree.bits4 (fun HT_ HW_ => ?_)
       generalize wc.drew = w105 at HO_0 HO539 HB HO549 hx541_0 hHeld ⊢
       refine pM 0 28 HT_ ?_
       refine pM 1 29 HT_ ?_
       refine pM 5 33 HT_ ?_
       refine pM 6 34 HT_ ?_
       refine take_ (i := 2) (N := some 30) (v := ?_) (a' := ?_) #[true, true, true, false, false, true, true, false, false, false] rfl rfl (take_ofW HT_.out HW_.out (by kernel_rfl)) (fun _ _ _ h => h) (Or.inl ⟨by rfl, ?_⟩) hHeld ?_ ?_
       rotate_left
       ·
        intro w' s0
        go_simp
        with_reducible rfl
       rotate_left
       ·
        simp only [mP]
        rfl
       refine pM 3 31 HT_ ?_
       refine one_ (i := 4) (N := some 32) #[true, true, true, true, true, true, true, false, false, false] rfl rfl (one_of HT_.out (by kernel_rfl)) (by decide) (fun K hK => ?_)
       refine Kd.R_lit_step k43 _ 43 ?hg (N := 32) ?hd (xs := ([(⟨1, rdOf ByteArray.empty l0 0, 0, 0⟩ : S43)] : List (S43))) (inner := [.int .i64 1, .string (rdOf ByteArray.empty l0 0), .int .i64 0, .int .i64 0]) (ok := fun _ => True) (okp := fun _ => True) ?hr ?hp (fun _ hk => hk) trivial (Below.refl _ _) (Nat.le_refl _) (by simp) ?_; (case hd => rfl); (case hg => rfl); (case hr => first | (go_simp; done) | (go_simp; rfl)); (case hp => exact (Reps.c4 (show Kd.M k43 _ _ _ (⟨1, rdOf ByteArray.empty l0 0, 0, 0⟩ : S43) [.int .i64 1, .string (rdOf ByteArray.empty l0 0), .int .i64 0, .int .i64 0] from (k43_mkM _ _ _ (⟨1, rdOf ByteArray.empty l0 0, 0, 0⟩ : S43) )) (Reps.none _ _)))
       intro v543 w107 ho108 hb hg_ hnew_
       have HS0_ := (hb.cell (World.block_lt_of_cell? _ _ (hHeld))).trans (hHeld)
       clear hg_ hnew_
       (first | rw [← Ny542.out] at ho108 | (simp only [Int.reduceToNat] at ho108; rw [← Ny542.out] at ho108))
       have n0_ := Aside0.mk (Kd.V_elder' HO_0.out (Kd.R_base ho108) hb)
       have n1_ := Aside0.mk (Kd.V_elder' HO539.out (Kd.R_base ho108) hb)
       have n2_ := Aside0.mk (Kd.V_elder' HO549.out (Kd.R_base ho108) hb)
       have n3_ := Aside0.mk (Kd.R_lower (Kd.R_newM (M := fun k_ => (w.heap.size ≤ k_)) ho108 (below_size (hO HB)) (fun k_ h_ => h_)) (below_size (hO HB)))
       have n4_ := mSx HB hb
       clear HO_0 HO539 HO549 HB
       have HO_0 := n0_
       have HO539 := n1_
       have HO549 := n2_
       have HO544 := n3_
       have HB := n4_
       clear n0_ n1_ n2_ n3_ n4_ hb ho108
       refine hK.out _ _ (HS0_) (fun hHeld => ?_)
       clear hK K
       refine norm_ (by show Act.put _ (some 32) _ = _; simp only [mP]; rfl) ?_
       refine pM 7 2 HT_ ?_
       refine pM 8 3 HT_ ?_
       refine pM 9 4 HT_ ?_
       refine done_ (done_of HT_.out (by kernel_rfl)) ?_
       try go_wp2
       go_ret3
       exact ⟨_, _, rfl, by exact Kd.R_mono HO544.out (fun _ hk => hk.1), by (with_reducible repeat (first | apply Kd.V_alloc | apply Kd.V_drewN | apply Kd.V_drew)); (first | exact HO549.out | (rw [show y545 = y535 from by rw [Ny545.out, Ny535.out]]; exact HO539.out)), hO HB⟩
      ·
       exact mNo c102 H
    ·
     exact mNo c9 H
end Go.Proofs.YtimikhbnihedkaaDoor.PAll
