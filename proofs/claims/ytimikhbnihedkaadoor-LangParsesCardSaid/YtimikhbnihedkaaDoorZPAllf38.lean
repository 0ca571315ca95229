import Derived.Test.YtimikhbnihedkaaDoorZMC0
import Derived.Test.YtimikhbnihedkaaDoorZPAllf64
import Derived.Test.YtimikhbnihedkaaDoorZPAllf65
namespace Go.Proofs.YtimikhbnihedkaaDoor.PAll
open Go.RowKit Go.Proofs.YtimikhbnihedkaaDoorW.PrintWords Go.Proofs.YtimikhbnihedkaaDoorW.PrintLast Go.Proofs.YtimikhbnihedkaaDoorW.PrintMore
attribute [local go_sem] max2_int min2_int max_two min_two max_three min_three max_four min_four
set_option linter.unusedVariables false
set_option linter.unusedSimpArgs false

/-! ### dancestudioref35_parts: function 38 -/
mutual
def dancestudioref35_parts.l0 : Nat → ByteArray → List ByteArray → Int → Option (List ByteArray × Bool)
 | 0, _, _, _ => none
 | k + 1, x0, x4, x5 => if x5 < (x0.size : Int) then (if 0 ≤ x5 then ((dancestudioref35_small.f (bt x0 x5)).bind fun t507 => (if t507 = true then (dancestudioref35_parts.l1 k x0 x4 x5 1) else ((dancestudioref35_digit.f (bt x0 x5)).bind fun t516 => (if t516 = true then (dancestudioref35_parts.l2 k x0 x4 x5 1) else (if (bt x0 x5) = 32 then (dancestudioref35_parts.j3 k x0 x4 x5 1 false) else (if (bt x0 x5) = 40 then (dancestudioref35_parts.j3 k x0 x4 x5 1 false) else (if (bt x0 x5) = 41 then (dancestudioref35_parts.j3 k x0 x4 x5 1 false) else (dancestudioref35_parts.j3 k x0 x4 x5 1 ((bt x0 x5) != 44))))))))) else (none)) else (some (x4, true))
def dancestudioref35_parts.l1 : Nat → ByteArray → List ByteArray → Int → Int → Option (List ByteArray × Bool)
 | 0, _, _, _, _ => none
 | k + 1, x0, x4, x5, x6 => if (wrap64 (x5 + x6)) < (x0.size : Int) then (if 0 ≤ (wrap64 (x5 + x6)) then ((dancestudioref35_small.f (bt x0 (wrap64 (x5 + x6)))).bind fun t508 => (if t508 = true then (dancestudioref35_parts.l1 k x0 x4 x5 (wrap64 (x6 + 1))) else ((dancestudioref35_digit.f (bt x0 (wrap64 (x5 + x6)))).bind fun t509 => (if t509 = true then (dancestudioref35_parts.l1 k x0 x4 x5 (wrap64 (x6 + 1))) else (if (bt x0 (wrap64 (x5 + x6))) = 45 then (dancestudioref35_parts.l1 k x0 x4 x5 (wrap64 (x6 + 1))) else (if 0 ≤ x5 then (if x5 < (x0.size : Int) then (if (bt x0 x5) = 32 then (dancestudioref35_parts.l0 k x0 x4 (wrap64 (x5 + x6))) else (if x5 ≤ (wrap64 (x5 + x6)) then (if (wrap64 (x5 + x6)) ≤ (x0.size : Int) then (if x4.length < 8796093022208 then (dancestudioref35_parts.l0 k x0 (x4 ++ [x0.extract (x5 : Int).toNat ((wrap64 (x5 + x6)) : Int).toNat]) (wrap64 (x5 + x6))) else (none)) else (none)) else (none))) else (none)) else (none))))))) else (none)) else (if 0 ≤ x5 then (if x5 < (x0.size : Int) then (if (bt x0 x5) = 32 then (dancestudioref35_parts.l0 k x0 x4 (wrap64 (x5 + x6))) else (if x5 ≤ (wrap64 (x5 + x6)) then (if (wrap64 (x5 + x6)) ≤ (x0.size : Int) then (if x4.length < 8796093022208 then (dancestudioref35_parts.l0 k x0 (x4 ++ [x0.extract (x5 : Int).toNat ((wrap64 (x5 + x6)) : Int).toNat]) (wrap64 (x5 + x6))) else (none)) else (none)) else (none))) else (none)) else (none))
def dancestudioref35_parts.l2 : Nat → ByteArray → List ByteArray → Int → Int → Option (List ByteArray × Bool)
 | 0, _, _, _, _ => none
 | k + 1, x0, x4, x5, x6 => if (wrap64 (x5 + x6)) < (x0.size : Int) then (if 0 ≤ (wrap64 (x5 + x6)) then ((dancestudioref35_small.f (bt x0 (wrap64 (x5 + x6)))).bind fun t517 => (if t517 = true then (dancestudioref35_parts.l2 k x0 x4 x5 (wrap64 (x6 + 1))) else ((dancestudioref35_digit.f (bt x0 (wrap64 (x5 + x6)))).bind fun t518 => (if t518 = true then (dancestudioref35_parts.l2 k x0 x4 x5 (wrap64 (x6 + 1))) else (if (bt x0 (wrap64 (x5 + x6))) = 45 then (dancestudioref35_parts.l2 k x0 x4 x5 (wrap64 (x6 + 1))) else (if 0 ≤ x5 then (if x5 < (x0.size : Int) then (if (bt x0 x5) = 32 then (dancestudioref35_parts.l0 k x0 x4 (wrap64 (x5 + x6))) else (if x5 ≤ (wrap64 (x5 + x6)) then (if (wrap64 (x5 + x6)) ≤ (x0.size : Int) then (if x4.length < 8796093022208 then (dancestudioref35_parts.l0 k x0 (x4 ++ [x0.extract (x5 : Int).toNat ((wrap64 (x5 + x6)) : Int).toNat]) (wrap64 (x5 + x6))) else (none)) else (none)) else (none))) else (none)) else (none))))))) else (none)) else (if 0 ≤ x5 then (if x5 < (x0.size : Int) then (if (bt x0 x5) = 32 then (dancestudioref35_parts.l0 k x0 x4 (wrap64 (x5 + x6))) else (if x5 ≤ (wrap64 (x5 + x6)) then (if (wrap64 (x5 + x6)) ≤ (x0.size : Int) then (if x4.length < 8796093022208 then (dancestudioref35_parts.l0 k x0 (x4 ++ [x0.extract (x5 : Int).toNat ((wrap64 (x5 + x6)) : Int).toNat]) (wrap64 (x5 + x6))) else (none)) else (none)) else (none))) else (none)) else (none))
def dancestudioref35_parts.j3 : Nat → ByteArray → List ByteArray → Int → Int → Bool → Option (List ByteArray × Bool)
 | 0, _, _, _, _, _ => none
 | k + 1, x0, x4, x5, x6, x104 => if x104 = true then (some (([] : List ByteArray), false)) else (if 0 ≤ x5 then (if x5 < (x0.size : Int) then (if (bt x0 x5) = 32 then (dancestudioref35_parts.l0 k x0 x4 (wrap64 (x5 + x6))) else (if x5 ≤ (wrap64 (x5 + x6)) then (if (wrap64 (x5 + x6)) ≤ (x0.size : Int) then (if x4.length < 8796093022208 then (dancestudioref35_parts.l0 k x0 (x4 ++ [x0.extract (x5 : Int).toNat ((wrap64 (x5 + x6)) : Int).toNat]) (wrap64 (x5 + x6))) else (none)) else (none)) else (none))) else (none)) else (none))
end
def dancestudioref35_parts.f (k : Nat) (a0 : ByteArray) : Option (List ByteArray × Bool) := dancestudioref35_parts.l0 k a0 ([] : List ByteArray) 0
set_option maxHeartbeats 8000000 in
set_option maxRecDepth 100000 in
theorem dancestudioref35_parts.calls (k : Nat) (a0 : ByteArray) (r1 : List ByteArray) (r2 : Bool) (w : World) (h : dancestudioref35_parts.f k a0 = some (r1, r2)) :
  Calls Tryd.prog 38 #[.string a0] w fun e w' => ∃ v0_ : Value, e = .returned (.tuple #[v0_, .bool r2]) ∧ Kd.R Kd.string 9 w' w.heap.size (fun _ => True) v0_ r1 ∧ Below w.heap.size w w' := by
 have HB := Aside0.mk (Below.refl w.heap.size w)
 have H := h
 unfold dancestudioref35_parts.f at H
 clear h
 have H' := Aside0.mk H
 clear H
 go_enter Tryd.func38, Tryd.ntmps38
 go_wp2
 go_loopg [4, 5] k (fun kq v4 v5 w' => ∃ (x4_1 : List ByteArray) (x5_1 : Int), v5 = .int .i64 x5_1 ∧ Aside0 (dancestudioref35_parts.l0 kq a0 x4_1 x5_1 = some (r1, r2)) ∧ Aside0 (kq ≤ k) ∧ Aside0 (Kd.R Kd.string 9 w' w.heap.size (fun _ => True) v4 x4_1) ∧ Aside0 (Below w.heap.size w w'))
 case atStart => exact ⟨(([] : List ByteArray)), (0), rfl, H', ⟨Nat.le_refl _⟩, ⟨by first | exact Kd.R_nil _ _ _ _ _ | exact Kd.N_nil _ _ _ _ _ | exact Kd.V_nil _ _ _ _ _ | exact Kd.Q_nil _ _ _ _ _ | exact Kd.S_nil _ _ _ _ _⟩, ⟨HB.out⟩⟩
 case round =>
  clear H'
  obtain ⟨x4_1, x5_1, rfl, HA, HK1, HO_4, HB⟩ := hrel
  cases gk with
  | zero => exact absurd HA.out (by simp [dancestudioref35_parts.l0])
  | succ k1 =>
   have H := HA.out
   clear HA
   simp only [dancestudioref35_parts.l0] at H
   by_cases c2 : x5_1 < (a0.size : Int)
   rotate_left
   ·
    rw [if_neg c2] at H
    have c2b0 := decide_eq_false c2
    clear c2
    simp only [Option.some.injEq, Prod.mk.injEq] at H
    obtain ⟨rfl, rfl⟩ := H
    go_wp2
    go_ret2
    exact ⟨_, rfl, by exact HO_4.out, HB.out⟩
   rw [if_pos c2] at H
   have c2b0 := decide_eq_true c2
   clear c2
   obtain ⟨c3, H⟩ : (0 ≤ x5_1) ∧ _ := mIf H
   have c3b0 := decide_eq_true c3
   clear c3
   replace H := Option.bind_eq_some_iff.mp H
   obtain ⟨t507, A50, H⟩ := H
   try dsimp only at H
   have A5 := Aside0.mk A50
   clear A50
   by_cases c6 : t507 = true
   ·
    subst c6
    rw [if_pos rfl] at H
    have H' := Aside0.mk H
    clear H
    have p4 : 0 ≤ (x5_1 : Int) := of_decide_eq_true (by assumption)
    have q4 : x5_1 < (a0.size : Int) := of_decide_eq_true (by assumption)
    have hx4 := bt_at a0 x5_1
    replace p4 := eq_true p4
    replace q4 := eq_true q4
    go_wp2_with (first | ((with_reducible refine gate_callee (f := 64) rfl ?_); refine goesL_ (some 14) rfl rfl Tryd.func64 (by kernel_rfl) rfl #[.int .u8 (bt a0 x5_1)] rfl (mA1 rfl) ?_; (with_reducible refine (dancestudioref35_small.calls (bt a0 x5_1) true _ A5.out).mono ?_); rintro e w' ⟨rfl, ⟨nd, rfl⟩⟩; refine ⟨_, rfl, ?_⟩))
    (try simp only [Act.put, List.setIfInBounds_toArray, List.set_cons_zero, List.set_cons_succ])
    go_loopg [6] k1 (fun kq v6 w' => ∃ (x6_2 : Int), v6 = .int .i64 x6_2 ∧ Aside0 (dancestudioref35_parts.l1 kq a0 x4_1 x5_1 x6_2 = some (r1, r2)) ∧ Aside0 (kq ≤ k1) ∧ Aside0 (Kd.R Kd.string 9 w' w.heap.size (fun _ => True) u4 x4_1) ∧ Aside0 (Below w.heap.size w w'))
    case atStart => exact ⟨(1), rfl, H', ⟨Nat.le_refl _⟩, HO_4, ⟨hO HB⟩⟩
    case round =>
     clear H'
     try clear c2; try clear c2b0; try clear p2; try clear c3; try clear c3b0; try clear p4; try clear q4; try clear hx4; try clear c6
     obtain ⟨x6_2, rfl, HA, HK2, HO_4, HB⟩ := hrel
     cases gk with
     | zero => exact absurd HA.out (by simp [dancestudioref35_parts.l1])
     | succ k2 =>
      have H := HA.out
      clear HA
      simp only [dancestudioref35_parts.l1] at H
      by_cases c7 : (wrap64 (x5_1 + x6_2)) < (a0.size : Int)
      rotate_left
      ·
       rw [if_neg c7] at H
       have c7b0 := decide_eq_false c7
       clear c7
       obtain ⟨c27, H⟩ : (0 ≤ x5_1) ∧ _ := mIf H
       have c27b0 := decide_eq_true c27
       clear c27
       obtain ⟨c28, H⟩ : (x5_1 < (a0.size : Int)) ∧ _ := mIf H
       have c28b0 := decide_eq_true c28
       clear c28
       by_cases c30 : (bt a0 x5_1) = 32
       ·
        rw [if_pos c30] at H
        have c30b0 := beq_iff_eq.mpr c30
        have c30b1 := bne_eq_false_iff_eq.mpr c30
        clear c30
        have H' := Aside0.mk H
        clear H
        have p29 : 0 ≤ (x5_1 : Int) := of_decide_eq_true (by assumption)
        have q29 : x5_1 < (a0.size : Int) := of_decide_eq_true (by assumption)
        have hx29 := bt_at a0 x5_1
        replace p29 := eq_true p29
        replace q29 := eq_true q29
        go_wp2
        go_roundg k2
        case measure => have := HK1.out; have := HK2.out; omega
        case rel => exact ⟨(x4_1), (wrap64 (x5_1 + x6_2)), rfl, H', ⟨by have := HK1.out; have := HK2.out; omega⟩, HO_4, ⟨HB.out⟩⟩
       rw [if_neg c30] at H
       have c30b0 := beq_eq_false_iff_ne.mpr c30
       have c30b1 := bne_iff_ne.mpr c30
       have c31b0 := eq_true (of_decide_eq_true (by assumption) : 0 ≤ x5_1)
       obtain ⟨c32, H⟩ : (x5_1 ≤ (wrap64 (x5_1 + x6_2))) ∧ _ := mIf H
       have c32b0 := eq_true c32
       have c32b1 := decide_eq_true c32
       obtain ⟨c33, H⟩ : ((wrap64 (x5_1 + x6_2)) ≤ (a0.size : Int)) ∧ _ := mIf H
       have c33b0 := eq_true c33
       have c33b1 := decide_eq_true c33
       obtain ⟨c34, H⟩ : (x4_1.length < 8796093022208) ∧ _ := mIf H
       have LMc34 := Aside0.mk c34
       clear c34
       obtain ⟨y513, hy513⟩ : ∃ y_ : List ByteArray, y_ = (x4_1 ++ [a0.extract (x5_1 : Int).toNat ((wrap64 (x5_1 + x6_2)) : Int).toNat]) := ⟨_, rfl⟩
       rw [← hy513] at H
       have Ny513 := Aside0.mk hy513
       clear hy513
       have H' := Aside0.mk H
       clear H
       have p29 : 0 ≤ (x5_1 : Int) := of_decide_eq_true (by assumption)
       have q29 : x5_1 < (a0.size : Int) := of_decide_eq_true (by assumption)
       have hx29 := bt_at a0 x5_1
       replace p29 := eq_true p29
       replace q29 := eq_true q29
       go_wp2_with (first | ((with_reducible refine gate_builtin (b := .append) (xs := #[.tmp 109, .tmp 116]) rfl ?_); at_builtin; refine Kd.R_append Kd.string (w0 := w) w.heap.size rfl (.tmp 109) (.tmp 116) 28 9 (.string ⟨#[]⟩) 16 rfl Tryd.underlying28 info9 rfl (by decide) (by omega) u4 x4_1 (a0.extract (x5_1 : Int).toNat ((wrap64 (x5_1 + x6_2)) : Int).toNat) [.string (a0.extract (x5_1 : Int).toNat ((wrap64 (x5_1 + x6_2)) : Int).toNat)] (fun _ => True) (fun _ => False) rfl rfl ?aP (fun _ hk => hk.elim) ?aF ?aO ?aB ?aS ?aL ?_; (case aP => exact rfl); (case aB => exact HB.out); (case aF => exact (fun _ _ => trivial)); (case aO => exact HO_4.out); (case aS => exact (below_size HB.out)); (case aL => have := LMc34.out; omega); intro v514 w35 ho hb hg hat; rw [← Ny513.out] at ho; replace HB := Aside0.mk hb; have HO515 := Aside0.mk ho; clear HO_4; clear ho hb hg hat))
       go_roundg k2
       case measure => have := HK1.out; have := HK2.out; omega
       case rel => exact ⟨(y513), (wrap64 (x5_1 + x6_2)), rfl, H', ⟨by have := HK1.out; have := HK2.out; omega⟩, HO515, ⟨HB.out⟩⟩
      rw [if_pos c7] at H
      have c7b0 := decide_eq_true c7
      clear c7
      obtain ⟨ji8, hji8⟩ : ∃ j_ : Int, (wrap64 (x5_1 + x6_2)) = j_ := ⟨_, rfl⟩
      replace H : (if 0 ≤ (ji8) then ((dancestudioref35_small.f (bt a0 (ji8))).bind fun t508 => (if t508 = true then (dancestudioref35_parts.l1 k2 a0 x4_1 x5_1 (wrap64 (x6_2 + 1))) else ((dancestudioref35_digit.f (bt a0 (ji8))).bind fun t509 => (if t509 = true then (dancestudioref35_parts.l1 k2 a0 x4_1 x5_1 (wrap64 (x6_2 + 1))) else (if (bt a0 (ji8)) = 45 then (dancestudioref35_parts.l1 k2 a0 x4_1 x5_1 (wrap64 (x6_2 + 1))) else (if 0 ≤ x5_1 then (if x5_1 < (a0.size : Int) then (if (bt a0 x5_1) = 32 then (dancestudioref35_parts.l0 k2 a0 x4_1 ji8) else (if x5_1 ≤ (ji8) then (if (ji8) ≤ (a0.size : Int) then (if x4_1.length < 8796093022208 then (dancestudioref35_parts.l0 k2 a0 (x4_1 ++ [a0.extract (x5_1 : Int).toNat ((ji8) : Int).toNat]) ji8) else (none)) else (none)) else (none))) else (none)) else (none))))))) else (none)) = some (r1, r2) := by first | (rw [hji8] at H; exact H) | (simp only [hji8] at H ⊢; exact H)
      (try rw [hji8] at c7b0)
      have hji8w : (IntKind.i64.wrap (x5_1 + x6_2)) = ji8 := (i64_w _).trans hji8
      obtain ⟨c9, H⟩ : (0 ≤ (ji8)) ∧ _ := mIf H
      have c9b0 := decide_eq_true c9
      clear c9
      replace H := Option.bind_eq_some_iff.mp H
      obtain ⟨t508, A110, H⟩ := H
      try dsimp only at H
      have A11 := Aside0.mk A110
      clear A110
      by_cases c12 : t508 = true
      ·
       subst c12
       rw [if_pos rfl] at H
       have H' := Aside0.mk H
       clear H
       have p10 : 0 ≤ ((ji8) : Int) := of_decide_eq_true (by assumption)
       have q10 : (ji8) < (a0.size : Int) := of_decide_eq_true (by assumption)
       have hx10 := bt_at a0 (ji8)
       replace p10 := eq_true p10
       replace q10 := eq_true q10
       go_wp2_with (first | (go_at_call 64; (with_reducible refine (dancestudioref35_small.calls (bt a0 (ji8)) true _ A11.out).mono ?_); rintro e w' ⟨rfl, ⟨nd, rfl⟩⟩))
       go_roundg k2
       case measure => have := HK1.out; have := HK2.out; omega
       case rel => exact ⟨(wrap64 (x6_2 + 1)), rfl, H', ⟨by have := HK1.out; have := HK2.out; omega⟩, HO_4, ⟨hO HB⟩⟩
      replace c12 := Bool.eq_false_iff.mpr c12
      subst c12
      rw [if_neg (show ¬ (false = true) by decide)] at H
      replace H := Option.bind_eq_some_iff.mp H
      obtain ⟨t509, A140, H⟩ := H
      try dsimp only at H
      have A14 := Aside0.mk A140
      clear A140
      by_cases c15 : t509 = true
      ·
       subst c15
       rw [if_pos rfl] at H
       have H' := Aside0.mk H
       clear H
       have p10 : 0 ≤ ((ji8) : Int) := of_decide_eq_true (by assumption)
       have q10 : (ji8) < (a0.size : Int) := of_decide_eq_true (by assumption)
       have hx10 := bt_at a0 (ji8)
       replace p10 := eq_true p10
       replace q10 := eq_true q10
       go_wp2_with (first | (go_at_call 64; (with_reducible refine (dancestudioref35_small.calls (bt a0 (ji8)) false _ A11.out).mono ?_); rintro e w' ⟨rfl, ⟨nd, rfl⟩⟩; have p13 : 0 ≤ ((ji8) : Int) := of_decide_eq_true (by assumption); have q13 : (ji8) < (a0.size : Int) := of_decide_eq_true (by assumption); have hx13 := bt_at a0 (ji8); replace p13 := eq_true p13; replace q13 := eq_true q13) | (go_at_call 65; (with_reducible refine (dancestudioref35_digit.calls (bt a0 (ji8)) true _ A14.out).mono ?_); rintro e w' ⟨rfl, ⟨nd, rfl⟩⟩))
       go_roundg k2
       case measure => have := HK1.out; have := HK2.out; omega
       case rel => exact ⟨(wrap64 (x6_2 + 1)), rfl, H', ⟨by have := HK1.out; have := HK2.out; omega⟩, HO_4, ⟨hO HB⟩⟩
      replace c15 := Bool.eq_false_iff.mpr c15
      subst c15
      rw [if_neg (show ¬ (false = true) by decide)] at H
      by_cases c17 : (bt a0 (ji8)) = 45
      ·
       rw [if_pos c17] at H
       have c17b0 := beq_iff_eq.mpr c17
       have c17b1 := bne_eq_false_iff_eq.mpr c17
       clear c17
       have H' := Aside0.mk H
       clear H
       have p10 : 0 ≤ ((ji8) : Int) := of_decide_eq_true (by assumption)
       have q10 : (ji8) < (a0.size : Int) := of_decide_eq_true (by assumption)
       have hx10 := bt_at a0 (ji8)
       replace p10 := eq_true p10
       replace q10 := eq_true q10
       go_wp2_with (first | (go_at_call 64; (with_reducible refine (dancestudioref35_small.calls (bt a0 (ji8)) false _ A11.out).mono ?_); rintro e w' ⟨rfl, ⟨nd, rfl⟩⟩; have p13 : 0 ≤ ((ji8) : Int) := of_decide_eq_true (by assumption); have q13 : (ji8) < (a0.size : Int) := of_decide_eq_true (by assumption); have hx13 := bt_at a0 (ji8); replace p13 := eq_true p13; replace q13 := eq_true q13) | (go_at_call 65; (with_reducible refine (dancestudioref35_digit.calls (bt a0 (ji8)) false _ A14.out).mono ?_); rintro e w' ⟨rfl, ⟨nd, rfl⟩⟩; have p16 : 0 ≤ ((ji8) : Int) := of_decide_eq_true (by assumption); have q16 : (ji8) < (a0.size : Int) := of_decide_eq_true (by assumption); have hx16 := bt_at a0 (ji8); replace p16 := eq_true p16; replace q16 := eq_true q16))
       go_roundg k2
       case measure => have := HK1.out; have := HK2.out; omega
       case rel => exact ⟨(wrap64 (x6_2 + 1)), rfl, H', ⟨by have := HK1.out; have := HK2.out; omega⟩, HO_4, ⟨hO HB⟩⟩
      rw [if_neg c17] at H
      have c17b0 := beq_eq_false_iff_ne.mpr c17
      have c17b1 := bne_iff_ne.mpr c17
      obtain ⟨c18, H⟩ : (0 ≤ x5_1) ∧ _ := mIf H
      have c18b0 := decide_eq_true c18
      clear c18
      obtain ⟨c19, H⟩ : (x5_1 < (a0.size : Int)) ∧ _ := mIf H
      have c19b0 := decide_eq_true c19
      clear c19
      by_cases c21 : (bt a0 x5_1) = 32
      ·
       rw [if_pos c21] at H
       have c21b0 := beq_iff_eq.mpr c21
       have c21b1 := bne_eq_false_iff_eq.mpr c21
       clear c21
       have H' := Aside0.mk H
       clear H
       have p10 : 0 ≤ ((ji8) : Int) := of_decide_eq_true (by assumption)
       have q10 : (ji8) < (a0.size : Int) := of_decide_eq_true (by assumption)
       have hx10 := bt_at a0 (ji8)
       replace p10 := eq_true p10
       replace q10 := eq_true q10
       go_wp2_with (first | (go_at_call 64; (with_reducible refine (dancestudioref35_small.calls (bt a0 (ji8)) false _ A11.out).mono ?_); rintro e w' ⟨rfl, ⟨nd, rfl⟩⟩; have p13 : 0 ≤ ((ji8) : Int) := of_decide_eq_true (by assumption); have q13 : (ji8) < (a0.size : Int) := of_decide_eq_true (by assumption); have hx13 := bt_at a0 (ji8); replace p13 := eq_true p13; replace q13 := eq_true q13) | (go_at_call 65; (with_reducible refine (dancestudioref35_digit.calls (bt a0 (ji8)) false _ A14.out).mono ?_); rintro e w' ⟨rfl, ⟨nd, rfl⟩⟩; have p16 : 0 ≤ ((ji8) : Int) := of_decide_eq_true (by assumption); have q16 : (ji8) < (a0.size : Int) := of_decide_eq_true (by assumption); have hx16 := bt_at a0 (ji8); replace p16 := eq_true p16; replace q16 := eq_true q16; have p20 : 0 ≤ (x5_1 : Int) := of_decide_eq_true (by assumption); have q20 : x5_1 < (a0.size : Int) := of_decide_eq_true (by assumption); have hx20 := bt_at a0 x5_1; replace p20 := eq_true p20; replace q20 := eq_true q20))
       go_roundg k2
       case measure => have := HK1.out; have := HK2.out; omega
       case rel => exact ⟨(x4_1), (ji8), (by first | rfl | (simp; done) | (simp only [← hji8] <;> (first | rfl | simp)) | (simp [*]; done)), H', ⟨by have := HK1.out; have := HK2.out; omega⟩, HO_4, ⟨hO HB⟩⟩
      rw [if_neg c21] at H
      have c21b0 := beq_eq_false_iff_ne.mpr c21
      have c21b1 := bne_iff_ne.mpr c21
      have c22b0 := eq_true (of_decide_eq_true (by assumption) : 0 ≤ x5_1)
      obtain ⟨c23, H⟩ : (x5_1 ≤ (ji8)) ∧ _ := mIf H
      have c23b0 := eq_true c23
      have c23b1 := decide_eq_true c23
      clear c23
      obtain ⟨c24, H⟩ : ((ji8) ≤ (a0.size : Int)) ∧ _ := mIf H
      have c24b0 := eq_true c24
      have c24b1 := decide_eq_true c24
      clear c24
      obtain ⟨c25, H⟩ : (x4_1.length < 8796093022208) ∧ _ := mIf H
      have LMc25 := Aside0.mk c25
      clear c25
      obtain ⟨y510, hy510⟩ : ∃ y_ : List ByteArray, y_ = (x4_1 ++ [a0.extract (x5_1 : Int).toNat ((ji8) : Int).toNat]) := ⟨_, rfl⟩
      rw [← hy510] at H
      have Ny510 := Aside0.mk hy510
      clear hy510
      have H' := Aside0.mk H
      clear H
      have p10 : 0 ≤ ((ji8) : Int) := of_decide_eq_true (by assumption)
      have q10 : (ji8) < (a0.size : Int) := of_decide_eq_true (by assumption)
      have hx10 := bt_at a0 (ji8)
      replace p10 := eq_true p10
      replace q10 := eq_true q10
      go_wp2_with (first | (go_at_call 64; (with_reducible refine (dancestudioref35_small.calls (bt a0 (ji8)) false _ A11.out).mono ?_); rintro e w' ⟨rfl, ⟨nd, rfl⟩⟩; have p13 : 0 ≤ ((ji8) : Int) := of_decide_eq_true (by assumption); have q13 : (ji8) < (a0.size : Int) := of_decide_eq_true (by assumption); have hx13 := bt_at a0 (ji8); replace p13 := eq_true p13; replace q13 := eq_true q13) | (go_at_call 65; (with_reducible refine (dancestudioref35_digit.calls (bt a0 (ji8)) false _ A14.out).mono ?_); rintro e w' ⟨rfl, ⟨nd, rfl⟩⟩; have p16 : 0 ≤ ((ji8) : Int) := of_decide_eq_true (by assumption); have q16 : (ji8) < (a0.size : Int) := of_decide_eq_true (by assumption); have hx16 := bt_at a0 (ji8); replace p16 := eq_true p16; replace q16 := eq_true q16; have p20 : 0 ≤ (x5_1 : Int) := of_decide_eq_true (by assumption); have q20 : x5_1 < (a0.size : Int) := of_decide_eq_true (by assumption); have hx20 := bt_at a0 x5_1; replace p20 := eq_true p20; replace q20 := eq_true q20) | ((with_reducible refine gate_builtin (b := .append) (xs := #[.tmp 109, .tmp 116]) rfl ?_); at_builtin; refine Kd.R_append Kd.string (w0 := w) w.heap.size rfl (.tmp 109) (.tmp 116) 28 9 (.string ⟨#[]⟩) 16 rfl Tryd.underlying28 info9 rfl (by decide) (by omega) u4 x4_1 (a0.extract (x5_1 : Int).toNat ((ji8) : Int).toNat) [.string (a0.extract (x5_1 : Int).toNat ((ji8) : Int).toNat)] (fun _ => True) (fun _ => False) rfl rfl ?aP (fun _ hk => hk.elim) ?aF ?aO ?aB ?aS ?aL ?_; (case aP => exact rfl); (case aB => exact (hO HB)); (case aF => exact (fun _ _ => trivial)); (case aO => exact (rO HO_4)); (case aS => exact (below_size (hO HB))); (case aL => have := LMc25.out; omega); intro v511 w26 ho hb hg hat; rw [← Ny510.out] at ho; replace HB := Aside0.mk hb; have HO512 := Aside0.mk ho; clear HO_4; clear ho hb hg hat))
      go_roundg k2
      case measure => have := HK1.out; have := HK2.out; omega
      case rel => exact ⟨(y510), (ji8), (by first | rfl | (simp; done) | (simp only [← hji8] <;> (first | rfl | simp)) | (simp [*]; done)), H', ⟨by have := HK1.out; have := HK2.out; omega⟩, HO512, ⟨HB.out⟩⟩
   replace c6 := Bool.eq_false_iff.mpr c6
   subst c6
   rw [if_neg (show ¬ (false = true) by decide)] at H
   replace H := Option.bind_eq_some_iff.mp H
   obtain ⟨t516, A370, H⟩ := H
   try dsimp only at H
   have A37 := Aside0.mk A370
   clear A370
   by_cases c38 : t516 = true
   rotate_left
   ·
    replace c38 := Bool.eq_false_iff.mpr c38
    subst c38
    rw [if_neg (show ¬ (false = true) by decide)] at H
    have HC68 := Aside0.mk H
    clear H
    have p4 : 0 ≤ (x5_1 : Int) := of_decide_eq_true (by assumption)
    have q4 : x5_1 < (a0.size : Int) := of_decide_eq_true (by assumption)
    have hx4 := bt_at a0 x5_1
    replace p4 := eq_true p4
    replace q4 := eq_true q4
    go_upto_region 11 with (first | ((with_reducible refine gate_callee (f := 64) rfl ?_); refine goesL_ (some 14) rfl rfl Tryd.func64 (by kernel_rfl) rfl #[.int .u8 (bt a0 x5_1)] rfl (mA1 rfl) ?_; (with_reducible refine (dancestudioref35_small.calls (bt a0 x5_1) false _ A5.out).mono ?_); rintro e w' ⟨rfl, ⟨nd, rfl⟩⟩; refine ⟨_, rfl, ?_⟩; have p36 : 0 ≤ (x5_1 : Int) := of_decide_eq_true (by assumption); have q36 : x5_1 < (a0.size : Int) := of_decide_eq_true (by assumption); have hx36 := bt_at a0 x5_1; replace p36 := eq_true p36; replace q36 := eq_true q36) | ((with_reducible refine gate_callee (f := 65) rfl ?_); refine goesL_ (some 50) rfl rfl Tryd.func65 (by kernel_rfl) rfl #[.int .u8 (bt a0 x5_1)] rfl (mA1 rfl) ?_; (with_reducible refine (dancestudioref35_digit.calls (bt a0 x5_1) false _ A37.out).mono ?_); rintro e w' ⟨rfl, ⟨nd, rfl⟩⟩; refine ⟨_, rfl, ?_⟩))
    (try simp only [Act.put, List.setIfInBounds_toArray, List.set_cons_zero, List.set_cons_succ])
    go_cut [104] (fun v104 wc => ∃ (kq : Nat) (x104_67 : Bool), v104 = .bool x104_67 ∧ Aside0 (dancestudioref35_parts.j3 kq a0 x4_1 x5_1 1 x104_67 = some (r1, r2)) ∧ Aside0 (kq ≤ k1) ∧ Aside0 (Kd.R Kd.string 9 wc w.heap.size (fun _ => True) u4 x4_1) ∧ Aside0 (Below w.heap.size w wc))
    case first =>
     have H := HC68.out
     clear HC68
     by_cases c70 : (bt a0 x5_1) = 32
     ·
      rw [if_pos c70] at H
      have c70b0 := beq_iff_eq.mpr c70
      have c70b1 := bne_eq_false_iff_eq.mpr c70
      clear c70
      (first | rw [c70b0] | (simp only [i64_w, i32_w]; rw [c70b0]) | skip)
      have H' := Aside0.mk H
      clear H
      have p69 : 0 ≤ (x5_1 : Int) := of_decide_eq_true (by assumption)
      have q69 : x5_1 < (a0.size : Int) := of_decide_eq_true (by assumption)
      have hx69 := bt_at a0 x5_1
      replace p69 := eq_true p69
      replace q69 := eq_true q69
      go_wp2
      go_meet
      case rel => exact ⟨_, (false), rfl, H', ⟨by have := HK1.out; first | omega | exact Nat.le_refl _⟩, HO_4, ⟨hO HB⟩⟩
     rw [if_neg c70] at H
     have c70b0 := beq_eq_false_iff_ne.mpr c70
     have c70b1 := bne_iff_ne.mpr c70
     (first | rw [c70b0] | (simp only [i64_w, i32_w]; rw [c70b0]) | skip)
     by_cases c72 : (bt a0 x5_1) = 40
     ·
      rw [if_pos c72] at H
      have c72b0 := beq_iff_eq.mpr c72
      have c72b1 := bne_eq_false_iff_eq.mpr c72
      clear c72
      have H' := Aside0.mk H
      clear H
      have p69 : 0 ≤ (x5_1 : Int) := of_decide_eq_true (by assumption)
      have q69 : x5_1 < (a0.size : Int) := of_decide_eq_true (by assumption)
      have hx69 := bt_at a0 x5_1
      replace p69 := eq_true p69
      replace q69 := eq_true q69
      have p71 : 0 ≤ (x5_1 : Int) := of_decide_eq_true (by assumption)
      have q71 : x5_1 < (a0.size : Int) := of_decide_eq_true (by assumption)
      have hx71 := bt_at a0 x5_1
      replace p71 := eq_true p71
      replace q71 := eq_true q71
      go_wp2
      go_meet
      case rel => exact ⟨_, (false), rfl, H', ⟨by have := HK1.out; first | omega | exact Nat.le_refl _⟩, HO_4, ⟨hO HB⟩⟩
     rw [if_neg c72] at H
     have c72b0 := beq_eq_false_iff_ne.mpr c72
     have c72b1 := bne_iff_ne.mpr c72
     by_cases c74 : (bt a0 x5_1) = 41
     ·
      rw [if_pos c74] at H
      have c74b0 := beq_iff_eq.mpr c74
      have c74b1 := bne_eq_false_iff_eq.mpr c74
      clear c74
      have H' := Aside0.mk H
      clear H
      have p69 : 0 ≤ (x5_1 : Int) := of_decide_eq_true (by assumption)
      have q69 : x5_1 < (a0.size : Int) := of_decide_eq_true (by assumption)
      have hx69 := bt_at a0 x5_1
      replace p69 := eq_true p69
      replace q69 := eq_true q69
      have p71 : 0 ≤ (x5_1 : Int) := of_decide_eq_true (by assumption)
      have q71 : x5_1 < (a0.size : Int) := of_decide_eq_true (by assumption)
      have hx71 := bt_at a0 x5_1
      replace p71 := eq_true p71
      replace q71 := eq_true q71
      have p73 : 0 ≤ (x5_1 : Int) := of_decide_eq_true (by assumption)
      have q73 : x5_1 < (a0.size : Int) := of_decide_eq_true (by assumption)
      have hx73 := bt_at a0 x5_1
      replace p73 := eq_true p73
      replace q73 := eq_true q73
      go_wp2
      go_meet
      case rel => exact ⟨_, (false), rfl, H', ⟨by have := HK1.out; first | omega | exact Nat.le_refl _⟩, HO_4, ⟨hO HB⟩⟩
     rw [if_neg c74] at H
     have c74b0 := beq_eq_false_iff_ne.mpr c74
     have c74b1 := bne_iff_ne.mpr c74
     have H' := Aside0.mk H
     clear H
     have p69 : 0 ≤ (x5_1 : Int) := of_decide_eq_true (by assumption)
     have q69 : x5_1 < (a0.size : Int) := of_decide_eq_true (by assumption)
     have hx69 := bt_at a0 x5_1
     replace p69 := eq_true p69
     replace q69 := eq_true q69
     have p71 : 0 ≤ (x5_1 : Int) := of_decide_eq_true (by assumption)
     have q71 : x5_1 < (a0.size : Int) := of_decide_eq_true (by assumption)
     have hx71 := bt_at a0 x5_1
     replace p71 := eq_true p71
     replace q71 := eq_true q71
     have p73 : 0 ≤ (x5_1 : Int) := of_decide_eq_true (by assumption)
     have q73 : x5_1 < (a0.size : Int) := of_decide_eq_true (by assumption)
     have hx73 := bt_at a0 x5_1
     replace p73 := eq_true p73
     replace q73 := eq_true q73
     have p75 : 0 ≤ (x5_1 : Int) := of_decide_eq_true (by assumption)
     have q75 : x5_1 < (a0.size : Int) := of_decide_eq_true (by assumption)
     have hx75 := bt_at a0 x5_1
     replace p75 := eq_true p75
     replace q75 := eq_true q75
     go_wp2
     go_meet
     case rel => exact ⟨_, (((bt a0 x5_1) != 44)), rfl, H', ⟨by have := HK1.out; first | omega | exact Nat.le_refl _⟩, HO_4, ⟨hO HB⟩⟩
    case rest =>
     clear HC68; try clear c1; try clear p1; try clear q1; try clear hx1; try clear c2; try clear c2b0; try clear p2; try clear q2; try clear hx2; try clear c3; try clear c3b0; try clear p3; try clear q3; try clear hx3; try clear c4; try clear p4; try clear q4; try clear hx4; try clear c5; try clear p5; try clear q5; try clear hx5; try clear c6; try clear p6; try clear q6; try clear hx6; try clear c7; try clear c7b0; try clear p7; try clear q7; try clear hx7; try clear c9; try clear c9b0; try clear p10; try clear q10; try clear hx10; try clear c12; try clear p13; try clear q13; try clear hx13; try clear c15; try clear p16; try clear q16; try clear hx16; try clear c17; try clear c17b0; try clear c17b1; try clear c18; try clear c18b0; try clear c19; try clear c19b0; try clear p20; try clear q20; try clear hx20; try clear c21; try clear c21b0; try clear c21b1; try clear c22; try clear c22b0; try clear c23; try clear c23b0; try clear c23b1; try clear c24; try clear c24b0; try clear c24b1; try clear c25; try clear c27; try clear c27b0; try clear c28; try clear c28b0; try clear p29; try clear q29; try clear hx29; try clear c30; try clear c30b0; try clear c30b1; try clear c31; try clear c31b0; try clear c32; try clear c32b0; try clear c32b1; try clear c33; try clear c33b0; try clear c33b1; try clear c34; try clear p36; try clear q36; try clear hx36; try clear c38; try clear c39; try clear c39b0; try clear c41; try clear c41b0; try clear p42; try clear q42; try clear hx42; try clear c44; try clear p45; try clear q45; try clear hx45; try clear c47; try clear p48; try clear q48; try clear hx48; try clear c49; try clear c49b0; try clear c49b1; try clear c50; try clear c50b0; try clear c51; try clear c51b0; try clear p52; try clear q52; try clear hx52; try clear c53; try clear c53b0; try clear c53b1; try clear c54; try clear c54b0; try clear c55; try clear c55b0; try clear c55b1; try clear c56; try clear c56b0; try clear c56b1; try clear c57; try clear c59; try clear c59b0; try clear c60; try clear c60b0; try clear p61; try clear q61; try clear hx61; try clear c62; try clear c62b0; try clear c62b1; try clear c63; try clear c63b0; try clear c64; try clear c64b0; try clear c64b1; try clear p64; try clear c65; try clear c65b0; try clear c65b1; try clear c66; try clear p69; try clear q69; try clear hx69; try clear c70; try clear c70b0; try clear c70b1; try clear p71; try clear q71; try clear hx71; try clear c72; try clear c72b0; try clear c72b1; try clear p73; try clear q73; try clear hx73; try clear c74; try clear c74b0; try clear c74b1; try clear p75; try clear q75; try clear hx75
     obtain ⟨kq, x104_67, rfl, HA, HJ67, HO_4, HB⟩ := hcut
     cases kq with
     | zero => exact absurd HA.out (by simp [dancestudioref35_parts.j3])
     | succ kj67 =>
      have H := HA.out
      clear HA
      simp only [dancestudioref35_parts.j3] at H
      by_cases c76 : x104_67 = true
      ·
       subst c76
       rw [if_pos rfl] at H
       simp only [Option.some.injEq, Prod.mk.injEq] at H
       obtain ⟨rfl, rfl⟩ := H
       go_wp2
       go_ret2
       exact ⟨_, rfl, by first | exact Kd.R_nil _ _ _ _ _ | exact Kd.N_nil _ _ _ _ _ | exact Kd.V_nil _ _ _ _ _ | exact Kd.Q_nil _ _ _ _ _ | exact Kd.S_nil _ _ _ _ _, HB.out⟩
      replace c76 := Bool.eq_false_iff.mpr c76
      subst c76
      rw [if_neg (show ¬ (false = true) by decide)] at H
      obtain ⟨c77, H⟩ : (0 ≤ x5_1) ∧ _ := mIf H
      have c77b0 := decide_eq_true c77
      clear c77
      obtain ⟨c78, H⟩ : (x5_1 < (a0.size : Int)) ∧ _ := mIf H
      have c78b0 := decide_eq_true c78
      clear c78
      by_cases c80 : (bt a0 x5_1) = 32
      ·
       rw [if_pos c80] at H
       have c80b0 := beq_iff_eq.mpr c80
       have c80b1 := bne_eq_false_iff_eq.mpr c80
       clear c80
       have H' := Aside0.mk H
       clear H
       have p79 : 0 ≤ (x5_1 : Int) := of_decide_eq_true (by assumption)
       have q79 : x5_1 < (a0.size : Int) := of_decide_eq_true (by assumption)
       have hx79 := bt_at a0 x5_1
       replace p79 := eq_true p79
       replace q79 := eq_true q79
       go_wp2
       go_roundg kj67
       case measure => have := HK1.out; have := HJ67.out; omega
       case rel => exact ⟨(x4_1), (wrap64 (x5_1 + 1)), rfl, H', ⟨by have := HK1.out; have := HJ67.out; omega⟩, HO_4, ⟨HB.out⟩⟩
      rw [if_neg c80] at H
      have c80b0 := beq_eq_false_iff_ne.mpr c80
      have c80b1 := bne_iff_ne.mpr c80
      have c81b0 := eq_true (of_decide_eq_true (by assumption) : 0 ≤ x5_1)
      obtain ⟨c82, H⟩ : (x5_1 ≤ (wrap64 (x5_1 + 1))) ∧ _ := mIf H
      have c82b0 := eq_true c82
      have c82b1 := decide_eq_true c82
      obtain ⟨c83, H⟩ : ((wrap64 (x5_1 + 1)) ≤ (a0.size : Int)) ∧ _ := mIf H
      have c83b0 := eq_true c83
      have c83b1 := decide_eq_true c83
      obtain ⟨c84, H⟩ : (x4_1.length < 8796093022208) ∧ _ := mIf H
      have LMc84 := Aside0.mk c84
      clear c84
      obtain ⟨y525, hy525⟩ : ∃ y_ : List ByteArray, y_ = (x4_1 ++ [a0.extract (x5_1 : Int).toNat ((wrap64 (x5_1 + 1)) : Int).toNat]) := ⟨_, rfl⟩
      rw [← hy525] at H
      have Ny525 := Aside0.mk hy525
      clear hy525
      have H' := Aside0.mk H
      clear H
      have p79 : 0 ≤ (x5_1 : Int) := of_decide_eq_true (by assumption)
      have q79 : x5_1 < (a0.size : Int) := of_decide_eq_true (by assumption)
      have hx79 := bt_at a0 x5_1
      replace p79 := eq_true p79
      replace q79 := eq_true q79
      go_wp2_with (first | ((with_reducible refine gate_builtin (b := .append) (xs := #[.tmp 109, .tmp 116]) rfl ?_); at_builtin; refine Kd.R_append Kd.string (w0 := w) w.heap.size rfl (.tmp 109) (.tmp 116) 28 9 (.string ⟨#[]⟩) 16 rfl Tryd.underlying28 info9 rfl (by decide) (by omega) u4 x4_1 (a0.extract (x5_1 : Int).toNat ((wrap64 (x5_1 + 1)) : Int).toNat) [.string (a0.extract (x5_1 : Int).toNat ((wrap64 (x5_1 + 1)) : Int).toNat)] (fun _ => True) (fun _ => False) rfl rfl ?aP (fun _ hk => hk.elim) ?aF ?aO ?aB ?aS ?aL ?_; (case aP => exact rfl); (case aB => exact HB.out); (case aF => exact (fun _ _ => trivial)); (case aO => exact HO_4.out); (case aS => exact (below_size HB.out)); (case aL => have := LMc84.out; omega); intro v526 w85 ho hb hg hat; rw [← Ny525.out] at ho; replace HB := Aside0.mk hb; have HO527 := Aside0.mk ho; clear HO_4; clear ho hb hg hat))
      go_roundg kj67
      case measure => have := HK1.out; have := HJ67.out; omega
      case rel => exact ⟨(y525), (wrap64 (x5_1 + 1)), rfl, H', ⟨by have := HK1.out; have := HJ67.out; omega⟩, HO527, ⟨HB.out⟩⟩
   subst c38
   rw [if_pos rfl] at H
   have H' := Aside0.mk H
   clear H
   have p4 : 0 ≤ (x5_1 : Int) := of_decide_eq_true (by assumption)
   have q4 : x5_1 < (a0.size : Int) := of_decide_eq_true (by assumption)
   have hx4 := bt_at a0 x5_1
   replace p4 := eq_true p4
   replace q4 := eq_true q4
   go_wp2_with (first | ((with_reducible refine gate_callee (f := 64) rfl ?_); refine goesL_ (some 14) rfl rfl Tryd.func64 (by kernel_rfl) rfl #[.int .u8 (bt a0 x5_1)] rfl (mA1 rfl) ?_; (with_reducible refine (dancestudioref35_small.calls (bt a0 x5_1) false _ A5.out).mono ?_); rintro e w' ⟨rfl, ⟨nd, rfl⟩⟩; refine ⟨_, rfl, ?_⟩; have p36 : 0 ≤ (x5_1 : Int) := of_decide_eq_true (by assumption); have q36 : x5_1 < (a0.size : Int) := of_decide_eq_true (by assumption); have hx36 := bt_at a0 x5_1; replace p36 := eq_true p36; replace q36 := eq_true q36) | ((with_reducible refine gate_callee (f := 65) rfl ?_); refine goesL_ (some 50) rfl rfl Tryd.func65 (by kernel_rfl) rfl #[.int .u8 (bt a0 x5_1)] rfl (mA1 rfl) ?_; (with_reducible refine (dancestudioref35_digit.calls (bt a0 x5_1) true _ A37.out).mono ?_); rintro e w' ⟨rfl, ⟨nd, rfl⟩⟩; refine ⟨_, rfl, ?_⟩))
   (try simp only [Act.put, List.setIfInBounds_toArray, List.set_cons_zero, List.set_cons_succ])
   go_loopg [6] k1 (fun kq v6 w' => ∃ (x6_2 : Int), v6 = .int .i64 x6_2 ∧ Aside0 (dancestudioref35_parts.l2 kq a0 x4_1 x5_1 x6_2 = some (r1, r2)) ∧ Aside0 (kq ≤ k1) ∧ Aside0 (Kd.R Kd.string 9 w' w.heap.size (fun _ => True) u4 x4_1) ∧ Aside0 (Below w.heap.size w w'))
   case atStart => exact ⟨(1), rfl, H', ⟨Nat.le_refl _⟩, HO_4, ⟨hO HB⟩⟩
   case round =>
    clear H'
    try clear c1; try clear p1; try clear q1; try clear hx1; try clear c2; try clear c2b0; try clear p2; try clear q2; try clear hx2; try clear c3; try clear c3b0; try clear p3; try clear q3; try clear hx3; try clear p4; try clear q4; try clear hx4; try clear c6; try clear p6; try clear c7; try clear c7b0; try clear c9; try clear c9b0; try clear p10; try clear q10; try clear hx10; try clear c12; try clear p13; try clear q13; try clear hx13; try clear c15; try clear p16; try clear q16; try clear hx16; try clear c17; try clear c17b0; try clear c17b1; try clear c18; try clear c18b0; try clear c19; try clear c19b0; try clear p20; try clear q20; try clear hx20; try clear c21; try clear c21b0; try clear c21b1; try clear c22; try clear c22b0; try clear c23; try clear c23b0; try clear c23b1; try clear c24; try clear c24b0; try clear c24b1; try clear c25; try clear c27; try clear c27b0; try clear c28; try clear c28b0; try clear p29; try clear q29; try clear hx29; try clear c30; try clear c30b0; try clear c30b1; try clear c31; try clear c31b0; try clear c32; try clear c32b0; try clear c32b1; try clear c33; try clear c33b0; try clear c33b1; try clear c34; try clear p36; try clear q36; try clear hx36; try clear c38
    obtain ⟨x6_2, rfl, HA, HK2, HO_4, HB⟩ := hrel
    cases gk with
    | zero => exact absurd HA.out (by simp [dancestudioref35_parts.l2])
    | succ k2 =>
     have H := HA.out
     clear HA
     simp only [dancestudioref35_parts.l2] at H
     by_cases c39 : (wrap64 (x5_1 + x6_2)) < (a0.size : Int)
     rotate_left
     ·
      rw [if_neg c39] at H
      have c39b0 := decide_eq_false c39
      clear c39
      obtain ⟨c59, H⟩ : (0 ≤ x5_1) ∧ _ := mIf H
      have c59b0 := decide_eq_true c59
      clear c59
      obtain ⟨c60, H⟩ : (x5_1 < (a0.size : Int)) ∧ _ := mIf H
      have c60b0 := decide_eq_true c60
      clear c60
      by_cases c62 : (bt a0 x5_1) = 32
      ·
       rw [if_pos c62] at H
       have c62b0 := beq_iff_eq.mpr c62
       have c62b1 := bne_eq_false_iff_eq.mpr c62
       clear c62
       have H' := Aside0.mk H
       clear H
       have p61 : 0 ≤ (x5_1 : Int) := of_decide_eq_true (by assumption)
       have q61 : x5_1 < (a0.size : Int) := of_decide_eq_true (by assumption)
       have hx61 := bt_at a0 x5_1
       replace p61 := eq_true p61
       replace q61 := eq_true q61
       go_wp2
       go_roundg k2
       case measure => have := HK1.out; have := HK2.out; omega
       case rel => exact ⟨(x4_1), (wrap64 (x5_1 + x6_2)), rfl, H', ⟨by have := HK1.out; have := HK2.out; omega⟩, HO_4, ⟨HB.out⟩⟩
      rw [if_neg c62] at H
      have c62b0 := beq_eq_false_iff_ne.mpr c62
      have c62b1 := bne_iff_ne.mpr c62
      have c63b0 := eq_true (of_decide_eq_true (by assumption) : 0 ≤ x5_1)
      obtain ⟨c64, H⟩ : (x5_1 ≤ (wrap64 (x5_1 + x6_2))) ∧ _ := mIf H
      have c64b0 := eq_true c64
      have c64b1 := decide_eq_true c64
      obtain ⟨c65, H⟩ : ((wrap64 (x5_1 + x6_2)) ≤ (a0.size : Int)) ∧ _ := mIf H
      have c65b0 := eq_true c65
      have c65b1 := decide_eq_true c65
      obtain ⟨c66, H⟩ : (x4_1.length < 8796093022208) ∧ _ := mIf H
      have LMc66 := Aside0.mk c66
      clear c66
      obtain ⟨y522, hy522⟩ : ∃ y_ : List ByteArray, y_ = (x4_1 ++ [a0.extract (x5_1 : Int).toNat ((wrap64 (x5_1 + x6_2)) : Int).toNat]) := ⟨_, rfl⟩
      rw [← hy522] at H
      have Ny522 := Aside0.mk hy522
      clear hy522
      have H' := Aside0.mk H
      clear H
      have p61 : 0 ≤ (x5_1 : Int) := of_decide_eq_true (by assumption)
      have q61 : x5_1 < (a0.size : Int) := of_decide_eq_true (by assumption)
      have hx61 := bt_at a0 x5_1
      replace p61 := eq_true p61
      replace q61 := eq_true q61
      go_wp2_with (first | ((with_reducible refine gate_builtin (b := .append) (xs := #[.tmp 109, .tmp 116]) rfl ?_); at_builtin; refine Kd.R_append Kd.string (w0 := w) w.heap.size rfl (.tmp 109) (.tmp 116) 28 9 (.string ⟨#[]⟩) 16 rfl Tryd.underlying28 info9 rfl (by decide) (by omega) u4 x4_1 (a0.extract (x5_1 : Int).toNat ((wrap64 (x5_1 + x6_2)) : Int).toNat) [.string (a0.extract (x5_1 : Int).toNat ((wrap64 (x5_1 + x6_2)) : Int).toNat)] (fun _ => True) (fun _ => False) rfl rfl ?aP (fun _ hk => hk.elim) ?aF ?aO ?aB ?aS ?aL ?_; (case aP => exact rfl); (case aB => exact HB.out); (case aF => exact (fun _ _ => trivial)); (case aO => exact HO_4.out); (case aS => exact (below_size HB.out)); (case aL => have := LMc66.out; omega); intro v523 w67 ho hb hg hat; rw [← Ny522.out] at ho; replace HB := Aside0.mk hb; have HO524 := Aside0.mk ho; clear HO_4; clear ho hb hg hat))
      go_roundg k2
      case measure => have := HK1.out; have := HK2.out; omega
      case rel => exact ⟨(y522), (wrap64 (x5_1 + x6_2)), rfl, H', ⟨by have := HK1.out; have := HK2.out; omega⟩, HO524, ⟨HB.out⟩⟩
     rw [if_pos c39] at H
     have c39b0 := decide_eq_true c39
     clear c39
     obtain ⟨ji40, hji40⟩ : ∃ j_ : Int, (wrap64 (x5_1 + x6_2)) = j_ := ⟨_, rfl⟩
     replace H : (if 0 ≤ (ji40) then ((dancestudioref35_small.f (bt a0 (ji40))).bind fun t517 => (if t517 = true then (dancestudioref35_parts.l2 k2 a0 x4_1 x5_1 (wrap64 (x6_2 + 1))) else ((dancestudioref35_digit.f (bt a0 (ji40))).bind fun t518 => (if t518 = true then (dancestudioref35_parts.l2 k2 a0 x4_1 x5_1 (wrap64 (x6_2 + 1))) else (if (bt a0 (ji40)) = 45 then (dancestudioref35_parts.l2 k2 a0 x4_1 x5_1 (wrap64 (x6_2 + 1))) else (if 0 ≤ x5_1 then (if x5_1 < (a0.size : Int) then (if (bt a0 x5_1) = 32 then (dancestudioref35_parts.l0 k2 a0 x4_1 ji40) else (if x5_1 ≤ (ji40) then (if (ji40) ≤ (a0.size : Int) then (if x4_1.length < 8796093022208 then (dancestudioref35_parts.l0 k2 a0 (x4_1 ++ [a0.extract (x5_1 : Int).toNat ((ji40) : Int).toNat]) ji40) else (none)) else (none)) else (none))) else (none)) else (none))))))) else (none)) = some (r1, r2) := by first | (rw [hji40] at H; exact H) | (simp only [hji40] at H ⊢; exact H)
     (try rw [hji40] at c39b0)
     have hji40w : (IntKind.i64.wrap (x5_1 + x6_2)) = ji40 := (i64_w _).trans hji40
     obtain ⟨c41, H⟩ : (0 ≤ (ji40)) ∧ _ := mIf H
     have c41b0 := decide_eq_true c41
     clear c41
     replace H := Option.bind_eq_some_iff.mp H
     obtain ⟨t517, A430, H⟩ := H
     try dsimp only at H
     have A43 := Aside0.mk A430
     clear A430
     by_cases c44 : t517 = true
     ·
      subst c44
      rw [if_pos rfl] at H
      have H' := Aside0.mk H
      clear H
      have p42 : 0 ≤ ((ji40) : Int) := of_decide_eq_true (by assumption)
      have q42 : (ji40) < (a0.size : Int) := of_decide_eq_true (by assumption)
      have hx42 := bt_at a0 (ji40)
      replace p42 := eq_true p42
      replace q42 := eq_true q42
      go_wp2_with (first | (go_at_call 64; (with_reducible refine (dancestudioref35_small.calls (bt a0 (ji40)) true _ A43.out).mono ?_); rintro e w' ⟨rfl, ⟨nd, rfl⟩⟩))
      go_roundg k2
      case measure => have := HK1.out; have := HK2.out; omega
      case rel => exact ⟨(wrap64 (x6_2 + 1)), rfl, H', ⟨by have := HK1.out; have := HK2.out; omega⟩, HO_4, ⟨hO HB⟩⟩
     replace c44 := Bool.eq_false_iff.mpr c44
     subst c44
     rw [if_neg (show ¬ (false = true) by decide)] at H
     replace H := Option.bind_eq_some_iff.mp H
     obtain ⟨t518, A460, H⟩ := H
     try dsimp only at H
     have A46 := Aside0.mk A460
     clear A460
     by_cases c47 : t518 = true
     ·
      subst c47
      rw [if_pos rfl] at H
      have H' := Aside0.mk H
      clear H
      have p42 : 0 ≤ ((ji40) : Int) := of_decide_eq_true (by assumption)
      have q42 : (ji40) < (a0.size : Int) := of_decide_eq_true (by assumption)
      have hx42 := bt_at a0 (ji40)
      replace p42 := eq_true p42
      replace q42 := eq_true q42
      go_wp2_with (first | (go_at_call 64; (with_reducible refine (dancestudioref35_small.calls (bt a0 (ji40)) false _ A43.out).mono ?_); rintro e w' ⟨rfl, ⟨nd, rfl⟩⟩; have p45 : 0 ≤ ((ji40) : Int) := of_decide_eq_true (by assumption); have q45 : (ji40) < (a0.size : Int) := of_decide_eq_true (by assumption); have hx45 := bt_at a0 (ji40); replace p45 := eq_true p45; replace q45 := eq_true q45) | (go_at_call 65; (with_reducible refine (dancestudioref35_digit.calls (bt a0 (ji40)) true _ A46.out).mono ?_); rintro e w' ⟨rfl, ⟨nd, rfl⟩⟩))
      go_roundg k2
      case measure => have := HK1.out; have := HK2.out; omega
      case rel => exact ⟨(wrap64 (x6_2 + 1)), rfl, H', ⟨by have := HK1.out; have := HK2.out; omega⟩, HO_4, ⟨hO HB⟩⟩
     replace c47 := Bool.eq_false_iff.mpr c47
     subst c47
     rw [if_neg (show ¬ (false = true) by decide)] at H
     by_cases c49 : (bt a0 (ji40)) = 45
     ·
      rw [if_pos c49] at H
      have c49b0 := beq_iff_eq.mpr c49
      have c49b1 := bne_eq_false_iff_eq.mpr c49
      clear c49
      have H' := Aside0.mk H
      clear H
      have p42 : 0 ≤ ((ji40) : Int) := of_decide_eq_true (by assumption)
      have q42 : (ji40) < (a0.size : Int) := of_decide_eq_true (by assumption)
      have hx42 := bt_at a0 (ji40)
      replace p42 := eq_true p42
      replace q42 := eq_true q42
      go_wp2_with (first | (go_at_call 64; (with_reducible refine (dancestudioref35_small.calls (bt a0 (ji40)) false _ A43.out).mono ?_); rintro e w' ⟨rfl, ⟨nd, rfl⟩⟩; have p45 : 0 ≤ ((ji40) : Int) := of_decide_eq_true (by assumption); have q45 : (ji40) < (a0.size : Int) := of_decide_eq_true (by assumption); have hx45 := bt_at a0 (ji40); replace p45 := eq_true p45; replace q45 := eq_true q45) | (go_at_call 65; (with_reducible refine (dancestudioref35_digit.calls (bt a0 (ji40)) false _ A46.out).mono ?_); rintro e w' ⟨rfl, ⟨nd, rfl⟩⟩; have p48 : 0 ≤ ((ji40) : Int) := of_decide_eq_true (by assumption); have q48 : (ji40) < (a0.size : Int) := of_decide_eq_true (by assumption); have hx48 := bt_at a0 (ji40); replace p48 := eq_true p48; replace q48 := eq_true q48))
      go_roundg k2
      case measure => have := HK1.out; have := HK2.out; omega
      case rel => exact ⟨(wrap64 (x6_2 + 1)), rfl, H', ⟨by have := HK1.out; have := HK2.out; omega⟩, HO_4, ⟨hO HB⟩⟩
     rw [if_neg c49] at H
     have c49b0 := beq_eq_false_iff_ne.mpr c49
     have c49b1 := bne_iff_ne.mpr c49
     obtain ⟨c50, H⟩ : (0 ≤ x5_1) ∧ _ := mIf H
     have c50b0 := decide_eq_true c50
     clear c50
     obtain ⟨c51, H⟩ : (x5_1 < (a0.size : Int)) ∧ _ := mIf H
     have c51b0 := decide_eq_true c51
     clear c51
     by_cases c53 : (bt a0 x5_1) = 32
     ·
      rw [if_pos c53] at H
      have c53b0 := beq_iff_eq.mpr c53
      have c53b1 := bne_eq_false_iff_eq.mpr c53
      clear c53
      have H' := Aside0.mk H
      clear H
      have p42 : 0 ≤ ((ji40) : Int) := of_decide_eq_true (by assumption)
      have q42 : (ji40) < (a0.size : Int) := of_decide_eq_true (by assumption)
      have hx42 := bt_at a0 (ji40)
      replace p42 := eq_true p42
      replace q42 := eq_true q42
      go_wp2_with (first | (go_at_call 64; (with_reducible refine (dancestudioref35_small.calls (bt a0 (ji40)) false _ A43.out).mono ?_); rintro e w' ⟨rfl, ⟨nd, rfl⟩⟩; have p45 : 0 ≤ ((ji40) : Int) := of_decide_eq_true (by assumption); have q45 : (ji40) < (a0.size : Int) := of_decide_eq_true (by assumption); have hx45 := bt_at a0 (ji40); replace p45 := eq_true p45; replace q45 := eq_true q45) | (go_at_call 65; (with_reducible refine (dancestudioref35_digit.calls (bt a0 (ji40)) false _ A46.out).mono ?_); rintro e w' ⟨rfl, ⟨nd, rfl⟩⟩; have p48 : 0 ≤ ((ji40) : Int) := of_decide_eq_true (by assumption); have q48 : (ji40) < (a0.size : Int) := of_decide_eq_true (by assumption); have hx48 := bt_at a0 (ji40); replace p48 := eq_true p48; replace q48 := eq_true q48; have p52 : 0 ≤ (x5_1 : Int) := of_decide_eq_true (by assumption); have q52 : x5_1 < (a0.size : Int) := of_decide_eq_true (by assumption); have hx52 := bt_at a0 x5_1; replace p52 := eq_true p52; replace q52 := eq_true q52))
      go_roundg k2
      case measure => have := HK1.out; have := HK2.out; omega
      case rel => exact ⟨(x4_1), (ji40), (by first | rfl | (simp; done) | (simp only [← hji40] <;> (first | rfl | simp)) | (simp [*]; done)), H', ⟨by have := HK1.out; have := HK2.out; omega⟩, HO_4, ⟨hO HB⟩⟩
     rw [if_neg c53] at H
     have c53b0 := beq_eq_false_iff_ne.mpr c53
     have c53b1 := bne_iff_ne.mpr c53
     have c54b0 := eq_true (of_decide_eq_true (by assumption) : 0 ≤ x5_1)
     obtain ⟨c55, H⟩ : (x5_1 ≤ (ji40)) ∧ _ := mIf H
     have c55b0 := eq_true c55
     have c55b1 := decide_eq_true c55
     clear c55
     obtain ⟨c56, H⟩ : ((ji40) ≤ (a0.size : Int)) ∧ _ := mIf H
     have c56b0 := eq_true c56
     have c56b1 := decide_eq_true c56
     clear c56
     obtain ⟨c57, H⟩ : (x4_1.length < 8796093022208) ∧ _ := mIf H
     have LMc57 := Aside0.mk c57
     clear c57
     obtain ⟨y519, hy519⟩ : ∃ y_ : List ByteArray, y_ = (x4_1 ++ [a0.extract (x5_1 : Int).toNat ((ji40) : Int).toNat]) := ⟨_, rfl⟩
     rw [← hy519] at H
     have Ny519 := Aside0.mk hy519
     clear hy519
     have H' := Aside0.mk H
     clear H
     have p42 : 0 ≤ ((ji40) : Int) := of_decide_eq_true (by assumption)
     have q42 : (ji40) < (a0.size : Int) := of_decide_eq_true (by assumption)
     have hx42 := bt_at a0 (ji40)
     replace p42 := eq_true p42
     replace q42 := eq_true q42
     go_wp2_with (first | (go_at_call 64; (with_reducible refine (dancestudioref35_small.calls (bt a0 (ji40)) false _ A43.out).mono ?_); rintro e w' ⟨rfl, ⟨nd, rfl⟩⟩; have p45 : 0 ≤ ((ji40) : Int) := of_decide_eq_true (by assumption); have q45 : (ji40) < (a0.size : Int) := of_decide_eq_true (by assumption); have hx45 := bt_at a0 (ji40); replace p45 := eq_true p45; replace q45 := eq_true q45) | (go_at_call 65; (with_reducible refine (dancestudioref35_digit.calls (bt a0 (ji40)) false _ A46.out).mono ?_); rintro e w' ⟨rfl, ⟨nd, rfl⟩⟩; have p48 : 0 ≤ ((ji40) : Int) := of_decide_eq_true (by assumption); have q48 : (ji40) < (a0.size : Int) := of_decide_eq_true (by assumption); have hx48 := bt_at a0 (ji40); replace p48 := eq_true p48; replace q48 := eq_true q48; have p52 : 0 ≤ (x5_1 : Int) := of_decide_eq_true (by assumption); have q52 : x5_1 < (a0.size : Int) := of_decide_eq_true (by assumption); have hx52 := bt_at a0 x5_1; replace p52 := eq_true p52; replace q52 := eq_true q52) | ((with_reducible refine gate_builtin (b := .append) (xs := #[.tmp 109, .tmp 116]) rfl ?_); at_builtin; refine Kd.R_append Kd.string (w0 := w) w.heap.size rfl (.tmp 109) (.tmp 116) 28 9 (.string ⟨#[]⟩) 16 rfl Tryd.underlying28 info9 rfl (by decide) (by omega) u4 x4_1 (a0.extract (x5_1 : Int).toNat ((ji40) : Int).toNat) [.string (a0.extract (x5_1 : Int).toNat ((ji40) : Int).toNat)] (fun _ => True) (fun _ => False) rfl rfl ?aP (fun _ hk => hk.elim) ?aF ?aO ?aB ?aS ?aL ?_; (case aP => exact rfl); (case aB => exact (hO HB)); (case aF => exact (fun _ _ => trivial)); (case aO => exact (rO HO_4)); (case aS => exact (below_size (hO HB))); (case aL => have := LMc57.out; omega); intro v520 w58 ho hb hg hat; rw [← Ny519.out] at ho; replace HB := Aside0.mk hb; have HO521 := Aside0.mk ho; clear HO_4; clear ho hb hg hat))
     go_roundg k2
     case measure => have := HK1.out; have := HK2.out; omega
     case rel => exact ⟨(y519), (ji40), (by first | rfl | (simp; done) | (simp only [← hji40] <;> (first | rfl | simp)) | (simp [*]; done)), H', ⟨by have := HK1.out; have := HK2.out; omega⟩, HO521, ⟨HB.out⟩⟩
end Go.Proofs.YtimikhbnihedkaaDoor.PAll
