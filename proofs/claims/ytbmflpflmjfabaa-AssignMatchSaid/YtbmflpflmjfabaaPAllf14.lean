-- Written by wip/tools/handprint.py: walks of the functions that the law reaches; Lean checks them.
import Derived.Test.YtbmflpflmjfabaaPAllx0
import Derived.Test.YtbmflpflmjfabaaMini
import Derived.Test.YtbmflpflmjfabaaPAllf12
import Derived.Test.YtbmflpflmjfabaaPAllf23
import Derived.Test.YtbmflpflmjfabaaPAllf24
namespace Go.Proofs.Ytbmflpflmjfabaa.PAll
open Go.RowKit Go.Proofs.YtbmflpflmjfabaaW.PrintWords Go.Proofs.YtbmflpflmjfabaaW.PrintLast Go.Proofs.YtbmflpflmjfabaaW.PrintMore
attribute [local go_sem] max2_int min2_int max_two min_two max_three min_three max_four min_four   -- for this text's walks alone
set_option linter.unusedVariables false
set_option linter.unusedSimpArgs false

/-! ### assign_Solve: function 14 -/
mutual
def assign_Solve.l0 : Nat → List (List Int) → Int → List Int → Int → Int → Option (List Int × Int × Int)
 | 0, _, _, _, _, _ => none
 | k + 1, x0, x6, x7, x23, x24 => if x24 < x23 then (if x7.length < 17592186044416 then (assign_Solve.l0 k x0 x6 (x7 ++ [x24]) x23 (wrap64 (x24 + 1))) else (none)) else (assign_Solve.l1 k x6 x7 ([] : List Int) x6 x0)
def assign_Solve.l1 : Nat → Int → List Int → List Int → Int → List (List Int) → Option (List Int × Int × Int)
 | 0, _, _, _, _, _ => none
 | k + 1, x6, x7, x8, x10, x11 => if (x11.length : Int) > 0 then (if 0 < (x11.length : Int) then (assign_Solve.l2 k x6 x7 x8 x10 x11 (rd_L1 x11 0) ((rd_L1 x11 0).length : Int) 0) else (none)) else (some (x8, x6, 0))
def assign_Solve.l2 : Nat → Int → List Int → List Int → Int → List (List Int) → List Int → Int → Int → Option (List Int × Int × Int)
 | 0, _, _, _, _, _, _, _, _ => none
 | k + 1, x6, x7, x8, x10, x11, x39, x40, x41 => if x41 < x40 then (if 0 ≤ x41 then (if x41 < (x39.length : Int) then ((assign_without.f k x11 x41).bind fun t197 => ((assign_cost.f k t197).bind fun t200 => (if (wrap64 ((rd x39 x41) + t200)) = x10 then (if x41 < (x7.length : Int) then (if x8.length < 17592186044416 then ((some (([] : List Int) : List Int)).bind fun y205 => (if x41 ≤ (x7.length : Int) then ((some (x7.take (x41 : Int).toNat : List Int)).bind fun y208 => (if y205.length + y208.length < 17592186044416 then ((some (y205 ++ y208 : List Int)).bind fun y212 => (if 0 ≤ (wrap64 (x41 + 1)) then (if (wrap64 (x41 + 1)) ≤ (x7.length : Int) then ((some (x7.drop ((wrap64 (x41 + 1)) : Int).toNat : List Int)).bind fun y215 => (if y212.length + y215.length < 17592186044416 then (assign_Solve.l1 k x6 (y212 ++ y215) (x8 ++ [rd x7 x41]) (wrap64 (x10 - (rd x39 x41))) t197) else (none))) else (none)) else (none))) else (none))) else (none))) else (none)) else (none)) else (assign_Solve.l2 k x6 x7 x8 x10 x11 x39 x40 (wrap64 (x41 + 1)))))) else (none)) else (none)) else (assign_Solve.l1 k x6 x7 x8 x10 x11)
end
def assign_Solve.f (k : Nat) (l0 : List (List Int)) : Option (List Int × Int × Int) := (assign_Check.f k l0).bind fun t190 => (if t190 = 0 then ((assign_cost.f k l0).bind fun t191 => (assign_Solve.l0 k l0 t191 ([] : List Int) (l0.length : Int) 0)) else (some (([] : List Int), 0, t190)))
theorem assign_Solve.mono_l : ∀ k, (∀ y0 y1 y2 y3 y4, LeO (assign_Solve.l0 k y0 y1 y2 y3 y4) (assign_Solve.l0 (k + 1) y0 y1 y2 y3 y4)) ∧ (∀ y0 y1 y2 y3 y4, LeO (assign_Solve.l1 k y0 y1 y2 y3 y4) (assign_Solve.l1 (k + 1) y0 y1 y2 y3 y4)) ∧ (∀ y0 y1 y2 y3 y4 y5 y6 y7, LeO (assign_Solve.l2 k y0 y1 y2 y3 y4 y5 y6 y7) (assign_Solve.l2 (k + 1) y0 y1 y2 y3 y4 y5 y6 y7))
 | 0 => ⟨fun _ _ _ _ _ r h => by simp [assign_Solve.l0] at h, fun _ _ _ _ _ r h => by simp [assign_Solve.l1] at h, fun _ _ _ _ _ _ _ _ r h => by simp [assign_Solve.l2] at h⟩
 | k + 1 => by
  obtain ⟨ih0, ih1, ih2⟩ := assign_Solve.mono_l k
  refine ⟨?_, ?_, ?_⟩
  ·
   intro y0 y1 y2 y3 y4
   unfold assign_Solve.l0
   repeat' first
   | (with_reducible exact ih0 _ _ _ _ _)
   | (with_reducible exact ih1 _ _ _ _ _)
   | (with_reducible exact ih2 _ _ _ _ _ _ _ _)
   | (with_reducible exact assign_Check.mono _ _)
   | (with_reducible exact assign_cost.mono _ _)
   | (with_reducible exact assign_without.mono _ _ _)
   | (with_reducible exact LeO.refl _)
   | (with_reducible exact LeO.none _)
   | (with_reducible refine LeO.ite ?_ ?_)
   | (with_reducible refine LeO.bind ?_ (fun _ => ?_))
   | exact ih0 _ _ _ _ _
   | exact ih1 _ _ _ _ _
   | exact ih2 _ _ _ _ _ _ _ _
   | exact assign_Check.mono _ _
   | exact assign_cost.mono _ _
   | exact assign_without.mono _ _ _
   | exact LeO.none _
   | refine LeO.ite ?_ ?_
   | refine LeO.bind ?_ (fun _ => ?_)
  ·
   intro y0 y1 y2 y3 y4
   unfold assign_Solve.l1
   repeat' first
   | (with_reducible exact ih0 _ _ _ _ _)
   | (with_reducible exact ih1 _ _ _ _ _)
   | (with_reducible exact ih2 _ _ _ _ _ _ _ _)
   | (with_reducible exact assign_Check.mono _ _)
   | (with_reducible exact assign_cost.mono _ _)
   | (with_reducible exact assign_without.mono _ _ _)
   | (with_reducible exact LeO.refl _)
   | (with_reducible exact LeO.none _)
   | (with_reducible refine LeO.ite ?_ ?_)
   | (with_reducible refine LeO.bind ?_ (fun _ => ?_))
   | exact ih0 _ _ _ _ _
   | exact ih1 _ _ _ _ _
   | exact ih2 _ _ _ _ _ _ _ _
   | exact assign_Check.mono _ _
   | exact assign_cost.mono _ _
   | exact assign_without.mono _ _ _
   | exact LeO.none _
   | refine LeO.ite ?_ ?_
   | refine LeO.bind ?_ (fun _ => ?_)
  ·
   intro y0 y1 y2 y3 y4 y5 y6 y7
   unfold assign_Solve.l2
   repeat' first
   | (with_reducible exact ih0 _ _ _ _ _)
   | (with_reducible exact ih1 _ _ _ _ _)
   | (with_reducible exact ih2 _ _ _ _ _ _ _ _)
   | (with_reducible exact assign_Check.mono _ _)
   | (with_reducible exact assign_cost.mono _ _)
   | (with_reducible exact assign_without.mono _ _ _)
   | (with_reducible exact LeO.refl _)
   | (with_reducible exact LeO.none _)
   | (with_reducible refine LeO.ite ?_ ?_)
   | (with_reducible refine LeO.bind ?_ (fun _ => ?_))
   | exact ih0 _ _ _ _ _
   | exact ih1 _ _ _ _ _
   | exact ih2 _ _ _ _ _ _ _ _
   | exact assign_Check.mono _ _
   | exact assign_cost.mono _ _
   | exact assign_without.mono _ _ _
   | exact LeO.none _
   | refine LeO.ite ?_ ?_
   | refine LeO.bind ?_ (fun _ => ?_)
theorem assign_Solve.mono : ∀ a0 k, LeO (assign_Solve.f k a0) (assign_Solve.f (k + 1) a0) := by
 intro a0 k
 obtain ⟨ih0, ih1, ih2⟩ := assign_Solve.mono_l k
 unfold assign_Solve.f
 repeat' first
   | (with_reducible exact ih0 _ _ _ _ _)
   | (with_reducible exact ih1 _ _ _ _ _)
   | (with_reducible exact ih2 _ _ _ _ _ _ _ _)
   | (with_reducible exact assign_Check.mono _ _)
   | (with_reducible exact assign_cost.mono _ _)
   | (with_reducible exact assign_without.mono _ _ _)
   | (with_reducible exact LeO.refl _)
   | (with_reducible exact LeO.none _)
   | (with_reducible refine LeO.ite ?_ ?_)
   | (with_reducible refine LeO.bind ?_ (fun _ => ?_))
   | exact ih0 _ _ _ _ _
   | exact ih1 _ _ _ _ _
   | exact ih2 _ _ _ _ _ _ _ _
   | exact assign_Check.mono _ _
   | exact assign_cost.mono _ _
   | exact assign_without.mono _ _ _
   | exact LeO.none _
   | refine LeO.ite ?_ ?_
   | refine LeO.bind ?_ (fun _ => ?_)
def assign_Solve.T19 : Bool × List (List Nat × List Nat) := (true, [([], []), ([], []), ([], []), ([1, 2], [1, 2]), ([0, 3], [0, 3]), ([], []), ([], []), ([6], [6]), ([5, 7], [5, 7]), ([4, 8, 4], [4, 8]), ([9, 9, 0, 1, 2, 3, 4, 5, 6, 7, 8, 9], [1, 5, 9])])
def assign_Solve.B19 : List Nat := [0, 0, 0, 6, 15, 0, 0, 64, 224, 511, 1023]
theorem assign_Solve.tab19 : rtab .any (opsOf Try.f14 19) = assign_Solve.T19 := by kernel_rfl
theorem assign_Solve.bits19 : waitsOk assign_Solve.T19.2 assign_Solve.B19 = true := by kernel_rfl
set_option maxHeartbeats 8000000 in
set_option maxRecDepth 100000 in
theorem assign_Solve.calls (k : Nat) (P0_ : Nat → Prop) (A0 : Option Addr) (c0 : Nat) (l0 : List (List Int)) (r1 : List Int) (r2 : Int) (r3 : Int) (w : World) (hs0 : Kd.V (Kd.slice 3 (Kd.int .i64)) 23 w w.heap.size (fun k_ => P0_ k_) (.slice A0 l0.length c0) l0) (h : assign_Solve.f k l0 = some (r1, r2, r3)) :
  Calls Try.prog 14 #[.slice A0 l0.length c0] w fun e w' => ∃ v0_ : Value, e = .returned (.tuple #[v0_, .int .i64 r2, .int .i64 r3]) ∧ Kd.R (Kd.int .i64) 3 w' w.heap.size (fun k_ => (w.heap.size ≤ k_)) v0_ r1 ∧ Below w.heap.size w w' := by
 have HO0 := Aside0.mk (show Kd.V (Kd.slice 3 (Kd.int .i64)) 23 w w.heap.size (fun k_ => (P0_ k_ ∨ w.heap.size ≤ k_)) (.slice A0 l0.length c0) l0 from Kd.V_mono hs0 (fun k_ hk => .inl hk))
 have HB := Aside0.mk (Below.refl w.heap.size w)
 have H : ((assign_Check.f k l0).bind fun t190 => (if t190 = 0 then ((assign_cost.f k l0).bind fun t191 => (assign_Solve.l0 k l0 t191 ([] : List Int) (l0.length : Int) 0)) else (some (([] : List Int), 0, t190)))) = some (r1, r2, r3) := h
 clear h
 replace H := Option.bind_eq_some_iff.mp H
 obtain ⟨t190, A20, H⟩ := H
 try dsimp only at H
 have A2 := Aside0.mk A20
 clear A20
 by_cases c3 : t190 = 0
 rotate_left
 ·
  rw [if_neg c3] at H
  have c3b0 : (t190 == 0) = false := beq_eq_false_iff_ne.mpr c3
  have c3b1 : (t190 != 0) = true := bne_iff_ne.mpr c3
  simp only [Option.some.injEq, Prod.mk.injEq] at H
  obtain ⟨rfl, rfl, rfl⟩ := H
  go_enter Try.func14, Try.ntmps14
  go_wp2_with (first | ((with_reducible refine gate_callee (f := 12) rfl ?_); refine goesL_ (some 16) rfl rfl Try.func12 (by kernel_rfl) rfl #[.slice A0 l0.length c0] rfl (by (try simp only [List.map_toArray, List.map_cons, List.map_nil]); first | done | rfl | (simp only [List.length_drop, List.length_take]; rfl)) ?_; (with_reducible refine (assign_Check.calls k _ _ l0 t190 _ ?side1 ?side2 A2.out).mono ?_); (case side1 => repeat (first | exact (Kd.V_reads' HO0.out).2.2 | (with_reducible refine Kd.C_alloc ?_ _) | (with_reducible refine Kd.C_drewN ?_ _) | (with_reducible refine Kd.C_drew ?_))); (case side2 => exact (Kd.V_reads' HO0.out).2.1); rintro e w' ⟨rfl, ⟨nd, rfl⟩⟩; refine ⟨_, rfl, ?_⟩))
  go_ret3
  exact ⟨_, by first | rfl | (simp [errW_none, errW_some] <;> rfl) | (simp [*, errW_none, errW_some] <;> rfl), by first | exact Kd.R_nil _ _ _ _ _ | exact Kd.N_nil _ _ _ _ _ | exact Kd.V_nil _ _ _ _ _ | exact Kd.Q_nil _ _ _ _ _ | exact Kd.S_nil _ _ _ _ _, by repeat (first | (with_reducible first | exact HB.out | apply below_alloc | apply pw_below_drewN | apply below_drew1) | exact HB.out)⟩
 rw [if_pos c3] at H
 have c3b0 : (t190 == 0) = true := beq_iff_eq.mpr c3
 have c3b1 : (t190 != 0) = false := bne_eq_false_iff_eq.mpr c3
 clear c3
 replace H := Option.bind_eq_some_iff.mp H
 obtain ⟨t191, A40, H⟩ := H
 try dsimp only at H
 have A4 := Aside0.mk A40
 clear A40
 have H' := Aside0.mk H
 clear H
 go_enter Try.func14, Try.ntmps14
 go_wp2_with (first | ((with_reducible refine gate_callee (f := 12) rfl ?_); refine goesL_ (some 16) rfl rfl Try.func12 (by kernel_rfl) rfl #[.slice A0 l0.length c0] rfl (by (try simp only [List.map_toArray, List.map_cons, List.map_nil]); first | done | rfl | (simp only [List.length_drop, List.length_take]; rfl)) ?_; (with_reducible refine (assign_Check.calls k _ _ l0 t190 _ ?side1 ?side2 A2.out).mono ?_); (case side1 => repeat (first | exact (Kd.V_reads' HO0.out).2.2 | (with_reducible refine Kd.C_alloc ?_ _) | (with_reducible refine Kd.C_drewN ?_ _) | (with_reducible refine Kd.C_drew ?_))); (case side2 => exact (Kd.V_reads' HO0.out).2.1); rintro e w' ⟨rfl, ⟨nd, rfl⟩⟩; refine ⟨_, rfl, ?_⟩) | ((with_reducible refine gate_callee (f := 23) rfl ?_); refine goesL_ (some 21) rfl rfl Try.func23 (by kernel_rfl) rfl #[.slice A0 l0.length c0] rfl (by (try simp only [List.map_toArray, List.map_cons, List.map_nil]); first | done | rfl | (simp only [List.length_drop, List.length_take]; rfl)) ?_; (with_reducible refine (assign_cost.calls k _ _ l0 t191 _ ?side1 ?side2 A4.out).mono ?_); (case side1 => repeat (first | exact (Kd.V_reads' HO0.out).2.2 | (with_reducible refine Kd.C_alloc ?_ _) | (with_reducible refine Kd.C_drewN ?_ _) | (with_reducible refine Kd.C_drew ?_))); (case side2 => exact (Kd.V_reads' HO0.out).2.1); rintro e w5 ⟨rfl, hb⟩; refine ⟨_, rfl, ?_⟩; replace HO0 := Aside0.mk (Kd.V_below (by (with_reducible repeat (first | apply Kd.V_alloc | apply Kd.V_drewN | apply Kd.V_drew)); exact HO0.out) hb); replace HB := Aside0.mk (below_step (by repeat (first | (with_reducible first | exact HB.out | apply below_alloc | apply pw_below_drewN | apply below_drew1) | exact HB.out)) hb); (try clear hb)))
 go_loopg [7, 24] k (fun kq v7 v24 w' => ∃ (x7_1 : List Int) (x24_1 : Int), v24 = .int .i64 x24_1 ∧ Aside0 (assign_Solve.l0 kq l0 t191 x7_1 (l0.length : Int) x24_1 = some (r1, r2, r3)) ∧ Aside0 (kq ≤ k) ∧ Aside0 (Kd.V (Kd.slice 3 (Kd.int .i64)) 23 w' w.heap.size (fun k_ => (P0_ k_ ∨ w.heap.size ≤ k_) ∧ some k_ ≠ (v7 : Value).ownBlock) (.slice A0 l0.length c0) l0) ∧ Aside0 (Kd.R (Kd.int .i64) 3 w' w.heap.size (fun k_ => (w.heap.size ≤ k_)) v7 x7_1) ∧ Aside0 (Below w.heap.size w w'))
 case atStart => exact ⟨(([] : List Int)), (0), (by first | rfl | (simp; done) | (simp [*]; done)), H', ⟨Nat.le_refl _⟩, ⟨by (with_reducible repeat (first | apply Kd.V_alloc | apply Kd.V_drewN | apply Kd.V_drew)); exact Kd.V_mono HO0.out (fun _ hk => ⟨hk, (by simp [Value.ownBlock])⟩)⟩, ⟨by first | exact Kd.R_nil _ _ _ _ _ | exact Kd.N_nil _ _ _ _ _ | exact Kd.V_nil _ _ _ _ _ | exact Kd.Q_nil _ _ _ _ _ | exact Kd.S_nil _ _ _ _ _⟩, ⟨HB.out⟩⟩
 case round =>
  clear H'
  try clear c1; try clear c2; try clear p2; try clear c3; try clear c3b0; try clear c3b1
  obtain ⟨x7_1, x24_1, rfl, HA, HK1, HO_0, HO_7, HB⟩ := hrel
  cases gk with
  | zero => exact absurd HA.out (by simp [assign_Solve.l0])
  | succ k1 =>
   have H := HA.out
   clear HA
   simp only [assign_Solve.l0] at H
   by_cases c6 : x24_1 < (l0.length : Int)
   ·
    rw [if_pos c6] at H
    have c6b0 : decide (x24_1 < (l0.length : Int)) = true := decide_eq_true c6
    clear c6
    by_cases c7 : x7_1.length < 17592186044416
    rotate_left
    ·
     rw [if_neg c7] at H
     exact absurd H (by simp)
    rw [if_pos c7] at H
    have LMc7 := Aside0.mk c7
    clear c7
    obtain ⟨y192, hy192⟩ : ∃ y_ : List Int, y_ = (x7_1 ++ [x24_1]) := ⟨_, rfl⟩
    rw [← hy192] at H
    have Ny192 := Aside0.mk hy192
    clear hy192
    have H' := Aside0.mk H
    clear H
    go_wp2_with (first | ((with_reducible refine gate_builtin (b := .append) (xs := #[.tmp 27, .tmp 29]) rfl ?_); at_builtin; refine Kd.R_append (Kd.int .i64) (w0 := w) w.heap.size rfl (.tmp 27) (.tmp 29) 23 3 (.int .i64 0) 8 rfl Try.underlying23 info3 rfl (by decide) (by omega) u7 x7_1 x24_1 [.int .i64 x24_1] (fun k_ => (w.heap.size ≤ k_)) (fun _ => False) rfl rfl ?aP (fun _ hk => hk.elim) ?aF ?aO ?aB ?aS ?aL ?_; (case aP => exact rfl); (case aB => exact HB.out); (case aF => exact (fun k_ hk => (Nat.le_trans (below_size HB.out) hk))); (case aO => exact HO_7.out); (case aS => exact (below_size HB.out)); (case aL => have := LMc7.out; omega); intro v193 w8 ho hb hg hat; rw [← Ny192.out] at ho; replace HO_0 := Aside0.mk (Kd.V_afterv (ok := (fun k_ => (P0_ k_ ∨ w.heap.size ≤ k_))) (by (with_reducible repeat (first | apply Kd.V_alloc | apply Kd.V_drewN | apply Kd.V_drew)); exact HO_0.out) hg hat); replace HB := Aside0.mk hb; have HO194 := Aside0.mk ho; clear HO_7; clear ho hb hg hat))
    go_roundg k1
    case measure => have := HK1.out; omega
    case rel => exact ⟨(y192), (wrap64 (x24_1 + 1)), (by first | rfl | (simp; done) | (simp [*]; done)), H', ⟨by have := HK1.out; omega⟩, ⟨by (with_reducible repeat (first | apply Kd.V_alloc | apply Kd.V_drewN | apply Kd.V_drew)); exact HO_0.out⟩, ⟨by (with_reducible repeat (first | apply Kd.R_alloc | apply Kd.R_drewN | apply Kd.R_drew)); exact HO194.out⟩, ⟨HB.out⟩⟩
   rw [if_neg c6] at H
   have c6b0 : decide (x24_1 < (l0.length : Int)) = false := decide_eq_false c6
   clear c6
   have H' := Aside0.mk H
   clear H
   go_wp2
   go_loopg [7, 8, 10, 11] k1 (fun kq v7 v8 v10 v11 w' => ∃ (x7_2 : List Int) (x8_2 : List Int) (x10_2 : Int) (x11_2 : List (List Int)), v10 = .int .i64 x10_2 ∧ Aside0 (assign_Solve.l1 kq t191 x7_2 x8_2 x10_2 x11_2 = some (r1, r2, r3)) ∧ Aside0 (kq ≤ k1) ∧ Aside0 (Kd.R (Kd.int .i64) 3 w' w.heap.size (fun k_ => (w.heap.size ≤ k_) ∧ some k_ ≠ (v8 : Value).ownBlock) v7 x7_2) ∧ Aside0 (Kd.R (Kd.int .i64) 3 w' w.heap.size (fun k_ => (w.heap.size ≤ k_) ∧ some k_ ≠ (v7 : Value).ownBlock) v8 x8_2) ∧ Aside0 (Kd.V (Kd.slice 3 (Kd.int .i64)) 23 w' w.heap.size (fun k_ => (P0_ k_ ∨ w.heap.size ≤ k_) ∧ some k_ ≠ (v7 : Value).ownBlock ∧ some k_ ≠ (v8 : Value).ownBlock) v11 x11_2) ∧ Aside0 (Below w.heap.size w w'))
   case atStart => exact ⟨(x7_1), (([] : List Int)), (t191), (l0), (by first | rfl | (simp; done) | (simp [*]; done)), H', ⟨Nat.le_refl _⟩, ⟨by (with_reducible repeat (first | apply Kd.R_alloc | apply Kd.R_drewN | apply Kd.R_drew)); exact Kd.R_mono HO_7.out (fun _ hk => ⟨hk, (by simp [Value.ownBlock])⟩)⟩, ⟨by first | exact Kd.R_nil _ _ _ _ _ | exact Kd.N_nil _ _ _ _ _ | exact Kd.V_nil _ _ _ _ _ | exact Kd.Q_nil _ _ _ _ _ | exact Kd.S_nil _ _ _ _ _⟩, ⟨by (with_reducible repeat (first | apply Kd.V_alloc | apply Kd.V_drewN | apply Kd.V_drew)); exact Kd.V_mono HO_0.out (fun _ hk => ⟨hk.1, ⟨hk.2, (by simp [Value.ownBlock])⟩⟩)⟩, ⟨HB.out⟩⟩
   case round =>
    clear H'
    try clear c1; try clear c2; try clear p2; try clear c3; try clear c3b0; try clear c3b1; try clear c6; try clear c6b0; try clear p6; try clear c7
    obtain ⟨x7_2, x8_2, x10_2, x11_2, rfl, HA, HK2, HO_7, HO_8, HO_11, HB⟩ := hrel
    cases gk with
    | zero => exact absurd HA.out (by simp [assign_Solve.l1])
    | succ k2 =>
     have H := HA.out
     clear HA
     simp only [assign_Solve.l1] at H
     by_cases c9 : (x11_2.length : Int) > 0
     rotate_left
     ·
      rw [if_neg c9] at H
      have c9b0 : decide (0 < (x11_2.length : Int)) = false := decide_eq_false c9
      have c9b1 : decide (0 < x11_2.length) = false := decide_eq_false (by omega)
      clear c9
      simp only [Option.some.injEq, Prod.mk.injEq] at H
      obtain ⟨rfl, rfl, rfl⟩ := H
      obtain ⟨Ao44, co44, eo44⟩ := Kd.V_slice HO_11.out
      subst eo44
      go_wp2
      go_ret3
      exact ⟨_, by first | rfl | (simp [errW_none, errW_some] <;> rfl) | (simp [*, errW_none, errW_some] <;> rfl), by (with_reducible repeat (first | apply Kd.R_alloc | apply Kd.R_drewN | apply Kd.R_drew)); exact Kd.R_mono HO_8.out (fun _ hk => hk.1), HB.out⟩
     rw [if_pos c9] at H
     have c9b0 : decide (0 < (x11_2.length : Int)) = true := decide_eq_true c9
     have c9b1 : decide (0 < x11_2.length) = true := decide_eq_true (by omega)
     clear c9
     by_cases c10 : 0 < (x11_2.length : Int)
     rotate_left
     ·
      rw [if_neg c10] at H
      exact absurd H (by simp)
     rw [if_pos c10] at H
     have c10b0 : decide (0 < (x11_2.length : Int)) = true := decide_eq_true c10
     have c10b1 : decide (0 < x11_2.length) = true := decide_eq_true (by omega)
     clear c10
     have H' := Aside0.mk H
     clear H
     obtain ⟨Ao11, co11, eo11⟩ := Kd.V_slice HO_11.out
     subst eo11
     have p195 : 0 ≤ (0 : Int) := (by omega)
     have q195 : 0 < (x11_2.length : Int) := of_decide_eq_true (by first | (with_reducible assumption) | assumption)
     obtain ⟨ad195, A195_0, c195_0, e195, hx195_0, hl195_0, hi195_0⟩ := at_L1 (Kd.V_reads' HO_11.out).2.2 0 p195 q195
     cases e195
     obtain ⟨ce195, hce195, hMe195, hcc195⟩ := Kd.V_get HO_11.out [] 0 p195 (by first | exact q195 | exact of_decide_eq_true (by first | (with_reducible assumption) | assumption) | (have e_ := (Kd.V_reads' HO_11.out).1; omega))
     obtain ⟨ua195_0, uc195_0, rfl, ul195_0, ge195_0⟩ := Kd.FK_slice_open hMe195
     have hv195_0 := hcc195 0 _ rfl
     rw [Nat.add_zero, show ((Kd.slice 3 (Kd.int .i64))).sz = 1 from rfl, Nat.mul_one] at hv195_0
     replace hv195_0 := Option.some.inj (hv195_0.symm.trans hx195_0)
     injection hv195_0 with hva_ hvn_ hvc_
     rw [hva_] at ge195_0
     rw [hvc_] at ul195_0
     have HL195_0 := Aside0.mk (show Kd.V (Kd.int .i64) 3 _ w.heap.size _ _ (rd_L1 x11_2 0) from Kd.V_mk ul195_0 ge195_0)
     clear hva_ hvn_ hvc_ ge195_0 ul195_0
     clear hcc195 hce195
     have qi195 : (0 < x11_2.length) = True := eq_true (by omega)
     (try rw [show ((0 : Int)).toNat = 0 from rfl] at hx195_0)
     (try rw [Addr.add_zero'] at hx195_0)
     have HR195_0 := Aside0.mk hi195_0
     have HC195_0 := Aside0.mk hl195_0
     clear hi195_0 hl195_0
     replace p195 := eq_true p195
     replace q195 := eq_true q195
     go_wp2
     go_loopg [7, 8, 10, 11, 41] k2 (fun kq v7 v8 v10 v11 v41 w' => ∃ (x7_3 : List Int) (x8_3 : List Int) (x10_3 : Int) (x11_3 : List (List Int)) (x41_3 : Int), v10 = .int .i64 x10_3 ∧ v41 = .int .i64 x41_3 ∧ Aside0 (assign_Solve.l2 kq t191 x7_3 x8_3 x10_3 x11_3 (rd_L1 x11_2 0) ((rd_L1 x11_2 0).length : Int) x41_3 = some (r1, r2, r3)) ∧ Aside0 (kq ≤ k2) ∧ Aside0 (Kd.R (Kd.int .i64) 3 w' w.heap.size (fun k_ => (w.heap.size ≤ k_) ∧ some k_ ≠ (v8 : Value).ownBlock) v7 x7_3) ∧ Aside0 (Kd.R (Kd.int .i64) 3 w' w.heap.size (fun k_ => (w.heap.size ≤ k_) ∧ some k_ ≠ (v7 : Value).ownBlock) v8 x8_3) ∧ Aside0 (Kd.V (Kd.slice 3 (Kd.int .i64)) 23 w' w.heap.size (fun k_ => (P0_ k_ ∨ w.heap.size ≤ k_) ∧ some k_ ≠ (v7 : Value).ownBlock ∧ some k_ ≠ (v8 : Value).ownBlock) v11 x11_3) ∧ Aside0 (Kd.C (Kd.int .i64) w' A195_0 (rd_L1 x11_2 0).length (rd_L1 x11_2 0)) ∧ Aside0 (Below w.heap.size w w'))
     case atStart => exact ⟨(x7_2), (x8_2), (x10_2), (x11_2), (0), (by first | rfl | (simp; done) | (simp [*]; done)), (by first | rfl | (simp; done) | (simp [*]; done)), H', ⟨Nat.le_refl _⟩, ⟨by (with_reducible repeat (first | apply Kd.R_alloc | apply Kd.R_drewN | apply Kd.R_drew)); exact HO_7.out⟩, ⟨by (with_reducible repeat (first | apply Kd.R_alloc | apply Kd.R_drewN | apply Kd.R_drew)); exact HO_8.out⟩, ⟨by (with_reducible repeat (first | apply Kd.V_alloc | apply Kd.V_drewN | apply Kd.V_drew)); exact HO_11.out⟩, ⟨by repeat (first | (with_reducible exact HR195_0.out) | (with_reducible refine Kd.C_alloc ?_ _) | (with_reducible refine Kd.C_drewN ?_ _) | (with_reducible refine Kd.C_drew ?_) | exact HR195_0.out)⟩, ⟨HB.out⟩⟩
     case round =>
      clear H'
      try clear c1; try clear p1; try clear q1; try clear hx1; try clear qi1; try clear c2; try clear p2; try clear c3; try clear c3b0; try clear c3b1; try clear c6; try clear c6b0; try clear p6; try clear c7; try clear c9; try clear c9b0; try clear c9b1; try clear c10; try clear c10b0; try clear c10b1; try clear hx195_0; try clear p195; try clear q195
      obtain ⟨x7_3, x8_3, x10_3, x11_3, x41_3, rfl, rfl, HA, HK3, HO_7, HO_8, HO_11, HR195_0, HB⟩ := hrel
      cases gk with
      | zero => exact absurd HA.out (by simp [assign_Solve.l2])
      | succ k3 =>
       have H := HA.out
       clear HA
       simp only [assign_Solve.l2] at H
       by_cases c12 : x41_3 < ((rd_L1 x11_2 0).length : Int)
       rotate_left
       ·
        rw [if_neg c12] at H
        have c12b0 : decide (x41_3 < ((rd_L1 x11_2 0).length : Int)) = false := decide_eq_false c12
        clear c12
        have H' := Aside0.mk H
        clear H
        go_wp2
        go_roundg k3
        case measure => have := HK1.out; have := HK2.out; have := HK3.out; omega
        case rel => exact ⟨(x7_3), (x8_3), (x10_3), (x11_3), (by first | rfl | (simp; done) | (simp [*]; done)), H', ⟨by have := HK1.out; have := HK2.out; have := HK3.out; omega⟩, ⟨by (with_reducible repeat (first | apply Kd.R_alloc | apply Kd.R_drewN | apply Kd.R_drew)); exact HO_7.out⟩, ⟨by (with_reducible repeat (first | apply Kd.R_alloc | apply Kd.R_drewN | apply Kd.R_drew)); exact HO_8.out⟩, ⟨by (with_reducible repeat (first | apply Kd.V_alloc | apply Kd.V_drewN | apply Kd.V_drew)); exact HO_11.out⟩, ⟨HB.out⟩⟩
       rw [if_pos c12] at H
       have c12b0 : decide (x41_3 < ((rd_L1 x11_2 0).length : Int)) = true := decide_eq_true c12
       clear c12
       by_cases c13 : 0 ≤ x41_3
       rotate_left
       ·
        rw [if_neg c13] at H
        exact absurd H (by simp)
       rw [if_pos c13] at H
       have c13b0 : decide (0 ≤ x41_3) = true := decide_eq_true c13
       clear c13
       by_cases c14 : x41_3 < ((rd_L1 x11_2 0).length : Int)
       rotate_left
       ·
        rw [if_neg c14] at H
        exact absurd H (by simp)
       rw [if_pos c14] at H
       have c14b0 : decide (x41_3 < ((rd_L1 x11_2 0).length : Int)) = true := decide_eq_true c14
       clear c14
       replace H := Option.bind_eq_some_iff.mp H
       obtain ⟨t197, A150, H⟩ := H
       replace H : ((assign_cost.f k3 t197).bind fun t200 => (if (wrap64 ((rd (rd_L1 x11_2 0) x41_3) + t200)) = x10_3 then (if x41_3 < (x7_3.length : Int) then (if x8_3.length < 17592186044416 then ((some (([] : List Int) : List Int)).bind fun y205 => (if x41_3 ≤ (x7_3.length : Int) then ((some (x7_3.take (x41_3 : Int).toNat : List Int)).bind fun y208 => (if y205.length + y208.length < 17592186044416 then ((some (y205 ++ y208 : List Int)).bind fun y212 => (if 0 ≤ (wrap64 (x41_3 + 1)) then (if (wrap64 (x41_3 + 1)) ≤ (x7_3.length : Int) then ((some (x7_3.drop ((wrap64 (x41_3 + 1)) : Int).toNat : List Int)).bind fun y215 => (if y212.length + y215.length < 17592186044416 then (assign_Solve.l1 k3 t191 (y212 ++ y215) (x8_3 ++ [rd x7_3 x41_3]) (wrap64 (x10_3 - (rd (rd_L1 x11_2 0) x41_3))) t197) else (none))) else (none)) else (none))) else (none))) else (none))) else (none)) else (none)) else (assign_Solve.l2 k3 t191 x7_3 x8_3 x10_3 x11_3 (rd_L1 x11_2 0) ((rd_L1 x11_2 0).length : Int) (wrap64 (x41_3 + 1))))) = some (r1, r2, r3) := H
       have A15 := Aside0.mk A150
       clear A150
       replace H := Option.bind_eq_some_iff.mp H
       obtain ⟨t200, A160, H⟩ := H
       replace H : (if (wrap64 ((rd (rd_L1 x11_2 0) x41_3) + t200)) = x10_3 then (if x41_3 < (x7_3.length : Int) then (if x8_3.length < 17592186044416 then ((some (([] : List Int) : List Int)).bind fun y205 => (if x41_3 ≤ (x7_3.length : Int) then ((some (x7_3.take (x41_3 : Int).toNat : List Int)).bind fun y208 => (if y205.length + y208.length < 17592186044416 then ((some (y205 ++ y208 : List Int)).bind fun y212 => (if 0 ≤ (wrap64 (x41_3 + 1)) then (if (wrap64 (x41_3 + 1)) ≤ (x7_3.length : Int) then ((some (x7_3.drop ((wrap64 (x41_3 + 1)) : Int).toNat : List Int)).bind fun y215 => (if y212.length + y215.length < 17592186044416 then (assign_Solve.l1 k3 t191 (y212 ++ y215) (x8_3 ++ [rd x7_3 x41_3]) (wrap64 (x10_3 - (rd (rd_L1 x11_2 0) x41_3))) t197) else (none))) else (none)) else (none))) else (none))) else (none))) else (none)) else (none)) else (assign_Solve.l2 k3 t191 x7_3 x8_3 x10_3 x11_3 (rd_L1 x11_2 0) ((rd_L1 x11_2 0).length : Int) (wrap64 (x41_3 + 1)))) = some (r1, r2, r3) := H
       have A16 := Aside0.mk A160
       clear A160
       by_cases c17 : (wrap64 ((rd (rd_L1 x11_2 0) x41_3) + t200)) = x10_3
       rotate_left
       ·
        rw [if_neg c17] at H
        have c17b0 : ((wrap64 ((rd (rd_L1 x11_2 0) x41_3) + t200)) == x10_3) = false := beq_eq_false_iff_ne.mpr c17
        have c17b1 : ((wrap64 ((rd (rd_L1 x11_2 0) x41_3) + t200)) != x10_3) = true := bne_iff_ne.mpr c17
        have H' := Aside0.mk H
        clear H
        have p196 : 0 ≤ (x41_3 : Int) := of_decide_eq_true (by first | (with_reducible assumption) | assumption)
        have q196 : x41_3 < ((rd_L1 x11_2 0).length : Int) := of_decide_eq_true (by first | (with_reducible assumption) | assumption)
        obtain ⟨ad196, e196, hx196_0⟩ := Kd.at_int HR195_0.out x41_3 p196 q196
        cases e196
        try replace hx196_0 := (HB.out.cell (World.block_lt_of_cell? w _ hx196_0)).trans hx196_0
        replace p196 := eq_true p196
        replace q196 := eq_true q196
        obtain ⟨Ao40, co40, eo40⟩ := Kd.V_slice HO_11.out
        subst eo40
        go_wp2_with (first | ((with_reducible refine gate_callee (f := 24) rfl ?_); refine goesL_ (some 48) rfl rfl Try.func24 (by kernel_rfl) rfl #[.slice Ao40 x11_3.length co40, .int .i64 x41_3] rfl (by (try simp only [List.map_toArray, List.map_cons, List.map_nil]); first | done | rfl | (simp only [List.length_drop, List.length_take]; rfl)) ?_; (with_reducible refine (assign_without.calls k3 _ _ x11_3 x41_3 t197 _ ?side1 ?side2 A15.out).mono ?_); (case side1 => repeat (first | exact (Kd.V_reads' HO_11.out).2.2 | (with_reducible refine Kd.C_alloc ?_ _) | (with_reducible refine Kd.C_drewN ?_ _) | (with_reducible refine Kd.C_drew ?_))); (case side2 => exact (Kd.V_reads' HO_11.out).2.1); rintro e w41 ⟨v198, rfl, ho0, hb⟩; refine ⟨_, rfl, ?_⟩; have n0_ := Aside0.mk (Kd.R_below (by (with_reducible repeat (first | apply Kd.R_alloc | apply Kd.R_drewN | apply Kd.R_drew)); exact HO_7.out) hb); have n1_ := Aside0.mk (Kd.R_below (by (with_reducible repeat (first | apply Kd.R_alloc | apply Kd.R_drewN | apply Kd.R_drew)); exact HO_8.out) hb); have n2_ := Aside0.mk (Kd.V_elder' (by (with_reducible repeat (first | apply Kd.V_alloc | apply Kd.V_drewN | apply Kd.V_drew)); exact HO_11.out) (Kd.S_base ho0) hb); have n3_ := Aside0.mk (Kd.S_lower (Kd.S_new' (Kd.S_new' (Kd.S_newM (M := fun k_ => (w.heap.size ≤ k_)) ho0 (below_size (by repeat (first | (with_reducible first | exact HB.out | apply below_alloc | apply pw_below_drewN | apply below_drew1) | exact HB.out))) (fun k_ h_ => h_)) (Kd.R_lt (by (with_reducible repeat (first | apply Kd.R_alloc | apply Kd.R_drewN | apply Kd.R_drew)); exact HO_7.out))) (Kd.R_lt (by (with_reducible repeat (first | apply Kd.R_alloc | apply Kd.R_drewN | apply Kd.R_drew)); exact HO_8.out))) (below_size (by repeat (first | (with_reducible first | exact HB.out | apply below_alloc | apply pw_below_drewN | apply below_drew1) | exact HB.out)))); have n4_ := Aside0.mk (Kd.C_below (by repeat (first | (with_reducible exact HR195_0.out) | (with_reducible refine Kd.C_alloc ?_ _) | (with_reducible refine Kd.C_drewN ?_ _) | (with_reducible refine Kd.C_drew ?_) | exact HR195_0.out)) hb); have n5_ := Aside0.mk (below_step (by repeat (first | (with_reducible first | exact HB.out | apply below_alloc | apply pw_below_drewN | apply below_drew1) | exact HB.out)) hb); clear HO_7; clear HO_8; clear HO_11; clear HR195_0; clear HB; have HO_7 := n0_; have HO_8 := n1_; have HO_11 := n2_; have HO199 := n3_; have HR195_0 := n4_; have HB := n5_; clear n0_ n1_ n2_ n3_ n4_ n5_; (try clear hb); (try clear hb2); (try clear hk); (try clear hi); (try clear ho0); obtain ⟨Ao42, co42, eo42⟩ := Kd.S_slice HO199.out; subst eo42) | ((with_reducible refine gate_callee (f := 23) rfl ?_); refine goesL_ (some 51) rfl rfl Try.func23 (by kernel_rfl) rfl #[.slice Ao42 t197.length co42] rfl (by (try simp only [List.map_toArray, List.map_cons, List.map_nil]); first | done | rfl | (simp only [List.length_drop, List.length_take]; rfl)) ?_; (with_reducible refine (assign_cost.calls k3 _ _ t197 t200 _ ?side1 ?side2 A16.out).mono ?_); (case side1 => repeat (first | exact (Kd.S_reads' HO199.out).2.2 | (with_reducible refine Kd.C_alloc ?_ _) | (with_reducible refine Kd.C_drewN ?_ _) | (with_reducible refine Kd.C_drew ?_))); (case side2 => exact (Kd.S_reads' HO199.out).2.1); rintro e w43 ⟨rfl, hb⟩; refine ⟨_, rfl, ?_⟩; have n0_ := Aside0.mk (Kd.R_below (by (with_reducible repeat (first | apply Kd.R_alloc | apply Kd.R_drewN | apply Kd.R_drew)); exact HO_7.out) hb); have n1_ := Aside0.mk (Kd.R_below (by (with_reducible repeat (first | apply Kd.R_alloc | apply Kd.R_drewN | apply Kd.R_drew)); exact HO_8.out) hb); have n2_ := Aside0.mk (Kd.V_below (by (with_reducible repeat (first | apply Kd.V_alloc | apply Kd.V_drewN | apply Kd.V_drew)); exact HO_11.out) hb); have n3_ := Aside0.mk (Kd.S_below (by (with_reducible repeat (first | apply Kd.S_alloc | apply Kd.S_drewN | apply Kd.S_drew)); exact HO199.out) hb); have n4_ := Aside0.mk (Kd.C_below (by repeat (first | (with_reducible exact HR195_0.out) | (with_reducible refine Kd.C_alloc ?_ _) | (with_reducible refine Kd.C_drewN ?_ _) | (with_reducible refine Kd.C_drew ?_) | exact HR195_0.out)) hb); have n5_ := Aside0.mk (below_step (by repeat (first | (with_reducible first | exact HB.out | apply below_alloc | apply pw_below_drewN | apply below_drew1) | exact HB.out)) hb); clear HO_7; clear HO_8; clear HO_11; clear HO199; clear HR195_0; clear HB; have HO_7 := n0_; have HO_8 := n1_; have HO_11 := n2_; have HO199 := n3_; have HR195_0 := n4_; have HB := n5_; clear n0_ n1_ n2_ n3_ n4_ n5_; (try clear hb); (try clear hb2); (try clear hk); (try clear hi)))
        go_roundg k3
        case measure => have := HK1.out; have := HK2.out; have := HK3.out; omega
        case rel => exact ⟨(x7_3), (x8_3), (x10_3), (x11_3), (wrap64 (x41_3 + 1)), (by first | rfl | (simp; done) | (simp [*]; done)), (by first | rfl | (simp; done) | (simp [*]; done)), H', ⟨by have := HK1.out; have := HK2.out; have := HK3.out; omega⟩, ⟨by (with_reducible repeat (first | apply Kd.R_alloc | apply Kd.R_drewN | apply Kd.R_drew)); exact HO_7.out⟩, ⟨by (with_reducible repeat (first | apply Kd.R_alloc | apply Kd.R_drewN | apply Kd.R_drew)); exact HO_8.out⟩, ⟨by (with_reducible repeat (first | apply Kd.V_alloc | apply Kd.V_drewN | apply Kd.V_drew)); exact Kd.V_mono HO_11.out (fun _ hk => ⟨hk.1.1, ⟨hk.1.2.1, hk.1.2.2⟩⟩)⟩, ⟨by repeat (first | (with_reducible exact HR195_0.out) | (with_reducible refine Kd.C_alloc ?_ _) | (with_reducible refine Kd.C_drewN ?_ _) | (with_reducible refine Kd.C_drew ?_) | exact HR195_0.out)⟩, ⟨by repeat (first | (with_reducible first | exact HB.out | apply below_alloc | apply pw_below_drewN | apply below_drew1) | exact HB.out)⟩⟩
       rw [if_pos c17] at H
       have c17b0 : ((wrap64 ((rd (rd_L1 x11_2 0) x41_3) + t200)) == x10_3) = true := beq_iff_eq.mpr c17
       have c17b1 : ((wrap64 ((rd (rd_L1 x11_2 0) x41_3) + t200)) != x10_3) = false := bne_eq_false_iff_eq.mpr c17
       clear c17
       by_cases c18 : x41_3 < (x7_3.length : Int)
       rotate_left
       ·
        rw [if_neg c18] at H
        exact absurd H (by simp)
       rw [if_pos c18] at H
       have c18b0 : decide (x41_3 < (x7_3.length : Int)) = true := decide_eq_true c18
       clear c18
       by_cases c19 : x8_3.length < 17592186044416
       rotate_left
       ·
        rw [if_neg c19] at H
        exact absurd H (by simp)
       rw [if_pos c19] at H
       have LMc19 := Aside0.mk c19
       clear c19
       obtain ⟨y202, hy202⟩ : ∃ y_ : List Int, y_ = (x8_3 ++ [rd x7_3 x41_3]) := ⟨_, rfl⟩
       replace H : ((some (([] : List Int) : List Int)).bind fun y205 => (if x41_3 ≤ (x7_3.length : Int) then ((some (x7_3.take (x41_3 : Int).toNat : List Int)).bind fun y208 => (if y205.length + y208.length < 17592186044416 then ((some (y205 ++ y208 : List Int)).bind fun y212 => (if 0 ≤ (wrap64 (x41_3 + 1)) then (if (wrap64 (x41_3 + 1)) ≤ (x7_3.length : Int) then ((some (x7_3.drop ((wrap64 (x41_3 + 1)) : Int).toNat : List Int)).bind fun y215 => (if y212.length + y215.length < 17592186044416 then (assign_Solve.l1 k3 t191 (y212 ++ y215) y202 (wrap64 (x10_3 - (rd (rd_L1 x11_2 0) x41_3))) t197) else (none))) else (none)) else (none))) else (none))) else (none))) = some (r1, r2, r3) := by first | (rw [hy202]; with_reducible exact H) | (have H2_ := (Option.bind_some _ _).symm.trans H; rw [hy202]; with_reducible exact H2_) | (have H2_ := (Option.bind_some _ _).symm.trans H; with_reducible exact H2_) | with_reducible exact H | (rw [hy202]; exact H) | exact H
       have Ny202 := Aside0.mk hy202
       clear hy202
       obtain ⟨y205, hy205⟩ : ∃ y_ : List Int, y_ = (([] : List Int)) := ⟨_, rfl⟩
       replace H : (if x41_3 ≤ (x7_3.length : Int) then ((some (x7_3.take (x41_3 : Int).toNat : List Int)).bind fun y208 => (if y205.length + y208.length < 17592186044416 then ((some (y205 ++ y208 : List Int)).bind fun y212 => (if 0 ≤ (wrap64 (x41_3 + 1)) then (if (wrap64 (x41_3 + 1)) ≤ (x7_3.length : Int) then ((some (x7_3.drop ((wrap64 (x41_3 + 1)) : Int).toNat : List Int)).bind fun y215 => (if y212.length + y215.length < 17592186044416 then (assign_Solve.l1 k3 t191 (y212 ++ y215) y202 (wrap64 (x10_3 - (rd (rd_L1 x11_2 0) x41_3))) t197) else (none))) else (none)) else (none))) else (none))) else (none)) = some (r1, r2, r3) := by first | (rw [hy205]; with_reducible exact H) | (have H2_ := (Option.bind_some _ _).symm.trans H; rw [hy205]; with_reducible exact H2_) | (have H2_ := (Option.bind_some _ _).symm.trans H; with_reducible exact H2_) | with_reducible exact H | (rw [hy205]; exact H) | exact H
       have Ny205 := Aside0.mk hy205
       clear hy205
       have c20b0 := eq_true (of_decide_eq_true (by first | (with_reducible assumption) | assumption) : 0 ≤ x41_3)
       by_cases c21 : x41_3 ≤ (x7_3.length : Int)
       rotate_left
       ·
        rw [if_neg c21] at H
        exact absurd H (by simp)
       rw [if_pos c21] at H
       have c21b0 := eq_true c21
       have c21b1 : decide (x41_3 ≤ (x7_3.length : Int)) = true := decide_eq_true c21
       clear c21
       obtain ⟨y208, hy208⟩ : ∃ y_ : List Int, y_ = (x7_3.take (x41_3 : Int).toNat) := ⟨_, rfl⟩
       replace H : (if y205.length + y208.length < 17592186044416 then ((some (y205 ++ y208 : List Int)).bind fun y212 => (if 0 ≤ (wrap64 (x41_3 + 1)) then (if (wrap64 (x41_3 + 1)) ≤ (x7_3.length : Int) then ((some (x7_3.drop ((wrap64 (x41_3 + 1)) : Int).toNat : List Int)).bind fun y215 => (if y212.length + y215.length < 17592186044416 then (assign_Solve.l1 k3 t191 (y212 ++ y215) y202 (wrap64 (x10_3 - (rd (rd_L1 x11_2 0) x41_3))) t197) else (none))) else (none)) else (none))) else (none)) = some (r1, r2, r3) := by first | (rw [hy208]; with_reducible exact H) | (have H2_ := (Option.bind_some _ _).symm.trans H; rw [hy208]; with_reducible exact H2_) | (have H2_ := (Option.bind_some _ _).symm.trans H; with_reducible exact H2_) | with_reducible exact H | (rw [hy208]; exact H) | exact H
       have Ny208 := Aside0.mk hy208
       clear hy208
       by_cases c22 : y205.length + y208.length < 17592186044416
       rotate_left
       ·
        rw [if_neg c22] at H
        exact absurd H (by simp)
       rw [if_pos c22] at H
       have LMc22 := Aside0.mk c22
       clear c22
       obtain ⟨y212, hy212⟩ : ∃ y_ : List Int, y_ = (y205 ++ y208) := ⟨_, rfl⟩
       replace H : (if 0 ≤ (wrap64 (x41_3 + 1)) then (if (wrap64 (x41_3 + 1)) ≤ (x7_3.length : Int) then ((some (x7_3.drop ((wrap64 (x41_3 + 1)) : Int).toNat : List Int)).bind fun y215 => (if y212.length + y215.length < 17592186044416 then (assign_Solve.l1 k3 t191 (y212 ++ y215) y202 (wrap64 (x10_3 - (rd (rd_L1 x11_2 0) x41_3))) t197) else (none))) else (none)) else (none)) = some (r1, r2, r3) := by first | (rw [hy212]; with_reducible exact H) | (have H2_ := (Option.bind_some _ _).symm.trans H; rw [hy212]; with_reducible exact H2_) | (have H2_ := (Option.bind_some _ _).symm.trans H; with_reducible exact H2_) | with_reducible exact H | (rw [hy212]; exact H) | exact H
       have Ny212 := Aside0.mk hy212
       clear hy212
       obtain ⟨ji23, hji23⟩ : ∃ j_ : Int, (wrap64 (x41_3 + 1)) = j_ := ⟨_, rfl⟩
       replace H : (if 0 ≤ (ji23) then (if (ji23) ≤ (x7_3.length : Int) then ((some (x7_3.drop ((ji23) : Int).toNat : List Int)).bind fun y215 => (if y212.length + y215.length < 17592186044416 then (assign_Solve.l1 k3 t191 (y212 ++ y215) y202 (wrap64 (x10_3 - (rd (rd_L1 x11_2 0) x41_3))) t197) else (none))) else (none)) else (none)) = some (r1, r2, r3) := by first | (rw [hji23] at H; exact H) | (simp only [hji23] at H ⊢; exact H)
       (try rw [hji23] at A15)
       (try rw [hji23] at A16)
       have hji23w : (IntKind.i64.wrap (x41_3 + 1)) = ji23 := (i64_w _).trans hji23
       by_cases c24 : 0 ≤ (ji23)
       rotate_left
       ·
        rw [if_neg c24] at H
        exact absurd H (by simp)
       rw [if_pos c24] at H
       have c24b0 := eq_true c24
       have c24b1 : decide (0 ≤ (ji23)) = true := decide_eq_true c24
       clear c24
       by_cases c25 : (ji23) ≤ (x7_3.length : Int)
       rotate_left
       ·
        rw [if_neg c25] at H
        exact absurd H (by simp)
       rw [if_pos c25] at H
       have c25b0 := eq_true c25
       have c25b1 : decide ((ji23) ≤ (x7_3.length : Int)) = true := decide_eq_true c25
       clear c25
       obtain ⟨y215, hy215⟩ : ∃ y_ : List Int, y_ = (x7_3.drop ((ji23) : Int).toNat) := ⟨_, rfl⟩
       replace H : (if y212.length + y215.length < 17592186044416 then (assign_Solve.l1 k3 t191 (y212 ++ y215) y202 (wrap64 (x10_3 - (rd (rd_L1 x11_2 0) x41_3))) t197) else (none)) = some (r1, r2, r3) := by first | (rw [hy215]; with_reducible exact H) | (have H2_ := (Option.bind_some _ _).symm.trans H; rw [hy215]; with_reducible exact H2_) | (have H2_ := (Option.bind_some _ _).symm.trans H; with_reducible exact H2_) | with_reducible exact H | (rw [hy215]; exact H) | exact H
       have Ny215 := Aside0.mk hy215
       clear hy215
       by_cases c26 : y212.length + y215.length < 17592186044416
       rotate_left
       ·
        rw [if_neg c26] at H
        exact absurd H (by simp)
       rw [if_pos c26] at H
       have LMc26 := Aside0.mk c26
       clear c26
       obtain ⟨y219, hy219⟩ : ∃ y_ : List Int, y_ = (y212 ++ y215) := ⟨_, rfl⟩
       rw [← hy219] at H
       have Ny219 := Aside0.mk hy219
       clear hy219
       have H' := Aside0.mk H
       clear H
       have p196 : 0 ≤ (x41_3 : Int) := of_decide_eq_true (by first | (with_reducible assumption) | assumption)
       have q196 : x41_3 < ((rd_L1 x11_2 0).length : Int) := of_decide_eq_true (by first | (with_reducible assumption) | assumption)
       obtain ⟨ad196, e196, hx196_0⟩ := Kd.at_int HR195_0.out x41_3 p196 q196
       cases e196
       try replace hx196_0 := (HB.out.cell (World.block_lt_of_cell? w _ hx196_0)).trans hx196_0
       replace p196 := eq_true p196
       replace q196 := eq_true q196
       obtain ⟨Ao27, co27, eo27⟩ := Kd.V_slice HO_11.out
       subst eo27
       try go_wp2_with (first | ((with_reducible refine gate_callee (f := 24) rfl ?_); refine goesL_ (some 48) rfl rfl Try.func24 (by kernel_rfl) rfl #[.slice Ao27 x11_3.length co27, .int .i64 x41_3] rfl (by (try simp only [List.map_toArray, List.map_cons, List.map_nil]); first | done | rfl | (simp only [List.length_drop, List.length_take]; rfl)) ?_; (with_reducible refine (assign_without.calls k3 _ _ x11_3 x41_3 t197 _ ?side1 ?side2 A15.out).mono ?_); (case side1 => repeat (first | exact (Kd.V_reads' HO_11.out).2.2 | (with_reducible refine Kd.C_alloc ?_ _) | (with_reducible refine Kd.C_drewN ?_ _) | (with_reducible refine Kd.C_drew ?_))); (case side2 => exact (Kd.V_reads' HO_11.out).2.1); rintro e w28 ⟨v198, rfl, ho0, hb⟩; refine ⟨_, rfl, ?_⟩; replace HO_11 := Aside0.mk (Kd.V_elder' (by (with_reducible repeat (first | apply Kd.V_alloc | apply Kd.V_drewN | apply Kd.V_drew)); exact HO_11.out) (Kd.S_base ho0) hb); have HO199 := Aside0.mk (Kd.S_lower (Kd.S_new' (Kd.S_new' (Kd.S_newM (M := fun k_ => (w.heap.size ≤ k_)) ho0 (below_size HB.out) (fun k_ h_ => h_)) (Kd.R_lt HO_7.out)) (Kd.R_lt HO_8.out)) (below_size HB.out)); replace HO_7 := Aside0.mk (Kd.R_below HO_7.out hb); replace HO_8 := Aside0.mk (Kd.R_below HO_8.out hb); replace HR195_0 := Aside0.mk (Kd.C_below (by repeat (first | (with_reducible exact HR195_0.out) | (with_reducible refine Kd.C_alloc ?_ _) | (with_reducible refine Kd.C_drewN ?_ _) | (with_reducible refine Kd.C_drew ?_) | exact HR195_0.out)) hb); replace HB := mSt HB hb; (try clear hb); (try clear ho0); obtain ⟨Ao29, co29, eo29⟩ := Kd.S_slice HO199.out; subst eo29) | ((with_reducible refine gate_callee (f := 23) rfl ?_); refine goesL_ (some 51) rfl rfl Try.func23 (by kernel_rfl) rfl #[.slice Ao29 t197.length co29] rfl (by (try simp only [List.map_toArray, List.map_cons, List.map_nil]); first | done | rfl | (simp only [List.length_drop, List.length_take]; rfl)) ?_; (with_reducible refine (assign_cost.calls k3 _ _ t197 t200 _ ?side1 ?side2 A16.out).mono ?_); (case side1 => repeat (first | exact (Kd.S_reads' HO199.out).2.2 | (with_reducible refine Kd.C_alloc ?_ _) | (with_reducible refine Kd.C_drewN ?_ _) | (with_reducible refine Kd.C_drew ?_))); (case side2 => exact (Kd.S_reads' HO199.out).2.1); rintro e w30 ⟨rfl, hb⟩; refine ⟨_, rfl, ?_⟩; replace HO_7 := Aside0.mk (Kd.R_below HO_7.out hb); replace HO_8 := Aside0.mk (Kd.R_below HO_8.out hb); replace HO_11 := Aside0.mk (Kd.V_below (by (with_reducible repeat (first | apply Kd.V_alloc | apply Kd.V_drewN | apply Kd.V_drew)); exact HO_11.out) hb); replace HO199 := Aside0.mk (Kd.S_below (by (with_reducible repeat (first | apply Kd.S_alloc | apply Kd.S_drewN | apply Kd.S_drew)); exact HO199.out) hb); replace HR195_0 := Aside0.mk (Kd.C_below (by repeat (first | (with_reducible exact HR195_0.out) | (with_reducible refine Kd.C_alloc ?_ _) | (with_reducible refine Kd.C_drewN ?_ _) | (with_reducible refine Kd.C_drew ?_) | exact HR195_0.out)) hb); replace HB := mSt HB hb; (try clear hb); obtain ⟨Ao31, co31, eo31⟩ := Kd.R_slice HO_7.out; subst eo31; have p201 : 0 ≤ (x41_3 : Int) := of_decide_eq_true (by first | (with_reducible assumption) | assumption); have q201 : x41_3 < (x7_3.length : Int) := of_decide_eq_true (by first | (with_reducible assumption) | assumption); obtain ⟨ad201, e201, hx201_0⟩ := Kd.at_int (Kd.R_reads' HO_7.out).2.2 x41_3 p201 q201; cases e201; replace p201 := eq_true p201; replace q201 := eq_true q201) | ((with_reducible refine gate_builtin (b := .append) (xs := #[.tmp 55, .tmp 60]) rfl ?_); at_builtin; refine Kd.R_append (Kd.int .i64) (w0 := w) w.heap.size rfl (.tmp 55) (.tmp 60) 23 3 (.int .i64 0) 8 rfl Try.underlying23 info3 rfl (by decide) (by omega) u8 x8_3 (rd x7_3 x41_3) [.int .i64 (rd x7_3 x41_3)] (fun k_ => (w.heap.size ≤ k_) ∧ some k_ ≠ (.slice (some ad201) x7_3.length co31 : Value).ownBlock) (fun _ => False) rfl rfl ?aP (fun _ hk => hk.elim) ?aF ?aO ?aB ?aS ?aL ?_; (case aP => exact rfl); (case aB => exact HB.out); (case aF => exact (fun k_ hk => ⟨(Nat.le_trans (below_size HB.out) hk), Kd.fresh' (Kd.R_lt HO_7.out) k_ hk⟩)); (case aO => exact HO_8.out); (case aS => exact (below_size HB.out)); (case aL => have := LMc19.out; omega); intro v203 w32 ho hb hg hat; rw [← Ny202.out] at ho; replace HO_7 := Aside0.mk (Kd.R_after (ok := (fun k_ => (w.heap.size ≤ k_))) HO_7.out hg hat); replace HO_11 := Aside0.mk (Kd.V_afterv (ok := (fun k_ => (P0_ k_ ∨ w.heap.size ≤ k_) ∧ some k_ ≠ (.slice (some ad201) x7_3.length co31 : Value).ownBlock ∧ some k_ ≠ (.slice Ao29 t197.length co29 : Value).ownBlock)) (by (with_reducible repeat (first | apply Kd.V_alloc | apply Kd.V_drewN | apply Kd.V_drew)); exact Kd.V_mono HO_11.out (fun _ hk => ⟨⟨hk.1.1, ⟨hk.1.2.1, hk.2⟩⟩, hk.1.2.2⟩)) hg hat); replace HO199 := Aside0.mk (Kd.S_after (ok := (fun k_ => (w.heap.size ≤ k_) ∧ some k_ ≠ (.slice (some ad201) x7_3.length co31 : Value).ownBlock)) (by (with_reducible repeat (first | apply Kd.S_alloc | apply Kd.S_drewN | apply Kd.S_drew)); exact Kd.S_mono HO199.out (fun _ hk => ⟨⟨hk.1.1.1, hk.1.2⟩, hk.2⟩)) hg hat); replace HB := Aside0.mk hb; have HO204 := Aside0.mk ho; clear HO_8; clear ho hb hg hat))
       replace HO_7 := Aside0.mk (Kd.R_drew HO_7.out); replace HO_11 := Aside0.mk (Kd.V_drew HO_11.out); replace HO199 := Aside0.mk (Kd.S_drew HO199.out); replace HO204 := Aside0.mk (Kd.R_drew HO204.out); replace HB := Aside0.mk (below_drew1 HB.out)
       have q34 : (x41_3 : Int) ≤ ((x7_3.length : Int) : Int) := of_decide_eq_true (by first | (with_reducible assumption) | assumption)
       obtain ⟨i034, hi034, _, hsz34, _⟩ := info_parts info3
       have hroom34 : x7_3.length ≤ co31 := (Kd.R_reads' HO_7.out).2.1
       have hC34 : Kd.C (Kd.int .i64) _ (some ad201) x7_3.length x7_3 := (Kd.R_reads' HO_7.out).2.2
       have hcut34 := cut_to (P := Try.prog) 23 3 .i64 Try.underlying23 hi034 (some ad201) x7_3.length co31 x41_3 (of_decide_eq_true (by first | (with_reducible assumption) | assumption)) q34 hroom34
       have hr34 := Kd.C_take (m := (x41_3 : Int).toNat) hC34 (by omega)
       have hy34 : y208.length = (x41_3 : Int).toNat := (by rw [Ny208.out, List.length_take]; omega)
       rw [← Ny208.out] at hr34
       rw [← hy34] at hcut34
       have HR211 := Aside0.mk hr34
       have HC211 := Aside0.mk (show y208.length ≤ co31 from by omega)
       clear hr34 hC34 hroom34 hi034 hsz34
       have KY34 := Aside0.mk hy34
       clear hy34
       have KL34 := Aside0.mk (show (x41_3 : Int).toNat ≤ x7_3.length from by omega)
       replace q34 := eq_true q34
       have q35 : ((ji23) : Int) ≤ ((x7_3.length : Int) : Int) := of_decide_eq_true (by first | (with_reducible assumption) | assumption)
       obtain ⟨i035, hi035, _, hsz35, _⟩ := info_parts info3
       have hroom35 : x7_3.length ≤ co31 := (Kd.R_reads' HO_7.out).2.1
       have hC35 : Kd.C (Kd.int .i64) _ (some ad201) x7_3.length x7_3 := (Kd.R_reads' HO_7.out).2.2
       have q035 : (0 : Int) ≤ ((ji23) : Int) := of_decide_eq_true (by first | (with_reducible assumption) | assumption)
       have hcut35 := cut_from (P := Try.prog) 23 3 .i64 Try.underlying23 hi035 1 hsz35 (some ad201) x7_3.length co31 (ji23) q035 q35
       have hr35 := Kd.C_drop (m := ((ji23) : Int).toNat) (c := co31) hC35 (by omega) hroom35
       obtain ⟨A35, hA35⟩ : ∃ A1, A1 = (if co31 = ((ji23) : Int).toNat then (some ad201) else ((some ad201) : Option Addr).map (·.add (((ji23) : Int).toNat * 1))) := ⟨_, rfl⟩
       obtain ⟨c35, hc35⟩ : ∃ c1, c1 = co31 - ((ji23) : Int).toNat := ⟨_, rfl⟩
       have hy35 : y215.length = x7_3.length - ((ji23) : Int).toNat := (by rw [Ny215.out, List.length_drop] <;> omega)
       rw [show (x7_3).drop ((ji23) : Int).toNat = y215 from Ny215.out.symm] at hr35
       replace hr35 : Kd.C (Kd.int .i64) _ A35 y215.length y215 := (by rw [hA35]; exact hr35)
       rw [← hy35, ← hA35, ← hc35] at hcut35
       have HR218 := Aside0.mk hr35
       have HC218 := Aside0.mk (show y215.length ≤ c35 from by rw [hy35, hc35]; exact Nat.sub_le_sub_right hroom35 _)
       clear hr35 hC35 hroom35 hi035 hsz35 hc35
       have KY35 := Aside0.mk hy35
       have KA35 := Aside0.mk hA35
       clear hy35 hA35
       have KL35 := Aside0.mk (show ((ji23) : Int).toNat ≤ x7_3.length from by omega)
       replace q35 := eq_true q35
       refine start_ (n := 11) (S := fun w' => True) (ds := []) #[false, false, false, false, false, false, false, false, false, false, false] (by kernel_rfl) rfl rfl trivial (fun hHeld => ?_); refine with_tabW assign_Solve.tab19 assign_Solve.bits19 (fun HT_ HW_ => ?_)
       generalize w32.drew = w33 at HO_7 HO_11 HO199 HO204 HB HR211 HR218 hHeld ⊢
       refine pure_ (i := 1) (N := some 63) (v := ?_) (a' := ?_) #[false, true, false, false, false, false, false, false, false, false, false] rfl rfl (any_of HT_.out (by kernel_rfl)) (fun _ _ _ h => h) (Or.inl ⟨by rfl, ?_⟩) ?_ ?_
       rotate_left
       ·
        intro w'
        go_simp
        with_reducible rfl
       rotate_left
       ·
        simp only [Act.put, List.setIfInBounds_toArray, List.set_cons_zero, List.set_cons_succ, i64_w, i32_w]
        rfl
       refine pure_ (i := 2) (N := some 64) (v := ?_) (a' := ?_) #[false, true, true, false, false, false, false, false, false, false, false] rfl rfl (any_of HT_.out (by kernel_rfl)) (fun _ _ _ h => h) (Or.inl ⟨by rfl, ?_⟩) ?_ ?_
       rotate_left
       ·
        intro w'
        go_simp
        with_reducible rfl
       rotate_left
       ·
        simp only [Act.put, List.setIfInBounds_toArray, List.set_cons_zero, List.set_cons_succ, i64_w, i32_w]
        rfl
       refine pure_ (i := 3) (N := some 65) (v := ?_) (a' := ?_) #[false, true, true, true, false, false, false, false, false, false, false] rfl rfl (any_of HT_.out (by kernel_rfl)) (fun _ _ _ h => h) (Or.inl ⟨by rfl, ?_⟩) ?_ ?_
       rotate_left
       ·
        intro w'
        go_simp
        with_reducible rfl
       rotate_left
       ·
        simp only [Act.put, List.setIfInBounds_toArray, List.set_cons_zero, List.set_cons_succ, i64_w, i32_w]
        rfl
       refine pure_ (i := 5) (N := some 67) (v := ?_) (a' := ?_) #[false, true, true, true, false, true, false, false, false, false, false] rfl rfl (any_of HT_.out (by kernel_rfl)) (fun _ _ _ h => h) (Or.inl ⟨by rfl, ?_⟩) ?_ ?_
       rotate_left
       ·
        intro w'
        go_simp
        with_reducible rfl
       rotate_left
       ·
        simp only [Act.put, List.setIfInBounds_toArray, List.set_cons_zero, List.set_cons_succ, i64_w, i32_w]
        rfl
       refine pure_ (i := 6) (N := some 68) (v := ?_) (a' := ?_) #[false, true, true, true, false, true, true, false, false, false, false] rfl rfl (any_of HT_.out (by kernel_rfl)) (fun _ _ _ h => h) (Or.inl ⟨by rfl, ?_⟩) ?_ ?_
       rotate_left
       ·
        intro w'
        go_simp
        with_reducible rfl
       rotate_left
       ·
        simp only [Act.put, List.setIfInBounds_toArray, List.set_cons_zero, List.set_cons_succ, i64_w, i32_w]
        rfl
       refine pure_ (i := 7) (N := some 69) (v := ?_) (a' := ?_) #[false, true, true, true, false, true, true, true, false, false, false] rfl rfl (any_of HT_.out (by kernel_rfl)) (fun _ _ _ h => h) (Or.inl ⟨by rfl, ?_⟩) ?_ ?_
       rotate_left
       ·
        intro w'
        go_simp
        with_reducible rfl
       rotate_left
       ·
        simp only [Act.put, List.setIfInBounds_toArray, List.set_cons_zero, List.set_cons_succ, i64_w, i32_w]
        rfl
       refine pure_ (i := 8) (N := some 70) (v := ?_) (a' := ?_) #[false, true, true, true, false, true, true, true, true, false, false] rfl rfl (any_of HT_.out (by kernel_rfl)) (fun _ _ _ h => h) (Or.inl ⟨by rfl, ?_⟩) ?_ ?_
       rotate_left
       ·
        intro w'
        go_simp
        with_reducible rfl
       rotate_left
       ·
        simp only [Act.put, List.setIfInBounds_toArray, List.set_cons_zero, List.set_cons_succ, i64_w, i32_w]
        rfl
       refine one_ (i := 0) (N := some 62) #[true, true, true, true, false, true, true, true, true, false, false] rfl rfl (one_of HT_.out (by kernel_rfl)) (by decide) (fun K hK => ?_)
       refine Kd.R_lit_step (Kd.int .i64) _ 3 ?hg (N := 62) ?hd (xs := ([] : List Int)) (inner := []) (ok := fun _ => True) (okp := fun _ => True) ?hr ?hp (fun _ hk => hk) trivial (Below.refl _ _) (Nat.le_refl _) (by simp) ?_; (case hd => rfl); (case hg => rfl); (case hr => first | (go_simp; done) | (go_simp; rfl)); (case hp => exact (Reps.none _ _))
       intro v206 w36 ho37 hb hg_ hnew_
       clear hg_ hnew_
       (first | rw [← Ny205.out] at ho37 | (simp only [Int.reduceToNat] at ho37; rw [← Ny205.out] at ho37))
       replace HO_11 := Aside0.mk (Kd.V_elder' (by (with_reducible repeat (first | apply Kd.V_alloc | apply Kd.V_drewN | apply Kd.V_drew)); exact HO_11.out) (Kd.R_base ho37) hb); replace HO199 := Aside0.mk (Kd.S_elder' (by (with_reducible repeat (first | apply Kd.S_alloc | apply Kd.S_drewN | apply Kd.S_drew)); exact HO199.out) (Kd.R_base ho37) hb); have HO207 := Aside0.mk (Kd.R_lower (Kd.R_new' (Kd.R_new' (Kd.R_newM (M := fun k_ => (w.heap.size ≤ k_)) ho37 (below_size HB.out) (fun k_ h_ => h_)) (Kd.R_lt HO_7.out)) (Kd.R_lt HO204.out)) (below_size HB.out)); replace HO_7 := Aside0.mk (Kd.R_elder' HO_7.out (Kd.R_base ho37) hb); replace HO204 := Aside0.mk (Kd.R_elder' HO204.out (Kd.R_base ho37) hb); replace HR211 := Aside0.mk (Kd.C_below (by repeat (first | (with_reducible exact HR211.out) | (with_reducible refine Kd.C_alloc ?_ _) | (with_reducible refine Kd.C_drewN ?_ _) | (with_reducible refine Kd.C_drew ?_) | exact HR211.out)) hb); replace HR218 := Aside0.mk (Kd.C_below (by repeat (first | (with_reducible exact HR218.out) | (with_reducible refine Kd.C_alloc ?_ _) | (with_reducible refine Kd.C_drewN ?_ _) | (with_reducible refine Kd.C_drew ?_) | exact HR218.out)) hb); replace HB := mSt HB hb
       clear hb ho37
       refine hK.out _ _ trivial (fun hHeld => ?_)
       clear hK K
       refine norm_ (a' := ?_) ?_ ?_
       rotate_left
       ·
        show Act.put _ (some 62) _ = _
        simp only [Act.put, List.setIfInBounds_toArray, List.set_cons_zero, List.set_cons_succ, i64_w, i32_w]
        rfl
       refine one_ (i := 4) (N := some 66) #[true, true, true, true, true, true, true, true, true, false, false] rfl rfl (one_of HT_.out (by kernel_rfl)) (by decide) (fun K hK => ?_)
       refine Kd.R_append_rows_step (Kd.int .i64) (w0 := w) w.heap.size (by rfl) (.tmp 62) (.tmp 65) 23 3 (.int .i64 0) 8 rfl Try.underlying23 info3 rfl (by decide) (by omega) v206 y205 y208 _ _ _ (fun k_ => (w.heap.size ≤ k_) ∧ some k_ ≠ (.slice (some ad201) x7_3.length co31 : Value).ownBlock ∧ some k_ ≠ (v203 : Value).ownBlock) (fun _ => False) rfl rfl ?aO ?aR (fun _ _ h => h) (fun _ h => h.elim) ?aF ?aB ?aS ?aL ?_
       (case aR => repeat (first | exact (by repeat (first | (with_reducible exact HR211.out) | (with_reducible refine Kd.C_alloc ?_ _) | (with_reducible refine Kd.C_drewN ?_ _) | (with_reducible refine Kd.C_drew ?_) | exact HR211.out)) | (with_reducible refine Kd.C_alloc ?_ _) | (with_reducible refine Kd.C_drewN ?_ _) | (with_reducible refine Kd.C_drew ?_)))
       (case aB => exact HB.out)
       (case aF => exact (fun k_ hk => ⟨(Nat.le_trans (below_size HB.out) hk), Kd.fresh' (Kd.R_lt HO_7.out) k_ hk, Kd.fresh' (Kd.R_lt HO204.out) k_ hk⟩))
       (case aO => exact (by (with_reducible repeat (first | apply Kd.R_alloc | apply Kd.R_drewN | apply Kd.R_drew)); exact Kd.R_mono HO207.out (fun _ hk => ⟨hk.1.1.1, ⟨hk.1.2, hk.2⟩⟩)))
       (case aS => exact (below_size HB.out))
       (case aL => have := LMc22.out; omega)
       intro v213 w38 ho hb hg hat
       rw [← Ny212.out] at ho
       replace HO_11 := Aside0.mk (Kd.V_afterv (ok := (fun k_ => (P0_ k_ ∨ w.heap.size ≤ k_) ∧ some k_ ≠ (.slice (some ad201) x7_3.length co31 : Value).ownBlock ∧ some k_ ≠ (.slice Ao29 t197.length co29 : Value).ownBlock ∧ some k_ ≠ (v203 : Value).ownBlock)) (by (with_reducible repeat (first | apply Kd.V_alloc | apply Kd.V_drewN | apply Kd.V_drew)); exact Kd.V_mono HO_11.out (fun _ hk => ⟨⟨hk.1.1.1, ⟨hk.1.1.2.1, ⟨hk.1.1.2.2, hk.1.2⟩⟩⟩, hk.2⟩)) hg hat); replace HO199 := Aside0.mk (Kd.S_after (ok := (fun k_ => (w.heap.size ≤ k_) ∧ some k_ ≠ (.slice (some ad201) x7_3.length co31 : Value).ownBlock ∧ some k_ ≠ (v203 : Value).ownBlock)) (by (with_reducible repeat (first | apply Kd.S_alloc | apply Kd.S_drewN | apply Kd.S_drew)); exact Kd.S_mono HO199.out (fun _ hk => ⟨⟨hk.1.1.1, ⟨hk.1.1.2, hk.1.2⟩⟩, hk.2⟩)) hg hat); replace HO204 := Aside0.mk (Kd.R_after (ok := (fun k_ => (w.heap.size ≤ k_) ∧ some k_ ≠ (.slice (some ad201) x7_3.length co31 : Value).ownBlock)) HO204.out hg hat); replace HB := Aside0.mk hb; replace HR211 := Aside0.mk ((show Kd.C (Kd.int .i64) w38 (some ad201) y208.length y208 from by rw [Ny208.out]; exact Kd.C_take (m := (x41_3 : Int).toNat) ((Kd.R_reads' (Kd.R_after (ok := (fun k_ => (w.heap.size ≤ k_) ∧ some k_ ≠ (v203 : Value).ownBlock)) HO_7.out hg hat)).2.2) KL34.out)); replace HR218 := Aside0.mk ((show Kd.C (Kd.int .i64) w38 A35 y215.length y215 from by rw [Ny215.out, KA35.out]; exact Kd.C_drop (m := ((ji23) : Int).toNat) (c := co31) ((Kd.R_reads' (Kd.R_after (ok := (fun k_ => (w.heap.size ≤ k_) ∧ some k_ ≠ (v203 : Value).ownBlock)) HO_7.out hg hat)).2.2) KL35.out ((Kd.R_reads' (Kd.R_after (ok := (fun k_ => (w.heap.size ≤ k_) ∧ some k_ ≠ (v203 : Value).ownBlock)) HO_7.out hg hat)).2.1))); replace HO_7 := Aside0.mk (Kd.R_after (ok := (fun k_ => (w.heap.size ≤ k_) ∧ some k_ ≠ (v203 : Value).ownBlock)) HO_7.out hg hat); have HO214 := Aside0.mk ho; clear HO207
       clear ho hb hg hat
       refine hK.out _ _ trivial (fun hHeld => ?_)
       clear hK K
       refine norm_ (a' := ?_) ?_ ?_
       rotate_left
       ·
        show Act.put _ (some 66) _ = _
        simp only [Act.put, List.setIfInBounds_toArray, List.set_cons_zero, List.set_cons_succ, i64_w, i32_w]
        rfl
       refine one_ (i := 9) (N := some 71) #[true, true, true, true, true, true, true, true, true, true, false] rfl rfl (one_of HT_.out (by kernel_rfl)) (by decide) (fun K hK => ?_)
       refine Kd.R_append_rows_step (Kd.int .i64) (w0 := w) w.heap.size (by rfl) (.tmp 66) (.tmp 70) 23 3 (.int .i64 0) 8 rfl Try.underlying23 info3 rfl (by decide) (by omega) v213 y212 y215 _ _ _ (fun k_ => (w.heap.size ≤ k_) ∧ some k_ ≠ (.slice (some ad201) x7_3.length co31 : Value).ownBlock ∧ some k_ ≠ (v203 : Value).ownBlock) (fun _ => False) rfl rfl ?aO ?aR (fun _ _ h => h) (fun _ h => h.elim) ?aF ?aB ?aS ?aL ?_
       (case aR => repeat (first | exact (by repeat (first | (with_reducible exact HR218.out) | (with_reducible refine Kd.C_alloc ?_ _) | (with_reducible refine Kd.C_drewN ?_ _) | (with_reducible refine Kd.C_drew ?_) | exact HR218.out)) | (with_reducible refine Kd.C_alloc ?_ _) | (with_reducible refine Kd.C_drewN ?_ _) | (with_reducible refine Kd.C_drew ?_)))
       (case aB => exact HB.out)
       (case aF => exact (fun k_ hk => ⟨(Nat.le_trans (below_size HB.out) hk), Kd.fresh' (Kd.R_lt HO_7.out) k_ hk, Kd.fresh' (Kd.R_lt HO204.out) k_ hk⟩))
       (case aO => exact HO214.out)
       (case aS => exact (below_size HB.out))
       (case aL => have := LMc26.out; omega)
       intro v220 w39 ho hb hg hat
       rw [← Ny219.out] at ho
       replace HO_11 := Aside0.mk (Kd.V_afterv (ok := (fun k_ => (P0_ k_ ∨ w.heap.size ≤ k_) ∧ some k_ ≠ (.slice (some ad201) x7_3.length co31 : Value).ownBlock ∧ some k_ ≠ (.slice Ao29 t197.length co29 : Value).ownBlock ∧ some k_ ≠ (v203 : Value).ownBlock)) (by (with_reducible repeat (first | apply Kd.V_alloc | apply Kd.V_drewN | apply Kd.V_drew)); exact HO_11.out) hg hat); replace HO199 := Aside0.mk (Kd.S_after (ok := (fun k_ => (w.heap.size ≤ k_) ∧ some k_ ≠ (.slice (some ad201) x7_3.length co31 : Value).ownBlock ∧ some k_ ≠ (v203 : Value).ownBlock)) (by (with_reducible repeat (first | apply Kd.S_alloc | apply Kd.S_drewN | apply Kd.S_drew)); exact HO199.out) hg hat); replace HO204 := Aside0.mk (Kd.R_after (ok := (fun k_ => (w.heap.size ≤ k_) ∧ some k_ ≠ (.slice (some ad201) x7_3.length co31 : Value).ownBlock)) HO204.out hg hat); replace HB := Aside0.mk hb; replace HR211 := Aside0.mk ((show Kd.C (Kd.int .i64) w39 (some ad201) y208.length y208 from by rw [Ny208.out]; exact Kd.C_take (m := (x41_3 : Int).toNat) ((Kd.R_reads' (Kd.R_after (ok := (fun k_ => (w.heap.size ≤ k_) ∧ some k_ ≠ (v203 : Value).ownBlock)) HO_7.out hg hat)).2.2) KL34.out)); replace HR218 := Aside0.mk ((show Kd.C (Kd.int .i64) w39 A35 y215.length y215 from by rw [Ny215.out, KA35.out]; exact Kd.C_drop (m := ((ji23) : Int).toNat) (c := co31) ((Kd.R_reads' (Kd.R_after (ok := (fun k_ => (w.heap.size ≤ k_) ∧ some k_ ≠ (v203 : Value).ownBlock)) HO_7.out hg hat)).2.2) KL35.out ((Kd.R_reads' (Kd.R_after (ok := (fun k_ => (w.heap.size ≤ k_) ∧ some k_ ≠ (v203 : Value).ownBlock)) HO_7.out hg hat)).2.1))); replace HO_7 := Aside0.mk (Kd.R_after (ok := (fun k_ => (w.heap.size ≤ k_) ∧ some k_ ≠ (v203 : Value).ownBlock)) HO_7.out hg hat); have HO221 := Aside0.mk ho; clear HO214
       clear ho hb hg hat
       refine hK.out _ _ trivial (fun hHeld => ?_)
       clear hK K
       refine norm_ (a' := ?_) ?_ ?_
       rotate_left
       ·
        show Act.put _ (some 71) _ = _
        simp only [Act.put, List.setIfInBounds_toArray, List.set_cons_zero, List.set_cons_succ, i64_w, i32_w]
        rfl
       refine pure_ (i := 10) (N := some 7) (v := ?_) (a' := ?_) #[true, true, true, true, true, true, true, true, true, true, true] rfl rfl (any_of HT_.out (by kernel_rfl)) (fun _ _ _ h => h) (Or.inl ⟨by rfl, ?_⟩) ?_ ?_
       rotate_left
       ·
        intro w'
        go_simp
        with_reducible rfl
       rotate_left
       ·
        simp only [Act.put, List.setIfInBounds_toArray, List.set_cons_zero, List.set_cons_succ, i64_w, i32_w]
        rfl
       refine done_ (done_of HT_.out (by kernel_rfl)) ?_
       try go_wp2
       go_roundg k3
       case measure => have := HK1.out; have := HK2.out; have := HK3.out; omega
       case rel => exact ⟨(y219), (y202), (wrap64 (x10_3 - (rd (rd_L1 x11_2 0) x41_3))), (t197), (by first | rfl | (simp; done) | (simp [*]; done)), H', ⟨by have := HK1.out; have := HK2.out; have := HK3.out; omega⟩, ⟨by (with_reducible repeat (first | apply Kd.R_alloc | apply Kd.R_drewN | apply Kd.R_drew)); exact Kd.R_mono HO221.out (fun _ hk => ⟨hk.1, hk.2.2⟩)⟩, ⟨by (with_reducible repeat (first | apply Kd.R_alloc | apply Kd.R_drewN | apply Kd.R_drew)); exact Kd.R_mono HO204.out (fun _ hk => ⟨hk.1.1, hk.2⟩)⟩, ⟨Kd.V_mono (Kd.S_V HO199.out) (fun k_ hk => ⟨.inr (hk.1.1), ⟨hk.2, hk.1.2.2⟩⟩)⟩, ⟨HB.out⟩⟩
end Go.Proofs.Ytbmflpflmjfabaa.PAll
