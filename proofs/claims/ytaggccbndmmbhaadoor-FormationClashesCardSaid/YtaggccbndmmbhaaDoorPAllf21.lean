-- Written by wip/tools/handprint.py: walks of the functions that the law reaches; Lean checks them.
import Derived.Test.YtaggccbndmmbhaaDoorBase
import Derived.Test.YtaggccbndmmbhaaDoorPAllf39
namespace Go.Proofs.YtaggccbndmmbhaaDoor.PAll
open Go.RowKit Go.Proofs.YtaggccbndmmbhaaDoorW.PrintWords Go.Proofs.YtaggccbndmmbhaaDoorW.PrintLast Go.Proofs.YtaggccbndmmbhaaDoorW.PrintMore
attribute [local go_sem] max2_int min2_int max_two min_two max_three min_three max_four min_four   -- for this text's walks alone
set_option linter.unusedVariables false
set_option linter.unusedSimpArgs false

/-! ### formation_Clash: function 21 -/
mutual
def formation_Clash.l0 : Nat → List (S55) → List (S55) → Int → Int → Option (Int × Int × Int)
 | 0, _, _, _, _ => none
 | k + 1, x0, x16, x17, x18 => if x18 < x17 then (if 0 ≤ x18 then (if x18 < (x16.length : Int) then ((formation_outside.f ((rd_T55 x16 x18).f0.f0) ((rd_T55 x16 x18).f0.f1)).bind fun t347 => (if t347 = true then (some (0, 0, 1)) else ((formation_outside.f ((rd_T55 x16 x18).f1.f0) ((rd_T55 x16 x18).f1.f1)).bind fun t348 => (if t348 = true then (some (0, 0, 1)) else (if ((rd_T55 x16 x18).f2) < 0 then (some (0, 0, 1)) else (if ((rd_T55 x16 x18).f2) > 32768 then (some (0, 0, 1)) else (formation_Clash.l0 k x0 x16 x17 (wrap64 (x18 + 1))))))))) else (none)) else (none)) else (formation_Clash.l1 k x0 (-1) (-1) (x0.length : Int) 0)
def formation_Clash.l1 : Nat → List (S55) → Int → Int → Int → Int → Option (Int × Int × Int)
 | 0, _, _, _, _, _ => none
 | k + 1, x0, x7, x8, x42, x43 => if x43 < x42 then (formation_Clash.l2 k x0 x7 x8 x43 (wrap64 (x43 + 1)) x42 x43) else (some (x7, x8, 0))
def formation_Clash.l2 : Nat → List (S55) → Int → Int → Int → Int → Int → Int → Option (Int × Int × Int)
 | 0, _, _, _, _, _, _, _ => none
 | k + 1, x0, x7, x8, x9, x10, x42, x43 => if x10 < (x0.length : Int) then (if 0 ≤ x9 then (if x9 < (x0.length : Int) then (if 0 ≤ x10 then ((geom_Touch.f k ((rd_T55 x0 x9).f0.f0) ((rd_T55 x0 x9).f0.f1) ((rd_T55 x0 x9).f1.f0) ((rd_T55 x0 x9).f1.f1) ((rd_T55 x0 x9).f2) ((rd_T55 x0 x10).f0.f0) ((rd_T55 x0 x10).f0.f1) ((rd_T55 x0 x10).f1.f0) ((rd_T55 x0 x10).f1.f1) ((rd_T55 x0 x10).f2)).bind fun bt351 => (if bt351.1 = true then (some (x9, x10, 0)) else (formation_Clash.l2 k x0 x7 x8 x9 (wrap64 (x10 + 1)) x42 x43))) else (none)) else (none)) else (none)) else (formation_Clash.l1 k x0 x7 x8 x42 (wrap64 (x43 + 1)))
end
def formation_Clash.f (k : Nat) (l0 : List (S55)) : Option (Int × Int × Int) := if (l0.length : Int) > 16 then (some (0, 0, 3)) else (formation_Clash.l0 k l0 l0 (l0.length : Int) 0)
def formation_Clash.T16 : Bool × List (List Nat × List Nat) := (true, [([], []), ([], []), ([0, 1], [0, 1]), ([2], [2]), ([], []), ([], []), ([4, 5], [4, 5]), ([6], [6]), ([3, 7], [3, 7]), ([8], [8]), ([9], [9]), ([9], [9]), ([10, 8, 0, 1, 2, 3, 4, 5, 6, 7, 8, 9, 10], [10]), ([11, 12, 0, 1, 2, 3, 4, 5, 6, 7, 8, 9, 10, 11, 12], [11])])
def formation_Clash.B16 : List Nat := [0, 0, 3, 7, 0, 0, 48, 112, 255, 511, 1023, 1023, 2047, 8191]
theorem formation_Clash.tab16 : rtab .any (opsOf Tryd.f21 16) = formation_Clash.T16 := by kernel_rfl
theorem formation_Clash.bits16 : waitsOk formation_Clash.T16.2 formation_Clash.B16 = true := by kernel_rfl
set_option maxHeartbeats 8000000 in
set_option maxRecDepth 100000 in
theorem formation_Clash.calls (k : Nat) (A0 : Option Addr) (c0 : Nat) (l0 : List (S55)) (r1 : Int) (r2 : Int) (r3 : Int) (w : World) (hr0 : Kd.C k55 w A0 l0.length l0) (hc0 : l0.length ≤ c0) (h : formation_Clash.f k l0 = some (r1, r2, r3)) :
  Calls Tryd.prog 21 #[.slice A0 l0.length c0] w fun e w' => e = .returned (.tuple #[.int .i64 r1, .int .i64 r2, .int .i64 r3]) ∧ Below w.heap.size w w' := by
 have hu55 := Tryd.underlying55
 have hu52 := Tryd.underlying52
 have HR0 := Aside0.mk hr0
 have HC0 := Aside0.mk hc0
 clear hr0 hc0
 have HB := Aside0.mk (Below.refl w.heap.size w)
 have H := h
 unfold formation_Clash.f at H
 clear h
 by_cases c2 : (l0.length : Int) > 16
 ·
  rw [if_pos c2] at H
  have c2b0 := decide_eq_true c2
  have c2b1 : decide (16 < l0.length) = true := decide_eq_true (by omega)
  clear c2
  simp only [Option.some.injEq, Prod.mk.injEq] at H
  obtain ⟨rfl, rfl, rfl⟩ := H
  go_enter Tryd.func21, Tryd.ntmps21
  go_wp2
  try go_step3
  try go_wp2
  try rw [Exit.noGoto_ret]
  go_ret3
  exact ⟨rfl, HB.out⟩
 rw [if_neg c2] at H
 have c2b0 := decide_eq_false c2
 have c2b1 : decide (16 < l0.length) = false := decide_eq_false (by omega)
 clear c2
 have H' := Aside0.mk H
 clear H
 go_enter Tryd.func21, Tryd.ntmps21
 go_wp2
 try go_step3
 try go_wp2
 try go_step3
 try go_wp2
 try go_step3
 go_loopg [18] k (fun kq v18 w' => ∃ (x18_1 : Int), v18 = .int .i64 x18_1 ∧ Aside0 (formation_Clash.l0 kq l0 l0 (l0.length : Int) x18_1 = some (r1, r2, r3)) ∧ Aside0 (kq ≤ k) ∧ Aside0 (Below w.heap.size w w'))
 case atStart => exact ⟨(0), rfl, H', ⟨Nat.le_refl _⟩, ⟨HB.out⟩⟩
 case round =>
  clear H'
  clear c2b0 c2b1
  obtain ⟨x18_1, rfl, HA, HK1, HB⟩ := hrel
  cases gk with
  | zero => exact absurd HA.out (by simp [formation_Clash.l0])
  | succ k1 =>
   have H := HA.out
   clear HA
   simp only [formation_Clash.l0] at H
   by_cases c3 : x18_1 < (l0.length : Int)
   ·
    rw [if_pos c3] at H
    have c3b0 := decide_eq_true c3
    clear c3
    obtain ⟨c4, H⟩ : (0 ≤ x18_1) ∧ _ := mIf H
    have c4b0 := decide_eq_true c4
    clear c4
    obtain ⟨c5, H⟩ : (x18_1 < (l0.length : Int)) ∧ _ := mIf H
    have c5b0 := decide_eq_true c5
    clear c5
    replace H := Option.bind_eq_some_iff.mp H
    obtain ⟨t347, A60, H⟩ := H
    try dsimp only at H
    have A6 := Aside0.mk A60
    clear A60
    by_cases c7 : t347 = true
    ·
     subst c7
     rw [if_pos rfl] at H
     simp only [Option.some.injEq, Prod.mk.injEq] at H
     obtain ⟨rfl, rfl, rfl⟩ := H
     have p345 : 0 ≤ (x18_1 : Int) := of_decide_eq_true (by assumption)
     have q345 : x18_1 < (l0.length : Int) := of_decide_eq_true (by assumption)
     obtain ⟨ad345, e345, hx345_0, hx345_1, hx345_2, hx345_3, hx345_4⟩ := at_T55 HR0.out x18_1 p345 q345
     cases e345
     replace hx345_0 := mHx HB hx345_0
     replace hx345_1 := mHx HB hx345_1
     replace hx345_2 := mHx HB hx345_2
     replace hx345_3 := mHx HB hx345_3
     replace hx345_4 := mHx HB hx345_4
     replace p345 := eq_true p345
     replace q345 := eq_true q345
     go_wp2_with (first | ((with_reducible refine gate_dst (N := 6) rfl ?_); refine box_event rfl (N := 6) rfl (cs := #[.int .i64 0, .int .i64 0, .int .i64 0, .int .i64 0, .int .i64 0]) (t := 55) (by first | (go_simp; done) | (go_simp; rfl)) ?_; intro gb1 hg w8 hbox hb; have BK1 := Aside0.mk hbox; have GW1 := Aside0.mk ((by rw [hg]; exact (below_size (hO HB)) : w.heap.size ≤ gb1)); have GE1 := GW1; replace HB := mSx HB hb; clear hb hbox hg; have hcz9 := blk_cell BK1.out; have hfz9 := blk_frozen BK1.out) | ((with_reducible refine gate_callee (f := 31) rfl ?_); refine goesL_ (some 24) rfl rfl Tryd.func31 (by kernel_rfl) rfl #[.agg #[.int .i64 ((rd_T55 l0 x18_1).f0.f0), .int .i64 ((rd_T55 l0 x18_1).f0.f1)]] rfl (mA1 rfl) ?_; (with_reducible refine (formation_outside.calls ((rd_T55 l0 x18_1).f0.f0) ((rd_T55 l0 x18_1).f0.f1) true _ A6.out).mono ?_); rintro e w10 ⟨rfl, hb⟩; refine ⟨_, rfl, ?_⟩; replace BK1 := Aside0.mk (blk_below (g := gb1) (o := .cells #[.int .i64 ((rd_T55 l0 x18_1).f0.f0), .int .i64 ((rd_T55 l0 x18_1).f0.f1), .int .i64 ((rd_T55 l0 x18_1).f1.f0), .int .i64 ((rd_T55 l0 x18_1).f1.f1), .int .i64 ((rd_T55 l0 x18_1).f2)] 55 (0, 0)) (by refine blk_put (cs := #[.int .i64 ((rd_T55 l0 x18_1).f0.f0), .int .i64 ((rd_T55 l0 x18_1).f0.f1), .int .i64 ((rd_T55 l0 x18_1).f1.f0), .int .i64 ((rd_T55 l0 x18_1).f1.f1), .int .i64 0]) ?_ 4 _ rfl; refine blk_put (cs := #[.int .i64 ((rd_T55 l0 x18_1).f0.f0), .int .i64 ((rd_T55 l0 x18_1).f0.f1), .int .i64 ((rd_T55 l0 x18_1).f1.f0), .int .i64 0, .int .i64 0]) ?_ 3 _ rfl; refine blk_put (cs := #[.int .i64 ((rd_T55 l0 x18_1).f0.f0), .int .i64 ((rd_T55 l0 x18_1).f0.f1), .int .i64 0, .int .i64 0, .int .i64 0]) ?_ 2 _ rfl; refine blk_put (cs := #[.int .i64 ((rd_T55 l0 x18_1).f0.f0), .int .i64 0, .int .i64 0, .int .i64 0, .int .i64 0]) ?_ 1 _ rfl; refine blk_put (cs := #[.int .i64 0, .int .i64 0, .int .i64 0, .int .i64 0, .int .i64 0]) ?_ 0 _ rfl; exact BK1.out) hb); replace HB := mSx HB hb; (try clear hb)))
     try rw [Exit.noGoto_ret]
     go_ret3
     exact ⟨rfl, HB.out⟩
    replace c7 := Bool.eq_false_iff.mpr c7
    subst c7
    rw [if_neg (show ¬ (false = true) by decide)] at H
    replace H := Option.bind_eq_some_iff.mp H
    obtain ⟨t348, A110, H⟩ := H
    try dsimp only at H
    have A11 := Aside0.mk A110
    clear A110
    by_cases c12 : t348 = true
    ·
     subst c12
     rw [if_pos rfl] at H
     simp only [Option.some.injEq, Prod.mk.injEq] at H
     obtain ⟨rfl, rfl, rfl⟩ := H
     have p345 : 0 ≤ (x18_1 : Int) := of_decide_eq_true (by assumption)
     have q345 : x18_1 < (l0.length : Int) := of_decide_eq_true (by assumption)
     obtain ⟨ad345, e345, hx345_0, hx345_1, hx345_2, hx345_3, hx345_4⟩ := at_T55 HR0.out x18_1 p345 q345
     cases e345
     replace hx345_0 := mHx HB hx345_0
     replace hx345_1 := mHx HB hx345_1
     replace hx345_2 := mHx HB hx345_2
     replace hx345_3 := mHx HB hx345_3
     replace hx345_4 := mHx HB hx345_4
     replace p345 := eq_true p345
     replace q345 := eq_true q345
     go_wp2_with (first | ((with_reducible refine gate_dst (N := 6) rfl ?_); refine box_event rfl (N := 6) rfl (cs := #[.int .i64 0, .int .i64 0, .int .i64 0, .int .i64 0, .int .i64 0]) (t := 55) (by first | (go_simp; done) | (go_simp; rfl)) ?_; intro gb1 hg w13 hbox hb; have BK1 := Aside0.mk hbox; have GW1 := Aside0.mk ((by rw [hg]; exact (below_size (hO HB)) : w.heap.size ≤ gb1)); have GE1 := GW1; replace HB := mSx HB hb; clear hb hbox hg; have hcz14 := blk_cell BK1.out; have hfz14 := blk_frozen BK1.out) | ((with_reducible refine gate_callee (f := 31) rfl ?_); refine goesL_ (some 24) rfl rfl Tryd.func31 (by kernel_rfl) rfl #[.agg #[.int .i64 ((rd_T55 l0 x18_1).f0.f0), .int .i64 ((rd_T55 l0 x18_1).f0.f1)]] rfl (mA1 rfl) ?_; (with_reducible refine (formation_outside.calls ((rd_T55 l0 x18_1).f0.f0) ((rd_T55 l0 x18_1).f0.f1) false _ A6.out).mono ?_); rintro e w15 ⟨rfl, hb⟩; refine ⟨_, rfl, ?_⟩; replace BK1 := Aside0.mk (blk_below (g := gb1) (o := .cells #[.int .i64 ((rd_T55 l0 x18_1).f0.f0), .int .i64 ((rd_T55 l0 x18_1).f0.f1), .int .i64 ((rd_T55 l0 x18_1).f1.f0), .int .i64 ((rd_T55 l0 x18_1).f1.f1), .int .i64 ((rd_T55 l0 x18_1).f2)] 55 (0, 0)) (by refine blk_put (cs := #[.int .i64 ((rd_T55 l0 x18_1).f0.f0), .int .i64 ((rd_T55 l0 x18_1).f0.f1), .int .i64 ((rd_T55 l0 x18_1).f1.f0), .int .i64 ((rd_T55 l0 x18_1).f1.f1), .int .i64 0]) ?_ 4 _ rfl; refine blk_put (cs := #[.int .i64 ((rd_T55 l0 x18_1).f0.f0), .int .i64 ((rd_T55 l0 x18_1).f0.f1), .int .i64 ((rd_T55 l0 x18_1).f1.f0), .int .i64 0, .int .i64 0]) ?_ 3 _ rfl; refine blk_put (cs := #[.int .i64 ((rd_T55 l0 x18_1).f0.f0), .int .i64 ((rd_T55 l0 x18_1).f0.f1), .int .i64 0, .int .i64 0, .int .i64 0]) ?_ 2 _ rfl; refine blk_put (cs := #[.int .i64 ((rd_T55 l0 x18_1).f0.f0), .int .i64 0, .int .i64 0, .int .i64 0, .int .i64 0]) ?_ 1 _ rfl; refine blk_put (cs := #[.int .i64 0, .int .i64 0, .int .i64 0, .int .i64 0, .int .i64 0]) ?_ 0 _ rfl; exact BK1.out) hb); replace HB := mSx HB hb; (try clear hb); have hcz16 := blk_cell BK1.out; have hfz16 := blk_frozen BK1.out) | (go_at_call 31; (with_reducible refine (formation_outside.calls ((rd_T55 l0 x18_1).f1.f0) ((rd_T55 l0 x18_1).f1.f1) true _ A11.out).mono ?_); rintro e w17 ⟨rfl, hb⟩; replace BK1 := mBb BK1 hb; replace HB := mSx HB hb; (try clear hb)))
     try rw [Exit.noGoto_ret]
     go_ret3
     exact ⟨rfl, HB.out⟩
    replace c12 := Bool.eq_false_iff.mpr c12
    subst c12
    rw [if_neg (show ¬ (false = true) by decide)] at H
    by_cases c18 : ((rd_T55 l0 x18_1).f2) < 0
    ·
     rw [if_pos c18] at H
     have c18b0 := decide_eq_true c18
     clear c18
     simp only [Option.some.injEq, Prod.mk.injEq] at H
     obtain ⟨rfl, rfl, rfl⟩ := H
     have p345 : 0 ≤ (x18_1 : Int) := of_decide_eq_true (by assumption)
     have q345 : x18_1 < (l0.length : Int) := of_decide_eq_true (by assumption)
     obtain ⟨ad345, e345, hx345_0, hx345_1, hx345_2, hx345_3, hx345_4⟩ := at_T55 HR0.out x18_1 p345 q345
     cases e345
     replace hx345_0 := mHx HB hx345_0
     replace hx345_1 := mHx HB hx345_1
     replace hx345_2 := mHx HB hx345_2
     replace hx345_3 := mHx HB hx345_3
     replace hx345_4 := mHx HB hx345_4
     replace p345 := eq_true p345
     replace q345 := eq_true q345
     go_wp2_with (first | ((with_reducible refine gate_dst (N := 6) rfl ?_); refine box_event rfl (N := 6) rfl (cs := #[.int .i64 0, .int .i64 0, .int .i64 0, .int .i64 0, .int .i64 0]) (t := 55) (by first | (go_simp; done) | (go_simp; rfl)) ?_; intro gb1 hg w19 hbox hb; have BK1 := Aside0.mk hbox; have GW1 := Aside0.mk ((by rw [hg]; exact (below_size (hO HB)) : w.heap.size ≤ gb1)); have GE1 := GW1; replace HB := mSx HB hb; clear hb hbox hg; have hcz20 := blk_cell BK1.out; have hfz20 := blk_frozen BK1.out) | ((with_reducible refine gate_callee (f := 31) rfl ?_); refine goesL_ (some 24) rfl rfl Tryd.func31 (by kernel_rfl) rfl #[.agg #[.int .i64 ((rd_T55 l0 x18_1).f0.f0), .int .i64 ((rd_T55 l0 x18_1).f0.f1)]] rfl (mA1 rfl) ?_; (with_reducible refine (formation_outside.calls ((rd_T55 l0 x18_1).f0.f0) ((rd_T55 l0 x18_1).f0.f1) false _ A6.out).mono ?_); rintro e w21 ⟨rfl, hb⟩; refine ⟨_, rfl, ?_⟩; replace BK1 := Aside0.mk (blk_below (g := gb1) (o := .cells #[.int .i64 ((rd_T55 l0 x18_1).f0.f0), .int .i64 ((rd_T55 l0 x18_1).f0.f1), .int .i64 ((rd_T55 l0 x18_1).f1.f0), .int .i64 ((rd_T55 l0 x18_1).f1.f1), .int .i64 ((rd_T55 l0 x18_1).f2)] 55 (0, 0)) (by refine blk_put (cs := #[.int .i64 ((rd_T55 l0 x18_1).f0.f0), .int .i64 ((rd_T55 l0 x18_1).f0.f1), .int .i64 ((rd_T55 l0 x18_1).f1.f0), .int .i64 ((rd_T55 l0 x18_1).f1.f1), .int .i64 0]) ?_ 4 _ rfl; refine blk_put (cs := #[.int .i64 ((rd_T55 l0 x18_1).f0.f0), .int .i64 ((rd_T55 l0 x18_1).f0.f1), .int .i64 ((rd_T55 l0 x18_1).f1.f0), .int .i64 0, .int .i64 0]) ?_ 3 _ rfl; refine blk_put (cs := #[.int .i64 ((rd_T55 l0 x18_1).f0.f0), .int .i64 ((rd_T55 l0 x18_1).f0.f1), .int .i64 0, .int .i64 0, .int .i64 0]) ?_ 2 _ rfl; refine blk_put (cs := #[.int .i64 ((rd_T55 l0 x18_1).f0.f0), .int .i64 0, .int .i64 0, .int .i64 0, .int .i64 0]) ?_ 1 _ rfl; refine blk_put (cs := #[.int .i64 0, .int .i64 0, .int .i64 0, .int .i64 0, .int .i64 0]) ?_ 0 _ rfl; exact BK1.out) hb); replace HB := mSx HB hb; (try clear hb); have hcz22 := blk_cell BK1.out; have hfz22 := blk_frozen BK1.out) | (go_at_call 31; (with_reducible refine (formation_outside.calls ((rd_T55 l0 x18_1).f1.f0) ((rd_T55 l0 x18_1).f1.f1) false _ A11.out).mono ?_); rintro e w23 ⟨rfl, hb⟩; replace BK1 := mBb BK1 hb; replace HB := mSx HB hb; (try clear hb); have hcz24 := blk_cell BK1.out; have hfz24 := blk_frozen BK1.out))
     try rw [Exit.noGoto_ret]
     go_ret3
     exact ⟨rfl, HB.out⟩
    rw [if_neg c18] at H
    have c18b0 := decide_eq_false c18
    clear c18
    by_cases c25 : ((rd_T55 l0 x18_1).f2) > 32768
    rotate_left
    ·
     rw [if_neg c25] at H
     have c25b0 := decide_eq_false c25
     clear c25
     have H' := Aside0.mk H
     clear H
     have p345 : 0 ≤ (x18_1 : Int) := of_decide_eq_true (by assumption)
     have q345 : x18_1 < (l0.length : Int) := of_decide_eq_true (by assumption)
     obtain ⟨ad345, e345, hx345_0, hx345_1, hx345_2, hx345_3, hx345_4⟩ := at_T55 HR0.out x18_1 p345 q345
     cases e345
     replace hx345_0 := mHx HB hx345_0
     replace hx345_1 := mHx HB hx345_1
     replace hx345_2 := mHx HB hx345_2
     replace hx345_3 := mHx HB hx345_3
     replace hx345_4 := mHx HB hx345_4
     replace p345 := eq_true p345
     replace q345 := eq_true q345
     go_wp2_with (first | ((with_reducible refine gate_dst (N := 6) rfl ?_); refine box_event rfl (N := 6) rfl (cs := #[.int .i64 0, .int .i64 0, .int .i64 0, .int .i64 0, .int .i64 0]) (t := 55) (by first | (go_simp; done) | (go_simp; rfl)) ?_; intro gb1 hg w32 hbox hb; have BK1 := Aside0.mk hbox; have GW1 := Aside0.mk ((by rw [hg]; exact (below_size (hO HB)) : w.heap.size ≤ gb1)); have GE1 := GW1; replace HB := mSx HB hb; clear hb hbox hg; have hcz33 := blk_cell BK1.out; have hfz33 := blk_frozen BK1.out) | ((with_reducible refine gate_callee (f := 31) rfl ?_); refine goesL_ (some 24) rfl rfl Tryd.func31 (by kernel_rfl) rfl #[.agg #[.int .i64 ((rd_T55 l0 x18_1).f0.f0), .int .i64 ((rd_T55 l0 x18_1).f0.f1)]] rfl (mA1 rfl) ?_; (with_reducible refine (formation_outside.calls ((rd_T55 l0 x18_1).f0.f0) ((rd_T55 l0 x18_1).f0.f1) false _ A6.out).mono ?_); rintro e w34 ⟨rfl, hb⟩; refine ⟨_, rfl, ?_⟩; replace BK1 := Aside0.mk (blk_below (g := gb1) (o := .cells #[.int .i64 ((rd_T55 l0 x18_1).f0.f0), .int .i64 ((rd_T55 l0 x18_1).f0.f1), .int .i64 ((rd_T55 l0 x18_1).f1.f0), .int .i64 ((rd_T55 l0 x18_1).f1.f1), .int .i64 ((rd_T55 l0 x18_1).f2)] 55 (0, 0)) (by refine blk_put (cs := #[.int .i64 ((rd_T55 l0 x18_1).f0.f0), .int .i64 ((rd_T55 l0 x18_1).f0.f1), .int .i64 ((rd_T55 l0 x18_1).f1.f0), .int .i64 ((rd_T55 l0 x18_1).f1.f1), .int .i64 0]) ?_ 4 _ rfl; refine blk_put (cs := #[.int .i64 ((rd_T55 l0 x18_1).f0.f0), .int .i64 ((rd_T55 l0 x18_1).f0.f1), .int .i64 ((rd_T55 l0 x18_1).f1.f0), .int .i64 0, .int .i64 0]) ?_ 3 _ rfl; refine blk_put (cs := #[.int .i64 ((rd_T55 l0 x18_1).f0.f0), .int .i64 ((rd_T55 l0 x18_1).f0.f1), .int .i64 0, .int .i64 0, .int .i64 0]) ?_ 2 _ rfl; refine blk_put (cs := #[.int .i64 ((rd_T55 l0 x18_1).f0.f0), .int .i64 0, .int .i64 0, .int .i64 0, .int .i64 0]) ?_ 1 _ rfl; refine blk_put (cs := #[.int .i64 0, .int .i64 0, .int .i64 0, .int .i64 0, .int .i64 0]) ?_ 0 _ rfl; exact BK1.out) hb); replace HB := mSx HB hb; (try clear hb); have hcz35 := blk_cell BK1.out; have hfz35 := blk_frozen BK1.out) | (go_at_call 31; (with_reducible refine (formation_outside.calls ((rd_T55 l0 x18_1).f1.f0) ((rd_T55 l0 x18_1).f1.f1) false _ A11.out).mono ?_); rintro e w36 ⟨rfl, hb⟩; replace BK1 := mBb BK1 hb; replace HB := mSx HB hb; (try clear hb); have hcz37 := blk_cell BK1.out; have hfz37 := blk_frozen BK1.out))
     go_roundg k1
     case measure => have := HK1.out; omega
     case rel => exact ⟨(wrap64 (x18_1 + 1)), rfl, H', ⟨by have := HK1.out; omega⟩, ⟨HB.out⟩⟩
    rw [if_pos c25] at H
    have c25b0 := decide_eq_true c25
    clear c25
    simp only [Option.some.injEq, Prod.mk.injEq] at H
    obtain ⟨rfl, rfl, rfl⟩ := H
    have p345 : 0 ≤ (x18_1 : Int) := of_decide_eq_true (by assumption)
    have q345 : x18_1 < (l0.length : Int) := of_decide_eq_true (by assumption)
    obtain ⟨ad345, e345, hx345_0, hx345_1, hx345_2, hx345_3, hx345_4⟩ := at_T55 HR0.out x18_1 p345 q345
    cases e345
    replace hx345_0 := mHx HB hx345_0
    replace hx345_1 := mHx HB hx345_1
    replace hx345_2 := mHx HB hx345_2
    replace hx345_3 := mHx HB hx345_3
    replace hx345_4 := mHx HB hx345_4
    replace p345 := eq_true p345
    replace q345 := eq_true q345
    go_wp2_with (first | ((with_reducible refine gate_dst (N := 6) rfl ?_); refine box_event rfl (N := 6) rfl (cs := #[.int .i64 0, .int .i64 0, .int .i64 0, .int .i64 0, .int .i64 0]) (t := 55) (by first | (go_simp; done) | (go_simp; rfl)) ?_; intro gb1 hg w26 hbox hb; have BK1 := Aside0.mk hbox; have GW1 := Aside0.mk ((by rw [hg]; exact (below_size (hO HB)) : w.heap.size ≤ gb1)); have GE1 := GW1; replace HB := mSx HB hb; clear hb hbox hg; have hcz27 := blk_cell BK1.out; have hfz27 := blk_frozen BK1.out) | ((with_reducible refine gate_callee (f := 31) rfl ?_); refine goesL_ (some 24) rfl rfl Tryd.func31 (by kernel_rfl) rfl #[.agg #[.int .i64 ((rd_T55 l0 x18_1).f0.f0), .int .i64 ((rd_T55 l0 x18_1).f0.f1)]] rfl (mA1 rfl) ?_; (with_reducible refine (formation_outside.calls ((rd_T55 l0 x18_1).f0.f0) ((rd_T55 l0 x18_1).f0.f1) false _ A6.out).mono ?_); rintro e w28 ⟨rfl, hb⟩; refine ⟨_, rfl, ?_⟩; replace BK1 := Aside0.mk (blk_below (g := gb1) (o := .cells #[.int .i64 ((rd_T55 l0 x18_1).f0.f0), .int .i64 ((rd_T55 l0 x18_1).f0.f1), .int .i64 ((rd_T55 l0 x18_1).f1.f0), .int .i64 ((rd_T55 l0 x18_1).f1.f1), .int .i64 ((rd_T55 l0 x18_1).f2)] 55 (0, 0)) (by refine blk_put (cs := #[.int .i64 ((rd_T55 l0 x18_1).f0.f0), .int .i64 ((rd_T55 l0 x18_1).f0.f1), .int .i64 ((rd_T55 l0 x18_1).f1.f0), .int .i64 ((rd_T55 l0 x18_1).f1.f1), .int .i64 0]) ?_ 4 _ rfl; refine blk_put (cs := #[.int .i64 ((rd_T55 l0 x18_1).f0.f0), .int .i64 ((rd_T55 l0 x18_1).f0.f1), .int .i64 ((rd_T55 l0 x18_1).f1.f0), .int .i64 0, .int .i64 0]) ?_ 3 _ rfl; refine blk_put (cs := #[.int .i64 ((rd_T55 l0 x18_1).f0.f0), .int .i64 ((rd_T55 l0 x18_1).f0.f1), .int .i64 0, .int .i64 0, .int .i64 0]) ?_ 2 _ rfl; refine blk_put (cs := #[.int .i64 ((rd_T55 l0 x18_1).f0.f0), .int .i64 0, .int .i64 0, .int .i64 0, .int .i64 0]) ?_ 1 _ rfl; refine blk_put (cs := #[.int .i64 0, .int .i64 0, .int .i64 0, .int .i64 0, .int .i64 0]) ?_ 0 _ rfl; exact BK1.out) hb); replace HB := mSx HB hb; (try clear hb); have hcz29 := blk_cell BK1.out; have hfz29 := blk_frozen BK1.out) | (go_at_call 31; (with_reducible refine (formation_outside.calls ((rd_T55 l0 x18_1).f1.f0) ((rd_T55 l0 x18_1).f1.f1) false _ A11.out).mono ?_); rintro e w30 ⟨rfl, hb⟩; replace BK1 := mBb BK1 hb; replace HB := mSx HB hb; (try clear hb); have hcz31 := blk_cell BK1.out; have hfz31 := blk_frozen BK1.out))
    try rw [Exit.noGoto_ret]
    go_ret3
    exact ⟨rfl, HB.out⟩
   rw [if_neg c3] at H
   have c3b0 := decide_eq_false c3
   clear c3
   have H' := Aside0.mk H
   clear H
   go_wp2
   try go_step3
   try go_wp2
   try go_step3
   go_loopg [7, 8, 43] k1 (fun kq v7 v8 v43 w' => ∃ (x7_2 : Int) (x8_2 : Int) (x43_2 : Int), v7 = .int .i64 x7_2 ∧ v8 = .int .i64 x8_2 ∧ v43 = .int .i64 x43_2 ∧ Aside0 (formation_Clash.l1 kq l0 x7_2 x8_2 (l0.length : Int) x43_2 = some (r1, r2, r3)) ∧ Aside0 (kq ≤ k1) ∧ Aside0 (Below w.heap.size w w'))
   case atStart => exact ⟨((-1)), ((-1)), (0), rfl, rfl, rfl, H', ⟨Nat.le_refl _⟩, ⟨HB.out⟩⟩
   case round =>
    clear H'
    clear c3b0
    obtain ⟨x7_2, x8_2, x43_2, rfl, rfl, rfl, HA, HK2, HB⟩ := hrel
    cases gk with
    | zero => exact absurd HA.out (by simp [formation_Clash.l1])
    | succ k2 =>
     have H := HA.out
     clear HA
     simp only [formation_Clash.l1] at H
     by_cases c38 : x43_2 < (l0.length : Int)
     rotate_left
     ·
      rw [if_neg c38] at H
      have c38b0 := decide_eq_false c38
      clear c38
      simp only [Option.some.injEq, Prod.mk.injEq] at H
      obtain ⟨rfl, rfl, rfl⟩ := H
      go_wp2
      try rw [Exit.noGoto_ret]
      go_ret3
      exact ⟨rfl, HB.out⟩
     rw [if_pos c38] at H
     have c38b0 := decide_eq_true c38
     clear c38
     have H' := Aside0.mk H
     clear H
     go_wp2
     try go_step3
     try go_wp2
     try go_step3
     go_loopg [7, 8, 10] k2 (fun kq v7 v8 v10 w' => ∃ (x7_3 : Int) (x8_3 : Int) (x10_3 : Int), v7 = .int .i64 x7_3 ∧ v8 = .int .i64 x8_3 ∧ v10 = .int .i64 x10_3 ∧ Aside0 (formation_Clash.l2 kq l0 x7_3 x8_3 x43_2 x10_3 (l0.length : Int) x43_2 = some (r1, r2, r3)) ∧ Aside0 (kq ≤ k2) ∧ Aside0 (Below w.heap.size w w'))
     case atStart => exact ⟨(x7_2), (x8_2), (wrap64 (x43_2 + 1)), rfl, rfl, rfl, H', ⟨Nat.le_refl _⟩, ⟨HB.out⟩⟩
     case round =>
      clear H'
      clear c38b0
      obtain ⟨x7_3, x8_3, x10_3, rfl, rfl, rfl, HA, HK3, HB⟩ := hrel
      cases gk with
      | zero => exact absurd HA.out (by simp [formation_Clash.l2])
      | succ k3 =>
       have H := HA.out
       clear HA
       simp only [formation_Clash.l2] at H
       by_cases c39 : x10_3 < (l0.length : Int)
       rotate_left
       ·
        rw [if_neg c39] at H
        have c39b0 := decide_eq_false c39
        clear c39
        have H' := Aside0.mk H
        clear H
        go_wp2
        go_roundg k3
        case measure => have := HK1.out; have := HK2.out; have := HK3.out; omega
        case rel => exact ⟨(x7_3), (x8_3), (wrap64 (x43_2 + 1)), rfl, rfl, rfl, H', ⟨by have := HK1.out; have := HK2.out; have := HK3.out; omega⟩, ⟨HB.out⟩⟩
       rw [if_pos c39] at H
       have c39b0 := decide_eq_true c39
       clear c39
       obtain ⟨c40, H⟩ : (0 ≤ x43_2) ∧ _ := mIf H
       have c40b0 := decide_eq_true c40
       clear c40
       obtain ⟨c41, H⟩ : (x43_2 < (l0.length : Int)) ∧ _ := mIf H
       have c41b0 := decide_eq_true c41
       clear c41
       obtain ⟨c42, H⟩ : (0 ≤ x10_3) ∧ _ := mIf H
       have c42b0 := decide_eq_true c42
       clear c42
       replace H := Option.bind_eq_some_iff.mp H
       obtain ⟨⟨t351, t352⟩, A430, H⟩ := H
       try dsimp only at H
       have A43 := Aside0.mk A430
       clear A430
       by_cases c44 : t351 = true
       ·
        subst c44
        rw [if_pos rfl] at H
        simp only [Option.some.injEq, Prod.mk.injEq] at H
        obtain ⟨rfl, rfl, rfl⟩ := H
        try go_wp2
        replace HB := Aside0.mk (below_drew1 HB.out)
        have p349 : 0 ≤ (x43_2 : Int) := of_decide_eq_true (by assumption)
        have q349 : x43_2 < (l0.length : Int) := of_decide_eq_true (by assumption)
        obtain ⟨ad349, e349, hx349_0, hx349_1, hx349_2, hx349_3, hx349_4⟩ := at_T55 HR0.out x43_2 p349 q349
        have hw349_4 := hx349_4
        have hw349_3 := hx349_3
        have hw349_2 := hx349_2
        have hw349_1 := hx349_1
        have hw349_0 := hx349_0
        cases e349
        replace hx349_0 := mHx HB hx349_0
        replace hx349_1 := mHx HB hx349_1
        replace hx349_2 := mHx HB hx349_2
        replace hx349_3 := mHx HB hx349_3
        replace hx349_4 := mHx HB hx349_4
        replace p349 := eq_true p349
        replace q349 := eq_true q349
        have p350 : 0 ≤ (x10_3 : Int) := of_decide_eq_true (by assumption)
        have q350 : x10_3 < (l0.length : Int) := of_decide_eq_true (by assumption)
        obtain ⟨ad350, e350, hx350_0, hx350_1, hx350_2, hx350_3, hx350_4⟩ := at_T55 HR0.out x10_3 p350 q350
        have hw350_4 := hx350_4
        have hw350_3 := hx350_3
        have hw350_2 := hx350_2
        have hw350_1 := hx350_1
        have hw350_0 := hx350_0
        obtain rfl : ad349 = ad350 := (by injection e350)
        replace hx350_0 := mHx HB hx350_0
        replace hx350_1 := mHx HB hx350_1
        replace hx350_2 := mHx HB hx350_2
        replace hx350_3 := mHx HB hx350_3
        replace hx350_4 := mHx HB hx350_4
        replace p350 := eq_true p350
        replace q350 := eq_true q350
        refine start_ (n := 14) (S := fun w' => w'.cell? (ad349.add ((x43_2).toNat * 5)) = some (.int .i64 ((rd_T55 l0 x43_2).f0.f0)) ∧ w'.cell? ⟨(ad349.add ((x43_2).toNat * 5)).block, (ad349.add ((x43_2).toNat * 5)).off + 1, none⟩ = some (.int .i64 ((rd_T55 l0 x43_2).f0.f1)) ∧ w'.cell? ⟨(ad349.add ((x43_2).toNat * 5)).block, (ad349.add ((x43_2).toNat * 5)).off + 2, none⟩ = some (.int .i64 ((rd_T55 l0 x43_2).f1.f0)) ∧ w'.cell? ⟨(ad349.add ((x43_2).toNat * 5)).block, (ad349.add ((x43_2).toNat * 5)).off + 3, none⟩ = some (.int .i64 ((rd_T55 l0 x43_2).f1.f1)) ∧ w'.cell? ⟨(ad349.add ((x43_2).toNat * 5)).block, (ad349.add ((x43_2).toNat * 5)).off + 4, none⟩ = some (.int .i64 ((rd_T55 l0 x43_2).f2)) ∧ w'.cell? (ad349.add ((x10_3).toNat * 5)) = some (.int .i64 ((rd_T55 l0 x10_3).f0.f0)) ∧ w'.cell? ⟨(ad349.add ((x10_3).toNat * 5)).block, (ad349.add ((x10_3).toNat * 5)).off + 1, none⟩ = some (.int .i64 ((rd_T55 l0 x10_3).f0.f1)) ∧ w'.cell? ⟨(ad349.add ((x10_3).toNat * 5)).block, (ad349.add ((x10_3).toNat * 5)).off + 2, none⟩ = some (.int .i64 ((rd_T55 l0 x10_3).f1.f0)) ∧ w'.cell? ⟨(ad349.add ((x10_3).toNat * 5)).block, (ad349.add ((x10_3).toNat * 5)).off + 3, none⟩ = some (.int .i64 ((rd_T55 l0 x10_3).f1.f1)) ∧ w'.cell? ⟨(ad349.add ((x10_3).toNat * 5)).block, (ad349.add ((x10_3).toNat * 5)).off + 4, none⟩ = some (.int .i64 ((rd_T55 l0 x10_3).f2))) (ds := []) #[false, false, false, false, false, false, false, false, false, false, false, false, false, false] (by kernel_rfl) rfl rfl ⟨((HB.out.cell (World.block_lt_of_cell? w _ hw349_0)).trans hw349_0), ((HB.out.cell (World.block_lt_of_cell? w _ hw349_1)).trans hw349_1), ((HB.out.cell (World.block_lt_of_cell? w _ hw349_2)).trans hw349_2), ((HB.out.cell (World.block_lt_of_cell? w _ hw349_3)).trans hw349_3), ((HB.out.cell (World.block_lt_of_cell? w _ hw349_4)).trans hw349_4), ((HB.out.cell (World.block_lt_of_cell? w _ hw350_0)).trans hw350_0), ((HB.out.cell (World.block_lt_of_cell? w _ hw350_1)).trans hw350_1), ((HB.out.cell (World.block_lt_of_cell? w _ hw350_2)).trans hw350_2), ((HB.out.cell (World.block_lt_of_cell? w _ hw350_3)).trans hw350_3), ((HB.out.cell (World.block_lt_of_cell? w _ hw350_4)).trans hw350_4)⟩ (fun hHeld => ?_); refine with_tabW formation_Clash.tab16 formation_Clash.bits16 (fun HT_ HW_ => ?_)
        generalize wr.drew = w45 at HB hx349_0 hx349_1 hx349_2 hx349_3 hx349_4 hx350_0 hx350_1 hx350_2 hx350_3 hx350_4 hHeld ⊢
        refine pM 0 55 HT_ ?_
        refine pM 1 56 HT_ ?_
        refine pM 2 57 HT_ ?_
        refine pM 4 59 HT_ ?_
        refine pM 5 60 HT_ ?_
        refine pM 6 61 HT_ ?_
        refine tM 3 58 rfl HT_ HW_ (by rintro w' ⟨s0, s1, s2, s3, s4, s5, s6, s7, s8, s9⟩; go_simp; with_reducible rfl) hHeld ?_
        refine tM 7 62 rfl HT_ HW_ (by rintro w' ⟨s0, s1, s2, s3, s4, s5, s6, s7, s8, s9⟩; go_simp; with_reducible rfl) hHeld ?_
        refine one_ (i := 8) (N := some 63) #[true, true, true, true, true, true, true, true, true, false, false, false, false, false] rfl rfl (one_of HT_.out (by kernel_rfl)) (by decide) (fun K hK => ?_)
        refine goes_ Tryd.func39 (by kernel_rfl) rfl #[.agg #[.int .i64 ((rd_T55 l0 x43_2).f0.f0), .int .i64 ((rd_T55 l0 x43_2).f0.f1), .int .i64 ((rd_T55 l0 x43_2).f1.f0), .int .i64 ((rd_T55 l0 x43_2).f1.f1), .int .i64 ((rd_T55 l0 x43_2).f2)], .agg #[.int .i64 ((rd_T55 l0 x10_3).f0.f0), .int .i64 ((rd_T55 l0 x10_3).f0.f1), .int .i64 ((rd_T55 l0 x10_3).f1.f0), .int .i64 ((rd_T55 l0 x10_3).f1.f1), .int .i64 ((rd_T55 l0 x10_3).f2)]] (by rfl) rfl rfl (by (try simp only [List.map_toArray, List.map_cons, List.map_nil]); first | done | rfl | (simp only [List.length_drop, List.length_take]; rfl)) ?_
        with_reducible refine (geom_Touch.calls k3 ((rd_T55 l0 x43_2).f0.f0) ((rd_T55 l0 x43_2).f0.f1) ((rd_T55 l0 x43_2).f1.f0) ((rd_T55 l0 x43_2).f1.f1) ((rd_T55 l0 x43_2).f2) ((rd_T55 l0 x10_3).f0.f0) ((rd_T55 l0 x10_3).f0.f1) ((rd_T55 l0 x10_3).f1.f0) ((rd_T55 l0 x10_3).f1.f1) ((rd_T55 l0 x10_3).f2) true t352 _ A43.out).mono ?_
        rintro e w46 ⟨rfl, hb⟩
        refine ⟨_, rfl, ?_⟩
        replace HB := mSt HB hb
        (try clear hb)
        (try clear hb2)
        (try clear hk)
        (try clear hi)
        refine hK.out _ _ ⟨((HB.out.cell (World.block_lt_of_cell? w _ hw349_0)).trans hw349_0), ((HB.out.cell (World.block_lt_of_cell? w _ hw349_1)).trans hw349_1), ((HB.out.cell (World.block_lt_of_cell? w _ hw349_2)).trans hw349_2), ((HB.out.cell (World.block_lt_of_cell? w _ hw349_3)).trans hw349_3), ((HB.out.cell (World.block_lt_of_cell? w _ hw349_4)).trans hw349_4), ((HB.out.cell (World.block_lt_of_cell? w _ hw350_0)).trans hw350_0), ((HB.out.cell (World.block_lt_of_cell? w _ hw350_1)).trans hw350_1), ((HB.out.cell (World.block_lt_of_cell? w _ hw350_2)).trans hw350_2), ((HB.out.cell (World.block_lt_of_cell? w _ hw350_3)).trans hw350_3), ((HB.out.cell (World.block_lt_of_cell? w _ hw350_4)).trans hw350_4)⟩ (fun hHeld => ?_)
        clear hK K
        refine norm_ (by show Act.put _ (some 63) _ = _; simp only [mP]; rfl) ?_
        refine pM 9 54 HT_ ?_
        refine pM 10 64 HT_ ?_
        refine pM 11 65 HT_ ?_
        refine pM 12 11 HT_ ?_
        refine pM 13 12 HT_ ?_
        refine done_ (done_of HT_.out (by kernel_rfl)) ?_
        try go_wp2
        try rw [Exit.noGoto_ret]
        go_ret3
        exact ⟨rfl, HB.out⟩
       replace c44 := Bool.eq_false_iff.mpr c44
       subst c44
       rw [if_neg (show ¬ (false = true) by decide)] at H
       have H' := Aside0.mk H
       clear H
       try go_wp2
       replace HB := Aside0.mk (below_drew1 HB.out)
       have p349 : 0 ≤ (x43_2 : Int) := of_decide_eq_true (by assumption)
       have q349 : x43_2 < (l0.length : Int) := of_decide_eq_true (by assumption)
       obtain ⟨ad349, e349, hx349_0, hx349_1, hx349_2, hx349_3, hx349_4⟩ := at_T55 HR0.out x43_2 p349 q349
       have hw349_4 := hx349_4
       have hw349_3 := hx349_3
       have hw349_2 := hx349_2
       have hw349_1 := hx349_1
       have hw349_0 := hx349_0
       cases e349
       replace hx349_0 := mHx HB hx349_0
       replace hx349_1 := mHx HB hx349_1
       replace hx349_2 := mHx HB hx349_2
       replace hx349_3 := mHx HB hx349_3
       replace hx349_4 := mHx HB hx349_4
       replace p349 := eq_true p349
       replace q349 := eq_true q349
       have p350 : 0 ≤ (x10_3 : Int) := of_decide_eq_true (by assumption)
       have q350 : x10_3 < (l0.length : Int) := of_decide_eq_true (by assumption)
       obtain ⟨ad350, e350, hx350_0, hx350_1, hx350_2, hx350_3, hx350_4⟩ := at_T55 HR0.out x10_3 p350 q350
       have hw350_4 := hx350_4
       have hw350_3 := hx350_3
       have hw350_2 := hx350_2
       have hw350_1 := hx350_1
       have hw350_0 := hx350_0
       obtain rfl : ad349 = ad350 := (by injection e350)
       replace hx350_0 := mHx HB hx350_0
       replace hx350_1 := mHx HB hx350_1
       replace hx350_2 := mHx HB hx350_2
       replace hx350_3 := mHx HB hx350_3
       replace hx350_4 := mHx HB hx350_4
       replace p350 := eq_true p350
       replace q350 := eq_true q350
       refine start_ (n := 14) (S := fun w' => w'.cell? (ad349.add ((x43_2).toNat * 5)) = some (.int .i64 ((rd_T55 l0 x43_2).f0.f0)) ∧ w'.cell? ⟨(ad349.add ((x43_2).toNat * 5)).block, (ad349.add ((x43_2).toNat * 5)).off + 1, none⟩ = some (.int .i64 ((rd_T55 l0 x43_2).f0.f1)) ∧ w'.cell? ⟨(ad349.add ((x43_2).toNat * 5)).block, (ad349.add ((x43_2).toNat * 5)).off + 2, none⟩ = some (.int .i64 ((rd_T55 l0 x43_2).f1.f0)) ∧ w'.cell? ⟨(ad349.add ((x43_2).toNat * 5)).block, (ad349.add ((x43_2).toNat * 5)).off + 3, none⟩ = some (.int .i64 ((rd_T55 l0 x43_2).f1.f1)) ∧ w'.cell? ⟨(ad349.add ((x43_2).toNat * 5)).block, (ad349.add ((x43_2).toNat * 5)).off + 4, none⟩ = some (.int .i64 ((rd_T55 l0 x43_2).f2)) ∧ w'.cell? (ad349.add ((x10_3).toNat * 5)) = some (.int .i64 ((rd_T55 l0 x10_3).f0.f0)) ∧ w'.cell? ⟨(ad349.add ((x10_3).toNat * 5)).block, (ad349.add ((x10_3).toNat * 5)).off + 1, none⟩ = some (.int .i64 ((rd_T55 l0 x10_3).f0.f1)) ∧ w'.cell? ⟨(ad349.add ((x10_3).toNat * 5)).block, (ad349.add ((x10_3).toNat * 5)).off + 2, none⟩ = some (.int .i64 ((rd_T55 l0 x10_3).f1.f0)) ∧ w'.cell? ⟨(ad349.add ((x10_3).toNat * 5)).block, (ad349.add ((x10_3).toNat * 5)).off + 3, none⟩ = some (.int .i64 ((rd_T55 l0 x10_3).f1.f1)) ∧ w'.cell? ⟨(ad349.add ((x10_3).toNat * 5)).block, (ad349.add ((x10_3).toNat * 5)).off + 4, none⟩ = some (.int .i64 ((rd_T55 l0 x10_3).f2))) (ds := []) #[false, false, false, false, false, false, false, false, false, false, false, false, false, false] (by kernel_rfl) rfl rfl ⟨((HB.out.cell (World.block_lt_of_cell? w _ hw349_0)).trans hw349_0), ((HB.out.cell (World.block_lt_of_cell? w _ hw349_1)).trans hw349_1), ((HB.out.cell (World.block_lt_of_cell? w _ hw349_2)).trans hw349_2), ((HB.out.cell (World.block_lt_of_cell? w _ hw349_3)).trans hw349_3), ((HB.out.cell (World.block_lt_of_cell? w _ hw349_4)).trans hw349_4), ((HB.out.cell (World.block_lt_of_cell? w _ hw350_0)).trans hw350_0), ((HB.out.cell (World.block_lt_of_cell? w _ hw350_1)).trans hw350_1), ((HB.out.cell (World.block_lt_of_cell? w _ hw350_2)).trans hw350_2), ((HB.out.cell (World.block_lt_of_cell? w _ hw350_3)).trans hw350_3), ((HB.out.cell (World.block_lt_of_cell? w _ hw350_4)).trans hw350_4)⟩ (fun hHeld => ?_); refine with_tabW formation_Clash.tab16 formation_Clash.bits16 (fun HT_ HW_ => ?_)
       generalize wr.drew = w47 at HB hx349_0 hx349_1 hx349_2 hx349_3 hx349_4 hx350_0 hx350_1 hx350_2 hx350_3 hx350_4 hHeld ⊢
       refine pM 0 55 HT_ ?_
       refine pM 1 56 HT_ ?_
       refine pM 2 57 HT_ ?_
       refine pM 4 59 HT_ ?_
       refine pM 5 60 HT_ ?_
       refine pM 6 61 HT_ ?_
       refine tM 3 58 rfl HT_ HW_ (by rintro w' ⟨s0, s1, s2, s3, s4, s5, s6, s7, s8, s9⟩; go_simp; with_reducible rfl) hHeld ?_
       refine tM 7 62 rfl HT_ HW_ (by rintro w' ⟨s0, s1, s2, s3, s4, s5, s6, s7, s8, s9⟩; go_simp; with_reducible rfl) hHeld ?_
       refine one_ (i := 8) (N := some 63) #[true, true, true, true, true, true, true, true, true, false, false, false, false, false] rfl rfl (one_of HT_.out (by kernel_rfl)) (by decide) (fun K hK => ?_)
       refine goes_ Tryd.func39 (by kernel_rfl) rfl #[.agg #[.int .i64 ((rd_T55 l0 x43_2).f0.f0), .int .i64 ((rd_T55 l0 x43_2).f0.f1), .int .i64 ((rd_T55 l0 x43_2).f1.f0), .int .i64 ((rd_T55 l0 x43_2).f1.f1), .int .i64 ((rd_T55 l0 x43_2).f2)], .agg #[.int .i64 ((rd_T55 l0 x10_3).f0.f0), .int .i64 ((rd_T55 l0 x10_3).f0.f1), .int .i64 ((rd_T55 l0 x10_3).f1.f0), .int .i64 ((rd_T55 l0 x10_3).f1.f1), .int .i64 ((rd_T55 l0 x10_3).f2)]] (by rfl) rfl rfl (by (try simp only [List.map_toArray, List.map_cons, List.map_nil]); first | done | rfl | (simp only [List.length_drop, List.length_take]; rfl)) ?_
       with_reducible refine (geom_Touch.calls k3 ((rd_T55 l0 x43_2).f0.f0) ((rd_T55 l0 x43_2).f0.f1) ((rd_T55 l0 x43_2).f1.f0) ((rd_T55 l0 x43_2).f1.f1) ((rd_T55 l0 x43_2).f2) ((rd_T55 l0 x10_3).f0.f0) ((rd_T55 l0 x10_3).f0.f1) ((rd_T55 l0 x10_3).f1.f0) ((rd_T55 l0 x10_3).f1.f1) ((rd_T55 l0 x10_3).f2) false t352 _ A43.out).mono ?_
       rintro e w48 ⟨rfl, hb⟩
       refine ⟨_, rfl, ?_⟩
       replace HB := mSt HB hb
       (try clear hb)
       (try clear hb2)
       (try clear hk)
       (try clear hi)
       refine hK.out _ _ ⟨((HB.out.cell (World.block_lt_of_cell? w _ hw349_0)).trans hw349_0), ((HB.out.cell (World.block_lt_of_cell? w _ hw349_1)).trans hw349_1), ((HB.out.cell (World.block_lt_of_cell? w _ hw349_2)).trans hw349_2), ((HB.out.cell (World.block_lt_of_cell? w _ hw349_3)).trans hw349_3), ((HB.out.cell (World.block_lt_of_cell? w _ hw349_4)).trans hw349_4), ((HB.out.cell (World.block_lt_of_cell? w _ hw350_0)).trans hw350_0), ((HB.out.cell (World.block_lt_of_cell? w _ hw350_1)).trans hw350_1), ((HB.out.cell (World.block_lt_of_cell? w _ hw350_2)).trans hw350_2), ((HB.out.cell (World.block_lt_of_cell? w _ hw350_3)).trans hw350_3), ((HB.out.cell (World.block_lt_of_cell? w _ hw350_4)).trans hw350_4)⟩ (fun hHeld => ?_)
       clear hK K
       refine norm_ (by show Act.put _ (some 63) _ = _; simp only [mP]; rfl) ?_
       refine pM 9 54 HT_ ?_
       refine pM 10 64 HT_ ?_
       refine pM 11 65 HT_ ?_
       refine pM 12 11 HT_ ?_
       refine pM 13 12 HT_ ?_
       refine done_ (done_of HT_.out (by kernel_rfl)) ?_
       try go_wp2
       go_roundg k3
       case measure => have := HK1.out; have := HK2.out; have := HK3.out; omega
       case rel => exact ⟨(x7_3), (x8_3), (wrap64 (x10_3 + 1)), rfl, rfl, rfl, H', ⟨by have := HK1.out; have := HK2.out; have := HK3.out; omega⟩, ⟨HB.out⟩⟩
end Go.Proofs.YtaggccbndmmbhaaDoor.PAll
