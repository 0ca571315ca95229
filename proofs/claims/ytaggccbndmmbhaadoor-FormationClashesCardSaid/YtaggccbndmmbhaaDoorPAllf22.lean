-- Written by wip/tools/handprint.py: walks of the functions that the law reaches; Lean checks them.
import Derived.Test.YtaggccbndmmbhaaDoorBase
import Derived.Test.YtaggccbndmmbhaaDoorGeo
namespace Go.Proofs.YtaggccbndmmbhaaDoor.PAll
open Go.RowKit Go.Proofs.YtaggccbndmmbhaaDoorW.PrintWords Go.Proofs.YtaggccbndmmbhaaDoorW.PrintLast Go.Proofs.YtaggccbndmmbhaaDoorW.PrintMore
attribute [local go_sem] max2_int min2_int max_two min_two max_three min_three max_four min_four   -- for this text's walks alone
set_option linter.unusedVariables false
set_option linter.unusedSimpArgs false

/-! ### dancestudioref45_Clash: function 22 -/
mutual
def dancestudioref45_Clash.l0 : Nat → List (S55) → Int → Option (Int × Int × Int)
 | 0, _, _ => none
 | k + 1, x0, x5 => if x5 < (x0.length : Int) then (if 0 ≤ x5 then ((dancestudioref03_Touch.f k ((rd_T55 x0 x5).f0.f0) ((rd_T55 x0 x5).f0.f1) ((rd_T55 x0 x5).f1.f0) ((rd_T55 x0 x5).f1.f1) ((rd_T55 x0 x5).f2) ((rd_T55 x0 x5).f0.f0) ((rd_T55 x0 x5).f0.f1) ((rd_T55 x0 x5).f1.f0) ((rd_T55 x0 x5).f1.f1) ((rd_T55 x0 x5).f2)).bind fun bt651 => (if bt651.2 = 0 then (dancestudioref45_Clash.l0 k x0 (wrap64 (x5 + 1))) else (some (0, 0, bt651.2)))) else (none)) else (dancestudioref45_Clash.l1 k x0 0)
def dancestudioref45_Clash.l1 : Nat → List (S55) → Int → Option (Int × Int × Int)
 | 0, _, _ => none
 | k + 1, x0, x8 => if x8 < (x0.length : Int) then (dancestudioref45_Clash.l2 k x0 x8 (wrap64 (x8 + 1))) else (some ((-1), (-1), 0))
def dancestudioref45_Clash.l2 : Nat → List (S55) → Int → Int → Option (Int × Int × Int)
 | 0, _, _, _ => none
 | k + 1, x0, x8, x9 => if x9 < (x0.length : Int) then (if 0 ≤ x8 then (if x8 < (x0.length : Int) then (if 0 ≤ x9 then ((dancestudioref03_Touch.f k ((rd_T55 x0 x8).f0.f0) ((rd_T55 x0 x8).f0.f1) ((rd_T55 x0 x8).f1.f0) ((rd_T55 x0 x8).f1.f1) ((rd_T55 x0 x8).f2) ((rd_T55 x0 x9).f0.f0) ((rd_T55 x0 x9).f0.f1) ((rd_T55 x0 x9).f1.f0) ((rd_T55 x0 x9).f1.f1) ((rd_T55 x0 x9).f2)).bind fun bt655 => (if bt655.1 = true then (some (x8, x9, 0)) else (dancestudioref45_Clash.l2 k x0 x8 (wrap64 (x9 + 1))))) else (none)) else (none)) else (none)) else (dancestudioref45_Clash.l1 k x0 (wrap64 (x8 + 1)))
end
def dancestudioref45_Clash.f (k : Nat) (l0 : List (S55)) : Option (Int × Int × Int) := if (l0.length : Int) > 16 then (some (0, 0, 3)) else (dancestudioref45_Clash.l0 k l0 0)
def dancestudioref45_Clash.T6 : Bool × List (List Nat × List Nat) := (true, [([], []), ([], []), ([0, 1], [0, 1]), ([2], [2]), ([], []), ([], []), ([4, 5], [4, 5]), ([6], [6]), ([3, 7], [3, 7]), ([8], [8]), ([9], [9]), ([9], [9]), ([10, 8, 0, 1, 2, 3, 4, 5, 6, 7, 8, 9, 10], [10]), ([11, 12, 0, 1, 2, 3, 4, 5, 6, 7, 8, 9, 10, 11, 12], [11])])
def dancestudioref45_Clash.B6 : List Nat := [0, 0, 3, 7, 0, 0, 48, 112, 255, 511, 1023, 1023, 2047, 8191]
theorem dancestudioref45_Clash.tab6 : rtab .any (opsOf Tryd.f22 6) = dancestudioref45_Clash.T6 := by kernel_rfl
theorem dancestudioref45_Clash.bits6 : waitsOk dancestudioref45_Clash.T6.2 dancestudioref45_Clash.B6 = true := by kernel_rfl
def dancestudioref45_Clash.T15 : Bool × List (List Nat × List Nat) := (true, [([], []), ([], []), ([0, 1], [0, 1]), ([2], [2]), ([], []), ([], []), ([4, 5], [4, 5]), ([6], [6]), ([3, 7], [3, 7]), ([8], [8]), ([9], [9]), ([9], [9]), ([10, 8, 0, 1, 2, 3, 4, 5, 6, 7, 8, 9, 10], [10]), ([11, 12, 0, 1, 2, 3, 4, 5, 6, 7, 8, 9, 10, 11, 12], [11])])
def dancestudioref45_Clash.B15 : List Nat := [0, 0, 3, 7, 0, 0, 48, 112, 255, 511, 1023, 1023, 2047, 8191]
theorem dancestudioref45_Clash.tab15 : rtab .any (opsOf Tryd.f22 15) = dancestudioref45_Clash.T15 := by kernel_rfl
theorem dancestudioref45_Clash.bits15 : waitsOk dancestudioref45_Clash.T15.2 dancestudioref45_Clash.B15 = true := by kernel_rfl
set_option maxHeartbeats 8000000 in
set_option maxRecDepth 100000 in
theorem dancestudioref45_Clash.calls (k : Nat) (A0 : Option Addr) (c0 : Nat) (l0 : List (S55)) (r1 : Int) (r2 : Int) (r3 : Int) (w : World) (hr0 : Kd.C k55 w A0 l0.length l0) (hc0 : l0.length ≤ c0) (h : dancestudioref45_Clash.f k l0 = some (r1, r2, r3)) :
  Calls Tryd.prog 22 #[.slice A0 l0.length c0] w fun e w' => e = .returned (.tuple #[.int .i64 r1, .int .i64 r2, .int .i64 r3]) ∧ Below w.heap.size w w' := by
 have hu55 := Tryd.underlying55
 have HR0 := Aside0.mk hr0
 have HC0 := Aside0.mk hc0
 clear hr0 hc0
 have HB := Aside0.mk (Below.refl w.heap.size w)
 have H := h
 unfold dancestudioref45_Clash.f at H
 clear h
 by_cases c2 : (l0.length : Int) > 16
 ·
  rw [if_pos c2] at H
  have c2b0 := decide_eq_true c2
  have c2b1 : decide (16 < l0.length) = true := decide_eq_true (by omega)
  clear c2
  simp only [Option.some.injEq, Prod.mk.injEq] at H
  obtain ⟨rfl, rfl, rfl⟩ := H
  go_enter Tryd.func22, Tryd.ntmps22
  go_wp2
  go_ret3
  exact ⟨rfl, HB.out⟩
 rw [if_neg c2] at H
 have c2b0 := decide_eq_false c2
 have c2b1 : decide (16 < l0.length) = false := decide_eq_false (by omega)
 clear c2
 have H' := Aside0.mk H
 clear H
 go_enter Tryd.func22, Tryd.ntmps22
 go_wp2
 go_loopg [5] k (fun kq v5 w' => ∃ (x5_1 : Int), v5 = .int .i64 x5_1 ∧ Aside0 (dancestudioref45_Clash.l0 kq l0 x5_1 = some (r1, r2, r3)) ∧ Aside0 (kq ≤ k) ∧ Aside0 (Below w.heap.size w w'))
 case atStart => exact ⟨(0), rfl, H', ⟨Nat.le_refl _⟩, ⟨HB.out⟩⟩
 case round =>
  clear H'
  clear c2b0 c2b1
  obtain ⟨x5_1, rfl, HA, HK1, HB⟩ := hrel
  cases gk with
  | zero => exact absurd HA.out (by simp [dancestudioref45_Clash.l0])
  | succ k1 =>
   have H := HA.out
   clear HA
   simp only [dancestudioref45_Clash.l0] at H
   by_cases c3 : x5_1 < (l0.length : Int)
   ·
    rw [if_pos c3] at H
    have c3b0 := decide_eq_true c3
    clear c3
    obtain ⟨c4, H⟩ : (0 ≤ x5_1) ∧ _ := mIf H
    have c4b0 := decide_eq_true c4
    clear c4
    replace H := Option.bind_eq_some_iff.mp H
    obtain ⟨⟨t651, t652⟩, A50, H⟩ := H
    try dsimp only at H
    have A5 := Aside0.mk A50
    clear A50
    by_cases c6 : t652 = 0
    rotate_left
    ·
     rw [if_neg c6] at H
     have c6b0 := beq_eq_false_iff_ne.mpr c6
     have c6b1 := bne_iff_ne.mpr c6
     simp only [Option.some.injEq, Prod.mk.injEq] at H
     obtain ⟨rfl, rfl, rfl⟩ := H
     try go_wp2
     replace HB := Aside0.mk (below_drew1 HB.out)
     have p649 : 0 ≤ (x5_1 : Int) := of_decide_eq_true (by assumption)
     have q649 : x5_1 < (l0.length : Int) := of_decide_eq_true (by assumption)
     obtain ⟨ad649, e649, hx649_0, hx649_1, hx649_2, hx649_3, hx649_4⟩ := at_T55 HR0.out x5_1 p649 q649
     have hw649_4 := hx649_4
     have hw649_3 := hx649_3
     have hw649_2 := hx649_2
     have hw649_1 := hx649_1
     have hw649_0 := hx649_0
     cases e649
     replace hx649_0 := mHx HB hx649_0
     replace hx649_1 := mHx HB hx649_1
     replace hx649_2 := mHx HB hx649_2
     replace hx649_3 := mHx HB hx649_3
     replace hx649_4 := mHx HB hx649_4
     replace p649 := eq_true p649
     replace q649 := eq_true q649
     have p650 : 0 ≤ (x5_1 : Int) := of_decide_eq_true (by assumption)
     have q650 : x5_1 < (l0.length : Int) := of_decide_eq_true (by assumption)
     obtain ⟨ad650, e650, hx650_0, hx650_1, hx650_2, hx650_3, hx650_4⟩ := at_T55 HR0.out x5_1 p650 q650
     have hw650_4 := hx650_4
     have hw650_3 := hx650_3
     have hw650_2 := hx650_2
     have hw650_1 := hx650_1
     have hw650_0 := hx650_0
     obtain rfl : ad649 = ad650 := (by injection e650)
     replace hx650_0 := mHx HB hx650_0
     replace hx650_1 := mHx HB hx650_1
     replace hx650_2 := mHx HB hx650_2
     replace hx650_3 := mHx HB hx650_3
     replace hx650_4 := mHx HB hx650_4
     replace p650 := eq_true p650
     replace q650 := eq_true q650
     refine start_ (n := 14) (S := fun w' => w'.cell? (ad649.add ((x5_1).toNat * 5)) = some (.int .i64 ((rd_T55 l0 x5_1).f0.f0)) ∧ w'.cell? ⟨(ad649.add ((x5_1).toNat * 5)).block, (ad649.add ((x5_1).toNat * 5)).off + 1, none⟩ = some (.int .i64 ((rd_T55 l0 x5_1).f0.f1)) ∧ w'.cell? ⟨(ad649.add ((x5_1).toNat * 5)).block, (ad649.add ((x5_1).toNat * 5)).off + 2, none⟩ = some (.int .i64 ((rd_T55 l0 x5_1).f1.f0)) ∧ w'.cell? ⟨(ad649.add ((x5_1).toNat * 5)).block, (ad649.add ((x5_1).toNat * 5)).off + 3, none⟩ = some (.int .i64 ((rd_T55 l0 x5_1).f1.f1)) ∧ w'.cell? ⟨(ad649.add ((x5_1).toNat * 5)).block, (ad649.add ((x5_1).toNat * 5)).off + 4, none⟩ = some (.int .i64 ((rd_T55 l0 x5_1).f2)) ∧ w'.cell? (ad649.add ((x5_1).toNat * 5)) = some (.int .i64 ((rd_T55 l0 x5_1).f0.f0)) ∧ w'.cell? ⟨(ad649.add ((x5_1).toNat * 5)).block, (ad649.add ((x5_1).toNat * 5)).off + 1, none⟩ = some (.int .i64 ((rd_T55 l0 x5_1).f0.f1)) ∧ w'.cell? ⟨(ad649.add ((x5_1).toNat * 5)).block, (ad649.add ((x5_1).toNat * 5)).off + 2, none⟩ = some (.int .i64 ((rd_T55 l0 x5_1).f1.f0)) ∧ w'.cell? ⟨(ad649.add ((x5_1).toNat * 5)).block, (ad649.add ((x5_1).toNat * 5)).off + 3, none⟩ = some (.int .i64 ((rd_T55 l0 x5_1).f1.f1)) ∧ w'.cell? ⟨(ad649.add ((x5_1).toNat * 5)).block, (ad649.add ((x5_1).toNat * 5)).off + 4, none⟩ = some (.int .i64 ((rd_T55 l0 x5_1).f2))) (ds := []) #[false, false, false, false, false, false, false, false, false, false, false, false, false, false] (by kernel_rfl) rfl rfl ⟨((HB.out.cell (World.block_lt_of_cell? w _ hw649_0)).trans hw649_0), ((HB.out.cell (World.block_lt_of_cell? w _ hw649_1)).trans hw649_1), ((HB.out.cell (World.block_lt_of_cell? w _ hw649_2)).trans hw649_2), ((HB.out.cell (World.block_lt_of_cell? w _ hw649_3)).trans hw649_3), ((HB.out.cell (World.block_lt_of_cell? w _ hw649_4)).trans hw649_4), ((HB.out.cell (World.block_lt_of_cell? w _ hw650_0)).trans hw650_0), ((HB.out.cell (World.block_lt_of_cell? w _ hw650_1)).trans hw650_1), ((HB.out.cell (World.block_lt_of_cell? w _ hw650_2)).trans hw650_2), ((HB.out.cell (World.block_lt_of_cell? w _ hw650_3)).trans hw650_3), ((HB.out.cell (World.block_lt_of_cell? w _ hw650_4)).trans hw650_4)⟩ (fun hHeld => ?_); refine with_tabW dancestudioref45_Clash.tab6 dancestudioref45_Clash.bits6 (fun HT_ HW_ => ?_)
     generalize wr.drew = w9 at HB hx649_0 hx649_1 hx649_2 hx649_3 hx649_4 hx650_0 hx650_1 hx650_2 hx650_3 hx650_4 hHeld ⊢
     refine pM 0 22 HT_ ?_
     refine pM 1 23 HT_ ?_
     refine pM 2 24 HT_ ?_
     refine pM 4 26 HT_ ?_
     refine pM 5 27 HT_ ?_
     refine pM 6 28 HT_ ?_
     refine tM 3 25 rfl HT_ HW_ (by rintro w' ⟨s0, s1, s2, s3, s4, s5, s6, s7, s8, s9⟩; go_simp; with_reducible rfl) hHeld ?_
     refine tM 7 29 rfl HT_ HW_ (by rintro w' ⟨s0, s1, s2, s3, s4, s5, s6, s7, s8, s9⟩; go_simp; with_reducible rfl) hHeld ?_
     refine one_ (i := 8) (N := some 30) #[true, true, true, true, true, true, true, true, true, false, false, false, false, false] rfl rfl (one_of HT_.out (by kernel_rfl)) (by decide) (fun K hK => ?_)
     refine goes_ Tryd.func40 (by kernel_rfl) rfl #[.agg #[.int .i64 ((rd_T55 l0 x5_1).f0.f0), .int .i64 ((rd_T55 l0 x5_1).f0.f1), .int .i64 ((rd_T55 l0 x5_1).f1.f0), .int .i64 ((rd_T55 l0 x5_1).f1.f1), .int .i64 ((rd_T55 l0 x5_1).f2)], .agg #[.int .i64 ((rd_T55 l0 x5_1).f0.f0), .int .i64 ((rd_T55 l0 x5_1).f0.f1), .int .i64 ((rd_T55 l0 x5_1).f1.f0), .int .i64 ((rd_T55 l0 x5_1).f1.f1), .int .i64 ((rd_T55 l0 x5_1).f2)]] (by rfl) rfl rfl (by (try simp only [List.map_toArray, List.map_cons, List.map_nil]); first | done | rfl | (simp only [List.length_drop, List.length_take]; rfl)) ?_
     with_reducible refine (dancestudioref03_Touch.calls k1 ((rd_T55 l0 x5_1).f0.f0) ((rd_T55 l0 x5_1).f0.f1) ((rd_T55 l0 x5_1).f1.f0) ((rd_T55 l0 x5_1).f1.f1) ((rd_T55 l0 x5_1).f2) ((rd_T55 l0 x5_1).f0.f0) ((rd_T55 l0 x5_1).f0.f1) ((rd_T55 l0 x5_1).f1.f0) ((rd_T55 l0 x5_1).f1.f1) ((rd_T55 l0 x5_1).f2) t651 t652 _ A5.out).mono ?_
     rintro e w10 ⟨rfl, hb⟩
     refine ⟨_, rfl, ?_⟩
     replace HB := mSt HB hb
     (try clear hb)
     (try clear hb2)
     (try clear hk)
     (try clear hi)
     refine hK.out _ _ ⟨((HB.out.cell (World.block_lt_of_cell? w _ hw649_0)).trans hw649_0), ((HB.out.cell (World.block_lt_of_cell? w _ hw649_1)).trans hw649_1), ((HB.out.cell (World.block_lt_of_cell? w _ hw649_2)).trans hw649_2), ((HB.out.cell (World.block_lt_of_cell? w _ hw649_3)).trans hw649_3), ((HB.out.cell (World.block_lt_of_cell? w _ hw649_4)).trans hw649_4), ((HB.out.cell (World.block_lt_of_cell? w _ hw650_0)).trans hw650_0), ((HB.out.cell (World.block_lt_of_cell? w _ hw650_1)).trans hw650_1), ((HB.out.cell (World.block_lt_of_cell? w _ hw650_2)).trans hw650_2), ((HB.out.cell (World.block_lt_of_cell? w _ hw650_3)).trans hw650_3), ((HB.out.cell (World.block_lt_of_cell? w _ hw650_4)).trans hw650_4)⟩ (fun hHeld => ?_)
     clear hK K
     refine norm_ (by show Act.put _ (some 30) _ = _; simp only [mP]; rfl) ?_
     refine pM 9 21 HT_ ?_
     refine pM 10 31 HT_ ?_
     refine pM 11 32 HT_ ?_
     refine pM 12 6 HT_ ?_
     refine pM 13 7 HT_ ?_
     refine done_ (done_of HT_.out (by kernel_rfl)) ?_
     try go_wp2
     go_ret3
     exact ⟨rfl, HB.out⟩
    rw [if_pos c6] at H
    have c6b0 := beq_iff_eq.mpr c6
    have c6b1 := bne_eq_false_iff_eq.mpr c6
    clear c6
    have H' := Aside0.mk H
    clear H
    try go_wp2
    replace HB := Aside0.mk (below_drew1 HB.out)
    have p649 : 0 ≤ (x5_1 : Int) := of_decide_eq_true (by assumption)
    have q649 : x5_1 < (l0.length : Int) := of_decide_eq_true (by assumption)
    obtain ⟨ad649, e649, hx649_0, hx649_1, hx649_2, hx649_3, hx649_4⟩ := at_T55 HR0.out x5_1 p649 q649
    have hw649_4 := hx649_4
    have hw649_3 := hx649_3
    have hw649_2 := hx649_2
    have hw649_1 := hx649_1
    have hw649_0 := hx649_0
    cases e649
    replace hx649_0 := mHx HB hx649_0
    replace hx649_1 := mHx HB hx649_1
    replace hx649_2 := mHx HB hx649_2
    replace hx649_3 := mHx HB hx649_3
    replace hx649_4 := mHx HB hx649_4
    replace p649 := eq_true p649
    replace q649 := eq_true q649
    have p650 : 0 ≤ (x5_1 : Int) := of_decide_eq_true (by assumption)
    have q650 : x5_1 < (l0.length : Int) := of_decide_eq_true (by assumption)
    obtain ⟨ad650, e650, hx650_0, hx650_1, hx650_2, hx650_3, hx650_4⟩ := at_T55 HR0.out x5_1 p650 q650
    have hw650_4 := hx650_4
    have hw650_3 := hx650_3
    have hw650_2 := hx650_2
    have hw650_1 := hx650_1
    have hw650_0 := hx650_0
    obtain rfl : ad649 = ad650 := (by injection e650)
    replace hx650_0 := mHx HB hx650_0
    replace hx650_1 := mHx HB hx650_1
    replace hx650_2 := mHx HB hx650_2
    replace hx650_3 := mHx HB hx650_3
    replace hx650_4 := mHx HB hx650_4
    replace p650 := eq_true p650
    replace q650 := eq_true q650
    refine start_ (n := 14) (S := fun w' => w'.cell? (ad649.add ((x5_1).toNat * 5)) = some (.int .i64 ((rd_T55 l0 x5_1).f0.f0)) ∧ w'.cell? ⟨(ad649.add ((x5_1).toNat * 5)).block, (ad649.add ((x5_1).toNat * 5)).off + 1, none⟩ = some (.int .i64 ((rd_T55 l0 x5_1).f0.f1)) ∧ w'.cell? ⟨(ad649.add ((x5_1).toNat * 5)).block, (ad649.add ((x5_1).toNat * 5)).off + 2, none⟩ = some (.int .i64 ((rd_T55 l0 x5_1).f1.f0)) ∧ w'.cell? ⟨(ad649.add ((x5_1).toNat * 5)).block, (ad649.add ((x5_1).toNat * 5)).off + 3, none⟩ = some (.int .i64 ((rd_T55 l0 x5_1).f1.f1)) ∧ w'.cell? ⟨(ad649.add ((x5_1).toNat * 5)).block, (ad649.add ((x5_1).toNat * 5)).off + 4, none⟩ = some (.int .i64 ((rd_T55 l0 x5_1).f2)) ∧ w'.cell? (ad649.add ((x5_1).toNat * 5)) = some (.int .i64 ((rd_T55 l0 x5_1).f0.f0)) ∧ w'.cell? ⟨(ad649.add ((x5_1).toNat * 5)).block, (ad649.add ((x5_1).toNat * 5)).off + 1, none⟩ = some (.int .i64 ((rd_T55 l0 x5_1).f0.f1)) ∧ w'.cell? ⟨(ad649.add ((x5_1).toNat * 5)).block, (ad649.add ((x5_1).toNat * 5)).off + 2, none⟩ = some (.int .i64 ((rd_T55 l0 x5_1).f1.f0)) ∧ w'.cell? ⟨(ad649.add ((x5_1).toNat * 5)).block, (ad649.add ((x5_1).toNat * 5)).off + 3, none⟩ = some (.int .i64 ((rd_T55 l0 x5_1).f1.f1)) ∧ w'.cell? ⟨(ad649.add ((x5_1).toNat * 5)).block, (ad649.add ((x5_1).toNat * 5)).off + 4, none⟩ = some (.int .i64 ((rd_T55 l0 x5_1).f2))) (ds := []) #[false, false, false, false, false, false, false, false, false, false, false, false, false, false] (by kernel_rfl) rfl rfl ⟨((HB.out.cell (World.block_lt_of_cell? w _ hw649_0)).trans hw649_0), ((HB.out.cell (World.block_lt_of_cell? w _ hw649_1)).trans hw649_1), ((HB.out.cell (World.block_lt_of_cell? w _ hw649_2)).trans hw649_2), ((HB.out.cell (World.block_lt_of_cell? w _ hw649_3)).trans hw649_3), ((HB.out.cell (World.block_lt_of_cell? w _ hw649_4)).trans hw649_4), ((HB.out.cell (World.block_lt_of_cell? w _ hw650_0)).trans hw650_0), ((HB.out.cell (World.block_lt_of_cell? w _ hw650_1)).trans hw650_1), ((HB.out.cell (World.block_lt_of_cell? w _ hw650_2)).trans hw650_2), ((HB.out.cell (World.block_lt_of_cell? w _ hw650_3)).trans hw650_3), ((HB.out.cell (World.block_lt_of_cell? w _ hw650_4)).trans hw650_4)⟩ (fun hHeld => ?_); refine with_tabW dancestudioref45_Clash.tab6 dancestudioref45_Clash.bits6 (fun HT_ HW_ => ?_)
    generalize wr.drew = w7 at HB hx649_0 hx649_1 hx649_2 hx649_3 hx649_4 hx650_0 hx650_1 hx650_2 hx650_3 hx650_4 hHeld ⊢
    refine pM 0 22 HT_ ?_
    refine pM 1 23 HT_ ?_
    refine pM 2 24 HT_ ?_
    refine pM 4 26 HT_ ?_
    refine pM 5 27 HT_ ?_
    refine pM 6 28 HT_ ?_
    refine tM 3 25 rfl HT_ HW_ (by rintro w' ⟨s0, s1, s2, s3, s4, s5, s6, s7, s8, s9⟩; go_simp; with_reducible rfl) hHeld ?_
    refine tM 7 29 rfl HT_ HW_ (by rintro w' ⟨s0, s1, s2, s3, s4, s5, s6, s7, s8, s9⟩; go_simp; with_reducible rfl) hHeld ?_
    refine one_ (i := 8) (N := some 30) #[true, true, true, true, true, true, true, true, true, false, false, false, false, false] rfl rfl (one_of HT_.out (by kernel_rfl)) (by decide) (fun K hK => ?_)
    refine goes_ Tryd.func40 (by kernel_rfl) rfl #[.agg #[.int .i64 ((rd_T55 l0 x5_1).f0.f0), .int .i64 ((rd_T55 l0 x5_1).f0.f1), .int .i64 ((rd_T55 l0 x5_1).f1.f0), .int .i64 ((rd_T55 l0 x5_1).f1.f1), .int .i64 ((rd_T55 l0 x5_1).f2)], .agg #[.int .i64 ((rd_T55 l0 x5_1).f0.f0), .int .i64 ((rd_T55 l0 x5_1).f0.f1), .int .i64 ((rd_T55 l0 x5_1).f1.f0), .int .i64 ((rd_T55 l0 x5_1).f1.f1), .int .i64 ((rd_T55 l0 x5_1).f2)]] (by rfl) rfl rfl (by (try simp only [List.map_toArray, List.map_cons, List.map_nil]); first | done | rfl | (simp only [List.length_drop, List.length_take]; rfl)) ?_
    with_reducible refine (dancestudioref03_Touch.calls k1 ((rd_T55 l0 x5_1).f0.f0) ((rd_T55 l0 x5_1).f0.f1) ((rd_T55 l0 x5_1).f1.f0) ((rd_T55 l0 x5_1).f1.f1) ((rd_T55 l0 x5_1).f2) ((rd_T55 l0 x5_1).f0.f0) ((rd_T55 l0 x5_1).f0.f1) ((rd_T55 l0 x5_1).f1.f0) ((rd_T55 l0 x5_1).f1.f1) ((rd_T55 l0 x5_1).f2) t651 t652 _ A5.out).mono ?_
    rintro e w8 ⟨rfl, hb⟩
    refine ⟨_, rfl, ?_⟩
    replace HB := mSt HB hb
    (try clear hb)
    (try clear hb2)
    (try clear hk)
    (try clear hi)
    refine hK.out _ _ ⟨((HB.out.cell (World.block_lt_of_cell? w _ hw649_0)).trans hw649_0), ((HB.out.cell (World.block_lt_of_cell? w _ hw649_1)).trans hw649_1), ((HB.out.cell (World.block_lt_of_cell? w _ hw649_2)).trans hw649_2), ((HB.out.cell (World.block_lt_of_cell? w _ hw649_3)).trans hw649_3), ((HB.out.cell (World.block_lt_of_cell? w _ hw649_4)).trans hw649_4), ((HB.out.cell (World.block_lt_of_cell? w _ hw650_0)).trans hw650_0), ((HB.out.cell (World.block_lt_of_cell? w _ hw650_1)).trans hw650_1), ((HB.out.cell (World.block_lt_of_cell? w _ hw650_2)).trans hw650_2), ((HB.out.cell (World.block_lt_of_cell? w _ hw650_3)).trans hw650_3), ((HB.out.cell (World.block_lt_of_cell? w _ hw650_4)).trans hw650_4)⟩ (fun hHeld => ?_)
    clear hK K
    refine norm_ (by show Act.put _ (some 30) _ = _; simp only [mP]; rfl) ?_
    refine pM 9 21 HT_ ?_
    refine pM 10 31 HT_ ?_
    refine pM 11 32 HT_ ?_
    refine pM 12 6 HT_ ?_
    refine pM 13 7 HT_ ?_
    refine done_ (done_of HT_.out (by kernel_rfl)) ?_
    try go_wp2
    go_roundg k1
    case measure => have := HK1.out; omega
    case rel => exact ⟨(wrap64 (x5_1 + 1)), rfl, H', ⟨by have := HK1.out; omega⟩, ⟨HB.out⟩⟩
   rw [if_neg c3] at H
   have c3b0 := decide_eq_false c3
   clear c3
   have H' := Aside0.mk H
   clear H
   go_wp2
   go_loopg [8] k1 (fun kq v8 w' => ∃ (x8_2 : Int), v8 = .int .i64 x8_2 ∧ Aside0 (dancestudioref45_Clash.l1 kq l0 x8_2 = some (r1, r2, r3)) ∧ Aside0 (kq ≤ k1) ∧ Aside0 (Below w.heap.size w w'))
   case atStart => exact ⟨(0), rfl, H', ⟨Nat.le_refl _⟩, ⟨HB.out⟩⟩
   case round =>
    clear H'
    clear c3b0
    obtain ⟨x8_2, rfl, HA, HK2, HB⟩ := hrel
    cases gk with
    | zero => exact absurd HA.out (by simp [dancestudioref45_Clash.l1])
    | succ k2 =>
     have H := HA.out
     clear HA
     simp only [dancestudioref45_Clash.l1] at H
     by_cases c11 : x8_2 < (l0.length : Int)
     rotate_left
     ·
      rw [if_neg c11] at H
      have c11b0 := decide_eq_false c11
      clear c11
      simp only [Option.some.injEq, Prod.mk.injEq] at H
      obtain ⟨rfl, rfl, rfl⟩ := H
      go_wp2
      go_ret3
      exact ⟨rfl, HB.out⟩
     rw [if_pos c11] at H
     have c11b0 := decide_eq_true c11
     clear c11
     have H' := Aside0.mk H
     clear H
     go_wp2
     go_loopg [9] k2 (fun kq v9 w' => ∃ (x9_3 : Int), v9 = .int .i64 x9_3 ∧ Aside0 (dancestudioref45_Clash.l2 kq l0 x8_2 x9_3 = some (r1, r2, r3)) ∧ Aside0 (kq ≤ k2) ∧ Aside0 (Below w.heap.size w w'))
     case atStart => exact ⟨(wrap64 (x8_2 + 1)), rfl, H', ⟨Nat.le_refl _⟩, ⟨HB.out⟩⟩
     case round =>
      clear H'
      clear c11b0
      obtain ⟨x9_3, rfl, HA, HK3, HB⟩ := hrel
      cases gk with
      | zero => exact absurd HA.out (by simp [dancestudioref45_Clash.l2])
      | succ k3 =>
       have H := HA.out
       clear HA
       simp only [dancestudioref45_Clash.l2] at H
       by_cases c12 : x9_3 < (l0.length : Int)
       rotate_left
       ·
        rw [if_neg c12] at H
        have c12b0 := decide_eq_false c12
        clear c12
        have H' := Aside0.mk H
        clear H
        go_wp2
        go_roundg k3
        case measure => have := HK1.out; have := HK2.out; have := HK3.out; omega
        case rel => exact ⟨(wrap64 (x8_2 + 1)), rfl, H', ⟨by have := HK1.out; have := HK2.out; have := HK3.out; omega⟩, ⟨HB.out⟩⟩
       rw [if_pos c12] at H
       have c12b0 := decide_eq_true c12
       clear c12
       obtain ⟨c13, H⟩ : (0 ≤ x8_2) ∧ _ := mIf H
       have c13b0 := decide_eq_true c13
       clear c13
       obtain ⟨c14, H⟩ : (x8_2 < (l0.length : Int)) ∧ _ := mIf H
       have c14b0 := decide_eq_true c14
       clear c14
       obtain ⟨c15, H⟩ : (0 ≤ x9_3) ∧ _ := mIf H
       have c15b0 := decide_eq_true c15
       clear c15
       replace H := Option.bind_eq_some_iff.mp H
       obtain ⟨⟨t655, t656⟩, A160, H⟩ := H
       try dsimp only at H
       have A16 := Aside0.mk A160
       clear A160
       by_cases c17 : t655 = true
       ·
        subst c17
        rw [if_pos rfl] at H
        simp only [Option.some.injEq, Prod.mk.injEq] at H
        obtain ⟨rfl, rfl, rfl⟩ := H
        try go_wp2
        replace HB := Aside0.mk (below_drew1 HB.out)
        have p653 : 0 ≤ (x8_2 : Int) := of_decide_eq_true (by assumption)
        have q653 : x8_2 < (l0.length : Int) := of_decide_eq_true (by assumption)
        obtain ⟨ad653, e653, hx653_0, hx653_1, hx653_2, hx653_3, hx653_4⟩ := at_T55 HR0.out x8_2 p653 q653
        have hw653_4 := hx653_4
        have hw653_3 := hx653_3
        have hw653_2 := hx653_2
        have hw653_1 := hx653_1
        have hw653_0 := hx653_0
        cases e653
        replace hx653_0 := mHx HB hx653_0
        replace hx653_1 := mHx HB hx653_1
        replace hx653_2 := mHx HB hx653_2
        replace hx653_3 := mHx HB hx653_3
        replace hx653_4 := mHx HB hx653_4
        replace p653 := eq_true p653
        replace q653 := eq_true q653
        have p654 : 0 ≤ (x9_3 : Int) := of_decide_eq_true (by assumption)
        have q654 : x9_3 < (l0.length : Int) := of_decide_eq_true (by assumption)
        obtain ⟨ad654, e654, hx654_0, hx654_1, hx654_2, hx654_3, hx654_4⟩ := at_T55 HR0.out x9_3 p654 q654
        have hw654_4 := hx654_4
        have hw654_3 := hx654_3
        have hw654_2 := hx654_2
        have hw654_1 := hx654_1
        have hw654_0 := hx654_0
        obtain rfl : ad653 = ad654 := (by injection e654)
        replace hx654_0 := mHx HB hx654_0
        replace hx654_1 := mHx HB hx654_1
        replace hx654_2 := mHx HB hx654_2
        replace hx654_3 := mHx HB hx654_3
        replace hx654_4 := mHx HB hx654_4
        replace p654 := eq_true p654
        replace q654 := eq_true q654
        refine start_ (n := 14) (S := fun w' => w'.cell? (ad653.add ((x8_2).toNat * 5)) = some (.int .i64 ((rd_T55 l0 x8_2).f0.f0)) ∧ w'.cell? ⟨(ad653.add ((x8_2).toNat * 5)).block, (ad653.add ((x8_2).toNat * 5)).off + 1, none⟩ = some (.int .i64 ((rd_T55 l0 x8_2).f0.f1)) ∧ w'.cell? ⟨(ad653.add ((x8_2).toNat * 5)).block, (ad653.add ((x8_2).toNat * 5)).off + 2, none⟩ = some (.int .i64 ((rd_T55 l0 x8_2).f1.f0)) ∧ w'.cell? ⟨(ad653.add ((x8_2).toNat * 5)).block, (ad653.add ((x8_2).toNat * 5)).off + 3, none⟩ = some (.int .i64 ((rd_T55 l0 x8_2).f1.f1)) ∧ w'.cell? ⟨(ad653.add ((x8_2).toNat * 5)).block, (ad653.add ((x8_2).toNat * 5)).off + 4, none⟩ = some (.int .i64 ((rd_T55 l0 x8_2).f2)) ∧ w'.cell? (ad653.add ((x9_3).toNat * 5)) = some (.int .i64 ((rd_T55 l0 x9_3).f0.f0)) ∧ w'.cell? ⟨(ad653.add ((x9_3).toNat * 5)).block, (ad653.add ((x9_3).toNat * 5)).off + 1, none⟩ = some (.int .i64 ((rd_T55 l0 x9_3).f0.f1)) ∧ w'.cell? ⟨(ad653.add ((x9_3).toNat * 5)).block, (ad653.add ((x9_3).toNat * 5)).off + 2, none⟩ = some (.int .i64 ((rd_T55 l0 x9_3).f1.f0)) ∧ w'.cell? ⟨(ad653.add ((x9_3).toNat * 5)).block, (ad653.add ((x9_3).toNat * 5)).off + 3, none⟩ = some (.int .i64 ((rd_T55 l0 x9_3).f1.f1)) ∧ w'.cell? ⟨(ad653.add ((x9_3).toNat * 5)).block, (ad653.add ((x9_3).toNat * 5)).off + 4, none⟩ = some (.int .i64 ((rd_T55 l0 x9_3).f2))) (ds := []) #[false, false, false, false, false, false, false, false, false, false, false, false, false, false] (by kernel_rfl) rfl rfl ⟨((HB.out.cell (World.block_lt_of_cell? w _ hw653_0)).trans hw653_0), ((HB.out.cell (World.block_lt_of_cell? w _ hw653_1)).trans hw653_1), ((HB.out.cell (World.block_lt_of_cell? w _ hw653_2)).trans hw653_2), ((HB.out.cell (World.block_lt_of_cell? w _ hw653_3)).trans hw653_3), ((HB.out.cell (World.block_lt_of_cell? w _ hw653_4)).trans hw653_4), ((HB.out.cell (World.block_lt_of_cell? w _ hw654_0)).trans hw654_0), ((HB.out.cell (World.block_lt_of_cell? w _ hw654_1)).trans hw654_1), ((HB.out.cell (World.block_lt_of_cell? w _ hw654_2)).trans hw654_2), ((HB.out.cell (World.block_lt_of_cell? w _ hw654_3)).trans hw654_3), ((HB.out.cell (World.block_lt_of_cell? w _ hw654_4)).trans hw654_4)⟩ (fun hHeld => ?_); refine with_tabW dancestudioref45_Clash.tab15 dancestudioref45_Clash.bits15 (fun HT_ HW_ => ?_)
        generalize wr.drew = w18 at HB hx653_0 hx653_1 hx653_2 hx653_3 hx653_4 hx654_0 hx654_1 hx654_2 hx654_3 hx654_4 hHeld ⊢
        refine pM 0 51 HT_ ?_
        refine pM 1 52 HT_ ?_
        refine pM 2 53 HT_ ?_
        refine pM 4 55 HT_ ?_
        refine pM 5 56 HT_ ?_
        refine pM 6 57 HT_ ?_
        refine tM 3 54 rfl HT_ HW_ (by rintro w' ⟨s0, s1, s2, s3, s4, s5, s6, s7, s8, s9⟩; go_simp; with_reducible rfl) hHeld ?_
        refine tM 7 58 rfl HT_ HW_ (by rintro w' ⟨s0, s1, s2, s3, s4, s5, s6, s7, s8, s9⟩; go_simp; with_reducible rfl) hHeld ?_
        refine one_ (i := 8) (N := some 59) #[true, true, true, true, true, true, true, true, true, false, false, false, false, false] rfl rfl (one_of HT_.out (by kernel_rfl)) (by decide) (fun K hK => ?_)
        refine goes_ Tryd.func40 (by kernel_rfl) rfl #[.agg #[.int .i64 ((rd_T55 l0 x8_2).f0.f0), .int .i64 ((rd_T55 l0 x8_2).f0.f1), .int .i64 ((rd_T55 l0 x8_2).f1.f0), .int .i64 ((rd_T55 l0 x8_2).f1.f1), .int .i64 ((rd_T55 l0 x8_2).f2)], .agg #[.int .i64 ((rd_T55 l0 x9_3).f0.f0), .int .i64 ((rd_T55 l0 x9_3).f0.f1), .int .i64 ((rd_T55 l0 x9_3).f1.f0), .int .i64 ((rd_T55 l0 x9_3).f1.f1), .int .i64 ((rd_T55 l0 x9_3).f2)]] (by rfl) rfl rfl (by (try simp only [List.map_toArray, List.map_cons, List.map_nil]); first | done | rfl | (simp only [List.length_drop, List.length_take]; rfl)) ?_
        with_reducible refine (dancestudioref03_Touch.calls k3 ((rd_T55 l0 x8_2).f0.f0) ((rd_T55 l0 x8_2).f0.f1) ((rd_T55 l0 x8_2).f1.f0) ((rd_T55 l0 x8_2).f1.f1) ((rd_T55 l0 x8_2).f2) ((rd_T55 l0 x9_3).f0.f0) ((rd_T55 l0 x9_3).f0.f1) ((rd_T55 l0 x9_3).f1.f0) ((rd_T55 l0 x9_3).f1.f1) ((rd_T55 l0 x9_3).f2) true t656 _ A16.out).mono ?_
        rintro e w19 ⟨rfl, hb⟩
        refine ⟨_, rfl, ?_⟩
        replace HB := mSt HB hb
        (try clear hb)
        (try clear hb2)
        (try clear hk)
        (try clear hi)
        refine hK.out _ _ ⟨((HB.out.cell (World.block_lt_of_cell? w _ hw653_0)).trans hw653_0), ((HB.out.cell (World.block_lt_of_cell? w _ hw653_1)).trans hw653_1), ((HB.out.cell (World.block_lt_of_cell? w _ hw653_2)).trans hw653_2), ((HB.out.cell (World.block_lt_of_cell? w _ hw653_3)).trans hw653_3), ((HB.out.cell (World.block_lt_of_cell? w _ hw653_4)).trans hw653_4), ((HB.out.cell (World.block_lt_of_cell? w _ hw654_0)).trans hw654_0), ((HB.out.cell (World.block_lt_of_cell? w _ hw654_1)).trans hw654_1), ((HB.out.cell (World.block_lt_of_cell? w _ hw654_2)).trans hw654_2), ((HB.out.cell (World.block_lt_of_cell? w _ hw654_3)).trans hw654_3), ((HB.out.cell (World.block_lt_of_cell? w _ hw654_4)).trans hw654_4)⟩ (fun hHeld => ?_)
        clear hK K
        refine norm_ (by show Act.put _ (some 59) _ = _; simp only [mP]; rfl) ?_
        refine pM 9 50 HT_ ?_
        refine pM 10 60 HT_ ?_
        refine pM 11 61 HT_ ?_
        refine pM 12 10 HT_ ?_
        refine pM 13 11 HT_ ?_
        refine done_ (done_of HT_.out (by kernel_rfl)) ?_
        try go_wp2
        go_ret3
        exact ⟨rfl, HB.out⟩
       replace c17 := Bool.eq_false_iff.mpr c17
       subst c17
       rw [if_neg (show ¬ (false = true) by decide)] at H
       have H' := Aside0.mk H
       clear H
       try go_wp2
       replace HB := Aside0.mk (below_drew1 HB.out)
       have p653 : 0 ≤ (x8_2 : Int) := of_decide_eq_true (by assumption)
       have q653 : x8_2 < (l0.length : Int) := of_decide_eq_true (by assumption)
       obtain ⟨ad653, e653, hx653_0, hx653_1, hx653_2, hx653_3, hx653_4⟩ := at_T55 HR0.out x8_2 p653 q653
       have hw653_4 := hx653_4
       have hw653_3 := hx653_3
       have hw653_2 := hx653_2
       have hw653_1 := hx653_1
       have hw653_0 := hx653_0
       cases e653
       replace hx653_0 := mHx HB hx653_0
       replace hx653_1 := mHx HB hx653_1
       replace hx653_2 := mHx HB hx653_2
       replace hx653_3 := mHx HB hx653_3
       replace hx653_4 := mHx HB hx653_4
       replace p653 := eq_true p653
       replace q653 := eq_true q653
       have p654 : 0 ≤ (x9_3 : Int) := of_decide_eq_true (by assumption)
       have q654 : x9_3 < (l0.length : Int) := of_decide_eq_true (by assumption)
       obtain ⟨ad654, e654, hx654_0, hx654_1, hx654_2, hx654_3, hx654_4⟩ := at_T55 HR0.out x9_3 p654 q654
       have hw654_4 := hx654_4
       have hw654_3 := hx654_3
       have hw654_2 := hx654_2
       have hw654_1 := hx654_1
       have hw654_0 := hx654_0
       obtain rfl : ad653 = ad654 := (by injection e654)
       replace hx654_0 := mHx HB hx654_0
       replace hx654_1 := mHx HB hx654_1
       replace hx654_2 := mHx HB hx654_2
       replace hx654_3 := mHx HB hx654_3
       replace hx654_4 := mHx HB hx654_4
       replace p654 := eq_true p654
       replace q654 := eq_true q654
       refine start_ (n := 14) (S := fun w' => w'.cell? (ad653.add ((x8_2).toNat * 5)) = some (.int .i64 ((rd_T55 l0 x8_2).f0.f0)) ∧ w'.cell? ⟨(ad653.add ((x8_2).toNat * 5)).block, (ad653.add ((x8_2).toNat * 5)).off + 1, none⟩ = some (.int .i64 ((rd_T55 l0 x8_2).f0.f1)) ∧ w'.cell? ⟨(ad653.add ((x8_2).toNat * 5)).block, (ad653.add ((x8_2).toNat * 5)).off + 2, none⟩ = some (.int .i64 ((rd_T55 l0 x8_2).f1.f0)) ∧ w'.cell? ⟨(ad653.add ((x8_2).toNat * 5)).block, (ad653.add ((x8_2).toNat * 5)).off + 3, none⟩ = some (.int .i64 ((rd_T55 l0 x8_2).f1.f1)) ∧ w'.cell? ⟨(ad653.add ((x8_2).toNat * 5)).block, (ad653.add ((x8_2).toNat * 5)).off + 4, none⟩ = some (.int .i64 ((rd_T55 l0 x8_2).f2)) ∧ w'.cell? (ad653.add ((x9_3).toNat * 5)) = some (.int .i64 ((rd_T55 l0 x9_3).f0.f0)) ∧ w'.cell? ⟨(ad653.add ((x9_3).toNat * 5)).block, (ad653.add ((x9_3).toNat * 5)).off + 1, none⟩ = some (.int .i64 ((rd_T55 l0 x9_3).f0.f1)) ∧ w'.cell? ⟨(ad653.add ((x9_3).toNat * 5)).block, (ad653.add ((x9_3).toNat * 5)).off + 2, none⟩ = some (.int .i64 ((rd_T55 l0 x9_3).f1.f0)) ∧ w'.cell? ⟨(ad653.add ((x9_3).toNat * 5)).block, (ad653.add ((x9_3).toNat * 5)).off + 3, none⟩ = some (.int .i64 ((rd_T55 l0 x9_3).f1.f1)) ∧ w'.cell? ⟨(ad653.add ((x9_3).toNat * 5)).block, (ad653.add ((x9_3).toNat * 5)).off + 4, none⟩ = some (.int .i64 ((rd_T55 l0 x9_3).f2))) (ds := []) #[false, false, false, false, false, false, false, false, false, false, false, false, false, false] (by kernel_rfl) rfl rfl ⟨((HB.out.cell (World.block_lt_of_cell? w _ hw653_0)).trans hw653_0), ((HB.out.cell (World.block_lt_of_cell? w _ hw653_1)).trans hw653_1), ((HB.out.cell (World.block_lt_of_cell? w _ hw653_2)).trans hw653_2), ((HB.out.cell (World.block_lt_of_cell? w _ hw653_3)).trans hw653_3), ((HB.out.cell (World.block_lt_of_cell? w _ hw653_4)).trans hw653_4), ((HB.out.cell (World.block_lt_of_cell? w _ hw654_0)).trans hw654_0), ((HB.out.cell (World.block_lt_of_cell? w _ hw654_1)).trans hw654_1), ((HB.out.cell (World.block_lt_of_cell? w _ hw654_2)).trans hw654_2), ((HB.out.cell (World.block_lt_of_cell? w _ hw654_3)).trans hw654_3), ((HB.out.cell (World.block_lt_of_cell? w _ hw654_4)).trans hw654_4)⟩ (fun hHeld => ?_); refine with_tabW dancestudioref45_Clash.tab15 dancestudioref45_Clash.bits15 (fun HT_ HW_ => ?_)
       generalize wr.drew = w20 at HB hx653_0 hx653_1 hx653_2 hx653_3 hx653_4 hx654_0 hx654_1 hx654_2 hx654_3 hx654_4 hHeld ⊢
       refine pM 0 51 HT_ ?_
       refine pM 1 52 HT_ ?_
       refine pM 2 53 HT_ ?_
       refine pM 4 55 HT_ ?_
       refine pM 5 56 HT_ ?_
       refine pM 6 57 HT_ ?_
       refine tM 3 54 rfl HT_ HW_ (by rintro w' ⟨s0, s1, s2, s3, s4, s5, s6, s7, s8, s9⟩; go_simp; with_reducible rfl) hHeld ?_
       refine tM 7 58 rfl HT_ HW_ (by rintro w' ⟨s0, s1, s2, s3, s4, s5, s6, s7, s8, s9⟩; go_simp; with_reducible rfl) hHeld ?_
       refine one_ (i := 8) (N := some 59) #[true, true, true, true, true, true, true, true, true, false, false, false, false, false] rfl rfl (one_of HT_.out (by kernel_rfl)) (by decide) (fun K hK => ?_)
       refine goes_ Tryd.func40 (by kernel_rfl) rfl #[.agg #[.int .i64 ((rd_T55 l0 x8_2).f0.f0), .int .i64 ((rd_T55 l0 x8_2).f0.f1), .int .i64 ((rd_T55 l0 x8_2).f1.f0), .int .i64 ((rd_T55 l0 x8_2).f1.f1), .int .i64 ((rd_T55 l0 x8_2).f2)], .agg #[.int .i64 ((rd_T55 l0 x9_3).f0.f0), .int .i64 ((rd_T55 l0 x9_3).f0.f1), .int .i64 ((rd_T55 l0 x9_3).f1.f0), .int .i64 ((rd_T55 l0 x9_3).f1.f1), .int .i64 ((rd_T55 l0 x9_3).f2)]] (by rfl) rfl rfl (by (try simp only [List.map_toArray, List.map_cons, List.map_nil]); first | done | rfl | (simp only [List.length_drop, List.length_take]; rfl)) ?_
       with_reducible refine (dancestudioref03_Touch.calls k3 ((rd_T55 l0 x8_2).f0.f0) ((rd_T55 l0 x8_2).f0.f1) ((rd_T55 l0 x8_2).f1.f0) ((rd_T55 l0 x8_2).f1.f1) ((rd_T55 l0 x8_2).f2) ((rd_T55 l0 x9_3).f0.f0) ((rd_T55 l0 x9_3).f0.f1) ((rd_T55 l0 x9_3).f1.f0) ((rd_T55 l0 x9_3).f1.f1) ((rd_T55 l0 x9_3).f2) false t656 _ A16.out).mono ?_
       rintro e w21 ⟨rfl, hb⟩
       refine ⟨_, rfl, ?_⟩
       replace HB := mSt HB hb
       (try clear hb)
       (try clear hb2)
       (try clear hk)
       (try clear hi)
       refine hK.out _ _ ⟨((HB.out.cell (World.block_lt_of_cell? w _ hw653_0)).trans hw653_0), ((HB.out.cell (World.block_lt_of_cell? w _ hw653_1)).trans hw653_1), ((HB.out.cell (World.block_lt_of_cell? w _ hw653_2)).trans hw653_2), ((HB.out.cell (World.block_lt_of_cell? w _ hw653_3)).trans hw653_3), ((HB.out.cell (World.block_lt_of_cell? w _ hw653_4)).trans hw653_4), ((HB.out.cell (World.block_lt_of_cell? w _ hw654_0)).trans hw654_0), ((HB.out.cell (World.block_lt_of_cell? w _ hw654_1)).trans hw654_1), ((HB.out.cell (World.block_lt_of_cell? w _ hw654_2)).trans hw654_2), ((HB.out.cell (World.block_lt_of_cell? w _ hw654_3)).trans hw654_3), ((HB.out.cell (World.block_lt_of_cell? w _ hw654_4)).trans hw654_4)⟩ (fun hHeld => ?_)
       clear hK K
       refine norm_ (by show Act.put _ (some 59) _ = _; simp only [mP]; rfl) ?_
       refine pM 9 50 HT_ ?_
       refine pM 10 60 HT_ ?_
       refine pM 11 61 HT_ ?_
       refine pM 12 10 HT_ ?_
       refine pM 13 11 HT_ ?_
       refine done_ (done_of HT_.out (by kernel_rfl)) ?_
       try go_wp2
       go_roundg k3
       case measure => have := HK1.out; have := HK2.out; have := HK3.out; omega
       case rel => exact ⟨(wrap64 (x9_3 + 1)), rfl, H', ⟨by have := HK1.out; have := HK2.out; have := HK3.out; omega⟩, ⟨HB.out⟩⟩
end Go.Proofs.YtaggccbndmmbhaaDoor.PAll
