-- Written by wip/tools/handprint.py: walks of the functions that the law reaches; Lean checks them.
import Derived.Test.YtaggccbndmmbhaaDoorBase
import Derived.Test.YtaggccbndmmbhaaDoorPAllf13
import Derived.Test.YtaggccbndmmbhaaDoorPAllf15
import Derived.Test.YtaggccbndmmbhaaDoorPAllf23
import Derived.Test.YtaggccbndmmbhaaDoorPAllf25
namespace Go.Proofs.YtaggccbndmmbhaaDoor.PAll
open Go.RowKit Go.Proofs.YtaggccbndmmbhaaDoorW.PrintWords Go.Proofs.YtaggccbndmmbhaaDoorW.PrintLast Go.Proofs.YtaggccbndmmbhaaDoorW.PrintMore
attribute [local go_sem] max2_int min2_int max_two min_two max_three min_three max_four min_four   -- for this text's walks alone
set_option linter.unusedVariables false
set_option linter.unusedSimpArgs false

/-! ### dancestudiolaw45_FormationTwins: function 9 -/
mutual
def dancestudiolaw45_FormationTwins.j0 : Nat → List (S52) → Bool → ByteArray → List (S52) → Option (Bool)
 | 0, _, _, _, _ => none
 | k + 1, x1, x32, x767000, x767001 => if x32 = true then ((dancestudiolaw45_awake.f k).bind fun t767 => (some t767)) else ((formation_Fit.f k x767000 x767001 x1).bind fun bt768 => (if bt768.2.2 = 0 then ((formation_Mirror.f k x767000 x767001).bind fun bt774 => ((formation_Rotate.f k x767000 x767001 1).bind fun bt780 => (if bt774.2.2 = 0 then (dancestudiolaw45_FormationTwins.j1 k x1 bt768.1 bt768.2.1 (bt780.2.2 != 0) bt774.1 bt774.2.1 bt780.1 bt780.2.1) else (dancestudiolaw45_FormationTwins.j1 k x1 bt768.1 bt768.2.1 true bt774.1 bt774.2.1 bt780.1 bt780.2.1)))) else (if (bt768.1.length : Int) = 0 then (if bt768.2.1 = 0 then ((dancestudiolaw45_awake.f k).bind fun t773 => (some t773)) else (none)) else (none))))
def dancestudiolaw45_FormationTwins.j1 : Nat → List (S52) → List Int → Int → Bool → ByteArray → List (S52) → ByteArray → List (S52) → Option (Bool)
 | 0, _, _, _, _, _, _, _, _ => none
 | k + 1, x1, x5, x6, x68, x780000, x780001, x786000, x786001 => if x68 = true then (none) else (dancestudiolaw45_FormationTwins.l0 k x1 x5 x6 ([] : List (S52)) ([] : List (S52)) 0 x780000 x780001 x786000 x786001)
def dancestudiolaw45_FormationTwins.l0 : Nat → List (S52) → List Int → Int → List (S52) → List (S52) → Int → ByteArray → List (S52) → ByteArray → List (S52) → Option (Bool)
 | 0, _, _, _, _, _, _, _, _, _, _ => none
 | k + 1, x1, x5, x6, x11, x12, x13, x780000, x780001, x786000, x786001 => if x13 < (x1.length : Int) then (if 0 ≤ x13 then (if x11.length < 8796093022208 then (if x12.length < 8796093022208 then (dancestudiolaw45_FormationTwins.l0 k x1 x5 x6 (x11 ++ [(⟨wrap64 (-((rd_T52 x1 x13).f0)), (rd_T52 x1 x13).f1⟩ : S52)]) (x12 ++ [(⟨(rd_T52 x1 x13).f1, wrap64 (-((rd_T52 x1 x13).f0))⟩ : S52)]) (wrap64 (x13 + 1)) x780000 x780001 x786000 x786001) else (none)) else (none)) else (none)) else ((formation_Fit.f k x780000 x780001 x11).bind fun bt796 => ((formation_Fit.f k x786000 x786001 x12).bind fun bt801 => (if bt796.2.2 = 0 then (if bt801.2.2 = 0 then ((dancestudioref45_Ints.f k bt796.1 x5).bind fun t806 => (if t806 = true then ((dancestudioref45_Ints.f k bt801.1 x5).bind fun t807 => (if t807 = true then (if bt796.2.1 = x6 then (if bt801.2.1 = x6 then ((dancestudiolaw45_awake.f k).bind fun t808 => (some t808)) else (none)) else (none)) else (none))) else (none))) else (none)) else (none))))
end
def dancestudiolaw45_FormationTwins.f (k : Nat) (a0_0 : ByteArray) (l0_1 : List (S52)) (l1 : List (S52)) : Option (Bool) := if (l0_1.length : Int) > 16 then (dancestudiolaw45_FormationTwins.j0 k l1 true a0_0 l0_1) else (if (l1.length : Int) > 16 then (dancestudiolaw45_FormationTwins.j0 k l1 true a0_0 l0_1) else (dancestudiolaw45_FormationTwins.j0 k l1 (decide ((a0_0.size : Int) > 60)) a0_0 l0_1))
def dancestudiolaw45_FormationTwins.T14 : Bool × List (List Nat × List Nat) := (true, [([], []), ([], []), ([], []), ([1, 2], [1, 2]), ([3], [3]), ([4], [4]), ([5], [5]), ([], []), ([], []), ([7, 8], [7, 8]), ([9], [9]), ([10], [10]), ([6, 11], [6, 11]), ([12], [12]), ([0, 13], [0, 13]), ([14, 14, 0, 1, 2, 3, 4, 5, 6, 7, 8, 9, 10, 11, 12, 13, 14], [0, 14])])
def dancestudiolaw45_FormationTwins.B14 : List Nat := [0, 0, 0, 6, 14, 30, 62, 0, 0, 384, 896, 1920, 4094, 8190, 16383, 32767]
theorem dancestudiolaw45_FormationTwins.tab14 : rtab .any (opsOf Tryd.f9 14) = dancestudiolaw45_FormationTwins.T14 := by kernel_rfl
theorem dancestudiolaw45_FormationTwins.bits14 : waitsOk dancestudiolaw45_FormationTwins.T14.2 dancestudiolaw45_FormationTwins.B14 = true := by kernel_rfl
def dancestudiolaw45_FormationTwins.T15 : Bool × List (List Nat × List Nat) := (true, [([], []), ([], []), ([], []), ([1, 2], [1, 2]), ([3], [3]), ([4], [4]), ([], []), ([], []), ([6, 7], [6, 7]), ([8], [8]), ([9], [9]), ([10], [10]), ([5, 11], [5, 11]), ([12], [12]), ([0, 13], [0, 13]), ([14, 14, 0, 1, 2, 3, 4, 5, 6, 7, 8, 9, 10, 11, 12, 13, 14], [0, 14])])
def dancestudiolaw45_FormationTwins.B15 : List Nat := [0, 0, 0, 6, 14, 30, 0, 0, 192, 448, 960, 1984, 4094, 8190, 16383, 32767]
theorem dancestudiolaw45_FormationTwins.tab15 : rtab .any (opsOf Tryd.f9 15) = dancestudiolaw45_FormationTwins.T15 := by kernel_rfl
theorem dancestudiolaw45_FormationTwins.bits15 : waitsOk dancestudiolaw45_FormationTwins.T15.2 dancestudiolaw45_FormationTwins.B15 = true := by kernel_rfl
set_option maxHeartbeats 8000000 in
set_option maxRecDepth 100000 in
theorem dancestudiolaw45_FormationTwins.calls (k : Nat) (a0_0 : ByteArray) (A0_1 : Option Addr) (c0_1 : Nat) (l0_1 : List (S52)) (A1 : Option Addr) (c1 : Nat) (l1 : List (S52)) (r : Bool) (w : World) (hr0_1 : Kd.C k52 w A0_1 l0_1.length l0_1) (hc0_1 : l0_1.length ≤ c0_1) (hr1 : Kd.C k52 w A1 l1.length l1) (hc1 : l1.length ≤ c1) (hmx : Mx w) (h : dancestudiolaw45_FormationTwins.f k a0_0 l0_1 l1 = some r) :
  Calls Tryd.prog 9 #[.agg #[.string a0_0, .slice A0_1 l0_1.length c0_1], .slice A1 l1.length c1] w fun e w' => e = .returned (.bool r) ∧ Below w.heap.size w w' := by
 have HMX_ := Aside0.mk hmx
 clear hmx
 have hu24 := Tryd.underlying24
 have hu52 := Tryd.underlying52
 have HR0_1 := Aside0.mk hr0_1
 have HC0_1 := Aside0.mk hc0_1
 clear hr0_1 hc0_1
 have HR1 := Aside0.mk hr1
 have HC1 := Aside0.mk hc1
 clear hr1 hc1
 have HB := Aside0.mk (Below.refl w.heap.size w)
 have H := h
 unfold dancestudiolaw45_FormationTwins.f at H
 clear h
 have HC3 := Aside0.mk H
 clear H
 go_enter Tryd.func9, Tryd.ntmps9
 go_upto_region 1 with (first | ((with_reducible refine gate_dst (N := 2) rfl ?_); (try (refine gate_guard (by rfl) ?_; dsimp only)); refine box_event rfl (N := 2) rfl (cs := #[.string a0_0, .slice A0_1 l0_1.length c0_1]) (t := 24) (by first | (go_simp; done) | (go_simp; rfl)) ?_; intro gb1 hg w4 hbox hb; have BK1 := Aside0.mk hbox; have GW1 := mGw HB hg; have GE1 := GW1; replace HB := mSt HB hb; clear hb hbox hg))
 (try simp only [Act.put, List.setIfInBounds_toArray, List.set_cons_zero, List.set_cons_succ])
 go_cut [32] (fun v32 wc => ∃ (kq : Nat) (x32_2 : Bool), v32 = .bool x32_2 ∧ Aside0 (dancestudiolaw45_FormationTwins.j0 kq l1 x32_2 a0_0 l0_1 = some r) ∧ Aside0 (kq ≤ k) ∧ Aside0 (wc.heap[gb1]? = some (.cells #[.string a0_0, (.slice A0_1 l0_1.length c0_1)] 24 (0, 0))) ∧ Aside0 (Below w.heap.size w wc))
 case first =>
  have H := HC3.out
  clear HC3
  by_cases c5 : (l0_1.length : Int) > 16
  ·
   rw [if_pos c5] at H
   have c5b0 := decide_eq_true c5
   have c5b1 : decide (16 < l0_1.length) = true := decide_eq_true (by omega)
   clear c5
   (first | rw [c5b0] | (simp only [i64_w, i32_w]; rw [c5b0]) | skip)
   have H' := Aside0.mk H
   clear H
   have hcz6 := blk_cell BK1.out; have hfz6 := blk_frozen BK1.out
   go_wp2
   go_meet
   case rel => exact ⟨_, (true), rfl, H', ⟨by first | omega | exact Nat.le_refl _⟩, ⟨BK1.out⟩, ⟨HB.out⟩⟩
  rw [if_neg c5] at H
  have c5b0 := decide_eq_false c5
  have c5b1 : decide (16 < l0_1.length) = false := decide_eq_false (by omega)
  clear c5
  (first | rw [c5b0] | (simp only [i64_w, i32_w]; rw [c5b0]) | skip)
  by_cases c7 : (l1.length : Int) > 16
  rotate_left
  ·
   rw [if_neg c7] at H
   have c7b0 := decide_eq_false c7
   have c7b1 : decide (16 < l1.length) = false := decide_eq_false (by omega)
   clear c7
   have H' := Aside0.mk H
   clear H
   have hcz9 := blk_cell BK1.out; have hfz9 := blk_frozen BK1.out
   go_wp2
   go_meet
   case rel => exact ⟨_, (decide ((a0_0.size : Int) > 60)), rfl, H', ⟨by first | omega | exact Nat.le_refl _⟩, ⟨BK1.out⟩, ⟨HB.out⟩⟩
  rw [if_pos c7] at H
  have c7b0 := decide_eq_true c7
  have c7b1 : decide (16 < l1.length) = true := decide_eq_true (by omega)
  clear c7
  have H' := Aside0.mk H
  clear H
  have hcz8 := blk_cell BK1.out; have hfz8 := blk_frozen BK1.out
  go_wp2
  go_meet
  case rel => exact ⟨_, (true), rfl, H', ⟨by first | omega | exact Nat.le_refl _⟩, ⟨BK1.out⟩, ⟨HB.out⟩⟩
 case rest =>
  clear HC3; try clear c1; try clear p2; try clear c5; try clear c5b0; try clear c5b1; try clear c7; try clear c7b0; try clear c7b1; try clear c9; try clear hcz6_0; try clear hcz6_1; try clear hcz8_0; try clear hcz8_1; try clear hcz9_0; try clear hcz9_1; try clear hfz6_0; try clear hfz6_1; try clear hfz8_0; try clear hfz8_1; try clear hfz9_0; try clear hfz9_1
  obtain ⟨kq, x32_2, rfl, HA, HJ2, BK1, HB⟩ := hcut
  cases kq with
  | zero => exact absurd HA.out (by simp [dancestudiolaw45_FormationTwins.j0])
  | succ kj2 =>
   have H := HA.out
   clear HA
   simp only [dancestudiolaw45_FormationTwins.j0] at H
   by_cases c10 : x32_2 = true
   ·
    subst c10
    rw [if_pos rfl] at H
    replace H := Option.bind_eq_some_iff.mp H
    obtain ⟨t767, A110, H⟩ := H
    try dsimp only at H
    have A11 := Aside0.mk A110
    clear A110
    obtain rfl := Option.some.inj H
    go_wp2_with (first | ((with_reducible refine gate_callee (f := 13) rfl ?_); refine goesL_ (some 33) rfl rfl Tryd.func13 (by kernel_rfl) rfl #[] rfl (mA0) ?_; (with_reducible refine (dancestudiolaw45_awake.calls kj2  t767 _ (Mx.below HMX_.out HB.out) A11.out).mono ?_); rintro e w12 ⟨rfl, hb⟩; refine ⟨_, rfl, ?_⟩; replace BK1 := mBb BK1 hb; replace HB := mSt HB hb; (try clear hb)))
    go_ret
    exact ⟨rfl, HB.out⟩
   replace c10 := Bool.eq_false_iff.mpr c10
   subst c10
   rw [if_neg (show ¬ (false = true) by decide)] at H
   replace H := Option.bind_eq_some_iff.mp H
   obtain ⟨⟨t768, t771, t772⟩, A130, H⟩ := H
   try dsimp only at H
   have A13 := Aside0.mk A130
   clear A130
   by_cases c14 : t772 = 0
   rotate_left
   ·
    rw [if_neg c14] at H
    have c14b0 := beq_eq_false_iff_ne.mpr c14
    have c14b1 := bne_iff_ne.mpr c14
    obtain ⟨c67, H⟩ : ((t768.length : Int) = 0) ∧ _ := mIf H
    have c67b0 := beq_iff_eq.mpr c67
    have c67b1 := bne_eq_false_iff_eq.mpr c67
    clear c67
    obtain ⟨c68, H⟩ : (t771 = 0) ∧ _ := mIf H
    have c68b0 := beq_iff_eq.mpr c68
    have c68b1 := bne_eq_false_iff_eq.mpr c68
    clear c68
    replace H := Option.bind_eq_some_iff.mp H
    obtain ⟨t773, A690, H⟩ := H
    try dsimp only at H
    have A69 := Aside0.mk A690
    clear A690
    obtain rfl := Option.some.inj H
    have hcz70 := blk_cell BK1.out; have hfz70 := blk_frozen BK1.out
    go_wp2_with (first | ((with_reducible refine gate_callee (f := 15) rfl ?_); refine goesL_ (some 37) rfl rfl Tryd.func15 (by kernel_rfl) rfl #[.agg #[.string a0_0, .slice A0_1 l0_1.length c0_1], .slice A1 l1.length c1] rfl (mA2 rfl rfl) ?_; (with_reducible refine (formation_Fit.calls kj2 a0_0 _ _ l0_1 _ _ l1 t768 t771 t772 _ (Kd.C_below HR0_1.out HB.out) HC0_1.out (Kd.C_below HR1.out HB.out) HC1.out (Mx.below HMX_.out HB.out) A13.out).mono ?_); rintro e w71 ⟨v769, rfl, ho0, hb⟩; refine ⟨_, rfl, ?_⟩; have HO770 := Aside0.mk (Kd.R_lower ho0 (below_size HB.out)); replace BK1 := mBb BK1 hb; replace HB := mSt HB hb; (try clear hb); (try clear ho0); obtain ⟨Ao72, co72, eo72⟩ := Kd.R_slice HO770.out; subst eo72) | (go_at_call 13; (with_reducible refine (dancestudiolaw45_awake.calls kj2  t773 _ (Mx.below HMX_.out HB.out) A69.out).mono ?_); rintro e w73 ⟨rfl, hb⟩; replace HO770 := Aside0.mk (Kd.R_below HO770.out hb); replace BK1 := mBb BK1 hb; replace HB := mSt HB hb; (try clear hb)))
    go_ret
    exact ⟨rfl, HB.out⟩
   rw [if_pos c14] at H
   have c14b0 := beq_iff_eq.mpr c14
   have c14b1 := bne_eq_false_iff_eq.mpr c14
   clear c14
   replace H := Option.bind_eq_some_iff.mp H
   obtain ⟨⟨t774, t775, t778⟩, A150, H⟩ := H
   try dsimp only at H
   have A15 := Aside0.mk A150
   clear A150
   replace H := Option.bind_eq_some_iff.mp H
   obtain ⟨⟨t780, t781, t784⟩, A160, H⟩ := H
   try dsimp only at H
   have A16 := Aside0.mk A160
   clear A160
   have HC17 := Aside0.mk H
   clear H
   have hcz18 := blk_cell BK1.out; have hfz18 := blk_frozen BK1.out
   go_upto_region 8 with (first | ((with_reducible refine gate_callee (f := 15) rfl ?_); refine goesL_ (some 37) rfl rfl Tryd.func15 (by kernel_rfl) rfl #[.agg #[.string a0_0, .slice A0_1 l0_1.length c0_1], .slice A1 l1.length c1] rfl (mA2 rfl rfl) ?_; (with_reducible refine (formation_Fit.calls kj2 a0_0 _ _ l0_1 _ _ l1 t768 t771 t772 _ ?side1 ?side2 ?side3 ?side4 ?sidem_ A13.out).mono ?_); (case sidem_ => first | ((repeat (first | exact HMX_.out | apply Mx.drewN | apply Mx.drew)); done) | (refine Mx.below HMX_.out ?_; (repeat (first | (with_reducible first | exact HB.out | apply below_alloc | apply pw_below_drewN | apply below_drew1 | refine below_set ?_ (Aside0.out (by assumption))) | exact HB.out)); done)); (case side1 => exact cO (Kd.C_below HR0_1.out HB.out)); (case side2 => exact HC0_1.out); (case side3 => exact cO (Kd.C_below HR1.out HB.out)); (case side4 => exact HC1.out); rintro e w19 ⟨v769, rfl, ho0, hb⟩; refine ⟨_, rfl, ?_⟩; have HO770 := Aside0.mk (Kd.R_lower ho0 (below_size (hO HB))); replace BK1 := mBb BK1 hb; replace HB := mSx HB hb; (try clear hb); (try clear ho0); have hcz20 := blk_cell BK1.out; have hfz20 := blk_frozen BK1.out) | ((with_reducible refine gate_callee (f := 23) rfl ?_); refine goesL_ (some 55) rfl rfl Tryd.func23 (by kernel_rfl) rfl #[.agg #[.string a0_0, .slice A0_1 l0_1.length c0_1]] rfl (mA1 rfl) ?_; (with_reducible refine (formation_Mirror.calls kj2 a0_0 _ _ l0_1 t774 t775 t778 _ ?side1 ?side2 ?sidem_ A15.out).mono ?_); (case sidem_ => first | ((repeat (first | exact HMX_.out | apply Mx.drewN | apply Mx.drew)); done) | (refine Mx.below HMX_.out ?_; (repeat (first | (with_reducible first | exact HB.out | apply below_alloc | apply pw_below_drewN | apply below_drew1 | refine below_set ?_ (Aside0.out (by assumption))) | exact HB.out)); done)); (case side1 => exact cO (Kd.C_below HR0_1.out HB.out)); (case side2 => exact HC0_1.out); rintro e w21 ⟨v776, rfl, ho0, hb⟩; refine ⟨_, rfl, ?_⟩; replace HO770 := Aside0.mk (Kd.R_below (rO HO770) hb); have HO777 := Aside0.mk (Kd.R_lower ho0 (below_size (hO HB))); replace BK1 := mBb BK1 hb; replace HB := mSx HB hb; (try clear hb); (try clear ho0)) | ((with_reducible refine gate_dst (N := 8) rfl ?_); (try (refine gate_guard (by rfl) ?_; dsimp only)); refine box_event rfl (N := 8) rfl (cs := #[.string (⟨#[]⟩ : ByteArray), .slice none 0 0]) (t := 24) (by first | (go_simp; done) | (go_simp; rfl)) ?_; intro gb2 hg w22 hbox hb; replace HO770 := Aside0.mk (Kd.R_below (rO HO770) hb); replace HO777 := Aside0.mk (Kd.R_below (rO HO777) hb); have BK2 := Aside0.mk hbox; have GW2 := Aside0.mk ((by rw [hg]; exact (below_size (hO HB)) : w.heap.size ≤ gb2)); have GE2 := GW2; replace HB := mSx HB hb; have NB1_2 := mNe BK1 hg; have NB2_1 := mSy NB1_2; replace BK1 := mBb BK1 hb; clear hb hbox hg; have hnb23 := NB2_1.out; have hnc23 := NB1_2.out; have hcz24 := blk_cell BK2.out; have hfz24 := blk_frozen BK2.out; obtain ⟨Ao25, co25, eo25⟩ := Kd.R_slice HO777.out; subst eo25; have hcz26 := blk_cell BK1.out; have hfz26 := blk_frozen BK1.out) | ((with_reducible refine gate_callee (f := 25) rfl ?_); refine goesL_ (some 60) rfl rfl Tryd.func25 (by kernel_rfl) rfl #[.agg #[.string a0_0, .slice A0_1 l0_1.length c0_1], .int .i64 1] rfl (mA2 rfl rfl) ?_; (with_reducible refine (formation_Rotate.calls kj2 a0_0 _ _ l0_1 1 t780 t781 t784 _ ?side1 ?side2 ?sidem_ A16.out).mono ?_); (case sidem_ => first | ((repeat (first | exact HMX_.out | apply Mx.drewN | apply Mx.drew)); done) | (refine Mx.below HMX_.out ?_; (repeat (first | (with_reducible first | exact HB.out | apply below_alloc | apply pw_below_drewN | apply below_drew1 | refine below_set ?_ (Aside0.out (by assumption))) | exact HB.out)); done)); (case side1 => exact Kd.C_below HR0_1.out (hO HB)); (case side2 => exact HC0_1.out); rintro e w27 ⟨v782, rfl, ho0, hb⟩; refine ⟨_, rfl, ?_⟩; replace HO770 := Aside0.mk (Kd.R_below (by exact (Kd.R_mono (Kd.R_far (p := ⟨gb2, 1, none⟩) (Kd.R_far (p := ⟨gb2, 0, none⟩) (Kd.R_types HO770.out BK2.out (by decide)) (fun _ hk => hk.2) (.string t774)) (fun _ hk => hk.2) (.slice Ao25 t775.length co25)) (fun _ h_ => h_.1))) hb); have HO783 := Aside0.mk (Kd.R_lower (Kd.R_new' ho0 (Kd.R_lt (by exact (Kd.R_mono (Kd.R_far (p := ⟨gb2, 1, none⟩) (Kd.R_far (p := ⟨gb2, 0, none⟩) (Kd.R_types HO777.out BK2.out (by decide)) (fun _ hk => hk.2) (.string t774)) (fun _ hk => hk.2) (.slice Ao25 t775.length co25)) (fun _ h_ => h_.1))))) (below_size (hO HB))); replace HO777 := Aside0.mk (Kd.R_elder' (by exact (Kd.R_mono (Kd.R_far (p := ⟨gb2, 1, none⟩) (Kd.R_far (p := ⟨gb2, 0, none⟩) (Kd.R_types HO777.out BK2.out (by decide)) (fun _ hk => hk.2) (.string t774)) (fun _ hk => hk.2) (.slice Ao25 t775.length co25)) (fun _ h_ => h_.1))) (Kd.R_base ho0) hb); replace BK1 := Aside0.mk (blk_below (g := gb1) (o := .cells #[.string a0_0, .slice A0_1 l0_1.length c0_1] 24 (0, 0)) (by refine blk_far ?_ NB1_2.out _; refine blk_far ?_ NB1_2.out _; exact BK1.out) hb); replace BK2 := Aside0.mk (blk_below (g := gb2) (o := .cells #[.string t774, .slice Ao25 t775.length co25] 24 (0, 0)) (by refine blk_put (cs := #[.string t774, .slice none 0 0]) ?_ 1 _ rfl; refine blk_put (cs := #[.string (⟨#[]⟩ : ByteArray), .slice none 0 0]) ?_ 0 _ rfl; exact BK2.out) hb); replace HB := mSx HB hb; (try clear hb); (try clear ho0)) | ((with_reducible refine gate_dst (N := 9) rfl ?_); (try (refine gate_guard (by rfl) ?_; dsimp only)); refine box_event rfl (N := 9) rfl (cs := #[.string (⟨#[]⟩ : ByteArray), .slice none 0 0]) (t := 24) (by first | (go_simp; done) | (go_simp; rfl)) ?_; intro gb3 hg w28 hbox hb; replace HO770 := Aside0.mk (Kd.R_below (rO HO770) hb); replace HO777 := Aside0.mk (Kd.R_below (rO HO777) hb); replace HO783 := Aside0.mk (Kd.R_below (rO HO783) hb); have BK3 := Aside0.mk hbox; have GW3 := Aside0.mk ((by rw [hg]; exact (below_size (hO HB)) : w.heap.size ≤ gb3)); have GE3 := GW3; replace HB := mSx HB hb; have NB1_3 := mNe BK1 hg; have NB3_1 := mSy NB1_3; replace BK1 := mBb BK1 hb; have NB2_3 := mNe BK2 hg; have NB3_2 := mSy NB2_3; replace BK2 := mBb BK2 hb; clear hb hbox hg; have hnb29 := NB3_1.out; have hnc29 := NB1_3.out; have hnb30 := NB3_2.out; have hnc30 := NB2_3.out; have hcz31 := blk_cell BK3.out; have hfz31 := blk_frozen BK3.out; obtain ⟨Ao32, co32, eo32⟩ := Kd.R_slice HO783.out; subst eo32))
   (try simp only [Act.put, List.setIfInBounds_toArray, List.set_cons_zero, List.set_cons_succ])
   go_cut [68] (fun v68 wc => ∃ (kq : Nat) (x68_16 : Bool), v68 = .bool x68_16 ∧ Aside0 (dancestudiolaw45_FormationTwins.j1 kq l1 t768 t771 x68_16 t774 t775 t780 t781 = some r) ∧ Aside0 (kq ≤ kj2) ∧ Aside0 (Kd.R (Kd.int .i64) 3 wc w.heap.size (fun _ => True) v769 t768) ∧ Aside0 (Kd.R k52 52 wc w.heap.size (fun k_ => some k_ ≠ ((.slice Ao32 t781.length co32) : Value).ownBlock) (.slice Ao25 t775.length co25) t775) ∧ Aside0 (Kd.R k52 52 wc w.heap.size (fun k_ => some k_ ≠ ((.slice Ao25 t775.length co25) : Value).ownBlock) (.slice Ao32 t781.length co32) t781) ∧ Aside0 (wc.heap[gb1]? = some (.cells #[.string a0_0, (.slice A0_1 l0_1.length c0_1)] 24 (0, 0))) ∧ Aside0 (wc.heap[gb2]? = some (.cells #[.string t774, (.slice Ao25 t775.length co25)] 24 (0, 0))) ∧ Aside0 (wc.heap[gb3]? = some (.cells #[.string t780, (.slice Ao32 t781.length co32)] 24 (0, 0))) ∧ Aside0 (Below w.heap.size w wc))
   case first =>
    have H := HC17.out
    clear HC17
    by_cases c33 : t778 = 0
    rotate_left
    ·
     rw [if_neg c33] at H
     have c33b0 := beq_eq_false_iff_ne.mpr c33
     have c33b1 := bne_iff_ne.mpr c33
     (first | rw [c33b0] | (simp only [i64_w, i32_w]; rw [c33b0]) | skip)
     have H' := Aside0.mk H
     clear H
     go_wp2
     go_meet
     case rel => exact ⟨_, (true), rfl, H', ⟨by have := HJ2.out; first | omega | exact Nat.le_refl _⟩, ⟨Kd.R_mono (Kd.R_far (p := ⟨gb3, 1, none⟩) (Kd.R_far (p := ⟨gb3, 0, none⟩) (Kd.R_types HO770.out BK3.out (by decide)) (fun _ hk => hk.2) (.string t780)) (fun _ hk => hk.2) (.slice Ao32 t781.length co32)) (fun _ hk => trivial)⟩, ⟨Kd.R_mono (Kd.R_far (p := ⟨gb3, 1, none⟩) (Kd.R_far (p := ⟨gb3, 0, none⟩) (Kd.R_types HO777.out BK3.out (by decide)) (fun _ hk => hk.2) (.string t780)) (fun _ hk => hk.2) (.slice Ao32 t781.length co32)) (fun _ hk => hk.1.2)⟩, ⟨Kd.R_mono (Kd.R_far (p := ⟨gb3, 1, none⟩) (Kd.R_far (p := ⟨gb3, 0, none⟩) (Kd.R_types HO783.out BK3.out (by decide)) (fun _ hk => hk.2) (.string t780)) (fun _ hk => hk.2) (.slice Ao32 t781.length co32)) (fun _ hk => hk.1.2)⟩, ⟨by refine blk_far ?_ NB1_3.out _; refine blk_far ?_ NB1_3.out _; exact BK1.out⟩, ⟨by refine blk_far ?_ NB2_3.out _; refine blk_far ?_ NB2_3.out _; exact BK2.out⟩, ⟨by refine blk_put (cs := #[.string t780, .slice none 0 0]) ?_ 1 _ rfl; refine blk_put (cs := #[.string (⟨#[]⟩ : ByteArray), .slice none 0 0]) ?_ 0 _ rfl; exact BK3.out⟩, ⟨hO HB⟩⟩
    rw [if_pos c33] at H
    have c33b0 := beq_iff_eq.mpr c33
    have c33b1 := bne_eq_false_iff_eq.mpr c33
    clear c33
    (first | rw [c33b0] | (simp only [i64_w, i32_w]; rw [c33b0]) | skip)
    have H' := Aside0.mk H
    clear H
    go_wp2
    go_meet
    case rel => exact ⟨_, ((t784 != 0)), rfl, H', ⟨by have := HJ2.out; first | omega | exact Nat.le_refl _⟩, ⟨Kd.R_mono (Kd.R_far (p := ⟨gb3, 1, none⟩) (Kd.R_far (p := ⟨gb3, 0, none⟩) (Kd.R_types HO770.out BK3.out (by decide)) (fun _ hk => hk.2) (.string t780)) (fun _ hk => hk.2) (.slice Ao32 t781.length co32)) (fun _ hk => trivial)⟩, ⟨Kd.R_mono (Kd.R_far (p := ⟨gb3, 1, none⟩) (Kd.R_far (p := ⟨gb3, 0, none⟩) (Kd.R_types HO777.out BK3.out (by decide)) (fun _ hk => hk.2) (.string t780)) (fun _ hk => hk.2) (.slice Ao32 t781.length co32)) (fun _ hk => hk.1.2)⟩, ⟨Kd.R_mono (Kd.R_far (p := ⟨gb3, 1, none⟩) (Kd.R_far (p := ⟨gb3, 0, none⟩) (Kd.R_types HO783.out BK3.out (by decide)) (fun _ hk => hk.2) (.string t780)) (fun _ hk => hk.2) (.slice Ao32 t781.length co32)) (fun _ hk => hk.1.2)⟩, ⟨by refine blk_far ?_ NB1_3.out _; refine blk_far ?_ NB1_3.out _; exact BK1.out⟩, ⟨by refine blk_far ?_ NB2_3.out _; refine blk_far ?_ NB2_3.out _; exact BK2.out⟩, ⟨by refine blk_put (cs := #[.string t780, .slice none 0 0]) ?_ 1 _ rfl; refine blk_put (cs := #[.string (⟨#[]⟩ : ByteArray), .slice none 0 0]) ?_ 0 _ rfl; exact BK3.out⟩, ⟨hO HB⟩⟩
   case rest =>
    clear HC17; try clear c1; try clear c2; try clear p2; try clear c3; try clear c5; try clear c5b0; try clear c5b1; try clear c7; try clear c7b0; try clear c7b1; try clear c9; try clear c10; try clear c13; try clear c14; try clear c14b0; try clear c14b1; try clear c15; try clear c23; try clear c25; try clear c29; try clear c30; try clear c33; try clear c33b0; try clear c33b1; try clear hcz18_0; try clear hcz18_1; try clear hcz20_0; try clear hcz20_1; try clear hcz24_0; try clear hcz24_1; try clear hcz26_0; try clear hcz26_1; try clear hcz31_0; try clear hcz31_1; try clear hcz6_0; try clear hcz6_1; try clear hcz8_0; try clear hcz8_1; try clear hcz9_0; try clear hcz9_1; try clear hfz18_0; try clear hfz18_1; try clear hfz20_0; try clear hfz20_1; try clear hfz24_0; try clear hfz24_1; try clear hfz26_0; try clear hfz26_1; try clear hfz31_0; try clear hfz31_1; try clear hfz6_0; try clear hfz6_1; try clear hfz8_0; try clear hfz8_1; try clear hfz9_0; try clear hfz9_1
    obtain ⟨kq, x68_16, rfl, HA, HJ16, HO_5, HO_780001, HO_786001, BK1, BK2, BK3, HB⟩ := hcut
    cases kq with
    | zero => exact absurd HA.out (by simp [dancestudiolaw45_FormationTwins.j1])
    | succ kj16 =>
     have H := HA.out
     clear HA
     simp only [dancestudiolaw45_FormationTwins.j1] at H
     by_cases c34 : x68_16 = true
     ·
      subst c34
      rw [if_pos rfl] at H
      exact absurd H (by simp)
     replace c34 := Bool.eq_false_iff.mpr c34
     subst c34
     rw [if_neg (show ¬ (false = true) by decide)] at H
     have H' := Aside0.mk H
     clear H
     go_wp2
     go_loopg [11, 12, 13] kj16 (fun kq v11 v12 v13 w' => ∃ (x11_3 : List (S52)) (x12_3 : List (S52)) (x13_3 : Int), v13 = .int .i64 x13_3 ∧ Aside0 (dancestudiolaw45_FormationTwins.l0 kq l1 t768 t771 x11_3 x12_3 x13_3 t774 t775 t780 t781 = some r) ∧ Aside0 (kq ≤ kj16) ∧ Aside0 (Kd.R (Kd.int .i64) 3 w' w.heap.size (fun _ => True) v769 t768) ∧ Aside0 (Kd.R k52 52 w' w.heap.size (fun k_ => some k_ ≠ (v12 : Value).ownBlock ∧ some k_ ≠ ((.slice Ao25 t775.length co25) : Value).ownBlock ∧ some k_ ≠ ((.slice Ao32 t781.length co32) : Value).ownBlock) v11 x11_3) ∧ Aside0 (Kd.R k52 52 w' w.heap.size (fun k_ => some k_ ≠ (v11 : Value).ownBlock ∧ some k_ ≠ ((.slice Ao25 t775.length co25) : Value).ownBlock ∧ some k_ ≠ ((.slice Ao32 t781.length co32) : Value).ownBlock) v12 x12_3) ∧ Aside0 (Kd.R k52 52 w' w.heap.size (fun k_ => some k_ ≠ (v11 : Value).ownBlock ∧ some k_ ≠ (v12 : Value).ownBlock ∧ some k_ ≠ ((.slice Ao32 t781.length co32) : Value).ownBlock) (.slice Ao25 t775.length co25) t775) ∧ Aside0 (Kd.R k52 52 w' w.heap.size (fun k_ => some k_ ≠ (v11 : Value).ownBlock ∧ some k_ ≠ (v12 : Value).ownBlock ∧ some k_ ≠ ((.slice Ao25 t775.length co25) : Value).ownBlock) (.slice Ao32 t781.length co32) t781) ∧ Aside0 (w'.heap[gb1]? = some (.cells #[.string a0_0, (.slice A0_1 l0_1.length c0_1)] 24 (0, 0))) ∧ Aside0 (w'.heap[gb2]? = some (.cells #[.string t774, (.slice Ao25 t775.length co25)] 24 (0, 0))) ∧ Aside0 (w'.heap[gb3]? = some (.cells #[.string t780, (.slice Ao32 t781.length co32)] 24 (0, 0))) ∧ Aside0 (Below w.heap.size w w'))
     case atStart => exact ⟨(([] : List (S52))), (([] : List (S52))), (0), rfl, H', ⟨Nat.le_refl _⟩, HO_5, ⟨by first | exact Kd.R_nil _ _ _ _ _ | exact Kd.N_nil _ _ _ _ _ | exact Kd.V_nil _ _ _ _ _ | exact Kd.Q_nil _ _ _ _ _ | exact Kd.S_nil _ _ _ _ _⟩, ⟨by first | exact Kd.R_nil _ _ _ _ _ | exact Kd.N_nil _ _ _ _ _ | exact Kd.V_nil _ _ _ _ _ | exact Kd.Q_nil _ _ _ _ _ | exact Kd.S_nil _ _ _ _ _⟩, ⟨Kd.R_mono HO_780001.out (fun _ hk => ⟨(by simp [Value.ownBlock]), ⟨(by simp [Value.ownBlock]), hk⟩⟩)⟩, ⟨Kd.R_mono HO_786001.out (fun _ hk => ⟨(by simp [Value.ownBlock]), ⟨(by simp [Value.ownBlock]), hk⟩⟩)⟩, ⟨BK1.out⟩, ⟨BK2.out⟩, ⟨BK3.out⟩, ⟨HB.out⟩⟩
     case round =>
      clear H'
      try clear c1; try clear c2; try clear p2; try clear c3; try clear c5; try clear c5b0; try clear c5b1; try clear c7; try clear c7b0; try clear c7b1; try clear c9; try clear c10; try clear c13; try clear c14; try clear c14b0; try clear c14b1; try clear c15; try clear c23; try clear c25; try clear c29; try clear c30; try clear c33; try clear c33b0; try clear c33b1; try clear c34; try clear hcz18_0; try clear hcz18_1; try clear hcz20_0; try clear hcz20_1; try clear hcz24_0; try clear hcz24_1; try clear hcz26_0; try clear hcz26_1; try clear hcz31_0; try clear hcz31_1; try clear hcz6_0; try clear hcz6_1; try clear hcz8_0; try clear hcz8_1; try clear hcz9_0; try clear hcz9_1; try clear hfz18_0; try clear hfz18_1; try clear hfz20_0; try clear hfz20_1; try clear hfz24_0; try clear hfz24_1; try clear hfz26_0; try clear hfz26_1; try clear hfz31_0; try clear hfz31_1; try clear hfz6_0; try clear hfz6_1; try clear hfz8_0; try clear hfz8_1; try clear hfz9_0; try clear hfz9_1
      obtain ⟨x11_3, x12_3, x13_3, rfl, HA, HK3, HO_5, HO_11, HO_12, HO_780001, HO_786001, BK1, BK2, BK3, HB⟩ := hrel
      cases gk with
      | zero => exact absurd HA.out (by simp [dancestudiolaw45_FormationTwins.l0])
      | succ k3 =>
       have H := HA.out
       clear HA
       simp only [dancestudiolaw45_FormationTwins.l0] at H
       by_cases c35 : x13_3 < (l1.length : Int)
       rotate_left
       ·
        rw [if_neg c35] at H
        have c35b0 := decide_eq_false c35
        clear c35
        replace H := Option.bind_eq_some_iff.mp H
        obtain ⟨⟨t796, t799, t800⟩, A430, H⟩ := H
        try dsimp only at H
        have A43 := Aside0.mk A430
        clear A430
        replace H := Option.bind_eq_some_iff.mp H
        obtain ⟨⟨t801, t804, t805⟩, A440, H⟩ := H
        try dsimp only at H
        have A44 := Aside0.mk A440
        clear A440
        obtain ⟨c45, H⟩ : (t800 = 0) ∧ _ := mIf H
        have c45b0 := beq_iff_eq.mpr c45
        have c45b1 := bne_eq_false_iff_eq.mpr c45
        clear c45
        obtain ⟨c46, H⟩ : (t805 = 0) ∧ _ := mIf H
        have c46b0 := beq_iff_eq.mpr c46
        have c46b1 := bne_eq_false_iff_eq.mpr c46
        clear c46
        replace H := Option.bind_eq_some_iff.mp H
        obtain ⟨t806, A470, H⟩ := H
        try dsimp only at H
        have A47 := Aside0.mk A470
        clear A470
        by_cases c48 : t806 = true
        rotate_left
        ·
         replace c48 := Bool.eq_false_iff.mpr c48
         subst c48
         rw [if_neg (show ¬ (false = true) by decide)] at H
         exact absurd H (by simp)
        subst c48
        rw [if_pos rfl] at H
        replace H := Option.bind_eq_some_iff.mp H
        obtain ⟨t807, A490, H⟩ := H
        try dsimp only at H
        have A49 := Aside0.mk A490
        clear A490
        by_cases c50 : t807 = true
        rotate_left
        ·
         replace c50 := Bool.eq_false_iff.mpr c50
         subst c50
         rw [if_neg (show ¬ (false = true) by decide)] at H
         exact absurd H (by simp)
        subst c50
        rw [if_pos rfl] at H
        obtain ⟨c51, H⟩ : (t799 = t771) ∧ _ := mIf H
        have c51b0 := beq_iff_eq.mpr c51
        have c51b1 := bne_eq_false_iff_eq.mpr c51
        clear c51
        obtain ⟨c52, H⟩ : (t804 = t771) ∧ _ := mIf H
        have c52b0 := beq_iff_eq.mpr c52
        have c52b1 := bne_eq_false_iff_eq.mpr c52
        clear c52
        replace H := Option.bind_eq_some_iff.mp H
        obtain ⟨t808, A530, H⟩ := H
        try dsimp only at H
        have A53 := Aside0.mk A530
        clear A530
        obtain rfl := Option.some.inj H
        have hnb54 := NB2_1.out
        have hnc54 := NB1_2.out
        have hnb55 := NB2_3.out
        have hnc55 := NB3_2.out
        have hcz56 := blk_cell BK2.out; have hfz56 := blk_frozen BK2.out
        obtain ⟨Ao57, co57, eo57⟩ := Kd.R_slice HO_11.out
        subst eo57
        go_wp2_with (first | ((with_reducible refine gate_callee (f := 15) rfl ?_); refine goesL_ (some 108) rfl rfl Tryd.func15 (by kernel_rfl) rfl #[.agg #[.string t774, .slice Ao25 t775.length co25], .slice Ao57 x11_3.length co57] rfl (mA2 rfl rfl) ?_; (with_reducible refine (formation_Fit.calls k3 t774 _ _ t775 _ _ x11_3 t796 t799 t800 _ ?side1 ?side2 ?side3 ?side4 ?sidem_ A43.out).mono ?_); (case sidem_ => first | ((repeat (first | exact HMX_.out | apply Mx.drewN | apply Mx.drew)); done) | (refine Mx.below HMX_.out ?_; (repeat (first | (with_reducible first | exact HB.out | apply below_alloc | apply pw_below_drewN | apply below_drew1 | refine below_set ?_ (Aside0.out (by assumption))) | exact HB.out)); done)); (case side1 => exact cO (Kd.R_reads' HO_780001.out).2.2); (case side2 => exact (Kd.R_reads' HO_780001.out).2.1); (case side3 => exact cO (Kd.R_reads' HO_11.out).2.2); (case side4 => exact (Kd.R_reads' HO_11.out).2.1); rintro e w58 ⟨v797, rfl, ho0, hb⟩; refine ⟨_, rfl, ?_⟩; have n0_ := Aside0.mk (Kd.R_elder' (rO HO_5) (Kd.R_base ho0) hb); have n1_ := Aside0.mk (Kd.R_below (rO HO_11) hb); have n2_ := Aside0.mk (Kd.R_below (rO HO_12) hb); have n3_ := Aside0.mk (Kd.R_below (rO HO_780001) hb); have n4_ := Aside0.mk (Kd.R_below (rO HO_786001) hb); have n5_ := Aside0.mk (Kd.R_lower (Kd.R_new' ho0 (Kd.R_lt (rO HO_5))) (below_size (hO HB))); have n6_ := Aside0.mk (blk_below (g := gb1) (o := .cells #[.string a0_0, .slice A0_1 l0_1.length c0_1] 24 (0, 0)) (bO BK1) hb); have n7_ := Aside0.mk (blk_below (g := gb2) (o := .cells #[.string t774, .slice Ao25 t775.length co25] 24 (0, 0)) (bO BK2) hb); have n8_ := Aside0.mk (blk_below (g := gb3) (o := .cells #[.string t780, .slice Ao32 t781.length co32] 24 (0, 0)) (bO BK3) hb); have n9_ := mSx HB hb; clear HO_5; clear HO_11; clear HO_12; clear HO_780001; clear HO_786001; clear BK1; clear BK2; clear BK3; clear HB; have HO_5 := n0_; have HO_11 := n1_; have HO_12 := n2_; have HO_780001 := n3_; have HO_786001 := n4_; have HO798 := n5_; have BK1 := n6_; have BK2 := n7_; have BK3 := n8_; have HB := n9_; clear n0_ n1_ n2_ n3_ n4_ n5_ n6_ n7_ n8_ n9_; (try clear hb); (try clear hb2); (try clear hk); (try clear hi); (try clear ho0); have hnb59 := NB3_1.out; have hnc59 := NB1_3.out; have hcz60_0 : w58.cell? ⟨gb3, 0, none⟩ = some (.string t780) := (blk_cell BK3.out 0).trans rfl; have hcz60_1 : w58.cell? ⟨gb3, 1, none⟩ = some (.slice Ao32 t781.length co32) := (blk_cell BK3.out 1).trans rfl; have hfz60_0 := blk_frozen BK3.out 0; have hfz60_1 := blk_frozen BK3.out 1; obtain ⟨Ao61, co61, eo61⟩ := Kd.R_slice HO_12.out; subst eo61) | ((with_reducible refine gate_callee (f := 15) rfl ?_); refine goesL_ (some 115) rfl rfl Tryd.func15 (by kernel_rfl) rfl #[.agg #[.string t780, .slice Ao32 t781.length co32], .slice Ao61 x12_3.length co61] rfl (mA2 rfl rfl) ?_; (with_reducible refine (formation_Fit.calls k3 t780 _ _ t781 _ _ x12_3 t801 t804 t805 _ ?side1 ?side2 ?side3 ?side4 ?sidem_ A44.out).mono ?_); (case sidem_ => first | ((repeat (first | exact HMX_.out | apply Mx.drewN | apply Mx.drew)); done) | (refine Mx.below HMX_.out ?_; (repeat (first | (with_reducible first | exact HB.out | apply below_alloc | apply pw_below_drewN | apply below_drew1 | refine below_set ?_ (Aside0.out (by assumption))) | exact HB.out)); done)); (case side1 => exact cO (Kd.R_reads' HO_786001.out).2.2); (case side2 => exact (Kd.R_reads' HO_786001.out).2.1); (case side3 => exact cO (Kd.R_reads' HO_12.out).2.2); (case side4 => exact (Kd.R_reads' HO_12.out).2.1); rintro e w62 ⟨v802, rfl, ho0, hb⟩; refine ⟨_, rfl, ?_⟩; have n0_ := Aside0.mk (Kd.R_elder' (rO HO_5) (Kd.R_base ho0) hb); have n1_ := Aside0.mk (Kd.R_below (rO HO_11) hb); have n2_ := Aside0.mk (Kd.R_below (rO HO_12) hb); have n3_ := Aside0.mk (Kd.R_below (rO HO_780001) hb); have n4_ := Aside0.mk (Kd.R_below (rO HO_786001) hb); have n5_ := Aside0.mk (Kd.R_elder' (rO HO798) (Kd.R_base ho0) hb); have n6_ := Aside0.mk (Kd.R_lower (Kd.R_new' (Kd.R_new' ho0 (Kd.R_lt (rO HO_5))) (Kd.R_lt (rO HO798))) (below_size (hO HB))); have n7_ := Aside0.mk (blk_below (g := gb1) (o := .cells #[.string a0_0, .slice A0_1 l0_1.length c0_1] 24 (0, 0)) (bO BK1) hb); have n8_ := Aside0.mk (blk_below (g := gb2) (o := .cells #[.string t774, .slice Ao25 t775.length co25] 24 (0, 0)) (bO BK2) hb); have n9_ := Aside0.mk (blk_below (g := gb3) (o := .cells #[.string t780, .slice Ao32 t781.length co32] 24 (0, 0)) (bO BK3) hb); have n10_ := mSx HB hb; clear HO_5; clear HO_11; clear HO_12; clear HO_780001; clear HO_786001; clear HO798; clear BK1; clear BK2; clear BK3; clear HB; have HO_5 := n0_; have HO_11 := n1_; have HO_12 := n2_; have HO_780001 := n3_; have HO_786001 := n4_; have HO798 := n5_; have HO803 := n6_; have BK1 := n7_; have BK2 := n8_; have BK3 := n9_; have HB := n10_; clear n0_ n1_ n2_ n3_ n4_ n5_ n6_ n7_ n8_ n9_ n10_; (try clear hb); (try clear hb2); (try clear hk); (try clear hi); (try clear ho0); obtain ⟨Ao63, co63, eo63⟩ := Kd.R_slice HO798.out; subst eo63; obtain ⟨Ao64, co64, eo64⟩ := Kd.R_slice HO_5.out; subst eo64) | (go_at_call 17; (with_reducible refine (dancestudioref45_Ints.calls k3 _ _ t796 _ _ t768 true _ (cO (Kd.R_reads' HO798.out).2.2) ((Kd.R_reads' HO798.out).2.1) (cO (Kd.R_reads' HO_5.out).2.2) ((Kd.R_reads' HO_5.out).2.1) A47.out).mono ?_); rintro e w' ⟨rfl, ⟨nd, rfl⟩⟩; obtain ⟨Ao65, co65, eo65⟩ := Kd.R_slice HO803.out; subst eo65) | (go_at_call 17; (with_reducible refine (dancestudioref45_Ints.calls k3 _ _ t801 _ _ t768 true _ (cO (Kd.R_reads' HO803.out).2.2) ((Kd.R_reads' HO803.out).2.1) (cO (Kd.R_reads' HO_5.out).2.2) ((Kd.R_reads' HO_5.out).2.1) A49.out).mono ?_); rintro e w' ⟨rfl, ⟨nd, rfl⟩⟩) | (go_at_call 13; (with_reducible refine (dancestudiolaw45_awake.calls k3  t808 _ ?sidem_ A53.out).mono ?_); (case sidem_ => first | ((repeat (first | exact HMX_.out | apply Mx.drewN | apply Mx.drew)); done) | (refine Mx.below HMX_.out ?_; (repeat (first | (with_reducible first | exact HB.out | apply below_alloc | apply pw_below_drewN | apply below_drew1 | refine below_set ?_ (Aside0.out (by assumption))) | exact HB.out)); done)); rintro e w66 ⟨rfl, hb⟩; have n0_ := Aside0.mk (Kd.R_below (rO HO_5) hb); have n1_ := Aside0.mk (Kd.R_below (rO HO_11) hb); have n2_ := Aside0.mk (Kd.R_below (rO HO_12) hb); have n3_ := Aside0.mk (Kd.R_below (rO HO_780001) hb); have n4_ := Aside0.mk (Kd.R_below (rO HO_786001) hb); have n5_ := Aside0.mk (Kd.R_below (rO HO798) hb); have n6_ := Aside0.mk (Kd.R_below (rO HO803) hb); have n7_ := Aside0.mk (blk_below (g := gb1) (o := .cells #[.string a0_0, .slice A0_1 l0_1.length c0_1] 24 (0, 0)) (bO BK1) hb); have n8_ := Aside0.mk (blk_below (g := gb2) (o := .cells #[.string t774, .slice Ao25 t775.length co25] 24 (0, 0)) (bO BK2) hb); have n9_ := Aside0.mk (blk_below (g := gb3) (o := .cells #[.string t780, .slice Ao32 t781.length co32] 24 (0, 0)) (bO BK3) hb); have n10_ := mSx HB hb; clear HO_5; clear HO_11; clear HO_12; clear HO_780001; clear HO_786001; clear HO798; clear HO803; clear BK1; clear BK2; clear BK3; clear HB; have HO_5 := n0_; have HO_11 := n1_; have HO_12 := n2_; have HO_780001 := n3_; have HO_786001 := n4_; have HO798 := n5_; have HO803 := n6_; have BK1 := n7_; have BK2 := n8_; have BK3 := n9_; have HB := n10_; clear n0_ n1_ n2_ n3_ n4_ n5_ n6_ n7_ n8_ n9_ n10_; (try clear hb); (try clear hb2); (try clear hk); (try clear hi)))
        go_ret
        exact ⟨rfl, HB.out⟩
       rw [if_pos c35] at H
       have c35b0 := decide_eq_true c35
       clear c35
       obtain ⟨c36, H⟩ : (0 ≤ x13_3) ∧ _ := mIf H
       have c36b0 := decide_eq_true c36
       clear c36
       obtain ⟨c37, H⟩ : (x11_3.length < 8796093022208) ∧ _ := mIf H
       have LMc37 := Aside0.mk c37
       clear c37
       obtain ⟨y788, hy788⟩ : ∃ y_ : List (S52), y_ = (x11_3 ++ [(⟨wrap64 (-((rd_T52 l1 x13_3).f0)), (rd_T52 l1 x13_3).f1⟩ : S52)]) := ⟨_, rfl⟩
       rw [← hy788] at H
       have Ny788 := Aside0.mk hy788
       clear hy788
       obtain ⟨c38, H⟩ : (x12_3.length < 8796093022208) ∧ _ := mIf H
       have LMc38 := Aside0.mk c38
       clear c38
       obtain ⟨y793, hy793⟩ : ∃ y_ : List (S52), y_ = (x12_3 ++ [(⟨(rd_T52 l1 x13_3).f1, wrap64 (-((rd_T52 l1 x13_3).f0))⟩ : S52)]) := ⟨_, rfl⟩
       rw [← hy793] at H
       have Ny793 := Aside0.mk hy793
       clear hy793
       have H' := Aside0.mk H
       clear H
       try go_wp2
       replace HO_5 := Aside0.mk (Kd.R_drew HO_5.out); replace HO_11 := Aside0.mk (Kd.R_drew HO_11.out); replace HO_12 := Aside0.mk (Kd.R_drew HO_12.out); replace HO_780001 := Aside0.mk (Kd.R_drew HO_780001.out); replace HO_786001 := Aside0.mk (Kd.R_drew HO_786001.out); replace BK1 := Aside0.mk (blk_drew BK1.out); replace BK2 := Aside0.mk (blk_drew BK2.out); replace BK3 := Aside0.mk (blk_drew BK3.out); replace HB := Aside0.mk (below_drew1 HB.out)
       have p786 : 0 ≤ (x13_3 : Int) := of_decide_eq_true (by assumption)
       have q786 : x13_3 < (l1.length : Int) := of_decide_eq_true (by assumption)
       obtain ⟨ad786, e786, hx786_0, hx786_1⟩ := at_T52 HR1.out x13_3 p786 q786
       have hw786_1 := hx786_1
       have hw786_0 := hx786_0
       cases e786
       replace hx786_0 := mHx HB hx786_0
       replace hx786_1 := mHx HB hx786_1
       replace p786 := eq_true p786
       replace q786 := eq_true q786
       have p787 : 0 ≤ (x13_3 : Int) := of_decide_eq_true (by assumption)
       have q787 : x13_3 < (l1.length : Int) := of_decide_eq_true (by assumption)
       obtain ⟨ad787, e787, hx787_0, hx787_1⟩ := at_T52 HR1.out x13_3 p787 q787
       have hw787_1 := hx787_1
       have hw787_0 := hx787_0
       obtain rfl : ad786 = ad787 := (by injection e787)
       replace hx787_0 := mHx HB hx787_0
       replace hx787_1 := mHx HB hx787_1
       replace p787 := eq_true p787
       replace q787 := eq_true q787
       refine start_ (n := 16) (S := fun w' => w'.cell? (ad786.add ((x13_3).toNat * 2)) = some (.int .i64 ((rd_T52 l1 x13_3).f0)) ∧ w'.cell? ⟨(ad786.add ((x13_3).toNat * 2)).block, (ad786.add ((x13_3).toNat * 2)).off + 1, none⟩ = some (.int .i64 ((rd_T52 l1 x13_3).f1)) ∧ w'.cell? (ad786.add ((x13_3).toNat * 2)) = some (.int .i64 ((rd_T52 l1 x13_3).f0)) ∧ w'.cell? ⟨(ad786.add ((x13_3).toNat * 2)).block, (ad786.add ((x13_3).toNat * 2)).off + 1, none⟩ = some (.int .i64 ((rd_T52 l1 x13_3).f1))) (ds := []) #[false, false, false, false, false, false, false, false, false, false, false, false, false, false, false, false] (by kernel_rfl) rfl rfl ⟨((HB.out.cell (World.block_lt_of_cell? w _ hw786_0)).trans hw786_0), ((HB.out.cell (World.block_lt_of_cell? w _ hw786_1)).trans hw786_1), ((HB.out.cell (World.block_lt_of_cell? w _ hw787_0)).trans hw787_0), ((HB.out.cell (World.block_lt_of_cell? w _ hw787_1)).trans hw787_1)⟩ (fun hHeld => ?_); refine with_tabW dancestudiolaw45_FormationTwins.tab14 dancestudiolaw45_FormationTwins.bits14 (fun HT_ HW_ => ?_)
       generalize wr.drew = w39 at HO_5 HO_11 HO_12 HO_780001 HO_786001 BK1 BK2 BK3 HB hx786_0 hx786_1 hx787_0 hx787_1 hHeld ⊢
       refine pM 0 75 HT_ ?_
       refine pM 1 76 HT_ ?_
       refine pM 2 77 HT_ ?_
       refine pM 3 78 HT_ ?_
       refine pM 4 79 HT_ ?_
       refine pM 7 82 HT_ ?_
       refine pM 8 83 HT_ ?_
       refine pM 9 84 HT_ ?_
       refine pM 10 85 HT_ ?_
       refine tM 5 80 rfl HT_ HW_ (by rintro w' ⟨s0, s1, s2, s3⟩; go_simp; with_reducible rfl) hHeld ?_
       refine pM 6 81 HT_ ?_
       refine tM 11 86 rfl HT_ HW_ (by rintro w' ⟨s0, s1, s2, s3⟩; go_simp; with_reducible rfl) hHeld ?_
       refine pM 12 87 HT_ ?_
       refine one_ (i := 13) (N := some 88) #[true, true, true, true, true, true, true, true, true, true, true, true, true, true, false, false] rfl rfl (one_of HT_.out (by kernel_rfl)) (by decide) (fun K hK => ?_)
       refine value_ (w1 := ?_) (v := ?_) (by rfl) rfl ?_ ?_
       rotate_left 2
       ·
        go_simp
        constructor
        ·
         rfl
        ·
         rfl
       refine hK.out _ _ ⟨(World.cell?_alloc_lt _ _ _ (World.block_lt_of_cell? _ _ (((HB.out.cell (World.block_lt_of_cell? w _ hw786_0)).trans hw786_0)))).trans (((HB.out.cell (World.block_lt_of_cell? w _ hw786_0)).trans hw786_0)), (World.cell?_alloc_lt _ _ _ (World.block_lt_of_cell? _ _ (((HB.out.cell (World.block_lt_of_cell? w _ hw786_1)).trans hw786_1)))).trans (((HB.out.cell (World.block_lt_of_cell? w _ hw786_1)).trans hw786_1)), (World.cell?_alloc_lt _ _ _ (World.block_lt_of_cell? _ _ (((HB.out.cell (World.block_lt_of_cell? w _ hw787_0)).trans hw787_0)))).trans (((HB.out.cell (World.block_lt_of_cell? w _ hw787_0)).trans hw787_0)), (World.cell?_alloc_lt _ _ _ (World.block_lt_of_cell? _ _ (((HB.out.cell (World.block_lt_of_cell? w _ hw787_1)).trans hw787_1)))).trans (((HB.out.cell (World.block_lt_of_cell? w _ hw787_1)).trans hw787_1))⟩ (fun hHeld => ?_)
       clear hK K
       refine norm_ (by show Act.put _ (some 88) _ = _; simp only [mP]; rfl) ?_
       refine one_ (i := 14) (N := some 89) #[true, true, true, true, true, true, true, true, true, true, true, true, true, true, true, false] rfl rfl (one_of HT_.out (by kernel_rfl)) (by decide) (fun K hK => ?_)
       refine Kd.R_append_step k52 (w0 := w) w.heap.size (by rfl) (.tmp 75) (.tmp 88) 22 52 (.agg #[(.int .i64 0), (.int .i64 0)]) 16 rfl Tryd.underlying22 info52 rfl (by decide) (by omega) u11 x11_3 (⟨wrap64 (-((rd_T52 l1 x13_3).f0)), (rd_T52 l1 x13_3).f1⟩ : S52) [.int .i64 (wrap64 (-((rd_T52 l1 x13_3).f0))), .int .i64 ((rd_T52 l1 x13_3).f1)] (fun k_ => some k_ ≠ (u12 : Value).ownBlock ∧ some k_ ≠ (.slice Ao25 t775.length co25 : Value).ownBlock ∧ some k_ ≠ (.slice Ao32 t781.length co32 : Value).ownBlock) (fun _ => False) rfl rfl ?aP (fun _ hk => hk.elim) ?aF ?aO ?aB ?aS ?aL ?_
       (case aP => exact k52_mkM _ _ _ (⟨wrap64 (-((rd_T52 l1 x13_3).f0)), (rd_T52 l1 x13_3).f1⟩ : S52))
       (case aB => exact HB.out)
       (case aF => exact (fun k_ hk => ⟨Kd.fresh' (Kd.R_lt HO_12.out) k_ hk, Kd.fresh' (Kd.R_lt HO_780001.out) k_ hk, Kd.fresh' (Kd.R_lt HO_786001.out) k_ hk⟩))
       (case aO => exact HO_11.out)
       (case aS => exact (below_size HB.out))
       (case aL => have := LMc37.out; omega)
       intro v789 w40 ho hb hg hat
       rw [← Ny788.out] at ho
       replace HO_5 := Aside0.mk (Kd.R_over' HO_5.out (Kd.R_typed HO_11.out) (by decide) hg); replace HO_12 := Aside0.mk (Kd.R_after (ok := (fun k_ => some k_ ≠ (.slice Ao25 t775.length co25 : Value).ownBlock ∧ some k_ ≠ (.slice Ao32 t781.length co32 : Value).ownBlock)) (by exact Kd.R_mono HO_12.out (fun _ hk => ⟨⟨hk.2.1, hk.2.2⟩, hk.1⟩)) hg hat); replace HO_780001 := Aside0.mk (Kd.R_after (ok := (fun k_ => some k_ ≠ (u12 : Value).ownBlock ∧ some k_ ≠ (.slice Ao32 t781.length co32 : Value).ownBlock)) (by exact Kd.R_mono HO_780001.out (fun _ hk => ⟨⟨hk.2.1, hk.2.2⟩, hk.1⟩)) hg hat); replace HO_786001 := Aside0.mk (Kd.R_after (ok := (fun k_ => some k_ ≠ (u12 : Value).ownBlock ∧ some k_ ≠ (.slice Ao25 t775.length co25 : Value).ownBlock)) (by exact Kd.R_mono HO_786001.out (fun _ hk => ⟨⟨hk.2.1, hk.2.2⟩, hk.1⟩)) hg hat); replace BK1 := Aside0.mk (blk_grown (g := gb1) (o := .cells #[.string a0_0, .slice A0_1 l0_1.length c0_1] 24 (0, 0)) BK1.out hg (Kd.R_ne HO_11.out BK1.out (by decide))); replace BK2 := Aside0.mk (blk_grown (g := gb2) (o := .cells #[.string t774, .slice Ao25 t775.length co25] 24 (0, 0)) BK2.out hg (Kd.R_ne HO_11.out BK2.out (by decide))); replace BK3 := Aside0.mk (blk_grown (g := gb3) (o := .cells #[.string t780, .slice Ao32 t781.length co32] 24 (0, 0)) BK3.out hg (Kd.R_ne HO_11.out BK3.out (by decide))); replace HB := Aside0.mk hb; have HO790 := Aside0.mk ho; clear HO_11
       clear ho hb hg hat
       refine hK.out _ _ ⟨((HB.out.cell (World.block_lt_of_cell? w _ hw786_0)).trans hw786_0), ((HB.out.cell (World.block_lt_of_cell? w _ hw786_1)).trans hw786_1), ((HB.out.cell (World.block_lt_of_cell? w _ hw787_0)).trans hw787_0), ((HB.out.cell (World.block_lt_of_cell? w _ hw787_1)).trans hw787_1)⟩ (fun hHeld => ?_)
       clear hK K
       refine norm_ (by show Act.put _ (some 89) _ = _; simp only [mP]; rfl) ?_
       refine pM 15 11 HT_ ?_
       refine done_ (done_of HT_.out (by kernel_rfl)) ?_
       try go_wp2
       replace HO_5 := Aside0.mk (Kd.R_drew HO_5.out); replace HO_12 := Aside0.mk (Kd.R_drew HO_12.out); replace HO_780001 := Aside0.mk (Kd.R_drew HO_780001.out); replace HO_786001 := Aside0.mk (Kd.R_drew HO_786001.out); replace HO790 := Aside0.mk (Kd.R_drew HO790.out); replace BK1 := Aside0.mk (blk_drew BK1.out); replace BK2 := Aside0.mk (blk_drew BK2.out); replace BK3 := Aside0.mk (blk_drew BK3.out); replace HB := Aside0.mk (below_drew1 HB.out)
       have p791 : 0 ≤ (x13_3 : Int) := of_decide_eq_true (by assumption)
       have q791 : x13_3 < (l1.length : Int) := of_decide_eq_true (by assumption)
       obtain ⟨ad791, e791, hx791_0, hx791_1⟩ := at_T52 HR1.out x13_3 p791 q791
       have hw791_1 := hx791_1
       have hw791_0 := hx791_0
       obtain rfl : ad786 = ad791 := (by injection e791)
       replace hx791_0 := mHx HB hx791_0
       replace hx791_1 := mHx HB hx791_1
       replace p791 := eq_true p791
       replace q791 := eq_true q791
       have p792 : 0 ≤ (x13_3 : Int) := of_decide_eq_true (by assumption)
       have q792 : x13_3 < (l1.length : Int) := of_decide_eq_true (by assumption)
       obtain ⟨ad792, e792, hx792_0, hx792_1⟩ := at_T52 HR1.out x13_3 p792 q792
       have hw792_1 := hx792_1
       have hw792_0 := hx792_0
       obtain rfl : ad786 = ad792 := (by injection e792)
       replace hx792_0 := mHx HB hx792_0
       replace hx792_1 := mHx HB hx792_1
       replace p792 := eq_true p792
       replace q792 := eq_true q792
       refine start_ (n := 16) (S := fun w' => w'.cell? (ad786.add ((x13_3).toNat * 2)) = some (.int .i64 ((rd_T52 l1 x13_3).f0)) ∧ w'.cell? ⟨(ad786.add ((x13_3).toNat * 2)).block, (ad786.add ((x13_3).toNat * 2)).off + 1, none⟩ = some (.int .i64 ((rd_T52 l1 x13_3).f1)) ∧ w'.cell? (ad786.add ((x13_3).toNat * 2)) = some (.int .i64 ((rd_T52 l1 x13_3).f0)) ∧ w'.cell? ⟨(ad786.add ((x13_3).toNat * 2)).block, (ad786.add ((x13_3).toNat * 2)).off + 1, none⟩ = some (.int .i64 ((rd_T52 l1 x13_3).f1))) (ds := []) #[false, false, false, false, false, false, false, false, false, false, false, false, false, false, false, false] (by kernel_rfl) rfl rfl ⟨((HB.out.cell (World.block_lt_of_cell? w _ hw791_0)).trans hw791_0), ((HB.out.cell (World.block_lt_of_cell? w _ hw791_1)).trans hw791_1), ((HB.out.cell (World.block_lt_of_cell? w _ hw792_0)).trans hw792_0), ((HB.out.cell (World.block_lt_of_cell? w _ hw792_1)).trans hw792_1)⟩ (fun hHeld => ?_); refine with_tabW dancestudiolaw45_FormationTwins.tab15 dancestudiolaw45_FormationTwins.bits15 (fun HT_ HW_ => ?_)
       generalize w40.drew = w41 at HO_5 HO_12 HO_780001 HO_786001 HO790 BK1 BK2 BK3 HB hx791_0 hx791_1 hx792_0 hx792_1 hHeld ⊢
       refine pM 0 90 HT_ ?_
       refine pM 1 91 HT_ ?_
       refine pM 2 92 HT_ ?_
       refine pM 3 93 HT_ ?_
       refine pM 4 94 HT_ ?_
       refine pM 6 96 HT_ ?_
       refine pM 7 97 HT_ ?_
       refine pM 8 98 HT_ ?_
       refine pM 9 99 HT_ ?_
       refine tM 5 95 rfl HT_ HW_ (by rintro w' ⟨s0, s1, s2, s3⟩; go_simp; with_reducible rfl) hHeld ?_
       refine tM 10 100 rfl HT_ HW_ (by rintro w' ⟨s0, s1, s2, s3⟩; go_simp; with_reducible rfl) hHeld ?_
       refine pM 11 101 HT_ ?_
       refine pM 12 102 HT_ ?_
       refine one_ (i := 13) (N := some 103) #[true, true, true, true, true, true, true, true, true, true, true, true, true, true, false, false] rfl rfl (one_of HT_.out (by kernel_rfl)) (by decide) (fun K hK => ?_)
       refine value_ (w1 := ?_) (v := ?_) (by rfl) rfl ?_ ?_
       rotate_left 2
       ·
        go_simp
        constructor
        ·
         rfl
        ·
         rfl
       refine hK.out _ _ ⟨(World.cell?_alloc_lt _ _ _ (World.block_lt_of_cell? _ _ (((HB.out.cell (World.block_lt_of_cell? w _ hw791_0)).trans hw791_0)))).trans (((HB.out.cell (World.block_lt_of_cell? w _ hw791_0)).trans hw791_0)), (World.cell?_alloc_lt _ _ _ (World.block_lt_of_cell? _ _ (((HB.out.cell (World.block_lt_of_cell? w _ hw791_1)).trans hw791_1)))).trans (((HB.out.cell (World.block_lt_of_cell? w _ hw791_1)).trans hw791_1)), (World.cell?_alloc_lt _ _ _ (World.block_lt_of_cell? _ _ (((HB.out.cell (World.block_lt_of_cell? w _ hw792_0)).trans hw792_0)))).trans (((HB.out.cell (World.block_lt_of_cell? w _ hw792_0)).trans hw792_0)), (World.cell?_alloc_lt _ _ _ (World.block_lt_of_cell? _ _ (((HB.out.cell (World.block_lt_of_cell? w _ hw792_1)).trans hw792_1)))).trans (((HB.out.cell (World.block_lt_of_cell? w _ hw792_1)).trans hw792_1))⟩ (fun hHeld => ?_)
       clear hK K
       refine norm_ (by show Act.put _ (some 103) _ = _; simp only [mP]; rfl) ?_
       refine one_ (i := 14) (N := some 104) #[true, true, true, true, true, true, true, true, true, true, true, true, true, true, true, false] rfl rfl (one_of HT_.out (by kernel_rfl)) (by decide) (fun K hK => ?_)
       refine Kd.R_append_step k52 (w0 := w) w.heap.size (by rfl) (.tmp 90) (.tmp 103) 22 52 (.agg #[(.int .i64 0), (.int .i64 0)]) 16 rfl Tryd.underlying22 info52 rfl (by decide) (by omega) u12 x12_3 (⟨(rd_T52 l1 x13_3).f1, wrap64 (-((rd_T52 l1 x13_3).f0))⟩ : S52) [.int .i64 ((rd_T52 l1 x13_3).f1), .int .i64 (wrap64 (-((rd_T52 l1 x13_3).f0)))] (fun k_ => some k_ ≠ (.slice Ao25 t775.length co25 : Value).ownBlock ∧ some k_ ≠ (.slice Ao32 t781.length co32 : Value).ownBlock ∧ some k_ ≠ (v789 : Value).ownBlock) (fun _ => False) rfl rfl ?aP (fun _ hk => hk.elim) ?aF ?aO ?aB ?aS ?aL ?_
       (case aP => exact k52_mkM _ _ _ (⟨(rd_T52 l1 x13_3).f1, wrap64 (-((rd_T52 l1 x13_3).f0))⟩ : S52))
       (case aB => exact HB.out)
       (case aF => exact (fun k_ hk => ⟨Kd.fresh' (Kd.R_lt HO_780001.out) k_ hk, Kd.fresh' (Kd.R_lt HO_786001.out) k_ hk, Kd.fresh' (Kd.R_lt HO790.out) k_ hk⟩))
       (case aO => exact (by exact Kd.R_mono HO_12.out (fun _ hk => ⟨hk.1.1, ⟨hk.1.2, hk.2⟩⟩)))
       (case aS => exact (below_size HB.out))
       (case aL => have := LMc38.out; omega)
       intro v794 w42 ho hb hg hat
       rw [← Ny793.out] at ho
       replace HO_5 := Aside0.mk (Kd.R_over' HO_5.out (Kd.R_typed HO_12.out) (by decide) hg); replace HO_780001 := Aside0.mk (Kd.R_after (ok := (fun k_ => some k_ ≠ (.slice Ao32 t781.length co32 : Value).ownBlock ∧ some k_ ≠ (v789 : Value).ownBlock)) (by exact Kd.R_mono HO_780001.out (fun _ hk => ⟨⟨hk.1.2, hk.2⟩, hk.1.1⟩)) hg hat); replace HO_786001 := Aside0.mk (Kd.R_after (ok := (fun k_ => some k_ ≠ (.slice Ao25 t775.length co25 : Value).ownBlock ∧ some k_ ≠ (v789 : Value).ownBlock)) (by exact Kd.R_mono HO_786001.out (fun _ hk => ⟨⟨hk.1.2, hk.2⟩, hk.1.1⟩)) hg hat); replace BK1 := Aside0.mk (blk_grown (g := gb1) (o := .cells #[.string a0_0, .slice A0_1 l0_1.length c0_1] 24 (0, 0)) BK1.out hg (Kd.R_ne HO_12.out BK1.out (by decide))); replace BK2 := Aside0.mk (blk_grown (g := gb2) (o := .cells #[.string t774, .slice Ao25 t775.length co25] 24 (0, 0)) BK2.out hg (Kd.R_ne HO_12.out BK2.out (by decide))); replace BK3 := Aside0.mk (blk_grown (g := gb3) (o := .cells #[.string t780, .slice Ao32 t781.length co32] 24 (0, 0)) BK3.out hg (Kd.R_ne HO_12.out BK3.out (by decide))); replace HO790 := Aside0.mk (Kd.R_after (ok := (fun k_ => some k_ ≠ (.slice Ao25 t775.length co25 : Value).ownBlock ∧ some k_ ≠ (.slice Ao32 t781.length co32 : Value).ownBlock)) (by exact Kd.R_mono HO790.out (fun _ hk => ⟨⟨hk.2.1, hk.2.2⟩, hk.1⟩)) hg hat); replace HB := Aside0.mk hb; have HO795 := Aside0.mk ho; clear HO_12
       clear ho hb hg hat
       refine hK.out _ _ ⟨((HB.out.cell (World.block_lt_of_cell? w _ hw791_0)).trans hw791_0), ((HB.out.cell (World.block_lt_of_cell? w _ hw791_1)).trans hw791_1), ((HB.out.cell (World.block_lt_of_cell? w _ hw792_0)).trans hw792_0), ((HB.out.cell (World.block_lt_of_cell? w _ hw792_1)).trans hw792_1)⟩ (fun hHeld => ?_)
       clear hK K
       refine norm_ (by show Act.put _ (some 104) _ = _; simp only [mP]; rfl) ?_
       refine pM 15 12 HT_ ?_
       refine done_ (done_of HT_.out (by kernel_rfl)) ?_
       try go_wp2
       go_roundg k3
       case measure => have := HJ2.out; have := HJ16.out; have := HK3.out; omega
       case rel => exact ⟨(y788), (y793), (wrap64 (x13_3 + 1)), rfl, H', ⟨by have := HJ2.out; have := HJ16.out; have := HK3.out; omega⟩, HO_5, ⟨Kd.R_mono HO790.out (fun _ hk => ⟨hk.2, ⟨hk.1.1, hk.1.2⟩⟩)⟩, ⟨Kd.R_mono HO795.out (fun _ hk => ⟨hk.2.2, ⟨hk.1, hk.2.1⟩⟩)⟩, ⟨Kd.R_mono HO_780001.out (fun _ hk => ⟨hk.1.2, ⟨hk.2, hk.1.1⟩⟩)⟩, ⟨Kd.R_mono HO_786001.out (fun _ hk => ⟨hk.1.2, ⟨hk.2, hk.1.1⟩⟩)⟩, ⟨BK1.out⟩, ⟨BK2.out⟩, ⟨BK3.out⟩, ⟨HB.out⟩⟩
end Go.Proofs.YtaggccbndmmbhaaDoor.PAll
