-- Written by wip/tools/handprint.py: walks of the functions that the law reaches; Lean checks them.
import Derived.Test.YtaggccbndmmbhaaDoorBase
import Derived.Test.YtaggccbndmmbhaaDoorPAllf11
import Derived.Test.YtaggccbndmmbhaaDoorPAllf12
import Derived.Test.YtaggccbndmmbhaaDoorPAllf13
namespace Go.Proofs.YtaggccbndmmbhaaDoor.PAll
open Go.RowKit Go.Proofs.YtaggccbndmmbhaaDoorW.PrintWords Go.Proofs.YtaggccbndmmbhaaDoorW.PrintLast Go.Proofs.YtaggccbndmmbhaaDoorW.PrintMore
attribute [local go_sem] max2_int min2_int max_two min_two max_three min_three max_four min_four   -- for this text's walks alone
set_option linter.unusedVariables false
set_option linter.unusedSimpArgs false

/-! ### dancestudiolaw45_FormationChecks: function 3 -/
def dancestudiolaw45_FormationChecks.f (k : Nat) (a0_0 : ByteArray) (l0_1 : List (S52)) : Option (Bool) := if (l0_1.length : Int) > 30 then ((dancestudiolaw45_awake.f k).bind fun t511 => (some t511)) else (if (a0_0.size : Int) > 60 then ((dancestudiolaw45_awake.f k).bind fun t512 => (some t512)) else ((formation_Check.f k a0_0 l0_1).bind fun t513 => ((dancestudioref45_Check.f k a0_0 l0_1).bind fun t514 => (if t513 = t514 then ((dancestudiolaw45_awake.f k).bind fun t515 => (some t515)) else (none)))))
def dancestudiolaw45_FormationChecks.T1 : Bool × List (List Nat × List Nat) := (true, [([], []), ([0], [0]), ([1], [1]), ([2], [2]), ([3], [3]), ([4], [4]), ([5, 4], [4, 5]), ([6, 4], [4, 6]), ([7, 4], [4, 7]), ([4, 8], [4, 8]), ([9, 4], [9]), ([10], [10]), ([11, 10, 10], [10, 11]), ([10], [10]), ([13, 12, 10], [10, 13]), ([12, 14, 10], [10, 12, 14]), ([10, 15], [10, 15]), ([16, 14], [16]), ([17, 17], [17]), ([17, 18], [17, 18]), ([19, 18, 0, 1, 2, 3, 4, 5, 6, 7, 8, 9, 10, 11, 12, 13, 14, 15, 16, 17, 18, 19], [19])])
def dancestudiolaw45_FormationChecks.B1 : List Nat := [0, 1, 3, 7, 15, 31, 63, 127, 255, 511, 1023, 2047, 4095, 2047, 16383, 32767, 65535, 131071, 262143, 524287, 1048575]
theorem dancestudiolaw45_FormationChecks.tab1 : rtab .any (opsOf Tryd.f3 1) = dancestudiolaw45_FormationChecks.T1 := by kernel_rfl
theorem dancestudiolaw45_FormationChecks.bits1 : waitsOk dancestudiolaw45_FormationChecks.T1.2 dancestudiolaw45_FormationChecks.B1 = true := by kernel_rfl
set_option maxHeartbeats 8000000 in
set_option maxRecDepth 100000 in
theorem dancestudiolaw45_FormationChecks.calls (k : Nat) (a0_0 : ByteArray) (A0_1 : Option Addr) (c0_1 : Nat) (l0_1 : List (S52)) (r : Bool) (w : World) (hr0_1 : Kd.C k52 w A0_1 l0_1.length l0_1) (hc0_1 : l0_1.length ≤ c0_1) (hmx : Mx w) (h : dancestudiolaw45_FormationChecks.f k a0_0 l0_1 = some r) :
  Calls Tryd.prog 3 #[.agg #[.string a0_0, .slice A0_1 l0_1.length c0_1]] w fun e w' => e = .returned (.bool r) ∧ Below w.heap.size w w' := by
 have HMX_ := Aside0.mk hmx
 clear hmx
 have hu24 := Tryd.underlying24
 have HR0_1 := Aside0.mk hr0_1
 have HC0_1 := Aside0.mk hc0_1
 clear hr0_1 hc0_1
 have HB := Aside0.mk (Below.refl w.heap.size w)
 have H := h
 unfold dancestudiolaw45_FormationChecks.f at H
 clear h
 by_cases c2 : (l0_1.length : Int) > 30
 ·
  rw [if_pos c2] at H
  have c2b0 := decide_eq_true c2
  have c2b1 : decide (30 < l0_1.length) = true := decide_eq_true (by omega)
  clear c2
  replace H := Option.bind_eq_some_iff.mp H
  obtain ⟨t511, A30, H⟩ := H
  try dsimp only at H
  have A3 := Aside0.mk A30
  clear A30
  obtain rfl := Option.some.inj H
  go_enter Tryd.func3, Tryd.ntmps3
  try go_wp2_with (first | ((with_reducible refine gate_dst (N := 1) rfl ?_); (try (refine gate_guard (by rfl) ?_; dsimp only)); refine box_event rfl (N := 1) rfl (cs := #[.string a0_0, .slice A0_1 l0_1.length c0_1]) (t := 24) (by first | (go_simp; done) | (go_simp; rfl)) ?_; intro gb1 hg w4 hbox hb; have BK1 := Aside0.mk hbox; have GW1 := mGw HB hg; have GE1 := GW1; replace HB := mSt HB hb; clear hb hbox hg))
  replace BK1 := Aside0.mk (blk_drew BK1.out); replace HB := Aside0.mk (below_drew1 HB.out)
  refine start_ (n := 21) (S := fun w' => w'.cell? ⟨gb1, 0, none⟩ = some (.string a0_0) ∧ w'.cell? ⟨gb1, 1, none⟩ = some (.slice A0_1 l0_1.length c0_1)) (ds := []) #[false, false, false, false, false, false, false, false, false, false, false, false, false, false, false, false, false, false, false, false, false] (by kernel_rfl) rfl rfl ⟨(blk_cell BK1.out 0).trans rfl, (blk_cell BK1.out 1).trans rfl⟩ (fun hHeld => ?_); refine with_tabW dancestudiolaw45_FormationChecks.tab1 dancestudiolaw45_FormationChecks.bits1 (fun HT_ HW_ => ?_)
  generalize w4.drew = w5 at BK1 HB hHeld ⊢
  refine pM 0 3 HT_ ?_
  refine tM 1 4 rfl HT_ HW_ (by rintro w' ⟨s0, s1⟩; go_simp; with_reducible rfl) hHeld ?_
  refine pM 2 5 HT_ ?_
  refine pM 3 6 HT_ ?_
  refine pM 4 7 HT_ ?_
  refine pure_ (i := 5) (N := some 8) (v := undef) (a' := ?_) #[true, true, true, true, true, true, false, false, false, false, false, false, false, false, false, false, false, false, false, false, false] rfl rfl (any_of HT_.out (by kernel_rfl)) (fun _ _ _ h => h) (Or.inr ⟨by rfl, rfl⟩) ?_ ?_
  rotate_left
  ·
   simp only [mP]
   rfl
  refine pure_ (i := 6) (N := some 9) (v := undef) (a' := ?_) #[true, true, true, true, true, true, true, false, false, false, false, false, false, false, false, false, false, false, false, false, false] rfl rfl (any_of HT_.out (by kernel_rfl)) (fun _ _ _ h => h) (Or.inr ⟨by rfl, rfl⟩) ?_ ?_
  rotate_left
  ·
   simp only [mP]
   rfl
  refine pure_ (i := 7) (N := some 10) (v := undef) (a' := ?_) #[true, true, true, true, true, true, true, true, false, false, false, false, false, false, false, false, false, false, false, false, false] rfl rfl (any_of HT_.out (by kernel_rfl)) (fun _ _ _ h => h) (Or.inr ⟨by rfl, rfl⟩) ?_ ?_
  rotate_left
  ·
   simp only [mP]
   rfl
  refine pure_ (i := 8) (N := some 11) (v := undef) (a' := ?_) #[true, true, true, true, true, true, true, true, true, false, false, false, false, false, false, false, false, false, false, false, false] rfl rfl (any_of HT_.out (by kernel_rfl)) (fun _ _ _ h => h) (Or.inr ⟨by rfl, rfl⟩) ?_ ?_
  rotate_left
  ·
   simp only [mP]
   rfl
  refine pM 9 12 HT_ ?_
  refine pM 10 13 HT_ ?_
  refine pure_ (i := 11) (N := some 14) (v := undef) (a' := ?_) #[true, true, true, true, true, true, true, true, true, true, true, true, false, false, false, false, false, false, false, false, false] rfl rfl (any_of HT_.out (by kernel_rfl)) (fun _ _ _ h => h) (Or.inr ⟨by rfl, rfl⟩) ?_ ?_
  rotate_left
  ·
   simp only [mP]
   rfl
  refine pure_ (i := 12) (N := some 15) (v := undef) (a' := ?_) #[true, true, true, true, true, true, true, true, true, true, true, true, true, false, false, false, false, false, false, false, false] rfl rfl (any_of HT_.out (by kernel_rfl)) (fun _ _ _ h => h) (Or.inr ⟨by rfl, rfl⟩) ?_ ?_
  rotate_left
  ·
   simp only [mP]
   rfl
  refine pure_ (i := 13) (N := some 16) (v := undef) (a' := ?_) #[true, true, true, true, true, true, true, true, true, true, true, true, true, true, false, false, false, false, false, false, false] rfl rfl (any_of HT_.out (by kernel_rfl)) (fun _ _ _ h => h) (Or.inr ⟨by rfl, rfl⟩) ?_ ?_
  rotate_left
  ·
   simp only [mP]
   rfl
  refine pure_ (i := 14) (N := some 17) (v := undef) (a' := ?_) #[true, true, true, true, true, true, true, true, true, true, true, true, true, true, true, false, false, false, false, false, false] rfl rfl (any_of HT_.out (by kernel_rfl)) (fun _ _ _ h => h) (Or.inr ⟨by rfl, rfl⟩) ?_ ?_
  rotate_left
  ·
   simp only [mP]
   rfl
  refine pure_ (i := 15) (N := some 18) (v := undef) (a' := ?_) #[true, true, true, true, true, true, true, true, true, true, true, true, true, true, true, true, false, false, false, false, false] rfl rfl (any_of HT_.out (by kernel_rfl)) (fun _ _ _ h => h) (Or.inr ⟨by rfl, rfl⟩) ?_ ?_
  rotate_left
  ·
   simp only [mP]
   rfl
  refine pM 16 19 HT_ ?_
  refine pM 17 20 HT_ ?_
  refine one_ (i := 18) (N := some 21) #[true, true, true, true, true, true, true, true, true, true, true, true, true, true, true, true, true, true, true, false, false] rfl rfl (one_of HT_.out (by kernel_rfl)) (by decide) (fun K hK => ?_)
  refine goes_ Tryd.func13 (by kernel_rfl) rfl #[] (by rfl) rfl rfl (by (try simp only [List.map_toArray, List.map_cons, List.map_nil]); first | done | rfl | (simp only [List.length_drop, List.length_take]; rfl)) ?_
  with_reducible refine (dancestudiolaw45_awake.calls k  t511 _ ?sidem_ A3.out).mono ?_
  case sidem_ => exact Mx.below HMX_.out HB.out
  rintro e w6 ⟨rfl, hb⟩
  refine ⟨_, rfl, ?_⟩
  replace BK1 := mBb BK1 hb; replace HB := mSt HB hb
  (try clear hb)
  (try clear hb2)
  (try clear hk)
  (try clear hi)
  refine hK.out _ _ ⟨blk_cell BK1.out 0, blk_cell BK1.out 1⟩ (fun hHeld => ?_)
  clear hK K
  refine norm_ (by show Act.put _ (some 21) _ = _; simp only [mP]; rfl) ?_
  refine pM 19 22 HT_ ?_
  refine pM 20 2 HT_ ?_
  refine done_ (done_of HT_.out (by kernel_rfl)) ?_
  try go_wp2
  go_ret
  exact ⟨rfl, HB.out⟩
 rw [if_neg c2] at H
 have c2b0 := decide_eq_false c2
 have c2b1 : decide (30 < l0_1.length) = false := decide_eq_false (by omega)
 clear c2
 by_cases c7 : (a0_0.size : Int) > 60
 ·
  rw [if_pos c7] at H
  have c7b0 := decide_eq_true c7
  have c7b1 : decide (60 < a0_0.size) = true := decide_eq_true (by omega)
  clear c7
  replace H := Option.bind_eq_some_iff.mp H
  obtain ⟨t512, A80, H⟩ := H
  try dsimp only at H
  have A8 := Aside0.mk A80
  clear A80
  obtain rfl := Option.some.inj H
  go_enter Tryd.func3, Tryd.ntmps3
  try go_wp2_with (first | ((with_reducible refine gate_dst (N := 1) rfl ?_); (try (refine gate_guard (by rfl) ?_; dsimp only)); refine box_event rfl (N := 1) rfl (cs := #[.string a0_0, .slice A0_1 l0_1.length c0_1]) (t := 24) (by first | (go_simp; done) | (go_simp; rfl)) ?_; intro gb1 hg w9 hbox hb; have BK1 := Aside0.mk hbox; have GW1 := mGw HB hg; have GE1 := GW1; replace HB := mSt HB hb; clear hb hbox hg))
  replace BK1 := Aside0.mk (blk_drew BK1.out); replace HB := Aside0.mk (below_drew1 HB.out)
  refine start_ (n := 21) (S := fun w' => w'.cell? ⟨gb1, 0, none⟩ = some (.string a0_0) ∧ w'.cell? ⟨gb1, 1, none⟩ = some (.slice A0_1 l0_1.length c0_1)) (ds := []) #[false, false, false, false, false, false, false, false, false, false, false, false, false, false, false, false, false, false, false, false, false] (by kernel_rfl) rfl rfl ⟨(blk_cell BK1.out 0).trans rfl, (blk_cell BK1.out 1).trans rfl⟩ (fun hHeld => ?_); refine with_tabW dancestudiolaw45_FormationChecks.tab1 dancestudiolaw45_FormationChecks.bits1 (fun HT_ HW_ => ?_)
  generalize w9.drew = w10 at BK1 HB hHeld ⊢
  refine pM 0 3 HT_ ?_
  refine tM 1 4 rfl HT_ HW_ (by rintro w' ⟨s0, s1⟩; go_simp; with_reducible rfl) hHeld ?_
  refine pM 2 5 HT_ ?_
  refine pM 3 6 HT_ ?_
  refine pM 4 7 HT_ ?_
  refine pM 5 8 HT_ ?_
  refine tM 6 9 rfl HT_ HW_ (by rintro w' ⟨s0, s1⟩; go_simp; with_reducible rfl) hHeld ?_
  refine pM 7 10 HT_ ?_
  refine pM 8 11 HT_ ?_
  refine pM 9 12 HT_ ?_
  refine pM 10 13 HT_ ?_
  refine pure_ (i := 11) (N := some 14) (v := undef) (a' := ?_) #[true, true, true, true, true, true, true, true, true, true, true, true, false, false, false, false, false, false, false, false, false] rfl rfl (any_of HT_.out (by kernel_rfl)) (fun _ _ _ h => h) (Or.inr ⟨by rfl, rfl⟩) ?_ ?_
  rotate_left
  ·
   simp only [mP]
   rfl
  refine pure_ (i := 12) (N := some 15) (v := undef) (a' := ?_) #[true, true, true, true, true, true, true, true, true, true, true, true, true, false, false, false, false, false, false, false, false] rfl rfl (any_of HT_.out (by kernel_rfl)) (fun _ _ _ h => h) (Or.inr ⟨by rfl, rfl⟩) ?_ ?_
  rotate_left
  ·
   simp only [mP]
   rfl
  refine pure_ (i := 13) (N := some 16) (v := undef) (a' := ?_) #[true, true, true, true, true, true, true, true, true, true, true, true, true, true, false, false, false, false, false, false, false] rfl rfl (any_of HT_.out (by kernel_rfl)) (fun _ _ _ h => h) (Or.inr ⟨by rfl, rfl⟩) ?_ ?_
  rotate_left
  ·
   simp only [mP]
   rfl
  refine pure_ (i := 14) (N := some 17) (v := undef) (a' := ?_) #[true, true, true, true, true, true, true, true, true, true, true, true, true, true, true, false, false, false, false, false, false] rfl rfl (any_of HT_.out (by kernel_rfl)) (fun _ _ _ h => h) (Or.inr ⟨by rfl, rfl⟩) ?_ ?_
  rotate_left
  ·
   simp only [mP]
   rfl
  refine pure_ (i := 15) (N := some 18) (v := undef) (a' := ?_) #[true, true, true, true, true, true, true, true, true, true, true, true, true, true, true, true, false, false, false, false, false] rfl rfl (any_of HT_.out (by kernel_rfl)) (fun _ _ _ h => h) (Or.inr ⟨by rfl, rfl⟩) ?_ ?_
  rotate_left
  ·
   simp only [mP]
   rfl
  refine pM 16 19 HT_ ?_
  refine pM 17 20 HT_ ?_
  refine one_ (i := 18) (N := some 21) #[true, true, true, true, true, true, true, true, true, true, true, true, true, true, true, true, true, true, true, false, false] rfl rfl (one_of HT_.out (by kernel_rfl)) (by decide) (fun K hK => ?_)
  refine goes_ Tryd.func13 (by kernel_rfl) rfl #[] (by rfl) rfl rfl (by (try simp only [List.map_toArray, List.map_cons, List.map_nil]); first | done | rfl | (simp only [List.length_drop, List.length_take]; rfl)) ?_
  with_reducible refine (dancestudiolaw45_awake.calls k  t512 _ ?sidem_ A8.out).mono ?_
  case sidem_ => exact Mx.below HMX_.out HB.out
  rintro e w11 ⟨rfl, hb⟩
  refine ⟨_, rfl, ?_⟩
  replace BK1 := mBb BK1 hb; replace HB := mSt HB hb
  (try clear hb)
  (try clear hb2)
  (try clear hk)
  (try clear hi)
  refine hK.out _ _ ⟨blk_cell BK1.out 0, blk_cell BK1.out 1⟩ (fun hHeld => ?_)
  clear hK K
  refine norm_ (by show Act.put _ (some 21) _ = _; simp only [mP]; rfl) ?_
  refine pM 19 22 HT_ ?_
  refine pM 20 2 HT_ ?_
  refine done_ (done_of HT_.out (by kernel_rfl)) ?_
  try go_wp2
  go_ret
  exact ⟨rfl, HB.out⟩
 rw [if_neg c7] at H
 have c7b0 := decide_eq_false c7
 have c7b1 : decide (60 < a0_0.size) = false := decide_eq_false (by omega)
 clear c7
 replace H := Option.bind_eq_some_iff.mp H
 obtain ⟨t513, A120, H⟩ := H
 try dsimp only at H
 have A12 := Aside0.mk A120
 clear A120
 replace H := Option.bind_eq_some_iff.mp H
 obtain ⟨t514, A130, H⟩ := H
 try dsimp only at H
 have A13 := Aside0.mk A130
 clear A130
 by_cases c14 : t513 = t514
 rotate_left
 ·
  rw [if_neg c14] at H
  have c14b0 := beq_eq_false_iff_ne.mpr c14
  have c14b1 := bne_iff_ne.mpr c14
  exact absurd H (by simp)
 rw [if_pos c14] at H
 have c14b0 := beq_iff_eq.mpr c14
 have c14b1 := bne_eq_false_iff_eq.mpr c14
 clear c14
 replace H := Option.bind_eq_some_iff.mp H
 obtain ⟨t515, A150, H⟩ := H
 try dsimp only at H
 have A15 := Aside0.mk A150
 clear A150
 obtain rfl := Option.some.inj H
 go_enter Tryd.func3, Tryd.ntmps3
 try go_wp2_with (first | ((with_reducible refine gate_dst (N := 1) rfl ?_); (try (refine gate_guard (by rfl) ?_; dsimp only)); refine box_event rfl (N := 1) rfl (cs := #[.string a0_0, .slice A0_1 l0_1.length c0_1]) (t := 24) (by first | (go_simp; done) | (go_simp; rfl)) ?_; intro gb1 hg w16 hbox hb; have BK1 := Aside0.mk hbox; have GW1 := mGw HB hg; have GE1 := GW1; replace HB := mSt HB hb; clear hb hbox hg))
 replace BK1 := Aside0.mk (blk_drew BK1.out); replace HB := Aside0.mk (below_drew1 HB.out)
 refine start_ (n := 21) (S := fun w' => w'.cell? ⟨gb1, 0, none⟩ = some (.string a0_0) ∧ w'.cell? ⟨gb1, 1, none⟩ = some (.slice A0_1 l0_1.length c0_1)) (ds := []) #[false, false, false, false, false, false, false, false, false, false, false, false, false, false, false, false, false, false, false, false, false] (by kernel_rfl) rfl rfl ⟨(blk_cell BK1.out 0).trans rfl, (blk_cell BK1.out 1).trans rfl⟩ (fun hHeld => ?_); refine with_tabW dancestudiolaw45_FormationChecks.tab1 dancestudiolaw45_FormationChecks.bits1 (fun HT_ HW_ => ?_)
 generalize w16.drew = w17 at BK1 HB hHeld ⊢
 refine pM 0 3 HT_ ?_
 refine tM 1 4 rfl HT_ HW_ (by rintro w' ⟨s0, s1⟩; go_simp; with_reducible rfl) hHeld ?_
 refine pM 2 5 HT_ ?_
 refine pM 3 6 HT_ ?_
 refine pM 4 7 HT_ ?_
 refine pM 5 8 HT_ ?_
 refine tM 6 9 rfl HT_ HW_ (by rintro w' ⟨s0, s1⟩; go_simp; with_reducible rfl) hHeld ?_
 refine pM 7 10 HT_ ?_
 refine pM 8 11 HT_ ?_
 refine pM 9 12 HT_ ?_
 refine pM 10 13 HT_ ?_
 refine tM 11 14 rfl HT_ HW_ (by rintro w' ⟨s0, s1⟩; go_simp; with_reducible rfl) hHeld ?_
 refine tM 13 16 rfl HT_ HW_ (by rintro w' ⟨s0, s1⟩; go_simp; with_reducible rfl) hHeld ?_
 refine one_ (i := 12) (N := some 15) #[true, true, true, true, true, true, true, true, true, true, true, true, true, true, false, false, false, false, false, false, false] rfl rfl (one_of HT_.out (by kernel_rfl)) (by decide) (fun K hK => ?_)
 refine goes_ Tryd.func11 (by kernel_rfl) rfl #[.agg #[.string a0_0, .slice A0_1 l0_1.length c0_1]] (by rfl) rfl rfl (by (try simp only [List.map_toArray, List.map_cons, List.map_nil]); first | done | rfl | (simp only [List.length_drop, List.length_take]; rfl)) ?_
 with_reducible refine (formation_Check.calls k a0_0 _ _ l0_1 t513 _ ?side1 ?side2 ?sidem_ A12.out).mono ?_
 case sidem_ => exact Mx.below HMX_.out HB.out
 (case side1 => exact Kd.C_below HR0_1.out HB.out)
 (case side2 => exact HC0_1.out)
 rintro e w18 ⟨rfl, hb⟩
 refine ⟨_, rfl, ?_⟩
 replace BK1 := mBb BK1 hb; replace HB := mSt HB hb
 (try clear hb)
 (try clear hb2)
 (try clear hk)
 (try clear hi)
 refine hK.out _ _ ⟨blk_cell BK1.out 0, blk_cell BK1.out 1⟩ (fun hHeld => ?_)
 clear hK K
 refine norm_ (by show Act.put _ (some 15) _ = _; simp only [mP]; rfl) ?_
 refine one_ (i := 14) (N := some 17) #[true, true, true, true, true, true, true, true, true, true, true, true, true, true, true, false, false, false, false, false, false] rfl rfl (one_of HT_.out (by kernel_rfl)) (by decide) (fun K hK => ?_)
 refine goes_ Tryd.func12 (by kernel_rfl) rfl #[.agg #[.string a0_0, .slice A0_1 l0_1.length c0_1]] (by rfl) rfl rfl (by (try simp only [List.map_toArray, List.map_cons, List.map_nil]); first | done | rfl | (simp only [List.length_drop, List.length_take]; rfl)) ?_
 with_reducible refine (dancestudioref45_Check.calls k a0_0 _ _ l0_1 t514 _ ?side1 ?side2 A13.out).mono ?_
 (case side1 => exact Kd.C_below HR0_1.out HB.out)
 (case side2 => exact HC0_1.out)
 rintro e w19 ⟨rfl, hb⟩
 refine ⟨_, rfl, ?_⟩
 replace BK1 := mBb BK1 hb; replace HB := mSt HB hb
 (try clear hb)
 (try clear hb2)
 (try clear hk)
 (try clear hi)
 refine hK.out _ _ ⟨blk_cell BK1.out 0, blk_cell BK1.out 1⟩ (fun hHeld => ?_)
 clear hK K
 refine norm_ (by show Act.put _ (some 17) _ = _; simp only [mP]; rfl) ?_
 refine pM 15 18 HT_ ?_
 refine pM 16 19 HT_ ?_
 refine pM 17 20 HT_ ?_
 refine one_ (i := 18) (N := some 21) #[true, true, true, true, true, true, true, true, true, true, true, true, true, true, true, true, true, true, true, false, false] rfl rfl (one_of HT_.out (by kernel_rfl)) (by decide) (fun K hK => ?_)
 refine goes_ Tryd.func13 (by kernel_rfl) rfl #[] (by rfl) rfl rfl (by (try simp only [List.map_toArray, List.map_cons, List.map_nil]); first | done | rfl | (simp only [List.length_drop, List.length_take]; rfl)) ?_
 with_reducible refine (dancestudiolaw45_awake.calls k  t515 _ ?sidem_ A15.out).mono ?_
 case sidem_ => exact Mx.below HMX_.out HB.out
 rintro e w20 ⟨rfl, hb⟩
 refine ⟨_, rfl, ?_⟩
 replace BK1 := mBb BK1 hb; replace HB := mSt HB hb
 (try clear hb)
 (try clear hb2)
 (try clear hk)
 (try clear hi)
 refine hK.out _ _ ⟨blk_cell BK1.out 0, blk_cell BK1.out 1⟩ (fun hHeld => ?_)
 clear hK K
 refine norm_ (by show Act.put _ (some 21) _ = _; simp only [mP]; rfl) ?_
 refine pM 19 22 HT_ ?_
 refine pM 20 2 HT_ ?_
 refine done_ (done_of HT_.out (by kernel_rfl)) ?_
 try go_wp2
 go_ret
 exact ⟨rfl, HB.out⟩
end Go.Proofs.YtaggccbndmmbhaaDoor.PAll
