-- Written by wip/tools/handprint.py: walks of the functions that the law reaches; Lean checks them.
import Derived.Test.YtaggccbndmmbhaaDoorBase
import Derived.Test.YtaggccbndmmbhaaDoorPAllf73
namespace Go.Proofs.YtaggccbndmmbhaaDoor.PAll
open Go.RowKit Go.Proofs.YtaggccbndmmbhaaDoorW.PrintWords Go.Proofs.YtaggccbndmmbhaaDoorW.PrintLast Go.Proofs.YtaggccbndmmbhaaDoorW.PrintMore
attribute [local go_sem] max2_int min2_int max_two min_two max_three min_three max_four min_four   -- for this text's walks alone
set_option linter.unusedVariables false
set_option linter.unusedSimpArgs false

/-! ### geom_nearest: function 62 -/
def geom_nearest.f (k : Nat) (a0_0 : Int) (a0_1 : Int) (a1_0 : Int) (a1_1 : Int) (a2 : Int) : Option (Int) := (geom_dot.f a0_0 a0_1 a1_0 a1_1).bind fun t315 => ((geom_dot.f a1_0 a1_1 a1_0 a1_1).bind fun t316 => (if (wrap64 (-t315)) ≤ 0 then ((geom_dot.f a0_0 a0_1 a0_0 a0_1).bind fun t318 => ((num_Compare.f k t318 1 a2 1).bind fun bt319 => (some bt319.1))) else (if (wrap64 (-t315)) ≥ t316 then ((geom_dot.f (wrap64 (a0_0 + a1_0)) (wrap64 (a0_1 + a1_1)) (wrap64 (a0_0 + a1_0)) (wrap64 (a0_1 + a1_1))).bind fun t321 => ((num_Compare.f k t321 1 a2 1).bind fun bt322 => (some bt322.1))) else ((geom_cross.f a0_0 a0_1 a1_0 a1_1).bind fun t324 => ((num_Compare.f k t324 t324 a2 t316).bind fun bt325 => (some bt325.1))))))
def geom_nearest.T1 : Bool × List (List Nat × List Nat) := (true, [([], []), ([], []), ([0, 1], [0, 1]), ([2], [2]), ([], []), ([], []), ([4, 5, 2], [4, 5]), ([3, 6, 0, 1, 2, 3], [3]), ([6, 7, 0, 1, 2, 3, 4, 5, 6, 7], [6])])
def geom_nearest.B1 : List Nat := [0, 0, 3, 7, 0, 0, 55, 127, 255]
theorem geom_nearest.tab1 : rtab .any (opsOf Tryd.f62 1) = geom_nearest.T1 := by kernel_rfl
theorem geom_nearest.bits1 : waitsOk geom_nearest.T1.2 geom_nearest.B1 = true := by kernel_rfl
set_option maxHeartbeats 8000000 in
set_option maxRecDepth 100000 in
theorem geom_nearest.calls (k : Nat) (a0_0 : Int) (a0_1 : Int) (a1_0 : Int) (a1_1 : Int) (a2 : Int) (r : Int) (w : World) (h : geom_nearest.f k a0_0 a0_1 a1_0 a1_1 a2 = some r) :
  Calls Tryd.prog 62 #[.agg #[.int .i64 a0_0, .int .i64 a0_1], .agg #[.int .i64 a1_0, .int .i64 a1_1], .int .i64 a2] w fun e w' => e = .returned (.int .i64 r) ∧ Below w.heap.size w w' := by
 have hu52 := Tryd.underlying52
 have HB := Aside0.mk (Below.refl w.heap.size w)
 have H := h
 unfold geom_nearest.f at H
 clear h
 replace H := Option.bind_eq_some_iff.mp H
 obtain ⟨t315, A40, H⟩ := H
 try dsimp only at H
 have A4 := Aside0.mk A40
 clear A40
 replace H := Option.bind_eq_some_iff.mp H
 obtain ⟨t316, A50, H⟩ := H
 try dsimp only at H
 have A5 := Aside0.mk A50
 clear A50
 go_enter Tryd.func62, Tryd.ntmps62
 try go_wp2_with (first | ((with_reducible refine gate_dst (N := 3) rfl ?_); refine box_event rfl (N := 3) rfl (cs := #[.int .i64 a0_0, .int .i64 a0_1]) (t := 52) (by first | (go_simp; done) | (go_simp; rfl)) ?_; intro gb1 hg w9 hbox hb; have BK1 := Aside0.mk hbox; have GW1 := mGw HB hg; have GE1 := GW1; replace HB := mSt HB hb; clear hb hbox hg) | ((with_reducible refine gate_dst (N := 4) rfl ?_); refine box_event rfl (N := 4) rfl (cs := #[.int .i64 a1_0, .int .i64 a1_1]) (t := 52) (by first | (go_simp; done) | (go_simp; rfl)) ?_; intro gb2 hg w10 hbox hb; have BK2 := Aside0.mk hbox; have GW2 := mGw HB hg; have GE2 := GW2; replace HB := mSt HB hb; have NB1_2 := mNe BK1 hg; have NB2_1 := mSy NB1_2; replace BK1 := mBb BK1 hb; clear hb hbox hg))
 replace BK1 := Aside0.mk (blk_drew BK1.out); replace BK2 := Aside0.mk (blk_drew BK2.out); replace HB := Aside0.mk (below_drew1 HB.out)
 refine start_ (n := 9) (S := fun w' => w'.cell? ⟨gb1, 0, none⟩ = some (.int .i64 a0_0) ∧ w'.cell? ⟨gb1, 1, none⟩ = some (.int .i64 a0_1) ∧ w'.cell? ⟨gb2, 0, none⟩ = some (.int .i64 a1_0) ∧ w'.cell? ⟨gb2, 1, none⟩ = some (.int .i64 a1_1)) (ds := []) #[false, false, false, false, false, false, false, false, false] (by kernel_rfl) rfl rfl ⟨(blk_cell BK1.out 0).trans rfl, (blk_cell BK1.out 1).trans rfl, (blk_cell BK2.out 0).trans rfl, (blk_cell BK2.out 1).trans rfl⟩ (fun hHeld => ?_); refine with_tabW geom_nearest.tab1 geom_nearest.bits1 (fun HT_ HW_ => ?_)
 generalize w10.drew = w11 at BK1 BK2 HB hHeld ⊢
 refine tM 0 16 rfl HT_ HW_ (by rintro w' ⟨s0, s1, s2, s3⟩; go_simp; with_reducible rfl) hHeld ?_
 refine tM 1 17 rfl HT_ HW_ (by rintro w' ⟨s0, s1, s2, s3⟩; go_simp; with_reducible rfl) hHeld ?_
 refine tM 4 20 rfl HT_ HW_ (by rintro w' ⟨s0, s1, s2, s3⟩; go_simp; with_reducible rfl) hHeld ?_
 refine tM 5 21 rfl HT_ HW_ (by rintro w' ⟨s0, s1, s2, s3⟩; go_simp; with_reducible rfl) hHeld ?_
 refine one_ (i := 2) (N := some 18) #[true, true, true, false, true, true, false, false, false] rfl rfl (one_of HT_.out (by kernel_rfl)) (by decide) (fun K hK => ?_)
 refine goes_ Tryd.func48 (by kernel_rfl) rfl #[.agg #[.int .i64 a0_0, .int .i64 a0_1], .agg #[.int .i64 a1_0, .int .i64 a1_1]] (by rfl) rfl rfl (by (try simp only [List.map_toArray, List.map_cons, List.map_nil]); first | done | rfl | (simp only [List.length_drop, List.length_take]; rfl)) ?_
 with_reducible refine (geom_dot.calls a0_0 a0_1 a1_0 a1_1 t315 _ A4.out).mono ?_
 rintro e w12 ⟨rfl, hb⟩
 refine ⟨_, rfl, ?_⟩
 replace BK1 := mBb BK1 hb; replace BK2 := mBb BK2 hb; replace HB := mSt HB hb
 (try clear hb)
 (try clear hb2)
 (try clear hk)
 (try clear hi)
 refine hK.out _ _ ⟨blk_cell BK1.out 0, blk_cell BK1.out 1, blk_cell BK2.out 0, blk_cell BK2.out 1⟩ (fun hHeld => ?_)
 clear hK K
 refine norm_ (by show Act.put _ (some 18) _ = _; simp only [mP]; rfl) ?_
 refine pM 3 19 HT_ ?_
 refine one_ (i := 6) (N := some 22) #[true, true, true, true, true, true, true, false, false] rfl rfl (one_of HT_.out (by kernel_rfl)) (by decide) (fun K hK => ?_)
 refine goes_ Tryd.func48 (by kernel_rfl) rfl #[.agg #[.int .i64 a1_0, .int .i64 a1_1], .agg #[.int .i64 a1_0, .int .i64 a1_1]] (by rfl) rfl rfl (by (try simp only [List.map_toArray, List.map_cons, List.map_nil]); first | done | rfl | (simp only [List.length_drop, List.length_take]; rfl)) ?_
 with_reducible refine (geom_dot.calls a1_0 a1_1 a1_0 a1_1 t316 _ A5.out).mono ?_
 rintro e w13 ⟨rfl, hb⟩
 refine ⟨_, rfl, ?_⟩
 replace BK1 := mBb BK1 hb; replace BK2 := mBb BK2 hb; replace HB := mSt HB hb
 (try clear hb)
 (try clear hb2)
 (try clear hk)
 (try clear hi)
 refine hK.out _ _ ⟨blk_cell BK1.out 0, blk_cell BK1.out 1, blk_cell BK2.out 0, blk_cell BK2.out 1⟩ (fun hHeld => ?_)
 clear hK K
 refine norm_ (by show Act.put _ (some 22) _ = _; simp only [mP]; rfl) ?_
 refine pM 7 7 HT_ ?_
 refine pM 8 8 HT_ ?_
 refine done_ (done_of HT_.out (by kernel_rfl)) ?_
 by_cases c6 : (wrap64 (-t315)) ≤ 0
 ·
  rw [if_pos c6] at H
  have c6b0 := decide_eq_true c6
  clear c6
  replace H := Option.bind_eq_some_iff.mp H
  obtain ⟨t318, A70, H⟩ := H
  try dsimp only at H
  have A7 := Aside0.mk A70
  clear A70
  replace H := Option.bind_eq_some_iff.mp H
  obtain ⟨⟨t319, t320⟩, A80, H⟩ := H
  try dsimp only at H
  have A8 := Aside0.mk A80
  clear A80
  obtain rfl := Option.some.inj H
  have hnb14 := NB1_2.out
  have hnc14 := NB2_1.out
  have hcz15 := blk_cell BK1.out; have hfz15 := blk_frozen BK1.out; have hcz16 := blk_cell BK2.out; have hfz16 := blk_frozen BK2.out
  try go_wp2_with (first | ((with_reducible refine gate_dst (N := 9) rfl ?_); refine box_event rfl (N := 9) rfl (cs := #[.int .i64 0, .int .i64 0]) (t := 52) (by first | (go_simp; done) | (go_simp; rfl)) ?_; intro gb3 hg w17 hbox hb; have BK3 := Aside0.mk hbox; have GW3 := Aside0.mk ((by rw [hg]; exact (below_size (hO HB)) : w.heap.size ≤ gb3)); have GE3 := GW3; replace HB := mSx HB hb; have NB1_3 := mNe BK1 hg; have NB3_1 := mSy NB1_3; replace BK1 := mBb BK1 hb; have NB2_3 := mNe BK2 hg; have NB3_2 := mSy NB2_3; replace BK2 := mBb BK2 hb; clear hb hbox hg; have hnb18 := NB3_1.out; have hnc18 := NB1_3.out; have hnb19 := NB3_2.out; have hnc19 := NB2_3.out; have hcz20 := blk_cell BK3.out; have hfz20 := blk_frozen BK3.out; have hcz21 := blk_cell BK1.out; have hfz21 := blk_frozen BK1.out) | ((with_reducible refine gate_callee (f := 48) rfl ?_); refine goesL_ (some 51) rfl rfl Tryd.func48 (by kernel_rfl) rfl #[.agg #[.int .i64 a0_0, .int .i64 a0_1], .agg #[.int .i64 a0_0, .int .i64 a0_1]] rfl (mA2 rfl rfl) ?_; (with_reducible refine (geom_dot.calls a0_0 a0_1 a0_0 a0_1 t318 _ A7.out).mono ?_); rintro e w22 ⟨rfl, hb⟩; refine ⟨_, rfl, ?_⟩; replace BK1 := Aside0.mk (blk_below (g := gb1) (o := .cells #[.int .i64 a0_0, .int .i64 a0_1] 52 (0, 0)) (by refine blk_far ?_ NB1_3.out _; refine blk_far ?_ NB1_3.out _; exact BK1.out) hb); replace BK2 := Aside0.mk (blk_below (g := gb2) (o := .cells #[.int .i64 a1_0, .int .i64 a1_1] 52 (0, 0)) (by refine blk_far ?_ NB2_3.out _; refine blk_far ?_ NB2_3.out _; exact BK2.out) hb); replace BK3 := Aside0.mk (blk_below (g := gb3) (o := .cells #[.int .i64 (wrap64 (a0_0 + a1_0)), .int .i64 (wrap64 (a0_1 + a1_1))] 52 (0, 0)) (by refine blk_put (cs := #[.int .i64 (wrap64 (a0_0 + a1_0)), .int .i64 0]) ?_ 1 _ rfl; refine blk_put (cs := #[.int .i64 0, .int .i64 0]) ?_ 0 _ rfl; exact BK3.out) hb); replace HB := mSx HB hb; (try clear hb)) | ((with_reducible refine gate_callee (f := 73) rfl ?_); refine goesL_ (some 62) rfl rfl Tryd.func73 (by kernel_rfl) rfl #[.int .i64 t318, .int .i64 1, .int .i64 a2, .int .i64 1] rfl (mA4 rfl rfl rfl rfl) ?_; (with_reducible refine (num_Compare.calls k t318 1 a2 1 t319 t320 _ A8.out).mono ?_); rintro e w23 ⟨rfl, hb⟩; refine ⟨_, rfl, ?_⟩; replace BK1 := mBb BK1 hb; replace BK2 := mBb BK2 hb; replace BK3 := mBb BK3 hb; replace HB := mSx HB hb; (try clear hb)))
  go_ret
  exact ⟨rfl, HB.out⟩
 rw [if_neg c6] at H
 have c6b0 := decide_eq_false c6
 clear c6
 by_cases c24 : (wrap64 (-t315)) ≥ t316
 rotate_left
 ·
  rw [if_neg c24] at H
  have c24b0 := decide_eq_false c24
  clear c24
  replace H := Option.bind_eq_some_iff.mp H
  obtain ⟨t324, A410, H⟩ := H
  try dsimp only at H
  have A41 := Aside0.mk A410
  clear A410
  replace H := Option.bind_eq_some_iff.mp H
  obtain ⟨⟨t325, t326⟩, A420, H⟩ := H
  try dsimp only at H
  have A42 := Aside0.mk A420
  clear A420
  obtain rfl := Option.some.inj H
  have hnb48 := NB1_2.out
  have hnc48 := NB2_1.out
  have hcz49 := blk_cell BK1.out; have hfz49 := blk_frozen BK1.out; have hcz50 := blk_cell BK2.out; have hfz50 := blk_frozen BK2.out
  try go_wp2_with (first | ((with_reducible refine gate_dst (N := 9) rfl ?_); refine box_event rfl (N := 9) rfl (cs := #[.int .i64 0, .int .i64 0]) (t := 52) (by first | (go_simp; done) | (go_simp; rfl)) ?_; intro gb3 hg w51 hbox hb; have BK3 := Aside0.mk hbox; have GW3 := Aside0.mk ((by rw [hg]; exact (below_size (hO HB)) : w.heap.size ≤ gb3)); have GE3 := GW3; replace HB := mSx HB hb; have NB1_3 := mNe BK1 hg; have NB3_1 := mSy NB1_3; replace BK1 := mBb BK1 hb; have NB2_3 := mNe BK2 hg; have NB3_2 := mSy NB2_3; replace BK2 := mBb BK2 hb; clear hb hbox hg; have hnb52 := NB3_1.out; have hnc52 := NB1_3.out; have hnb53 := NB3_2.out; have hnc53 := NB2_3.out; have hcz54 := blk_cell BK3.out; have hfz54 := blk_frozen BK3.out; have hcz55 := blk_cell BK1.out; have hfz55 := blk_frozen BK1.out; have hcz56 := blk_cell BK2.out; have hfz56 := blk_frozen BK2.out) | ((with_reducible refine gate_callee (f := 72) rfl ?_); refine goesL_ (some 36) rfl rfl Tryd.func72 (by kernel_rfl) rfl #[.agg #[.int .i64 a0_0, .int .i64 a0_1], .agg #[.int .i64 a1_0, .int .i64 a1_1]] rfl (mA2 rfl rfl) ?_; (with_reducible refine (geom_cross.calls a0_0 a0_1 a1_0 a1_1 t324 _ A41.out).mono ?_); rintro e w57 ⟨rfl, hb⟩; refine ⟨_, rfl, ?_⟩; replace BK1 := Aside0.mk (blk_below (g := gb1) (o := .cells #[.int .i64 a0_0, .int .i64 a0_1] 52 (0, 0)) (by refine blk_far ?_ NB1_3.out _; refine blk_far ?_ NB1_3.out _; exact BK1.out) hb); replace BK2 := Aside0.mk (blk_below (g := gb2) (o := .cells #[.int .i64 a1_0, .int .i64 a1_1] 52 (0, 0)) (by refine blk_far ?_ NB2_3.out _; refine blk_far ?_ NB2_3.out _; exact BK2.out) hb); replace BK3 := Aside0.mk (blk_below (g := gb3) (o := .cells #[.int .i64 (wrap64 (a0_0 + a1_0)), .int .i64 (wrap64 (a0_1 + a1_1))] 52 (0, 0)) (by refine blk_put (cs := #[.int .i64 (wrap64 (a0_0 + a1_0)), .int .i64 0]) ?_ 1 _ rfl; refine blk_put (cs := #[.int .i64 0, .int .i64 0]) ?_ 0 _ rfl; exact BK3.out) hb); replace HB := mSx HB hb; (try clear hb)) | ((with_reducible refine gate_callee (f := 73) rfl ?_); refine goesL_ (some 42) rfl rfl Tryd.func73 (by kernel_rfl) rfl #[.int .i64 t324, .int .i64 t324, .int .i64 a2, .int .i64 t316] rfl (mA4 rfl rfl rfl rfl) ?_; (with_reducible refine (num_Compare.calls k t324 t324 a2 t316 t325 t326 _ A42.out).mono ?_); rintro e w58 ⟨rfl, hb⟩; refine ⟨_, rfl, ?_⟩; replace BK1 := mBb BK1 hb; replace BK2 := mBb BK2 hb; replace BK3 := mBb BK3 hb; replace HB := mSx HB hb; (try clear hb)))
  go_ret
  exact ⟨rfl, HB.out⟩
 rw [if_pos c24] at H
 have c24b0 := decide_eq_true c24
 clear c24
 replace H := Option.bind_eq_some_iff.mp H
 obtain ⟨t321, A250, H⟩ := H
 try dsimp only at H
 have A25 := Aside0.mk A250
 clear A250
 replace H := Option.bind_eq_some_iff.mp H
 obtain ⟨⟨t322, t323⟩, A260, H⟩ := H
 try dsimp only at H
 have A26 := Aside0.mk A260
 clear A260
 obtain rfl := Option.some.inj H
 have hnb32 := NB1_2.out
 have hnc32 := NB2_1.out
 have hcz33 := blk_cell BK1.out; have hfz33 := blk_frozen BK1.out; have hcz34 := blk_cell BK2.out; have hfz34 := blk_frozen BK2.out
 try go_wp2_with (first | ((with_reducible refine gate_dst (N := 9) rfl ?_); refine box_event rfl (N := 9) rfl (cs := #[.int .i64 0, .int .i64 0]) (t := 52) (by first | (go_simp; done) | (go_simp; rfl)) ?_; intro gb3 hg w35 hbox hb; have BK3 := Aside0.mk hbox; have GW3 := Aside0.mk ((by rw [hg]; exact (below_size (hO HB)) : w.heap.size ≤ gb3)); have GE3 := GW3; replace HB := mSx HB hb; have NB1_3 := mNe BK1 hg; have NB3_1 := mSy NB1_3; replace BK1 := mBb BK1 hb; have NB2_3 := mNe BK2 hg; have NB3_2 := mSy NB2_3; replace BK2 := mBb BK2 hb; clear hb hbox hg; have hnb36 := NB3_1.out; have hnc36 := NB1_3.out; have hnb37 := NB3_2.out; have hnc37 := NB2_3.out; have hcz38 := blk_cell BK3.out; have hfz38 := blk_frozen BK3.out) | ((with_reducible refine gate_callee (f := 48) rfl ?_); refine goesL_ (some 58) rfl rfl Tryd.func48 (by kernel_rfl) rfl #[.agg #[.int .i64 (wrap64 (a0_0 + a1_0)), .int .i64 (wrap64 (a0_1 + a1_1))], .agg #[.int .i64 (wrap64 (a0_0 + a1_0)), .int .i64 (wrap64 (a0_1 + a1_1))]] rfl (mA2 rfl rfl) ?_; (with_reducible refine (geom_dot.calls (wrap64 (a0_0 + a1_0)) (wrap64 (a0_1 + a1_1)) (wrap64 (a0_0 + a1_0)) (wrap64 (a0_1 + a1_1)) t321 _ A25.out).mono ?_); rintro e w39 ⟨rfl, hb⟩; refine ⟨_, rfl, ?_⟩; replace BK1 := Aside0.mk (blk_below (g := gb1) (o := .cells #[.int .i64 a0_0, .int .i64 a0_1] 52 (0, 0)) (by refine blk_far ?_ NB1_3.out _; refine blk_far ?_ NB1_3.out _; exact BK1.out) hb); replace BK2 := Aside0.mk (blk_below (g := gb2) (o := .cells #[.int .i64 a1_0, .int .i64 a1_1] 52 (0, 0)) (by refine blk_far ?_ NB2_3.out _; refine blk_far ?_ NB2_3.out _; exact BK2.out) hb); replace BK3 := Aside0.mk (blk_below (g := gb3) (o := .cells #[.int .i64 (wrap64 (a0_0 + a1_0)), .int .i64 (wrap64 (a0_1 + a1_1))] 52 (0, 0)) (by refine blk_put (cs := #[.int .i64 (wrap64 (a0_0 + a1_0)), .int .i64 0]) ?_ 1 _ rfl; refine blk_put (cs := #[.int .i64 0, .int .i64 0]) ?_ 0 _ rfl; exact BK3.out) hb); replace HB := mSx HB hb; (try clear hb)) | ((with_reducible refine gate_callee (f := 73) rfl ?_); refine goesL_ (some 62) rfl rfl Tryd.func73 (by kernel_rfl) rfl #[.int .i64 t321, .int .i64 1, .int .i64 a2, .int .i64 1] rfl (mA4 rfl rfl rfl rfl) ?_; (with_reducible refine (num_Compare.calls k t321 1 a2 1 t322 t323 _ A26.out).mono ?_); rintro e w40 ⟨rfl, hb⟩; refine ⟨_, rfl, ?_⟩; replace BK1 := mBb BK1 hb; replace BK2 := mBb BK2 hb; replace BK3 := mBb BK3 hb; replace HB := mSx HB hb; (try clear hb)))
 go_ret
 exact ⟨rfl, HB.out⟩
end Go.Proofs.YtaggccbndmmbhaaDoor.PAll
