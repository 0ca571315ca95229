-- Written by wip/tools/handprint.py: walks of the functions that the law reaches; Lean checks them.
import Derived.Test.YtaggccbndmmbhaaDoorBase
import Derived.Test.YtaggccbndmmbhaaDoorPAllf65
namespace Go.Proofs.YtaggccbndmmbhaaDoor.PAll
open Go.RowKit Go.Proofs.YtaggccbndmmbhaaDoorW.PrintWords Go.Proofs.YtaggccbndmmbhaaDoorW.PrintLast Go.Proofs.YtaggccbndmmbhaaDoorW.PrintMore
attribute [local go_sem] max2_int min2_int max_two min_two max_three min_three max_four min_four   -- for this text's walks alone
set_option linter.unusedVariables false
set_option linter.unusedSimpArgs false

/-! ### angle_Turned: function 44 -/
def angle_Turned.f (k : Nat) (a0_0 : Int) (a0_1 : Int) (a1 : Int) : Option (Int × Int × Int) := if -32768 ≤ a0_0 ∧ a0_0 ≤ 32768 ∧ -32768 ≤ a0_1 ∧ a0_1 ≤ 32768 then ((angle_Cos.f a1).bind fun t385 => ((angle_Sin.f a1).bind fun t386 => ((num_Round.f k (wrap64 ((wrap64 (a0_0 * t385)) + (wrap64 (a0_1 * t386)))) 16384).bind fun bt387 => ((angle_Cos.f a1).bind fun t389 => ((angle_Sin.f a1).bind fun t390 => ((num_Round.f k (wrap64 ((wrap64 (a0_1 * t389)) - (wrap64 (a0_0 * t390)))) 16384).bind fun bt391 => (if bt387.2 = 0 ∧ bt391.2 = 0 then (some (bt387.1, bt391.1, 0)) else none))))))) else none
def angle_Turned.T7 : Bool × List (List Nat × List Nat) := (true, [([], []), ([0], [0]), ([], []), ([2], [2]), ([1, 3], [1, 3]), ([], []), ([5], [5]), ([], []), ([7, 3], [7]), ([6, 8], [6, 8]), ([4, 9], [4, 9]), ([10, 8], [10]), ([11], [11]), ([12], [12]), ([12], [12]), ([13, 11, 0, 1, 2, 3, 4, 5, 6, 7, 8, 9, 10, 11, 12, 13], [13]), ([14, 15, 0, 1, 2, 3, 4, 5, 6, 7, 8, 9, 10, 11, 12, 13, 14, 15], [14])])
def angle_Turned.B7 : List Nat := [0, 1, 0, 4, 15, 0, 32, 0, 140, 492, 1023, 2047, 4095, 8191, 8191, 16383, 65535]
theorem angle_Turned.tab7 : rtab .any (opsOf Tryd.f44 7) = angle_Turned.T7 := by kernel_rfl
theorem angle_Turned.bits7 : waitsOk angle_Turned.T7.2 angle_Turned.B7 = true := by kernel_rfl
def angle_Turned.T10 : Bool × List (List Nat × List Nat) := (true, [([], []), ([0], [0]), ([], []), ([2], [2]), ([1, 3], [1, 3]), ([], []), ([5], [5]), ([], []), ([7, 3], [7]), ([6, 8], [6, 8]), ([4, 9], [4, 9]), ([10, 8], [10]), ([11], [11]), ([12], [12]), ([12], [12]), ([13, 11, 0, 1, 2, 3, 4, 5, 6, 7, 8, 9, 10, 11, 12, 13], [13]), ([14, 15, 0, 1, 2, 3, 4, 5, 6, 7, 8, 9, 10, 11, 12, 13, 14, 15], [14])])
def angle_Turned.B10 : List Nat := [0, 1, 0, 4, 15, 0, 32, 0, 140, 492, 1023, 2047, 4095, 8191, 8191, 16383, 65535]
theorem angle_Turned.tab10 : rtab .any (opsOf Tryd.f44 10) = angle_Turned.T10 := by kernel_rfl
theorem angle_Turned.bits10 : waitsOk angle_Turned.T10.2 angle_Turned.B10 = true := by kernel_rfl
theorem ix0 (x y : Int) (w : World) : (Instr.index 85 (.agg #[.int .i64 x, .int .i64 y]) (.int .i64 0)).run Tryd.prog w = .ok (.int .i64 x) w := by
 have h : Tryd.prog.underlying 85 = some (.array 2 3) := Tryd.underlying85
 simp [Instr.index, run_underlying h, asIntOf, go_sem]
theorem ix1 (x y : Int) (w : World) : (Instr.index 85 (.agg #[.int .i64 x, .int .i64 y]) (.int .i64 1)).run Tryd.prog w = .ok (.int .i64 y) w := by
 have h : Tryd.prog.underlying 85 = some (.array 2 3) := Tryd.underlying85
 simp [Instr.index, run_underlying h, asIntOf, go_sem]
set_option maxHeartbeats 8000000 in
set_option maxRecDepth 100000 in
theorem angle_Turned.calls (k : Nat) (a0_0 : Int) (a0_1 : Int) (a1 : Int) (r1 : Int) (r2 : Int) (r3 : Int) (w : World) (hmx : Mx w) (h : angle_Turned.f k a0_0 a0_1 a1 = some (r1, r2, r3)) :
  Calls Tryd.prog 44 #[.agg #[.int .i64 a0_0, .int .i64 a0_1], .int .i64 a1] w fun e w' => e = .returned (.tuple #[.agg #[.int .i64 r1, .int .i64 r2], .int .i64 r3]) ∧ Below w.heap.size w w' := by
 have HMX_ := Aside0.mk hmx
 clear hmx
 have hu52 := Tryd.underlying52
 have HB := Aside0.mk (Below.refl w.heap.size w)
 by_cases hrg_ : -32768 ≤ a0_0 ∧ a0_0 ≤ 32768 ∧ -32768 ≤ a0_1 ∧ a0_1 ≤ 32768
 case neg => unfold angle_Turned.f at h; rw [if_neg hrg_] at h; cases h
 have H : ((angle_Cos.f a1).bind fun t385 => ((angle_Sin.f a1).bind fun t386 => ((num_Round.f k (wrap64 ((wrap64 (a0_0 * t385)) + (wrap64 (a0_1 * t386)))) 16384).bind fun bt387 => ((angle_Cos.f a1).bind fun t389 => ((angle_Sin.f a1).bind fun t390 => ((num_Round.f k (wrap64 ((wrap64 (a0_1 * t389)) - (wrap64 (a0_0 * t390)))) 16384).bind fun bt391 => (if bt387.2 = 0 ∧ bt391.2 = 0 then (some (bt387.1, bt391.1, 0)) else none))))))) = some (r1, r2, r3) := by unfold angle_Turned.f at h; rw [if_pos hrg_] at h; exact h
 obtain ⟨hrg1_, hrg2_, hrg3_, hrg4_⟩ := hrg_
 clear h
 replace H := Option.bind_eq_some_iff.mp H
 obtain ⟨t385, A30, H⟩ := H
 try dsimp only at H
 have A3 := Aside0.mk A30
 clear A30
 replace H := Option.bind_eq_some_iff.mp H
 obtain ⟨t386, A40, H⟩ := H
 try dsimp only at H
 have A4 := Aside0.mk A40
 clear A40
 replace H := Option.bind_eq_some_iff.mp H
 obtain ⟨⟨t387, t388⟩, A50, H⟩ := H
 try dsimp only at H
 have A5 := Aside0.mk A50
 clear A50
 replace H := Option.bind_eq_some_iff.mp H
 obtain ⟨t389, A60, H⟩ := H
 try dsimp only at H
 have A6 := Aside0.mk A60
 clear A60
 replace H := Option.bind_eq_some_iff.mp H
 obtain ⟨t390, A70, H⟩ := H
 try dsimp only at H
 have A7 := Aside0.mk A70
 clear A70
 replace H := Option.bind_eq_some_iff.mp H
 obtain ⟨⟨t391, t392⟩, A80, H⟩ := H
 try dsimp only at H
 have A8 := Aside0.mk A80
 clear A80
 by_cases hz_ : t388 = 0 ∧ t392 = 0
 case neg => rw [if_neg hz_] at H; cases H
 rw [if_pos hz_] at H
 obtain ⟨hz1_, hz2_⟩ := hz_
 have hz1a_ : (t388 == 0) = true := beq_iff_eq.mpr hz1_
 have hz1b_ : (t388 != 0) = false := bne_eq_false_iff_eq.mpr hz1_
 have hz2a_ : (t392 == 0) = true := beq_iff_eq.mpr hz2_
 have hz2b_ : (t392 != 0) = false := bne_eq_false_iff_eq.mpr hz2_
 simp only [Option.some.injEq, Prod.mk.injEq] at H
 obtain ⟨rfl, rfl, rfl⟩ := H
 have c1_ : decide (a0_0 < -32768) = false := decide_eq_false (by omega)
 have c2_ : decide (32768 < a0_0) = false := decide_eq_false (by omega)
 have c3_ : decide (a0_1 < -32768) = false := decide_eq_false (by omega)
 have c4_ : decide (32768 < a0_1) = false := decide_eq_false (by omega)
 have i0_ := ix0 a0_0 a0_1
 have i1_ := ix1 a0_0 a0_1
 go_enter Tryd.func44, Tryd.ntmps44
 try go_wp2_with (first | ((with_reducible refine gate_dst (N := 2) rfl ?_); refine box_event rfl (N := 2) rfl (cs := #[.int .i64 a0_0, .int .i64 a0_1]) (t := 52) (by first | (go_simp; done) | (go_simp; rfl)) ?_; intro gb1 hg w9 hbox hb; have BK1 := Aside0.mk hbox; have GW1 := mGw HB hg; have GE1 := GW1; replace HB := mSt HB hb; clear hb hbox hg) | ((with_reducible refine gate_dst (N := 4) rfl ?_); refine box_event rfl (N := 4) rfl (cs := #[.int .i64 0, .int .i64 0]) (t := 52) (by first | (go_simp; done) | (go_simp; rfl)) ?_; intro gb2 hg w10 hbox hb; have BK2 := Aside0.mk hbox; have GW2 := mGw HB hg; have GE2 := GW2; replace HB := mSt HB hb; have NB1_2 := mNe BK1 hg; have NB2_1 := mSy NB1_2; replace BK1 := mBb BK1 hb; clear hb hbox hg; have hnb11 := NB1_2.out; have hnc11 := NB2_1.out; have hcz12 := blk_cell BK1.out; have hfz12 := blk_frozen BK1.out))
 refine wp_loop_rounds 3 ?_
 rw [rounds_succ]
 go_wp2
 rw [rounds_succ]
 go_wp2
 rw [rounds_succ]
 try go_wp2_with (first | ((with_reducible refine gate_dst (N := 2) rfl ?_); refine box_event rfl (N := 2) rfl (cs := #[.int .i64 a0_0, .int .i64 a0_1]) (t := 52) (by first | (go_simp; done) | (go_simp; rfl)) ?_; intro gb1 hg w9 hbox hb; have BK1 := Aside0.mk hbox; have GW1 := mGw HB hg; have GE1 := GW1; replace HB := mSt HB hb; clear hb hbox hg) | ((with_reducible refine gate_dst (N := 4) rfl ?_); refine box_event rfl (N := 4) rfl (cs := #[.int .i64 0, .int .i64 0]) (t := 52) (by first | (go_simp; done) | (go_simp; rfl)) ?_; intro gb2 hg w10 hbox hb; have BK2 := Aside0.mk hbox; have GW2 := mGw HB hg; have GE2 := GW2; replace HB := mSt HB hb; have NB1_2 := mNe BK1 hg; have NB2_1 := mSy NB1_2; replace BK1 := mBb BK1 hb; clear hb hbox hg; have hnb11 := NB1_2.out; have hnc11 := NB2_1.out; have hcz12 := blk_cell BK1.out; have hfz12 := blk_frozen BK1.out))
 replace BK1 := Aside0.mk (blk_drew BK1.out); replace BK2 := Aside0.mk (blk_drew BK2.out); replace HB := Aside0.mk (below_drew1 HB.out)
 refine start_ (n := 17) (S := fun w' => w'.cell? ⟨gb1, 0, none⟩ = some (.int .i64 a0_0) ∧ w'.cell? ⟨gb1, 1, none⟩ = some (.int .i64 a0_1)) (ds := []) #[false, false, false, false, false, false, false, false, false, false, false, false, false, false, false, false, false] (by kernel_rfl) rfl rfl ⟨(blk_cell BK1.out 0).trans rfl, (blk_cell BK1.out 1).trans rfl⟩ (fun hHeld => ?_); refine with_tabW angle_Turned.tab7 angle_Turned.bits7 (fun HT_ HW_ => ?_)
 generalize w10.drew = w13 at BK1 BK2 HB hHeld ⊢
 refine pM 0 28 HT_ ?_
 refine pM 2 30 HT_ ?_
 refine pM 5 33 HT_ ?_
 refine pM 7 35 HT_ ?_
 refine tM 1 29 rfl HT_ HW_ (by rintro w' ⟨s0, s1⟩; go_simp; with_reducible rfl) hHeld ?_
 refine tM 6 34 rfl HT_ HW_ (by rintro w' ⟨s0, s1⟩; go_simp; with_reducible rfl) hHeld ?_
 refine one_ (i := 3) (N := some 31) #[true, true, true, true, false, true, true, true, false, false, false, false, false, false, false, false, false] rfl rfl (one_of HT_.out (by kernel_rfl)) (by decide) (fun K hK => ?_)
 refine goes_ Tryd.func66 (by kernel_rfl) rfl #[.int .i64 a1] (by rfl) rfl rfl (by (try simp only [List.map_toArray, List.map_cons, List.map_nil]); first | done | rfl | (simp only [List.length_drop, List.length_take]; rfl)) ?_
 with_reducible refine (angle_Cos.calls a1 t385 _ ?sidem_ A3.out).mono ?_
 case sidem_ => exact Mx.below HMX_.out HB.out
 rintro e w' ⟨rfl, ⟨nd, rfl⟩⟩
 refine ⟨_, rfl, ?_⟩
 refine hK.out _ _ ⟨blk_cell BK1.out 0, blk_cell BK1.out 1⟩ (fun hHeld => ?_)
 clear hK K
 refine norm_ (by show Act.put _ (some 31) _ = _; simp only [mP]; rfl) ?_
 refine pM 4 32 HT_ ?_
 refine one_ (i := 8) (N := some 36) #[true, true, true, true, true, true, true, true, true, false, false, false, false, false, false, false, false] rfl rfl (one_of HT_.out (by kernel_rfl)) (by decide) (fun K hK => ?_)
 refine goes_ Tryd.func67 (by kernel_rfl) rfl #[.int .i64 a1] (by rfl) rfl rfl (by (try simp only [List.map_toArray, List.map_cons, List.map_nil]); first | done | rfl | (simp only [List.length_drop, List.length_take]; rfl)) ?_
 with_reducible refine (angle_Sin.calls a1 t386 _ ?sidem_ A4.out).mono ?_
 case sidem_ => first | ((repeat (first | exact HMX_.out | apply Mx.drewN | apply Mx.drew)); done) | (refine Mx.below HMX_.out ?_; (repeat (first | (with_reducible first | exact HB.out | apply below_alloc | apply pw_below_drewN | apply below_drew1 | refine below_set ?_ (Aside0.out (by assumption))) | exact HB.out)); done)
 rintro e w' ⟨rfl, ⟨nd, rfl⟩⟩
 refine ⟨_, rfl, ?_⟩
 refine hK.out _ _ ⟨blk_cell BK1.out 0, blk_cell BK1.out 1⟩ (fun hHeld => ?_)
 clear hK K
 refine norm_ (by show Act.put _ (some 36) _ = _; simp only [mP]; rfl) ?_
 refine pM 9 37 HT_ ?_
 refine pM 10 38 HT_ ?_
 refine one_ (i := 11) (N := some 39) #[true, true, true, true, true, true, true, true, true, true, true, true, false, false, false, false, false] rfl rfl (one_of HT_.out (by kernel_rfl)) (by decide) (fun K hK => ?_)
 refine goes_ Tryd.func65 (by kernel_rfl) rfl #[.int .i64 (wrap64 ((wrap64 (a0_0 * t385)) + (wrap64 (a0_1 * t386)))), .int .i64 16384] (by rfl) rfl rfl (by (try simp only [List.map_toArray, List.map_cons, List.map_nil]); first | done | rfl | (simp only [List.length_drop, List.length_take]; rfl)) ?_
 with_reducible refine (num_Round.calls k (wrap64 ((wrap64 (a0_0 * t385)) + (wrap64 (a0_1 * t386)))) 16384 t387 t388 _ A5.out).mono ?_
 rintro e w14 ⟨rfl, hb⟩
 refine ⟨_, rfl, ?_⟩
 have n0_ := Aside0.mk (blk_below (g := gb1) (o := .cells #[.int .i64 a0_0, .int .i64 a0_1] 52 (0, 0)) (bO BK1) hb); have n1_ := Aside0.mk (blk_below (g := gb2) (o := .cells #[.int .i64 0, .int .i64 0] 52 (0, 0)) (bO BK2) hb); have n2_ := mSx HB hb; clear BK1; clear BK2; clear HB; have BK1 := n0_; have BK2 := n1_; have HB := n2_; clear n0_ n1_ n2_
 (try clear hb)
 (try clear hb2)
 (try clear hk)
 (try clear hi)
 refine hK.out _ _ ⟨blk_cell BK1.out 0, blk_cell BK1.out 1⟩ (fun hHeld => ?_)
 clear hK K
 refine norm_ (by show Act.put _ (some 39) _ = _; simp only [mP]; rfl) ?_
 refine pM 12 27 HT_ ?_
 refine pM 13 40 HT_ ?_
 refine pM 14 41 HT_ ?_
 refine pM 15 8 HT_ ?_
 refine pM 16 9 HT_ ?_
 refine done_ (done_of HT_.out (by kernel_rfl)) ?_
 try go_wp2
 replace BK1 := Aside0.mk (blk_drew BK1.out); replace BK2 := Aside0.mk (blk_drew BK2.out); replace HB := Aside0.mk (below_drew1 HB.out)
 refine start_ (n := 17) (S := fun w' => w'.cell? ⟨gb1, 0, none⟩ = some (.int .i64 a0_0) ∧ w'.cell? ⟨gb1, 1, none⟩ = some (.int .i64 a0_1)) (ds := []) #[false, false, false, false, false, false, false, false, false, false, false, false, false, false, false, false, false] (by kernel_rfl) rfl rfl ⟨(blk_cell BK1.out 0).trans rfl, (blk_cell BK1.out 1).trans rfl⟩ (fun hHeld => ?_); refine with_tabW angle_Turned.tab10 angle_Turned.bits10 (fun HT_ HW_ => ?_)
 generalize w14.drew = w15 at BK1 BK2 HB hHeld ⊢
 refine pM 0 47 HT_ ?_
 refine pM 2 49 HT_ ?_
 refine pM 5 52 HT_ ?_
 refine pM 7 54 HT_ ?_
 refine tM 1 48 rfl HT_ HW_ (by rintro w' ⟨s0, s1⟩; go_simp; with_reducible rfl) hHeld ?_
 refine tM 6 53 rfl HT_ HW_ (by rintro w' ⟨s0, s1⟩; go_simp; with_reducible rfl) hHeld ?_
 refine one_ (i := 3) (N := some 50) #[true, true, true, true, false, true, true, true, false, false, false, false, false, false, false, false, false] rfl rfl (one_of HT_.out (by kernel_rfl)) (by decide) (fun K hK => ?_)
 refine goes_ Tryd.func66 (by kernel_rfl) rfl #[.int .i64 a1] (by rfl) rfl rfl (by (try simp only [List.map_toArray, List.map_cons, List.map_nil]); first | done | rfl | (simp only [List.length_drop, List.length_take]; rfl)) ?_
 with_reducible refine (angle_Cos.calls a1 t389 _ ?sidem_ A6.out).mono ?_
 case sidem_ => exact Mx.below HMX_.out HB.out
 rintro e w' ⟨rfl, ⟨nd, rfl⟩⟩
 refine ⟨_, rfl, ?_⟩
 refine hK.out _ _ ⟨blk_cell BK1.out 0, blk_cell BK1.out 1⟩ (fun hHeld => ?_)
 clear hK K
 refine norm_ (by show Act.put _ (some 50) _ = _; simp only [mP]; rfl) ?_
 refine pM 4 51 HT_ ?_
 refine one_ (i := 8) (N := some 55) #[true, true, true, true, true, true, true, true, true, false, false, false, false, false, false, false, false] rfl rfl (one_of HT_.out (by kernel_rfl)) (by decide) (fun K hK => ?_)
 refine goes_ Tryd.func67 (by kernel_rfl) rfl #[.int .i64 a1] (by rfl) rfl rfl (by (try simp only [List.map_toArray, List.map_cons, List.map_nil]); first | done | rfl | (simp only [List.length_drop, List.length_take]; rfl)) ?_
 with_reducible refine (angle_Sin.calls a1 t390 _ ?sidem_ A7.out).mono ?_
 case sidem_ => first | ((repeat (first | exact HMX_.out | apply Mx.drewN | apply Mx.drew)); done) | (refine Mx.below HMX_.out ?_; (repeat (first | (with_reducible first | exact HB.out | apply below_alloc | apply pw_below_drewN | apply below_drew1 | refine below_set ?_ (Aside0.out (by assumption))) | exact HB.out)); done)
 rintro e w' ⟨rfl, ⟨nd, rfl⟩⟩
 refine ⟨_, rfl, ?_⟩
 refine hK.out _ _ ⟨blk_cell BK1.out 0, blk_cell BK1.out 1⟩ (fun hHeld => ?_)
 clear hK K
 refine norm_ (by show Act.put _ (some 55) _ = _; simp only [mP]; rfl) ?_
 refine pM 9 56 HT_ ?_
 refine pM 10 57 HT_ ?_
 refine one_ (i := 11) (N := some 58) #[true, true, true, true, true, true, true, true, true, true, true, true, false, false, false, false, false] rfl rfl (one_of HT_.out (by kernel_rfl)) (by decide) (fun K hK => ?_)
 refine goes_ Tryd.func65 (by kernel_rfl) rfl #[.int .i64 (wrap64 ((wrap64 (a0_1 * t389)) - (wrap64 (a0_0 * t390)))), .int .i64 16384] (by rfl) rfl rfl (by (try simp only [List.map_toArray, List.map_cons, List.map_nil]); first | done | rfl | (simp only [List.length_drop, List.length_take]; rfl)) ?_
 with_reducible refine (num_Round.calls k (wrap64 ((wrap64 (a0_1 * t389)) - (wrap64 (a0_0 * t390)))) 16384 t391 t392 _ A8.out).mono ?_
 rintro e w16 ⟨rfl, hb⟩
 refine ⟨_, rfl, ?_⟩
 have n0_ := Aside0.mk (blk_below (g := gb1) (o := .cells #[.int .i64 a0_0, .int .i64 a0_1] 52 (0, 0)) (bO BK1) hb); have n1_ := Aside0.mk (blk_below (g := gb2) (o := .cells #[.int .i64 0, .int .i64 0] 52 (0, 0)) (bO BK2) hb); have n2_ := mSx HB hb; clear BK1; clear BK2; clear HB; have BK1 := n0_; have BK2 := n1_; have HB := n2_; clear n0_ n1_ n2_
 (try clear hb)
 (try clear hb2)
 (try clear hk)
 (try clear hi)
 refine hK.out _ _ ⟨blk_cell BK1.out 0, blk_cell BK1.out 1⟩ (fun hHeld => ?_)
 clear hK K
 refine norm_ (by show Act.put _ (some 58) _ = _; simp only [mP]; rfl) ?_
 refine pM 12 46 HT_ ?_
 refine pM 13 59 HT_ ?_
 refine pM 14 60 HT_ ?_
 refine pM 15 10 HT_ ?_
 refine pM 16 9 HT_ ?_
 refine done_ (done_of HT_.out (by kernel_rfl)) ?_
 have hcz17 := blk_cell BK2.out; have hfz17 := blk_frozen BK2.out
 try go_wp2
 refine bodyPost_ret (results_ct rfl _ _ gb2 52 #[.int .i64 t387, .int .i64 t391] (0, 0) _ rfl (by refine blk_put (cs := #[.int .i64 t387, .int .i64 0]) ?_ 1 _ rfl; refine blk_put (cs := #[.int .i64 0, .int .i64 0]) ?_ 0 _ rfl; exact BK2.out) Tryd.underlying52 rfl (by kernel_rfl)) rfl ?_
 exact ⟨rfl, hO HB⟩
end Go.Proofs.YtaggccbndmmbhaaDoor.PAll
