-- Written by wip/tools/handprint.py: walks of the functions that the law reaches; Lean checks them.
import Derived.Test.YtjppjppapdflmaaRMi
import Derived.Test.YtjppjppapdflmaaPAllx0
import Derived.Test.YtjppjppapdflmaaRPg
import Derived.Test.YtjppjppapdflmaaPAllf15
import Derived.Test.YtjppjppapdflmaaPAllf16
import Derived.Test.YtjppjppapdflmaaPAllf17
import Derived.Test.YtjppjppapdflmaaPAllf18
import Derived.Test.YtjppjppapdflmaaPAllf19
namespace Go.Proofs.Ytjppjppapdflmaa.PAll
open Go.RowKit Go.Proofs.YtjppjppapdflmaaW.PrintWords Go.Proofs.YtjppjppapdflmaaW.PrintLast Go.Proofs.YtjppjppapdflmaaW.PrintMore
attribute [local go_sem] max2_int min2_int max_two min_two max_three min_three max_four min_four   -- for this text's walks alone
set_option linter.unusedVariables false
set_option linter.unusedSimpArgs false

/-! ### dancestudiolaw50_RehearseValids: function 4 -/
def dancestudiolaw50_RehearseValids.f (k : Nat) (l0_0 : List (S53)) (l0_1 : List (S55)) (l0_2 : List (S59)) (a0_3 : Int) (l1 : List (S48)) : Option (Bool) := (dancestudiolaw50_of.f).bind fun t479 => ((rehearse_End.f k l0_0 l0_1 l0_2 a0_3 l1).bind fun bt480 => ((dancestudioref50_End.f k l0_0 l0_1 l0_2 a0_3 l1).bind fun bt482 => ((dancestudiolaw50_of.f).bind fun t484 => ((rehearse_Valid.f k l0_0 l0_1 l0_2 a0_3 l1).bind fun t485 => ((dancestudioref50_Valid.f k l0_0 l0_1 l0_2 a0_3 l1).bind fun t486 => (if t485 = t486 then (if bt480.1 = bt482.1 then (if bt480.2 = bt482.2 then ((dancestudiolaw50_awake.f k).bind fun t487 => (some t487)) else (none)) else (none)) else (none)))))))
def dancestudiolaw50_RehearseValids.T3 : Bool × List (List Nat × List Nat) := (true, [([], []), ([0], [0]), ([], []), ([1, 2, 1], [1, 2]), ([], []), ([], []), ([4, 5, 3], [4, 5]), ([3, 6], [3, 6]), ([7, 6], [7]), ([8], [8]), ([8], [8]), ([9, 10, 8], [8, 9, 10]), ([8, 11], [8, 11]), ([12, 8], [12]), ([13], [13]), ([13], [13]), ([14, 15, 13], [13, 14, 15]), ([13, 16], [13, 16]), ([17, 13], [17]), ([18, 18], [18]), ([18, 19], [18, 19]), ([20, 19, 0, 1, 2, 3, 4, 5, 6, 7, 8, 9, 10, 11, 12, 13, 14, 15, 16, 17, 18, 19, 20], [20])])
def dancestudiolaw50_RehearseValids.B3 : List Nat := [0, 1, 0, 7, 0, 0, 63, 127, 255, 511, 511, 2047, 4095, 8191, 16383, 16383, 65535, 131071, 262143, 524287, 1048575, 2097151]
theorem dancestudiolaw50_RehearseValids.tab3 : rtab .any (opsOf Try.f4 3) = dancestudiolaw50_RehearseValids.T3 := by kernel_rfl
theorem dancestudiolaw50_RehearseValids.bits3 : waitsOk dancestudiolaw50_RehearseValids.T3.2 dancestudiolaw50_RehearseValids.B3 = true := by kernel_rfl
set_option maxHeartbeats 8000000 in
set_option maxRecDepth 100000 in
theorem dancestudiolaw50_RehearseValids.calls (k : Nat) (A0_0 : Option Addr) (c0_0 : Nat) (l0_0 : List (S53)) (A0_1 : Option Addr) (c0_1 : Nat) (l0_1 : List (S55)) (A0_2 : Option Addr) (c0_2 : Nat) (l0_2 : List (S59)) (a0_3 : Int) (A1 : Option Addr) (c1 : Nat) (l1 : List (S48)) (r : Bool) (w : World) (hr0_0 : Kd.C k53 w A0_0 l0_0.length l0_0) (hc0_0 : l0_0.length ≤ c0_0) (hr0_1 : Kd.C k55 w A0_1 l0_1.length l0_1) (hc0_1 : l0_1.length ≤ c0_1) (hr0_2 : Kd.C k59 w A0_2 l0_2.length l0_2) (hc0_2 : l0_2.length ≤ c0_2) (hr1 : Kd.C k48 w A1 l1.length l1) (hc1 : l1.length ≤ c1) (hmx : Mx w) (h : dancestudiolaw50_RehearseValids.f k l0_0 l0_1 l0_2 a0_3 l1 = some r) :
  Calls Try.prog 4 #[.agg #[.slice A0_0 l0_0.length c0_0, .slice A0_1 l0_1.length c0_1, .slice A0_2 l0_2.length c0_2, .int .i64 a0_3], .slice A1 l1.length c1] w fun e w' => e = .returned (.bool r) ∧ Below w.heap.size w w' := by
 have HMX_ := Aside0.mk hmx
 clear hmx
 have hu30 := Try.underlying26
 have HR0_0 := Aside0.mk hr0_0
 have HC0_0 := Aside0.mk hc0_0
 clear hr0_0 hc0_0
 have HR0_1 := Aside0.mk hr0_1
 have HC0_1 := Aside0.mk hc0_1
 clear hr0_1 hc0_1
 have HR0_2 := Aside0.mk hr0_2
 have HC0_2 := Aside0.mk hc0_2
 clear hr0_2 hc0_2
 have HR1 := Aside0.mk hr1
 have HC1 := Aside0.mk hc1
 clear hr1 hc1
 have HB := Aside0.mk (Below.refl w.heap.size w)
 have H := h
 unfold dancestudiolaw50_RehearseValids.f at H
 clear h
 replace H := Option.bind_eq_some_iff.mp H
 obtain ⟨t479, A30, H⟩ := H
 try dsimp only at H
 have A3 := Aside0.mk A30
 clear A30
 replace H := Option.bind_eq_some_iff.mp H
 obtain ⟨⟨t480, t481⟩, A40, H⟩ := H
 try dsimp only at H
 have A4 := Aside0.mk A40
 clear A40
 replace H := Option.bind_eq_some_iff.mp H
 obtain ⟨⟨t482, t483⟩, A50, H⟩ := H
 try dsimp only at H
 have A5 := Aside0.mk A50
 clear A50
 replace H := Option.bind_eq_some_iff.mp H
 obtain ⟨t484, A60, H⟩ := H
 try dsimp only at H
 have A6 := Aside0.mk A60
 clear A60
 replace H := Option.bind_eq_some_iff.mp H
 obtain ⟨t485, A70, H⟩ := H
 try dsimp only at H
 have A7 := Aside0.mk A70
 clear A70
 replace H := Option.bind_eq_some_iff.mp H
 obtain ⟨t486, A80, H⟩ := H
 try dsimp only at H
 have A8 := Aside0.mk A80
 clear A80
 by_cases c9 : t485 = t486
 rotate_left
 ·
  rw [if_neg c9] at H
  have c9b0 := beq_eq_false_iff_ne.mpr c9
  have c9b1 := bne_iff_ne.mpr c9
  exact absurd H (by simp)
 rw [if_pos c9] at H
 have c9b0 := beq_iff_eq.mpr c9
 have c9b1 := bne_eq_false_iff_eq.mpr c9
 clear c9
 by_cases c10 : t480 = t482
 rotate_left
 ·
  rw [if_neg c10] at H
  have c10b0 := beq_eq_false_iff_ne.mpr c10
  have c10b1 := bne_iff_ne.mpr c10
  exact absurd H (by simp)
 rw [if_pos c10] at H
 have c10b0 := beq_iff_eq.mpr c10
 have c10b1 := bne_eq_false_iff_eq.mpr c10
 clear c10
 by_cases c11 : t481 = t483
 rotate_left
 ·
  rw [if_neg c11] at H
  have c11b0 := beq_eq_false_iff_ne.mpr c11
  have c11b1 := bne_iff_ne.mpr c11
  exact absurd H (by simp)
 rw [if_pos c11] at H
 have c11b0 := beq_iff_eq.mpr c11
 have c11b1 := bne_eq_false_iff_eq.mpr c11
 clear c11
 replace H := Option.bind_eq_some_iff.mp H
 obtain ⟨t487, A120, H⟩ := H
 try dsimp only at H
 have A12 := Aside0.mk A120
 clear A120
 obtain rfl := Option.some.inj H
 go_enter Try.func4, Try.ntmps4
 try go_wp2_with (first | ((with_reducible refine gate_dst (N := 2) rfl ?_); refine box_event rfl (N := 2) rfl (cs := #[.slice A0_0 l0_0.length c0_0, .slice A0_1 l0_1.length c0_1, .slice A0_2 l0_2.length c0_2, .int .i64 a0_3]) (t := 26) (by first | (go_simp; done) | (go_simp; rfl)) ?_; intro gb1 hg w13 hbox hb; have BK1 := Aside0.mk hbox; have GW1 := mGw HB hg; have GE1 := GW1; replace HB := mSt HB hb; clear hb hbox hg; have hcz14 := blk_cell BK1.out; have hfz14 := blk_frozen BK1.out) | (go_at_call 11; (with_reducible refine (dancestudiolaw50_of.calls  t479 _ A3.out).mono ?_); rintro e w15 ⟨rfl, hb⟩; replace BK1 := mBb BK1 hb; replace HB := mSt HB hb; (try clear hb)) | ((with_reducible refine gate_callee (f := 16) rfl ?_); refine goesL_ (some 13) rfl rfl Try.func16 (by kernel_rfl) rfl #[.agg #[.slice A0_0 l0_0.length c0_0, .slice A0_1 l0_1.length c0_1, .slice A0_2 l0_2.length c0_2, .int .i64 a0_3], .slice A1 l1.length c1] rfl (mA2 rfl rfl) ?_; (with_reducible refine (rehearse_End.calls k _ _ l0_0 _ _ l0_1 _ _ l0_2 a0_3 _ _ l1 t480 t481 _ (Kd.C_below HR0_0.out HB.out) HC0_0.out (Kd.C_below HR0_1.out HB.out) HC0_1.out (Kd.C_below HR0_2.out HB.out) HC0_2.out (Kd.C_below HR1.out HB.out) HC1.out (Mx.below HMX_.out HB.out) A4.out).mono ?_); rintro e w16 ⟨rfl, hb⟩; refine ⟨_, rfl, ?_⟩; replace BK1 := mBb BK1 hb; replace HB := mSt HB hb; (try clear hb); have hcz17 := blk_cell BK1.out; have hfz17 := blk_frozen BK1.out) | ((with_reducible refine gate_callee (f := 17) rfl ?_); refine goesL_ (some 19) rfl rfl Try.func17 (by kernel_rfl) rfl #[.agg #[.slice A0_0 l0_0.length c0_0, .slice A0_1 l0_1.length c0_1, .slice A0_2 l0_2.length c0_2, .int .i64 a0_3], .slice A1 l1.length c1] rfl (mA2 rfl rfl) ?_; (with_reducible refine (dancestudioref50_End.calls k _ _ l0_0 _ _ l0_1 _ _ l0_2 a0_3 _ _ l1 t482 t483 _ (Kd.C_below HR0_0.out HB.out) HC0_0.out (Kd.C_below HR0_1.out HB.out) HC0_1.out (Kd.C_below HR0_2.out HB.out) HC0_2.out (Kd.C_below HR1.out HB.out) HC1.out A5.out).mono ?_); rintro e w18 ⟨rfl, hb⟩; refine ⟨_, rfl, ?_⟩; replace BK1 := mBb BK1 hb; replace HB := mSt HB hb; (try clear hb)))
 replace BK1 := Aside0.mk (blk_drew BK1.out); replace HB := Aside0.mk (below_drew1 HB.out)
 refine start_ (n := 22) (S := fun w' => w'.cell? ⟨gb1, 0, none⟩ = some (.slice A0_0 l0_0.length c0_0) ∧ w'.cell? ⟨gb1, 1, none⟩ = some (.slice A0_1 l0_1.length c0_1) ∧ w'.cell? ⟨gb1, 2, none⟩ = some (.slice A0_2 l0_2.length c0_2) ∧ w'.cell? ⟨gb1, 3, none⟩ = some (.int .i64 a0_3)) (ds := []) #[false, false, false, false, false, false, false, false, false, false, false, false, false, false, false, false, false, false, false, false, false, false] (by kernel_rfl) rfl rfl ⟨(blk_cell BK1.out 0).trans rfl, (blk_cell BK1.out 1).trans rfl, (blk_cell BK1.out 2).trans rfl, (blk_cell BK1.out 3).trans rfl⟩ (fun hHeld => ?_); refine with_tabW dancestudiolaw50_RehearseValids.tab3 dancestudiolaw50_RehearseValids.bits3 (fun HT_ HW_ => ?_)
 generalize w18.drew = w19 at BK1 HB hHeld ⊢
 refine pM 2 24 HT_ ?_
 refine pM 5 27 HT_ ?_
 refine tM 0 22 rfl HT_ HW_ (by rintro w' ⟨s0, s1, s2, s3⟩; go_simp; with_reducible rfl) hHeld ?_
 refine tM 4 26 rfl HT_ HW_ (by rintro w' ⟨s0, s1, s2, s3⟩; go_simp; with_reducible rfl) hHeld ?_
 refine one_ (i := 1) (N := some 23) #[true, true, true, false, true, true, false, false, false, false, false, false, false, false, false, false, false, false, false, false, false, false] rfl rfl (one_of HT_.out (by kernel_rfl)) (by decide) (fun K hK => ?_)
 refine goes_ Try.func11 (by kernel_rfl) rfl #[.agg #[.slice A0_0 l0_0.length c0_0, .slice A0_1 l0_1.length c0_1, .slice A0_2 l0_2.length c0_2, .int .i64 a0_3]] (by rfl) rfl rfl (by (try simp only [List.map_toArray, List.map_cons, List.map_nil]); first | done | rfl | (simp only [List.length_drop, List.length_take]; rfl)) ?_
 with_reducible refine (dancestudiolaw50_of.calls  t484 _ A6.out).mono ?_
 rintro e w20 ⟨rfl, hb⟩
 refine ⟨_, rfl, ?_⟩
 replace BK1 := mBb BK1 hb; replace HB := mSt HB hb
 (try clear hb)
 (try clear hb2)
 (try clear hk)
 (try clear hi)
 refine hK.out _ _ ⟨blk_cell BK1.out 0, blk_cell BK1.out 1, blk_cell BK1.out 2, blk_cell BK1.out 3⟩ (fun hHeld => ?_)
 clear hK K
 refine norm_ (by show Act.put _ (some 23) _ = _; simp only [mP]; rfl) ?_
 refine one_ (i := 3) (N := some 25) #[true, true, true, true, true, true, false, false, false, false, false, false, false, false, false, false, false, false, false, false, false, false] rfl rfl (one_of HT_.out (by kernel_rfl)) (by decide) (fun K hK => ?_)
 refine goes_ Try.func18 (by kernel_rfl) rfl #[.agg #[.slice A0_0 l0_0.length c0_0, .slice A0_1 l0_1.length c0_1, .slice A0_2 l0_2.length c0_2, .int .i64 a0_3], .slice A1 l1.length c1] (by rfl) rfl rfl (by (try simp only [List.map_toArray, List.map_cons, List.map_nil]); first | done | rfl | (simp only [List.length_drop, List.length_take]; rfl)) ?_
 with_reducible refine (rehearse_Valid.calls k _ _ l0_0 _ _ l0_1 _ _ l0_2 a0_3 _ _ l1 t485 _ ?side1 ?side2 ?side3 ?side4 ?side5 ?side6 ?side7 ?side8 ?sidem_ A7.out).mono ?_
 case sidem_ => exact Mx.below HMX_.out HB.out
 (case side1 => exact Kd.C_below HR0_0.out HB.out)
 (case side2 => exact HC0_0.out)
 (case side3 => exact Kd.C_below HR0_1.out HB.out)
 (case side4 => exact HC0_1.out)
 (case side5 => exact Kd.C_below HR0_2.out HB.out)
 (case side6 => exact HC0_2.out)
 (case side7 => exact Kd.C_below HR1.out HB.out)
 (case side8 => exact HC1.out)
 rintro e w21 ⟨rfl, hb⟩
 refine ⟨_, rfl, ?_⟩
 replace BK1 := mBb BK1 hb; replace HB := mSt HB hb
 (try clear hb)
 (try clear hb2)
 (try clear hk)
 (try clear hi)
 refine hK.out _ _ ⟨blk_cell BK1.out 0, blk_cell BK1.out 1, blk_cell BK1.out 2, blk_cell BK1.out 3⟩ (fun hHeld => ?_)
 clear hK K
 refine norm_ (by show Act.put _ (some 25) _ = _; simp only [mP]; rfl) ?_
 refine one_ (i := 6) (N := some 28) #[true, true, true, true, true, true, true, false, false, false, false, false, false, false, false, false, false, false, false, false, false, false] rfl rfl (one_of HT_.out (by kernel_rfl)) (by decide) (fun K hK => ?_)
 refine goes_ Try.func19 (by kernel_rfl) rfl #[.agg #[.slice A0_0 l0_0.length c0_0, .slice A0_1 l0_1.length c0_1, .slice A0_2 l0_2.length c0_2, .int .i64 a0_3], .slice A1 l1.length c1] (by rfl) rfl rfl (by (try simp only [List.map_toArray, List.map_cons, List.map_nil]); first | done | rfl | (simp only [List.length_drop, List.length_take]; rfl)) ?_
 with_reducible refine (dancestudioref50_Valid.calls k _ _ l0_0 _ _ l0_1 _ _ l0_2 a0_3 _ _ l1 t486 _ ?side1 ?side2 ?side3 ?side4 ?side5 ?side6 ?side7 ?side8 A8.out).mono ?_
 (case side1 => exact Kd.C_below HR0_0.out HB.out)
 (case side2 => exact HC0_0.out)
 (case side3 => exact Kd.C_below HR0_1.out HB.out)
 (case side4 => exact HC0_1.out)
 (case side5 => exact Kd.C_below HR0_2.out HB.out)
 (case side6 => exact HC0_2.out)
 (case side7 => exact Kd.C_below HR1.out HB.out)
 (case side8 => exact HC1.out)
 rintro e w22 ⟨rfl, hb⟩
 refine ⟨_, rfl, ?_⟩
 replace BK1 := mBb BK1 hb; replace HB := mSt HB hb
 (try clear hb)
 (try clear hb2)
 (try clear hk)
 (try clear hi)
 refine hK.out _ _ ⟨blk_cell BK1.out 0, blk_cell BK1.out 1, blk_cell BK1.out 2, blk_cell BK1.out 3⟩ (fun hHeld => ?_)
 clear hK K
 refine norm_ (by show Act.put _ (some 28) _ = _; simp only [mP]; rfl) ?_
 refine pM 7 29 HT_ ?_
 refine pM 8 30 HT_ ?_
 refine pM 9 31 HT_ ?_
 refine pM 10 32 HT_ ?_
 refine pM 11 33 HT_ ?_
 refine pM 12 34 HT_ ?_
 refine pM 13 35 HT_ ?_
 refine pM 14 36 HT_ ?_
 refine pM 15 37 HT_ ?_
 refine pM 16 38 HT_ ?_
 refine pM 17 39 HT_ ?_
 refine pM 18 40 HT_ ?_
 refine one_ (i := 19) (N := some 41) #[true, true, true, true, true, true, true, true, true, true, true, true, true, true, true, true, true, true, true, true, false, false] rfl rfl (one_of HT_.out (by kernel_rfl)) (by decide) (fun K hK => ?_)
 refine goes_ Try.func15 (by kernel_rfl) rfl #[] (by rfl) rfl rfl (by (try simp only [List.map_toArray, List.map_cons, List.map_nil]); first | done | rfl | (simp only [List.length_drop, List.length_take]; rfl)) ?_
 with_reducible refine (dancestudiolaw50_awake.calls k  t487 _ ?sidem_ A12.out).mono ?_
 case sidem_ => exact Mx.below HMX_.out HB.out
 rintro e w23 ⟨rfl, hb⟩
 refine ⟨_, rfl, ?_⟩
 replace BK1 := mBb BK1 hb; replace HB := mSt HB hb
 (try clear hb)
 (try clear hb2)
 (try clear hk)
 (try clear hi)
 refine hK.out _ _ ⟨blk_cell BK1.out 0, blk_cell BK1.out 1, blk_cell BK1.out 2, blk_cell BK1.out 3⟩ (fun hHeld => ?_)
 clear hK K
 refine norm_ (by show Act.put _ (some 41) _ = _; simp only [mP]; rfl) ?_
 refine pM 20 42 HT_ ?_
 refine pM 21 4 HT_ ?_
 refine done_ (done_of HT_.out (by kernel_rfl)) ?_
 try go_wp2
 go_ret
 exact ⟨rfl, HB.out⟩
end Go.Proofs.Ytjppjppapdflmaa.PAll
