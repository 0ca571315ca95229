/- Texts of the proof, laid end to end. -/
import Derived.RowKit
import Derived.Test.YtmilejcbkpkplaaBI2
import Derived.Test.YtmilejcbkpkplaaBI3
import Derived.Test.YtmilejcbkpkplaaBI5
-- Written by wip/tools/handprint.py: walks of the functions that the law reaches; Lean checks them.
namespace Go.Proofs.Ytmilejcbkpkplaa.PAll
open Go.RowKit Go.Proofs.YtmilejcbkpkplaaW.PrintWords Go.Proofs.YtmilejcbkpkplaaW.PrintLast Go.Proofs.YtmilejcbkpkplaaW.PrintMore
attribute [local go_sem] max2_int min2_int max_two min_two max_three min_three max_four min_four   -- for this text's walks alone
set_option linter.unusedVariables false
set_option linter.unusedSimpArgs false

/-! ### dancestudioref03_Near: function 17 -/
def dancestudioref03_Near.j0 : Nat → Int → Bool → Int → Int → Int → Int → Int → Int → Option (Bool × Int)
 | 0, _, _, _, _, _, _, _, _ => none
 | k + 1, x3, x31, x373000, x373001, x374000, x374001, x375000, x375001 => if x31 = true then (some (false, 1)) else (if (wrap64 ((wrap64 ((wrap64 (x373000 - x374000)) * (wrap64 (x375000 - x374000)))) + (wrap64 ((wrap64 (x373001 - x374001)) * (wrap64 (x375001 - x374001)))))) ≤ 0 then ((dancestudioref03_square.f x373000 x373001 x374000 x374001).bind fun t379 => (some (decide (t379 ≤ (wrap64 (x3 * x3))), 0))) else ((dancestudioref03_square.f x374000 x374001 x375000 x375001).bind fun t380 => (if (wrap64 ((wrap64 ((wrap64 (x373000 - x374000)) * (wrap64 (x375000 - x374000)))) + (wrap64 ((wrap64 (x373001 - x374001)) * (wrap64 (x375001 - x374001)))))) ≥ t380 then ((dancestudioref03_square.f x373000 x373001 x375000 x375001).bind fun t381 => (some (decide (t381 ≤ (wrap64 (x3 * x3))), 0))) else ((dancestudioref03_cross.f x374000 x374001 x375000 x375001 x373000 x373001).bind fun t382 => ((dancestudioref03_square.f x374000 x374001 x375000 x375001).bind fun t383 => ((dancestudioref01_Compare.f k t382 t382 (wrap64 (x3 * x3)) t383).bind fun bt384 => (some (decide (bt384.1 ≤ 0), 0))))))))
def dancestudioref03_Near.f (k : Nat) (a0_0 : Int) (a0_1 : Int) (a1_0 : Int) (a1_1 : Int) (a2_0 : Int) (a2_1 : Int) (a3 : Int) : Option (Bool × Int) := (dancestudioref03_Valid.f a0_0 a0_1).bind fun t375 => (if t375 = true then ((dancestudioref03_Valid.f a1_0 a1_1).bind fun t376 => (if t376 = true then ((dancestudioref03_Valid.f a2_0 a2_1).bind fun t377 => (if t377 = true then ((dancestudioref03_Radius.f a3).bind fun t378 => (dancestudioref03_Near.j0 k a3 (!t378) a0_0 a0_1 a1_0 a1_1 a2_0 a2_1)) else (dancestudioref03_Near.j0 k a3 true a0_0 a0_1 a1_0 a1_1 a2_0 a2_1))) else (dancestudioref03_Near.j0 k a3 true a0_0 a0_1 a1_0 a1_1 a2_0 a2_1))) else (dancestudioref03_Near.j0 k a3 true a0_0 a0_1 a1_0 a1_1 a2_0 a2_1))
theorem dancestudioref03_Near.mono_l : ∀ k, (∀ y0 y1 y2 y3 y4 y5 y6 y7, LeO (dancestudioref03_Near.j0 k y0 y1 y2 y3 y4 y5 y6 y7) (dancestudioref03_Near.j0 (k + 1) y0 y1 y2 y3 y4 y5 y6 y7))
 | 0 => fun _ _ _ _ _ _ _ _ r h => by simp [dancestudioref03_Near.j0] at h
 | k + 1 => by
  have ih0 := dancestudioref03_Near.mono_l k
  ·
   intro y0 y1 y2 y3 y4 y5 y6 y7
   unfold dancestudioref03_Near.j0
   repeat' first
   | (with_reducible exact ih0 _ _ _ _ _ _ _ _)
   | (with_reducible exact dancestudioref01_Compare.mono _ _ _ _ _)
   | (with_reducible exact LeO.refl _)
   | (with_reducible exact LeO.none _)
   | (with_reducible refine LeO.ite ?_ ?_)
   | (with_reducible refine LeO.bind ?_ (fun _ => ?_))
   | exact ih0 _ _ _ _ _ _ _ _
   | exact dancestudioref01_Compare.mono _ _ _ _ _
   | exact LeO.none _
   | refine LeO.ite ?_ ?_
   | refine LeO.bind ?_ (fun _ => ?_)
theorem dancestudioref03_Near.mono : ∀ a0 a1 a2 a3 a4 a5 a6 k, LeO (dancestudioref03_Near.f k a0 a1 a2 a3 a4 a5 a6) (dancestudioref03_Near.f (k + 1) a0 a1 a2 a3 a4 a5 a6) := by
 intro a0 a1 a2 a3 a4 a5 a6 k
 have ih0 := dancestudioref03_Near.mono_l k
 unfold dancestudioref03_Near.f
 repeat' first
   | (with_reducible exact ih0 _ _ _ _ _ _ _ _)
   | (with_reducible exact dancestudioref01_Compare.mono _ _ _ _ _)
   | (with_reducible exact LeO.refl _)
   | (with_reducible exact LeO.none _)
   | (with_reducible refine LeO.ite ?_ ?_)
   | (with_reducible refine LeO.bind ?_ (fun _ => ?_))
   | exact ih0 _ _ _ _ _ _ _ _
   | exact dancestudioref01_Compare.mono _ _ _ _ _
   | exact LeO.none _
   | refine LeO.ite ?_ ?_
   | refine LeO.bind ?_ (fun _ => ?_)
set_option maxHeartbeats 8000000 in
set_option maxRecDepth 100000 in
theorem dancestudioref03_Near.calls (k : Nat) (a0_0 : Int) (a0_1 : Int) (a1_0 : Int) (a1_1 : Int) (a2_0 : Int) (a2_1 : Int) (a3 : Int) (r1 : Bool) (r2 : Int) (w : World) (h : dancestudioref03_Near.f k a0_0 a0_1 a1_0 a1_1 a2_0 a2_1 a3 = some (r1, r2)) :
  Calls Try.prog 17 #[.agg #[.int .i64 a0_0, .int .i64 a0_1], .agg #[.int .i64 a1_0, .int .i64 a1_1], .agg #[.int .i64 a2_0, .int .i64 a2_1], .int .i64 a3] w fun e w' => e = .returned (.tuple #[.bool r1, .int .i64 r2]) ∧ Below w.heap.size w w' := by
 have hu23 := Try.underlying23
 have HB := Aside0.mk (Below.refl w.heap.size w)
 have H : ((dancestudioref03_Valid.f a0_0 a0_1).bind fun t375 => (if t375 = true then ((dancestudioref03_Valid.f a1_0 a1_1).bind fun t376 => (if t376 = true then ((dancestudioref03_Valid.f a2_0 a2_1).bind fun t377 => (if t377 = true then ((dancestudioref03_Radius.f a3).bind fun t378 => (dancestudioref03_Near.j0 k a3 (!t378) a0_0 a0_1 a1_0 a1_1 a2_0 a2_1)) else (dancestudioref03_Near.j0 k a3 true a0_0 a0_1 a1_0 a1_1 a2_0 a2_1))) else (dancestudioref03_Near.j0 k a3 true a0_0 a0_1 a1_0 a1_1 a2_0 a2_1))) else (dancestudioref03_Near.j0 k a3 true a0_0 a0_1 a1_0 a1_1 a2_0 a2_1))) = some (r1, r2) := h
 clear h
 have HC5 := Aside0.mk H
 clear H
 go_enter Try.func17, Try.ntmps17
 go_upto_region 1 with (first | ((with_reducible refine gate_dst (N := 4) rfl ?_); refine box_event ?hg (N := 4) ?hd (cs := #[.int .i64 a0_0, .int .i64 a0_1]) (t := 23) ?hr ?_; (case hd => rfl); (case hg => rfl); (case hr => first | (go_simp; done) | (go_simp; rfl)); intro gb372 hg w6 hbox hb; have BK372 := Aside0.mk hbox; have GW372 := mGw HB hg; have GE372 := GW372; replace HB := mSt HB hb; clear hb hbox hg) | ((with_reducible refine gate_dst (N := 5) rfl ?_); refine box_event ?hg (N := 5) ?hd (cs := #[.int .i64 a1_0, .int .i64 a1_1]) (t := 23) ?hr ?_; (case hd => rfl); (case hg => rfl); (case hr => first | (go_simp; done) | (go_simp; rfl)); intro gb373 hg w7 hbox hb; have BK373 := Aside0.mk hbox; have GW373 := mGw HB hg; have GE373 := GW373; replace HB := mSt HB hb; have NB372_373 := mNe BK372 hg; have NB373_372 := mSy NB372_373; replace BK372 := mBb BK372 hb; clear hb hbox hg) | ((with_reducible refine gate_dst (N := 6) rfl ?_); refine box_event ?hg (N := 6) ?hd (cs := #[.int .i64 a2_0, .int .i64 a2_1]) (t := 23) ?hr ?_; (case hd => rfl); (case hg => rfl); (case hr => first | (go_simp; done) | (go_simp; rfl)); intro gb374 hg w8 hbox hb; have BK374 := Aside0.mk hbox; have GW374 := mGw HB hg; have GE374 := GW374; replace HB := mSt HB hb; have NB372_374 := mNe BK372 hg; have NB374_372 := mSy NB372_374; replace BK372 := mBb BK372 hb; have NB373_374 := mNe BK373 hg; have NB374_373 := mSy NB373_374; replace BK373 := mBb BK373 hb; clear hb hbox hg))
 (try simp only [Act.put, List.setIfInBounds_toArray, List.set_cons_zero, List.set_cons_succ])
 go_cut [31] (fun v31 wc => ∃ (kq : Nat) (x31_4 : Bool), v31 = .bool x31_4 ∧ Aside0 (dancestudioref03_Near.j0 kq a3 x31_4 a0_0 a0_1 a1_0 a1_1 a2_0 a2_1 = some (r1, r2)) ∧ Aside0 (kq ≤ k) ∧ Aside0 (wc.heap[gb372]? = some (.cells #[.int .i64 a0_0, .int .i64 a0_1] 23 (0, 0))) ∧ Aside0 (wc.heap[gb373]? = some (.cells #[.int .i64 a1_0, .int .i64 a1_1] 23 (0, 0))) ∧ Aside0 (wc.heap[gb374]? = some (.cells #[.int .i64 a2_0, .int .i64 a2_1] 23 (0, 0))) ∧ Aside0 (Below w.heap.size w wc))
 case first =>
  have H := HC5.out
  clear HC5
  replace H := Option.bind_eq_some_iff.mp H
  obtain ⟨t375, A90, H⟩ := H
  try dsimp only at H
  have A9 := Aside0.mk A90
  clear A90
  by_cases c10 : t375 = true
  rotate_left
  ·
   replace c10 := Bool.eq_false_iff.mpr c10
   subst c10
   rw [if_neg (show ¬ (false = true) by decide)] at H
   have H' := Aside0.mk H
   clear H
   have hnb41 := NB372_373.out
   have hnc41 := NB373_372.out
   have hnb42 := NB372_374.out
   have hnc42 := NB374_372.out
   have hcz43 := blk_cell BK372.out; have hfz43 := blk_frozen BK372.out
   go_wp2_with (first | ((with_reducible refine gate_callee (f := 31) rfl ?_); refine goesL_ (some 15) rfl rfl Try.func31 (by kernel_rfl) rfl #[.agg #[.int .i64 a0_0, .int .i64 a0_1]] rfl (by (try simp only [List.map_toArray, List.map_cons, List.map_nil]); first | done | rfl | (simp only [List.length_drop, List.length_take]; rfl)) ?_; (with_reducible refine (dancestudioref03_Valid.calls a0_0 a0_1 false _ A9.out).mono ?_); rintro e w44 ⟨rfl, hb⟩; refine ⟨_, rfl, ?_⟩; replace BK372 := mBb BK372 hb; replace BK373 := mBb BK373 hb; replace BK374 := mBb BK374 hb; replace HB := mSt HB hb; (try clear hb)))
   go_meet
   case rel => exact ⟨_, (true), (by first | rfl | (simp; done) | (simp [*]; done)), H', ⟨by first | omega | exact Nat.le_refl _⟩, ⟨BK372.out⟩, ⟨BK373.out⟩, ⟨BK374.out⟩, ⟨HB.out⟩⟩
  subst c10
  rw [if_pos rfl] at H
  replace H := Option.bind_eq_some_iff.mp H
  obtain ⟨t376, A110, H⟩ := H
  try dsimp only at H
  have A11 := Aside0.mk A110
  clear A110
  by_cases c12 : t376 = true
  rotate_left
  ·
   replace c12 := Bool.eq_false_iff.mpr c12
   subst c12
   rw [if_neg (show ¬ (false = true) by decide)] at H
   have H' := Aside0.mk H
   clear H
   have hnb34 := NB372_373.out
   have hnc34 := NB373_372.out
   have hnb35 := NB372_374.out
   have hnc35 := NB374_372.out
   have hcz36 := blk_cell BK372.out; have hfz36 := blk_frozen BK372.out
   go_wp2_with (first | ((with_reducible refine gate_callee (f := 31) rfl ?_); refine goesL_ (some 15) rfl rfl Try.func31 (by kernel_rfl) rfl #[.agg #[.int .i64 a0_0, .int .i64 a0_1]] rfl (by (try simp only [List.map_toArray, List.map_cons, List.map_nil]); first | done | rfl | (simp only [List.length_drop, List.length_take]; rfl)) ?_; (with_reducible refine (dancestudioref03_Valid.calls a0_0 a0_1 true _ A9.out).mono ?_); rintro e w37 ⟨rfl, hb⟩; refine ⟨_, rfl, ?_⟩; replace BK372 := mBb BK372 hb; replace BK373 := mBb BK373 hb; replace BK374 := mBb BK374 hb; replace HB := mSt HB hb; (try clear hb); have hnb38 := NB373_374.out; have hnc38 := NB374_373.out; have hcz39 := blk_cell BK373.out; have hfz39 := blk_frozen BK373.out) | (go_at_call 31; (with_reducible refine (dancestudioref03_Valid.calls a1_0 a1_1 false _ A11.out).mono ?_); rintro e w40 ⟨rfl, hb⟩; replace BK372 := mBb BK372 hb; replace BK373 := mBb BK373 hb; replace BK374 := mBb BK374 hb; replace HB := mSt HB hb; (try clear hb)))
   go_meet
   case rel => exact ⟨_, (true), (by first | rfl | (simp; done) | (simp [*]; done)), H', ⟨by first | omega | exact Nat.le_refl _⟩, ⟨BK372.out⟩, ⟨BK373.out⟩, ⟨BK374.out⟩, ⟨HB.out⟩⟩
  subst c12
  rw [if_pos rfl] at H
  replace H := Option.bind_eq_some_iff.mp H
  obtain ⟨t377, A130, H⟩ := H
  try dsimp only at H
  have A13 := Aside0.mk A130
  clear A130
  by_cases c14 : t377 = true
  rotate_left
  ·
   replace c14 := Bool.eq_false_iff.mpr c14
   subst c14
   rw [if_neg (show ¬ (false = true) by decide)] at H
   have H' := Aside0.mk H
   clear H
   have hnb25 := NB372_373.out
   have hnc25 := NB373_372.out
   have hnb26 := NB372_374.out
   have hnc26 := NB374_372.out
   have hcz27 := blk_cell BK372.out; have hfz27 := blk_frozen BK372.out
   go_wp2_with (first | ((with_reducible refine gate_callee (f := 31) rfl ?_); refine goesL_ (some 15) rfl rfl Try.func31 (by kernel_rfl) rfl #[.agg #[.int .i64 a0_0, .int .i64 a0_1]] rfl (by (try simp only [List.map_toArray, List.map_cons, List.map_nil]); first | done | rfl | (simp only [List.length_drop, List.length_take]; rfl)) ?_; (with_reducible refine (dancestudioref03_Valid.calls a0_0 a0_1 true _ A9.out).mono ?_); rintro e w28 ⟨rfl, hb⟩; refine ⟨_, rfl, ?_⟩; replace BK372 := mBb BK372 hb; replace BK373 := mBb BK373 hb; replace BK374 := mBb BK374 hb; replace HB := mSt HB hb; (try clear hb); have hnb29 := NB373_374.out; have hnc29 := NB374_373.out; have hcz30 := blk_cell BK373.out; have hfz30 := blk_frozen BK373.out) | (go_at_call 31; (with_reducible refine (dancestudioref03_Valid.calls a1_0 a1_1 true _ A11.out).mono ?_); rintro e w31 ⟨rfl, hb⟩; replace BK372 := mBb BK372 hb; replace BK373 := mBb BK373 hb; replace BK374 := mBb BK374 hb; replace HB := mSt HB hb; (try clear hb); have hcz32 := blk_cell BK374.out; have hfz32 := blk_frozen BK374.out) | (go_at_call 31; (with_reducible refine (dancestudioref03_Valid.calls a2_0 a2_1 false _ A13.out).mono ?_); rintro e w33 ⟨rfl, hb⟩; replace BK372 := mBb BK372 hb; replace BK373 := mBb BK373 hb; replace BK374 := mBb BK374 hb; replace HB := mSt HB hb; (try clear hb)))
   go_meet
   case rel => exact ⟨_, (true), (by first | rfl | (simp; done) | (simp [*]; done)), H', ⟨by first | omega | exact Nat.le_refl _⟩, ⟨BK372.out⟩, ⟨BK373.out⟩, ⟨BK374.out⟩, ⟨HB.out⟩⟩
  subst c14
  rw [if_pos rfl] at H
  replace H := Option.bind_eq_some_iff.mp H
  obtain ⟨t378, A150, H⟩ := H
  try dsimp only at H
  have A15 := Aside0.mk A150
  clear A150
  have H' := Aside0.mk H
  clear H
  have hnb16 := NB372_373.out
  have hnc16 := NB373_372.out
  have hnb17 := NB372_374.out
  have hnc17 := NB374_372.out
  have hcz18 := blk_cell BK372.out; have hfz18 := blk_frozen BK372.out
  go_wp2_with (first | ((with_reducible refine gate_callee (f := 31) rfl ?_); refine goesL_ (some 15) rfl rfl Try.func31 (by kernel_rfl) rfl #[.agg #[.int .i64 a0_0, .int .i64 a0_1]] rfl (by (try simp only [List.map_toArray, List.map_cons, List.map_nil]); first | done | rfl | (simp only [List.length_drop, List.length_take]; rfl)) ?_; (with_reducible refine (dancestudioref03_Valid.calls a0_0 a0_1 true _ A9.out).mono ?_); rintro e w19 ⟨rfl, hb⟩; refine ⟨_, rfl, ?_⟩; replace BK372 := mBb BK372 hb; replace BK373 := mBb BK373 hb; replace BK374 := mBb BK374 hb; replace HB := mSt HB hb; (try clear hb); have hnb20 := NB373_374.out; have hnc20 := NB374_373.out; have hcz21 := blk_cell BK373.out; have hfz21 := blk_frozen BK373.out) | (go_at_call 31; (with_reducible refine (dancestudioref03_Valid.calls a1_0 a1_1 true _ A11.out).mono ?_); rintro e w22 ⟨rfl, hb⟩; replace BK372 := mBb BK372 hb; replace BK373 := mBb BK373 hb; replace BK374 := mBb BK374 hb; replace HB := mSt HB hb; (try clear hb); have hcz23 := blk_cell BK374.out; have hfz23 := blk_frozen BK374.out) | (go_at_call 31; (with_reducible refine (dancestudioref03_Valid.calls a2_0 a2_1 true _ A13.out).mono ?_); rintro e w24 ⟨rfl, hb⟩; replace BK372 := mBb BK372 hb; replace BK373 := mBb BK373 hb; replace BK374 := mBb BK374 hb; replace HB := mSt HB hb; (try clear hb)) | (go_at_call 37; (with_reducible refine (dancestudioref03_Radius.calls a3 t378 _ A15.out).mono ?_); rintro e w' ⟨rfl, ⟨nd, rfl⟩⟩))
  go_meet
  case rel => exact ⟨_, (!t378), (by first | rfl | (simp; done) | (simp [*]; done)), H', ⟨by first | omega | exact Nat.le_refl _⟩, ⟨BK372.out⟩, ⟨BK373.out⟩, ⟨BK374.out⟩, ⟨by repeat (first | (with_reducible first | exact HB.out | apply below_alloc | apply pw_below_drewN | apply below_drew1 | refine below_set ?_ GE372.out | refine below_set ?_ GE373.out | refine below_set ?_ GE374.out) | exact HB.out)⟩⟩
 case rest =>
  clear HC5; try clear c1; try clear c2; try clear p2; try clear c3; try clear c4; try clear c10; try clear c12; try clear c14; try clear c16; try clear c17; try clear c20; try clear c25; try clear c26; try clear c29; try clear c31; try clear c34; try clear c35; try clear c38; try clear c41; try clear c42; try clear hcz18_0; try clear hcz18_1; try clear hcz21_0; try clear hcz21_1; try clear hcz23_0; try clear hcz23_1; try clear hcz27_0; try clear hcz27_1; try clear hcz30_0; try clear hcz30_1; try clear hcz32_0; try clear hcz32_1; try clear hcz36_0; try clear hcz36_1; try clear hcz39_0; try clear hcz39_1; try clear hcz43_0; try clear hcz43_1; try clear hfz18_0; try clear hfz18_1; try clear hfz21_0; try clear hfz21_1; try clear hfz23_0; try clear hfz23_1; try clear hfz27_0; try clear hfz27_1; try clear hfz30_0; try clear hfz30_1; try clear hfz32_0; try clear hfz32_1; try clear hfz36_0; try clear hfz36_1; try clear hfz39_0; try clear hfz39_1; try clear hfz43_0; try clear hfz43_1
  obtain ⟨kq, x31_4, rfl, HA, HJ4, BK372, BK373, BK374, HB⟩ := hcut
  cases kq with
  | zero => exact absurd HA.out (by simp [dancestudioref03_Near.j0])
  | succ kj4 =>
   have H := HA.out
   clear HA
   simp only [dancestudioref03_Near.j0] at H
   by_cases c45 : x31_4 = true
   ·
    subst c45
    rw [if_pos rfl] at H
    simp only [Option.some.injEq, Prod.mk.injEq] at H
    obtain ⟨rfl, rfl⟩ := H
    go_wp2
    go_ret2
    exact ⟨by first | rfl | (simp [errW_none, errW_some] <;> rfl) | (simp [*, errW_none, errW_some] <;> rfl), HB.out⟩
   replace c45 := Bool.eq_false_iff.mpr c45
   subst c45
   rw [if_neg (show ¬ (false = true) by decide)] at H
   by_cases c46 : (wrap64 ((wrap64 ((wrap64 (a0_0 - a1_0)) * (wrap64 (a2_0 - a1_0)))) + (wrap64 ((wrap64 (a0_1 - a1_1)) * (wrap64 (a2_1 - a1_1)))))) ≤ 0
   ·
    rw [if_pos c46] at H
    have c46b0 : decide ((wrap64 ((wrap64 ((wrap64 (a0_0 - a1_0)) * (wrap64 (a2_0 - a1_0)))) + (wrap64 ((wrap64 (a0_1 - a1_1)) * (wrap64 (a2_1 - a1_1)))))) ≤ 0) = true := decide_eq_true c46
    clear c46
    replace H := Option.bind_eq_some_iff.mp H
    obtain ⟨t379, A470, H⟩ := H
    try dsimp only at H
    have A47 := Aside0.mk A470
    clear A470
    simp only [Option.some.injEq, Prod.mk.injEq] at H
    obtain ⟨rfl, rfl⟩ := H
    have hnb48 := NB372_373.out
    have hnc48 := NB373_372.out
    have hnb49 := NB372_374.out
    have hnc49 := NB374_372.out
    have hcz50 := blk_cell BK372.out; have hfz50 := blk_frozen BK372.out
    have hnb51 := NB373_374.out
    have hnc51 := NB374_373.out
    have hcz52 := blk_cell BK373.out; have hfz52 := blk_frozen BK373.out; have hcz53 := blk_cell BK374.out; have hfz53 := blk_frozen BK374.out
    go_wp2_with (first | ((with_reducible refine gate_callee (f := 32) rfl ?_); refine goesL_ (some 59) rfl rfl Try.func32 (by kernel_rfl) rfl #[.agg #[.int .i64 a0_0, .int .i64 a0_1], .agg #[.int .i64 a1_0, .int .i64 a1_1]] rfl (by (try simp only [List.map_toArray, List.map_cons, List.map_nil]); first | done | rfl | (simp only [List.length_drop, List.length_take]; rfl)) ?_; (with_reducible refine (dancestudioref03_square.calls a0_0 a0_1 a1_0 a1_1 t379 _ A47.out).mono ?_); rintro e w54 ⟨rfl, hb⟩; refine ⟨_, rfl, ?_⟩; replace BK372 := mBb BK372 hb; replace BK373 := mBb BK373 hb; replace BK374 := mBb BK374 hb; replace HB := mSt HB hb; (try clear hb)))
    go_ret2
    exact ⟨by first | rfl | (simp [errW_none, errW_some] <;> rfl) | (simp [*, errW_none, errW_some] <;> rfl), HB.out⟩
   rw [if_neg c46] at H
   have c46b0 : decide ((wrap64 ((wrap64 ((wrap64 (a0_0 - a1_0)) * (wrap64 (a2_0 - a1_0)))) + (wrap64 ((wrap64 (a0_1 - a1_1)) * (wrap64 (a2_1 - a1_1)))))) ≤ 0) = false := decide_eq_false c46
   clear c46
   replace H := Option.bind_eq_some_iff.mp H
   obtain ⟨t380, A550, H⟩ := H
   try dsimp only at H
   have A55 := Aside0.mk A550
   clear A550
   by_cases c56 : (wrap64 ((wrap64 ((wrap64 (a0_0 - a1_0)) * (wrap64 (a2_0 - a1_0)))) + (wrap64 ((wrap64 (a0_1 - a1_1)) * (wrap64 (a2_1 - a1_1)))))) ≥ t380
   ·
    rw [if_pos c56] at H
    have c56b0 : decide (t380 ≤ (wrap64 ((wrap64 ((wrap64 (a0_0 - a1_0)) * (wrap64 (a2_0 - a1_0)))) + (wrap64 ((wrap64 (a0_1 - a1_1)) * (wrap64 (a2_1 - a1_1))))))) = true := decide_eq_true c56
    clear c56
    replace H := Option.bind_eq_some_iff.mp H
    obtain ⟨t381, A570, H⟩ := H
    try dsimp only at H
    have A57 := Aside0.mk A570
    clear A570
    simp only [Option.some.injEq, Prod.mk.injEq] at H
    obtain ⟨rfl, rfl⟩ := H
    have hnb58 := NB372_373.out
    have hnc58 := NB373_372.out
    have hnb59 := NB372_374.out
    have hnc59 := NB374_372.out
    have hcz60 := blk_cell BK372.out; have hfz60 := blk_frozen BK372.out
    have hnb61 := NB373_374.out
    have hnc61 := NB374_373.out
    have hcz62 := blk_cell BK373.out; have hfz62 := blk_frozen BK373.out; have hcz63 := blk_cell BK374.out; have hfz63 := blk_frozen BK374.out
    go_wp2_with (first | ((with_reducible refine gate_callee (f := 32) rfl ?_); refine goesL_ (some 67) rfl rfl Try.func32 (by kernel_rfl) rfl #[.agg #[.int .i64 a1_0, .int .i64 a1_1], .agg #[.int .i64 a2_0, .int .i64 a2_1]] rfl (by (try simp only [List.map_toArray, List.map_cons, List.map_nil]); first | done | rfl | (simp only [List.length_drop, List.length_take]; rfl)) ?_; (with_reducible refine (dancestudioref03_square.calls a1_0 a1_1 a2_0 a2_1 t380 _ A55.out).mono ?_); rintro e w64 ⟨rfl, hb⟩; refine ⟨_, rfl, ?_⟩; replace BK372 := mBb BK372 hb; replace BK373 := mBb BK373 hb; replace BK374 := mBb BK374 hb; replace HB := mSt HB hb; (try clear hb); have hcz65 := blk_cell BK372.out; have hfz65 := blk_frozen BK372.out; have hcz66 := blk_cell BK374.out; have hfz66 := blk_frozen BK374.out) | ((with_reducible refine gate_callee (f := 32) rfl ?_); refine goesL_ (some 71) rfl rfl Try.func32 (by kernel_rfl) rfl #[.agg #[.int .i64 a0_0, .int .i64 a0_1], .agg #[.int .i64 a2_0, .int .i64 a2_1]] rfl (by (try simp only [List.map_toArray, List.map_cons, List.map_nil]); first | done | rfl | (simp only [List.length_drop, List.length_take]; rfl)) ?_; (with_reducible refine (dancestudioref03_square.calls a0_0 a0_1 a2_0 a2_1 t381 _ A57.out).mono ?_); rintro e w67 ⟨rfl, hb⟩; refine ⟨_, rfl, ?_⟩; replace BK372 := mBb BK372 hb; replace BK373 := mBb BK373 hb; replace BK374 := mBb BK374 hb; replace HB := mSt HB hb; (try clear hb)))
    go_ret2
    exact ⟨by first | rfl | (simp [errW_none, errW_some] <;> rfl) | (simp [*, errW_none, errW_some] <;> rfl), HB.out⟩
   rw [if_neg c56] at H
   have c56b0 : decide (t380 ≤ (wrap64 ((wrap64 ((wrap64 (a0_0 - a1_0)) * (wrap64 (a2_0 - a1_0)))) + (wrap64 ((wrap64 (a0_1 - a1_1)) * (wrap64 (a2_1 - a1_1))))))) = false := decide_eq_false c56
   clear c56
   replace H := Option.bind_eq_some_iff.mp H
   obtain ⟨t382, A680, H⟩ := H
   try dsimp only at H
   have A68 := Aside0.mk A680
   clear A680
   replace H := Option.bind_eq_some_iff.mp H
   obtain ⟨t383, A690, H⟩ := H
   try dsimp only at H
   have A69 := Aside0.mk A690
   clear A690
   replace H := Option.bind_eq_some_iff.mp H
   obtain ⟨⟨t384, t385⟩, A700, H⟩ := H
   try dsimp only at H
   have A70 := Aside0.mk A700
   clear A700
   simp only [Option.some.injEq, Prod.mk.injEq] at H
   obtain ⟨rfl, rfl⟩ := H
   have hnb71 := NB372_373.out
   have hnc71 := NB373_372.out
   have hnb72 := NB372_374.out
   have hnc72 := NB374_372.out
   have hcz73 := blk_cell BK372.out; have hfz73 := blk_frozen BK372.out
   have hnb74 := NB373_374.out
   have hnc74 := NB374_373.out
   have hcz75 := blk_cell BK373.out; have hfz75 := blk_frozen BK373.out; have hcz76 := blk_cell BK374.out; have hfz76 := blk_frozen BK374.out
   go_wp2_with (first | ((with_reducible refine gate_callee (f := 32) rfl ?_); refine goesL_ (some 67) rfl rfl Try.func32 (by kernel_rfl) rfl #[.agg #[.int .i64 a1_0, .int .i64 a1_1], .agg #[.int .i64 a2_0, .int .i64 a2_1]] rfl (by (try simp only [List.map_toArray, List.map_cons, List.map_nil]); first | done | rfl | (simp only [List.length_drop, List.length_take]; rfl)) ?_; (with_reducible refine (dancestudioref03_square.calls a1_0 a1_1 a2_0 a2_1 t380 _ A55.out).mono ?_); rintro e w77 ⟨rfl, hb⟩; refine ⟨_, rfl, ?_⟩; replace BK372 := mBb BK372 hb; replace BK373 := mBb BK373 hb; replace BK374 := mBb BK374 hb; replace HB := mSt HB hb; (try clear hb); have hcz78 := blk_cell BK373.out; have hfz78 := blk_frozen BK373.out; have hcz79 := blk_cell BK374.out; have hfz79 := blk_frozen BK374.out; have hcz80 := blk_cell BK372.out; have hfz80 := blk_frozen BK372.out) | ((with_reducible refine gate_callee (f := 34) rfl ?_); refine goesL_ (some 79) rfl rfl Try.func34 (by kernel_rfl) rfl #[.agg #[.int .i64 a1_0, .int .i64 a1_1], .agg #[.int .i64 a2_0, .int .i64 a2_1], .agg #[.int .i64 a0_0, .int .i64 a0_1]] rfl (by (try simp only [List.map_toArray, List.map_cons, List.map_nil]); first | done | rfl | (simp only [List.length_drop, List.length_take]; rfl)) ?_; (with_reducible refine (dancestudioref03_cross.calls a1_0 a1_1 a2_0 a2_1 a0_0 a0_1 t382 _ A68.out).mono ?_); rintro e w81 ⟨rfl, hb⟩; refine ⟨_, rfl, ?_⟩; replace BK372 := mBb BK372 hb; replace BK373 := mBb BK373 hb; replace BK374 := mBb BK374 hb; replace HB := mSt HB hb; (try clear hb); have hcz82 := blk_cell BK373.out; have hfz82 := blk_frozen BK373.out; have hcz83 := blk_cell BK374.out; have hfz83 := blk_frozen BK374.out) | ((with_reducible refine gate_callee (f := 32) rfl ?_); refine goesL_ (some 88) rfl rfl Try.func32 (by kernel_rfl) rfl #[.agg #[.int .i64 a1_0, .int .i64 a1_1], .agg #[.int .i64 a2_0, .int .i64 a2_1]] rfl (by (try simp only [List.map_toArray, List.map_cons, List.map_nil]); first | done | rfl | (simp only [List.length_drop, List.length_take]; rfl)) ?_; (with_reducible refine (dancestudioref03_square.calls a1_0 a1_1 a2_0 a2_1 t383 _ A69.out).mono ?_); rintro e w84 ⟨rfl, hb⟩; refine ⟨_, rfl, ?_⟩; replace BK372 := mBb BK372 hb; replace BK373 := mBb BK373 hb; replace BK374 := mBb BK374 hb; replace HB := mSt HB hb; (try clear hb)) | ((with_reducible refine gate_callee (f := 38) rfl ?_); refine goesL_ (some 89) rfl rfl Try.func38 (by kernel_rfl) rfl #[.int .i64 t382, .int .i64 t382, .int .i64 (wrap64 (a3 * a3)), .int .i64 t383] rfl (by (try simp only [List.map_toArray, List.map_cons, List.map_nil]); first | done | rfl | (simp only [List.length_drop, List.length_take]; rfl)) ?_; (with_reducible refine (dancestudioref01_Compare.calls kj4 t382 t382 (wrap64 (a3 * a3)) t383 t384 t385 _ A70.out).mono ?_); rintro e w85 ⟨rfl, hb⟩; refine ⟨_, rfl, ?_⟩; replace BK372 := mBb BK372 hb; replace BK373 := mBb BK373 hb; replace BK374 := mBb BK374 hb; replace HB := mSt HB hb; (try clear hb)))
   go_ret2
   exact ⟨by first | rfl | (simp [errW_none, errW_some] <;> rfl) | (simp [*, errW_none, errW_some] <;> rfl), HB.out⟩
end Go.Proofs.Ytmilejcbkpkplaa.PAll
-- Written by wip/tools/handprint.py: walks of the functions that the law reaches; Lean checks them.
namespace Go.Proofs.Ytmilejcbkpkplaa.PAll
open Go.RowKit Go.Proofs.YtmilejcbkpkplaaW.PrintWords Go.Proofs.YtmilejcbkpkplaaW.PrintLast Go.Proofs.YtmilejcbkpkplaaW.PrintMore
attribute [local go_sem] max2_int min2_int max_two min_two max_three min_three max_four min_four   -- for this text's walks alone
set_option linter.unusedVariables false
set_option linter.unusedSimpArgs false

/-! ### dancestudioref03_before: function 42 -/
def dancestudioref03_before.f (a0_0 : Int) (a0_1 : Int) (a1_0 : Int) (a1_1 : Int) : Option (Bool) := if a0_0 < a1_0 then (some true) else (if a0_0 = a1_0 then (some (decide (a0_1 < a1_1))) else (some false))
set_option maxHeartbeats 8000000 in
set_option maxRecDepth 100000 in
theorem dancestudioref03_before.calls (a0_0 : Int) (a0_1 : Int) (a1_0 : Int) (a1_1 : Int) (r : Bool) (w : World) (h : dancestudioref03_before.f a0_0 a0_1 a1_0 a1_1 = some r) :
  Calls Try.prog 42 #[.agg #[.int .i64 a0_0, .int .i64 a0_1], .agg #[.int .i64 a1_0, .int .i64 a1_1]] w fun e w' => e = .returned (.bool r) ∧ Below w.heap.size w w' := by
 have hu23 := Try.underlying23
 have HB := Aside0.mk (Below.refl w.heap.size w)
 have H : (if a0_0 < a1_0 then (some true) else (if a0_0 = a1_0 then (some (decide (a0_1 < a1_1))) else (some false))) = some r := h
 clear h
 by_cases c3 : a0_0 < a1_0
 ·
  rw [if_pos c3] at H
  have c3b0 : decide (a0_0 < a1_0) = true := decide_eq_true c3
  clear c3
  obtain rfl := Option.some.inj H
  go_enter Try.func42, Try.ntmps42
  go_wp2_with (first | ((with_reducible refine gate_dst (N := 2) rfl ?_); refine box_event ?hg (N := 2) ?hd (cs := #[.int .i64 a0_0, .int .i64 a0_1]) (t := 23) ?hr ?_; (case hd => rfl); (case hg => rfl); (case hr => first | (go_simp; done) | (go_simp; rfl)); intro gb417 hg w4 hbox hb; have n0_ := Aside0.mk (below_step (by repeat (first | (with_reducible first | exact HB.out | apply below_alloc | apply pw_below_drewN | apply below_drew1) | exact HB.out)) hb); have n1_ := Aside0.mk (hbox); have n2_ := Aside0.mk ((by rw [hg]; exact (below_size (by repeat (first | (with_reducible first | exact HB.out | apply below_alloc | apply pw_below_drewN | apply below_drew1) | exact HB.out))) : w.heap.size ≤ gb417)); have n3_ := Aside0.mk ((by rw [hg]; exact (below_size (by repeat (first | (with_reducible first | exact HB.out | apply below_alloc | apply pw_below_drewN | apply below_drew1) | exact HB.out))) : w.heap.size ≤ gb417)); clear HB; have HB := n0_; have BK417 := n1_; have GW417 := n2_; have GE417 := n3_; clear n0_ n1_ n2_ n3_; clear hb hbox hg) | ((with_reducible refine gate_dst (N := 3) rfl ?_); refine box_event ?hg (N := 3) ?hd (cs := #[.int .i64 a1_0, .int .i64 a1_1]) (t := 23) ?hr ?_; (case hd => rfl); (case hg => rfl); (case hr => first | (go_simp; done) | (go_simp; rfl)); intro gb418 hg w5 hbox hb; have n0_ := Aside0.mk (blk_below (g := gb417) (o := .cells #[.int .i64 a0_0, .int .i64 a0_1] 23 (0, 0)) (by (with_reducible repeat (first | refine blk_drewN ?_ _ | refine blk_drew ?_ | refine blk_alloc ?_ _)); exact BK417.out) hb); have n1_ := Aside0.mk (below_step (by repeat (first | (with_reducible first | exact HB.out | apply below_alloc | apply pw_below_drewN | apply below_drew1 | refine below_set ?_ GE417.out) | exact HB.out)) hb); have n2_ := Aside0.mk (hbox); have n3_ := Aside0.mk ((by rw [hg]; exact (below_size (by repeat (first | (with_reducible first | exact HB.out | apply below_alloc | apply pw_below_drewN | apply below_drew1 | refine below_set ?_ GE417.out) | exact HB.out))) : w.heap.size ≤ gb418)); have n4_ := Aside0.mk ((by rw [hg]; exact (below_size (by repeat (first | (with_reducible first | exact HB.out | apply below_alloc | apply pw_below_drewN | apply below_drew1 | refine below_set ?_ GE417.out) | exact HB.out))) : w.heap.size ≤ gb418)); have n5_ := Aside0.mk ((by rw [hg]; exact Nat.ne_of_lt (blk_lt (g := gb417) (o := .cells #[.int .i64 a0_0, .int .i64 a0_1] 23 (0, 0)) (by (with_reducible repeat (first | refine blk_drewN ?_ _ | refine blk_drew ?_ | refine blk_alloc ?_ _)); exact BK417.out)) : gb417 ≠ gb418)); have n6_ := Aside0.mk ((by rw [hg]; exact Nat.ne_of_gt (blk_lt (g := gb417) (o := .cells #[.int .i64 a0_0, .int .i64 a0_1] 23 (0, 0)) (by (with_reducible repeat (first | refine blk_drewN ?_ _ | refine blk_drew ?_ | refine blk_alloc ?_ _)); exact BK417.out)) : gb418 ≠ gb417)); clear BK417; clear HB; have BK417 := n0_; have HB := n1_; have BK418 := n2_; have GW418 := n3_; have GE418 := n4_; have NB417_418 := n5_; have NB418_417 := n6_; clear n0_ n1_ n2_ n3_ n4_ n5_ n6_; clear hb hbox hg; have hnb6 := NB417_418.out; have hnc6 := NB418_417.out; have hcz7_0 : w5.cell? ⟨gb417, 0, none⟩ = some (.int .i64 a0_0) := (blk_cell BK417.out 0).trans rfl; have hcz7_1 : w5.cell? ⟨gb417, 1, none⟩ = some (.int .i64 a0_1) := (blk_cell BK417.out 1).trans rfl; have hfz7_0 := blk_frozen BK417.out 0; have hfz7_1 := blk_frozen BK417.out 1; have hcz8_0 : w5.cell? ⟨gb418, 0, none⟩ = some (.int .i64 a1_0) := (blk_cell BK418.out 0).trans rfl; have hcz8_1 : w5.cell? ⟨gb418, 1, none⟩ = some (.int .i64 a1_1) := (blk_cell BK418.out 1).trans rfl; have hfz8_0 := blk_frozen BK418.out 0; have hfz8_1 := blk_frozen BK418.out 1))
  go_ret
  exact ⟨by first | rfl | (simp [errW_none, errW_some] <;> rfl) | (simp [*, errW_none, errW_some] <;> rfl), by repeat (first | (with_reducible first | exact HB.out | apply below_alloc | apply pw_below_drewN | apply below_drew1 | refine below_set ?_ GE417.out | refine below_set ?_ GE418.out) | exact HB.out)⟩
 ·
  rw [if_neg c3] at H
  have c3b0 : decide (a0_0 < a1_0) = false := decide_eq_false c3
  clear c3
  by_cases c9 : a0_0 = a1_0
  ·
   rw [if_pos c9] at H
   have c9b0 : (a0_0 == a1_0) = true := beq_iff_eq.mpr c9
   have c9b1 : (a0_0 != a1_0) = false := bne_eq_false_iff_eq.mpr c9
   clear c9
   obtain rfl := Option.some.inj H
   go_enter Try.func42, Try.ntmps42
   go_wp2_with (first | ((with_reducible refine gate_dst (N := 2) rfl ?_); refine box_event ?hg (N := 2) ?hd (cs := #[.int .i64 a0_0, .int .i64 a0_1]) (t := 23) ?hr ?_; (case hd => rfl); (case hg => rfl); (case hr => first | (go_simp; done) | (go_simp; rfl)); intro gb417 hg w10 hbox hb; have n0_ := Aside0.mk (below_step (by repeat (first | (with_reducible first | exact HB.out | apply below_alloc | apply pw_below_drewN | apply below_drew1) | exact HB.out)) hb); have n1_ := Aside0.mk (hbox); have n2_ := Aside0.mk ((by rw [hg]; exact (below_size (by repeat (first | (with_reducible first | exact HB.out | apply below_alloc | apply pw_below_drewN | apply below_drew1) | exact HB.out))) : w.heap.size ≤ gb417)); have n3_ := Aside0.mk ((by rw [hg]; exact (below_size (by repeat (first | (with_reducible first | exact HB.out | apply below_alloc | apply pw_below_drewN | apply below_drew1) | exact HB.out))) : w.heap.size ≤ gb417)); clear HB; have HB := n0_; have BK417 := n1_; have GW417 := n2_; have GE417 := n3_; clear n0_ n1_ n2_ n3_; clear hb hbox hg) | ((with_reducible refine gate_dst (N := 3) rfl ?_); refine box_event ?hg (N := 3) ?hd (cs := #[.int .i64 a1_0, .int .i64 a1_1]) (t := 23) ?hr ?_; (case hd => rfl); (case hg => rfl); (case hr => first | (go_simp; done) | (go_simp; rfl)); intro gb418 hg w11 hbox hb; have n0_ := Aside0.mk (blk_below (g := gb417) (o := .cells #[.int .i64 a0_0, .int .i64 a0_1] 23 (0, 0)) (by (with_reducible repeat (first | refine blk_drewN ?_ _ | refine blk_drew ?_ | refine blk_alloc ?_ _)); exact BK417.out) hb); have n1_ := Aside0.mk (below_step (by repeat (first | (with_reducible first | exact HB.out | apply below_alloc | apply pw_below_drewN | apply below_drew1 | refine below_set ?_ GE417.out) | exact HB.out)) hb); have n2_ := Aside0.mk (hbox); have n3_ := Aside0.mk ((by rw [hg]; exact (below_size (by repeat (first | (with_reducible first | exact HB.out | apply below_alloc | apply pw_below_drewN | apply below_drew1 | refine below_set ?_ GE417.out) | exact HB.out))) : w.heap.size ≤ gb418)); have n4_ := Aside0.mk ((by rw [hg]; exact (below_size (by repeat (first | (with_reducible first | exact HB.out | apply below_alloc | apply pw_below_drewN | apply below_drew1 | refine below_set ?_ GE417.out) | exact HB.out))) : w.heap.size ≤ gb418)); have n5_ := Aside0.mk ((by rw [hg]; exact Nat.ne_of_lt (blk_lt (g := gb417) (o := .cells #[.int .i64 a0_0, .int .i64 a0_1] 23 (0, 0)) (by (with_reducible repeat (first | refine blk_drewN ?_ _ | refine blk_drew ?_ | refine blk_alloc ?_ _)); exact BK417.out)) : gb417 ≠ gb418)); have n6_ := Aside0.mk ((by rw [hg]; exact Nat.ne_of_gt (blk_lt (g := gb417) (o := .cells #[.int .i64 a0_0, .int .i64 a0_1] 23 (0, 0)) (by (with_reducible repeat (first | refine blk_drewN ?_ _ | refine blk_drew ?_ | refine blk_alloc ?_ _)); exact BK417.out)) : gb418 ≠ gb417)); clear BK417; clear HB; have BK417 := n0_; have HB := n1_; have BK418 := n2_; have GW418 := n3_; have GE418 := n4_; have NB417_418 := n5_; have NB418_417 := n6_; clear n0_ n1_ n2_ n3_ n4_ n5_ n6_; clear hb hbox hg; have hnb12 := NB417_418.out; have hnc12 := NB418_417.out; have hcz13_0 : w11.cell? ⟨gb417, 0, none⟩ = some (.int .i64 a0_0) := (blk_cell BK417.out 0).trans rfl; have hcz13_1 : w11.cell? ⟨gb417, 1, none⟩ = some (.int .i64 a0_1) := (blk_cell BK417.out 1).trans rfl; have hfz13_0 := blk_frozen BK417.out 0; have hfz13_1 := blk_frozen BK417.out 1; have hcz14_0 : w11.cell? ⟨gb418, 0, none⟩ = some (.int .i64 a1_0) := (blk_cell BK418.out 0).trans rfl; have hcz14_1 : w11.cell? ⟨gb418, 1, none⟩ = some (.int .i64 a1_1) := (blk_cell BK418.out 1).trans rfl; have hfz14_0 := blk_frozen BK418.out 0; have hfz14_1 := blk_frozen BK418.out 1))
   go_ret
   exact ⟨by first | rfl | (simp [errW_none, errW_some] <;> rfl) | (simp [*, errW_none, errW_some] <;> rfl), by repeat (first | (with_reducible first | exact HB.out | apply below_alloc | apply pw_below_drewN | apply below_drew1 | refine below_set ?_ GE417.out | refine below_set ?_ GE418.out) | exact HB.out)⟩
  ·
   rw [if_neg c9] at H
   have c9b0 : (a0_0 == a1_0) = false := beq_eq_false_iff_ne.mpr c9
   have c9b1 : (a0_0 != a1_0) = true := bne_iff_ne.mpr c9
   obtain rfl := Option.some.inj H
   go_enter Try.func42, Try.ntmps42
   go_wp2_with (first | ((with_reducible refine gate_dst (N := 2) rfl ?_); refine box_event ?hg (N := 2) ?hd (cs := #[.int .i64 a0_0, .int .i64 a0_1]) (t := 23) ?hr ?_; (case hd => rfl); (case hg => rfl); (case hr => first | (go_simp; done) | (go_simp; rfl)); intro gb417 hg w15 hbox hb; have n0_ := Aside0.mk (below_step (by repeat (first | (with_reducible first | exact HB.out | apply below_alloc | apply pw_below_drewN | apply below_drew1) | exact HB.out)) hb); have n1_ := Aside0.mk (hbox); have n2_ := Aside0.mk ((by rw [hg]; exact (below_size (by repeat (first | (with_reducible first | exact HB.out | apply below_alloc | apply pw_below_drewN | apply below_drew1) | exact HB.out))) : w.heap.size ≤ gb417)); have n3_ := Aside0.mk ((by rw [hg]; exact (below_size (by repeat (first | (with_reducible first | exact HB.out | apply below_alloc | apply pw_below_drewN | apply below_drew1) | exact HB.out))) : w.heap.size ≤ gb417)); clear HB; have HB := n0_; have BK417 := n1_; have GW417 := n2_; have GE417 := n3_; clear n0_ n1_ n2_ n3_; clear hb hbox hg) | ((with_reducible refine gate_dst (N := 3) rfl ?_); refine box_event ?hg (N := 3) ?hd (cs := #[.int .i64 a1_0, .int .i64 a1_1]) (t := 23) ?hr ?_; (case hd => rfl); (case hg => rfl); (case hr => first | (go_simp; done) | (go_simp; rfl)); intro gb418 hg w16 hbox hb; have n0_ := Aside0.mk (blk_below (g := gb417) (o := .cells #[.int .i64 a0_0, .int .i64 a0_1] 23 (0, 0)) (by (with_reducible repeat (first | refine blk_drewN ?_ _ | refine blk_drew ?_ | refine blk_alloc ?_ _)); exact BK417.out) hb); have n1_ := Aside0.mk (below_step (by repeat (first | (with_reducible first | exact HB.out | apply below_alloc | apply pw_below_drewN | apply below_drew1 | refine below_set ?_ GE417.out) | exact HB.out)) hb); have n2_ := Aside0.mk (hbox); have n3_ := Aside0.mk ((by rw [hg]; exact (below_size (by repeat (first | (with_reducible first | exact HB.out | apply below_alloc | apply pw_below_drewN | apply below_drew1 | refine below_set ?_ GE417.out) | exact HB.out))) : w.heap.size ≤ gb418)); have n4_ := Aside0.mk ((by rw [hg]; exact (below_size (by repeat (first | (with_reducible first | exact HB.out | apply below_alloc | apply pw_below_drewN | apply below_drew1 | refine below_set ?_ GE417.out) | exact HB.out))) : w.heap.size ≤ gb418)); have n5_ := Aside0.mk ((by rw [hg]; exact Nat.ne_of_lt (blk_lt (g := gb417) (o := .cells #[.int .i64 a0_0, .int .i64 a0_1] 23 (0, 0)) (by (with_reducible repeat (first | refine blk_drewN ?_ _ | refine blk_drew ?_ | refine blk_alloc ?_ _)); exact BK417.out)) : gb417 ≠ gb418)); have n6_ := Aside0.mk ((by rw [hg]; exact Nat.ne_of_gt (blk_lt (g := gb417) (o := .cells #[.int .i64 a0_0, .int .i64 a0_1] 23 (0, 0)) (by (with_reducible repeat (first | refine blk_drewN ?_ _ | refine blk_drew ?_ | refine blk_alloc ?_ _)); exact BK417.out)) : gb418 ≠ gb417)); clear BK417; clear HB; have BK417 := n0_; have HB := n1_; have BK418 := n2_; have GW418 := n3_; have GE418 := n4_; have NB417_418 := n5_; have NB418_417 := n6_; clear n0_ n1_ n2_ n3_ n4_ n5_ n6_; clear hb hbox hg; have hnb17 := NB417_418.out; have hnc17 := NB418_417.out; have hcz18_0 : w16.cell? ⟨gb417, 0, none⟩ = some (.int .i64 a0_0) := (blk_cell BK417.out 0).trans rfl; have hcz18_1 : w16.cell? ⟨gb417, 1, none⟩ = some (.int .i64 a0_1) := (blk_cell BK417.out 1).trans rfl; have hfz18_0 := blk_frozen BK417.out 0; have hfz18_1 := blk_frozen BK417.out 1; have hcz19_0 : w16.cell? ⟨gb418, 0, none⟩ = some (.int .i64 a1_0) := (blk_cell BK418.out 0).trans rfl; have hcz19_1 : w16.cell? ⟨gb418, 1, none⟩ = some (.int .i64 a1_1) := (blk_cell BK418.out 1).trans rfl; have hfz19_0 := blk_frozen BK418.out 0; have hfz19_1 := blk_frozen BK418.out 1))
   go_ret
   exact ⟨by first | rfl | (simp [errW_none, errW_some] <;> rfl) | (simp [*, errW_none, errW_some] <;> rfl), by repeat (first | (with_reducible first | exact HB.out | apply below_alloc | apply pw_below_drewN | apply below_drew1 | refine below_set ?_ GE417.out | refine below_set ?_ GE418.out) | exact HB.out)⟩
end Go.Proofs.Ytmilejcbkpkplaa.PAll
-- Written by wip/tools/handprint.py: walks of the functions that the law reaches; Lean checks them.
namespace Go.Proofs.Ytmilejcbkpkplaa.PAll
open Go.RowKit Go.Proofs.YtmilejcbkpkplaaW.PrintWords Go.Proofs.YtmilejcbkpkplaaW.PrintLast Go.Proofs.YtmilejcbkpkplaaW.PrintMore
attribute [local go_sem] max2_int min2_int max_two min_two max_three min_three max_four min_four   -- for this text's walks alone
set_option linter.unusedVariables false
set_option linter.unusedSimpArgs false
attribute [local go_sem high] eqA23

/-! ### dancestudioref03_next: function 43 -/
mutual
def dancestudioref03_next.l0 : Nat → List (S23) → Int → Int → Int → Int → Int → Option (Int × Int)
 | 0, _, _, _, _, _, _ => none
 | k + 1, x0, x6, x420000, x420001, x422000, x422001 => if x6 < (x0.length : Int) then (if 0 ≤ x6 then (if (((rd_T23 x0 x6).f0) == x420000 && (((rd_T23 x0 x6).f1) == x420001)) = true then (dancestudioref03_next.l0 k x0 (wrap64 (x6 + 1)) x420000 x420001 x422000 x422001) else ((dancestudioref03_cross.f x420000 x420001 x422000 x422001 ((rd_T23 x0 x6).f0) ((rd_T23 x0 x6).f1)).bind fun t424 => (if (x422000 == x420000 && (x422001 == x420001)) = true then (dancestudioref03_next.j1 k x0 x6 true x420000 x420001 x422000 x422001) else (if t424 < 0 then (dancestudioref03_next.j1 k x0 x6 true x420000 x420001 x422000 x422001) else (if t424 = 0 then ((dancestudioref03_square.f x420000 x420001 ((rd_T23 x0 x6).f0) ((rd_T23 x0 x6).f1)).bind fun t426 => ((dancestudioref03_square.f x420000 x420001 x422000 x422001).bind fun t427 => (dancestudioref03_next.j1 k x0 x6 (decide (t426 > t427)) x420000 x420001 x422000 x422001))) else (dancestudioref03_next.j1 k x0 x6 false x420000 x420001 x422000 x422001)))))) else (none)) else (some (x422000, x422001))
def dancestudioref03_next.j1 : Nat → List (S23) → Int → Bool → Int → Int → Int → Int → Option (Int × Int)
 | 0, _, _, _, _, _, _, _ => none
 | k + 1, x0, x6, x50, x420000, x420001, x422000, x422001 => if x50 = true then (if 0 ≤ x6 then (if x6 < (x0.length : Int) then (dancestudioref03_next.l0 k x0 (wrap64 (x6 + 1)) x420000 x420001 ((rd_T23 x0 x6).f0) ((rd_T23 x0 x6).f1)) else (none)) else (none)) else (dancestudioref03_next.l0 k x0 (wrap64 (x6 + 1)) x420000 x420001 x422000 x422001)
end
def dancestudioref03_next.f (k : Nat) (l0 : List (S23)) (a1_0 : Int) (a1_1 : Int) : Option (Int × Int) := dancestudioref03_next.l0 k l0 0 a1_0 a1_1 a1_0 a1_1
theorem dancestudioref03_next.mono_l : ∀ k, (∀ y0 y1 y2 y3 y4 y5, LeO (dancestudioref03_next.l0 k y0 y1 y2 y3 y4 y5) (dancestudioref03_next.l0 (k + 1) y0 y1 y2 y3 y4 y5)) ∧ (∀ y0 y1 y2 y3 y4 y5 y6, LeO (dancestudioref03_next.j1 k y0 y1 y2 y3 y4 y5 y6) (dancestudioref03_next.j1 (k + 1) y0 y1 y2 y3 y4 y5 y6))
 | 0 => ⟨fun _ _ _ _ _ _ r h => by simp [dancestudioref03_next.l0] at h, fun _ _ _ _ _ _ _ r h => by simp [dancestudioref03_next.j1] at h⟩
 | k + 1 => by
  obtain ⟨ih0, ih1⟩ := dancestudioref03_next.mono_l k
  refine ⟨?_, ?_⟩
  ·
   intro y0 y1 y2 y3 y4 y5
   unfold dancestudioref03_next.l0
   repeat' first
   | (with_reducible exact ih0 _ _ _ _ _ _)
   | (with_reducible exact ih1 _ _ _ _ _ _ _)
   | (with_reducible exact LeO.refl _)
   | (with_reducible exact LeO.none _)
   | (with_reducible refine LeO.ite ?_ ?_)
   | (with_reducible refine LeO.bind ?_ (fun _ => ?_))
   | exact ih0 _ _ _ _ _ _
   | exact ih1 _ _ _ _ _ _ _
   | exact LeO.none _
   | refine LeO.ite ?_ ?_
   | refine LeO.bind ?_ (fun _ => ?_)
  ·
   intro y0 y1 y2 y3 y4 y5 y6
   unfold dancestudioref03_next.j1
   repeat' first
   | (with_reducible exact ih0 _ _ _ _ _ _)
   | (with_reducible exact ih1 _ _ _ _ _ _ _)
   | (with_reducible exact LeO.refl _)
   | (with_reducible exact LeO.none _)
   | (with_reducible refine LeO.ite ?_ ?_)
   | (with_reducible refine LeO.bind ?_ (fun _ => ?_))
   | exact ih0 _ _ _ _ _ _
   | exact ih1 _ _ _ _ _ _ _
   | exact LeO.none _
   | refine LeO.ite ?_ ?_
   | refine LeO.bind ?_ (fun _ => ?_)
theorem dancestudioref03_next.mono : ∀ a0 a1 a2 k, LeO (dancestudioref03_next.f k a0 a1 a2) (dancestudioref03_next.f (k + 1) a0 a1 a2) := by
 intro a0 a1 a2 k
 obtain ⟨ih0, ih1⟩ := dancestudioref03_next.mono_l k
 unfold dancestudioref03_next.f
 repeat' first
   | (with_reducible exact ih0 _ _ _ _ _ _)
   | (with_reducible exact ih1 _ _ _ _ _ _ _)
   | (with_reducible exact LeO.refl _)
   | (with_reducible exact LeO.none _)
   | (with_reducible refine LeO.ite ?_ ?_)
   | (with_reducible refine LeO.bind ?_ (fun _ => ?_))
   | exact ih0 _ _ _ _ _ _
   | exact ih1 _ _ _ _ _ _ _
   | exact LeO.none _
   | refine LeO.ite ?_ ?_
   | refine LeO.bind ?_ (fun _ => ?_)
def dancestudioref03_next.T6 : Bool × List (List Nat × List Nat) := (true, [([], []), ([], []), ([], []), ([], []), ([2, 3], [2, 3]), ([4], [4]), ([0, 1, 5], [0, 1, 5]), ([6, 6, 0, 1, 2, 3, 4, 5, 6], [6])])
def dancestudioref03_next.B6 : List Nat := [0, 0, 0, 0, 12, 28, 63, 127]
theorem dancestudioref03_next.tab6 : rtab .any (opsOf Try.f43 6) = dancestudioref03_next.T6 := by kernel_rfl
theorem dancestudioref03_next.bits6 : waitsOk dancestudioref03_next.T6.2 dancestudioref03_next.B6 = true := by kernel_rfl
def dancestudioref03_next.T7 : Bool × List (List Nat × List Nat) := (true, [([], []), ([], []), ([0, 1], [0, 1]), ([2], [2]), ([3], [3]), ([4, 3], [3, 4]), ([3, 5], [3, 5]), ([6, 3], [6]), ([7], [7]), ([8, 7], [7, 8]), ([9, 7, 7], [7, 9]), ([10], [10]), ([10], [10]), ([10], [10]), ([12, 13, 10], [10, 12, 13]), ([14, 10], [10, 14]), ([11, 15, 10, 10], [10, 11, 15]), ([10], [10]), ([10], [10]), ([17, 18, 16, 10], [10, 17, 18]), ([16, 19, 10], [10, 16, 19]), ([10, 20, 7], [7, 10, 20]), ([7, 21], [7, 21])])
def dancestudioref03_next.B7 : List Nat := [0, 0, 3, 7, 15, 31, 63, 127, 255, 511, 1023, 2047, 2047, 2047, 14335, 30719, 65535, 2047, 2047, 524287, 1048575, 2097151, 4194303]
theorem dancestudioref03_next.tab7 : rtab .any (opsOf Try.f43 7) = dancestudioref03_next.T7 := by kernel_rfl
theorem dancestudioref03_next.bits7 : waitsOk dancestudioref03_next.T7.2 dancestudioref03_next.B7 = true := by kernel_rfl
set_option maxHeartbeats 8000000 in
set_option maxRecDepth 100000 in
theorem dancestudioref03_next.calls (k : Nat) (A0 : Option Addr) (c0 : Nat) (l0 : List (S23)) (a1_0 : Int) (a1_1 : Int) (r1 : Int) (r2 : Int) (w : World) (hr0 : Kd.C k23 w A0 l0.length l0) (hc0 : l0.length ≤ c0) (h : dancestudioref03_next.f k l0 a1_0 a1_1 = some (r1, r2)) :
  Calls Try.prog 43 #[.slice A0 l0.length c0, .agg #[.int .i64 a1_0, .int .i64 a1_1]] w fun e w' => e = .returned (.agg #[.int .i64 r1, .int .i64 r2]) ∧ Below w.heap.size w w' := by
 have hu23 := Try.underlying23
 have HR0 := Aside0.mk hr0
 have HC0 := Aside0.mk hc0
 clear hr0 hc0
 have HB := Aside0.mk (Below.refl w.heap.size w)
 have H : (dancestudioref03_next.l0 k l0 0 a1_0 a1_1 a1_0 a1_1) = some (r1, r2) := h
 clear h
 have H' := Aside0.mk H
 clear H
 go_enter Try.func43, Try.ntmps43
 go_wp2_with (first | ((with_reducible refine gate_dst (N := 3) rfl ?_); refine box_event ?hg (N := 3) ?hd (cs := #[.int .i64 a1_0, .int .i64 a1_1]) (t := 23) ?hr ?_; (case hd => rfl); (case hg => rfl); (case hr => first | (go_simp; done) | (go_simp; rfl)); intro gb419 hg w3 hbox hb; have BK419 := Aside0.mk hbox; have GW419 := mGw HB hg; have GE419 := GW419; replace HB := mSt HB hb; clear hb hbox hg) | ((with_reducible refine gate_dst (N := 4) rfl ?_); refine box_event ?hg (N := 4) ?hd (cs := #[.int .i64 0, .int .i64 0]) (t := 23) ?hr ?_; (case hd => rfl); (case hg => rfl); (case hr => first | (go_simp; done) | (go_simp; rfl)); intro gb420 hg w4 hbox hb; have BK420 := Aside0.mk hbox; have GW420 := mGw HB hg; have GE420 := GW420; replace HB := mSt HB hb; have NB419_420 := mNe BK419 hg; have NB420_419 := mSy NB419_420; replace BK419 := mBb BK419 hb; clear hb hbox hg; have hnb5 := NB419_420.out; have hnc5 := NB420_419.out; have hcz6 := blk_cell BK419.out; have hfz6 := blk_frozen BK419.out) | ((with_reducible refine gate_dst (N := 5) rfl ?_); refine box_event ?hg (N := 5) ?hd (cs := #[.int .i64 0, .int .i64 0]) (t := 23) ?hr ?_; (case hd => rfl); (case hg => rfl); (case hr => first | (go_simp; done) | (go_simp; rfl)); intro gb421 hg w7 hbox hb; have BK421 := Aside0.mk hbox; have GW421 := mGw HB hg; have GE421 := GW421; replace HB := mSt HB hb; have NB419_421 := mNe BK419 hg; have NB421_419 := mSy NB419_421; replace BK419 := mBb BK419 hb; have NB420_421 := mNe BK420 hg; have NB421_420 := mSy NB420_421; replace BK420 := mBb BK420 hb; clear hb hbox hg; have hnb8 := NB421_419.out; have hnc8 := NB419_421.out; have hnb9 := NB421_420.out; have hnc9 := NB420_421.out; have hcz10 := blk_cell BK421.out; have hfz10 := blk_frozen BK421.out))
 go_loopg [6] k (fun kq v6 w' => ∃ (x6_1 : Int) (x422000_1 : Int) (x422001_1 : Int), v6 = .int .i64 x6_1 ∧ Aside0 (dancestudioref03_next.l0 kq l0 x6_1 a1_0 a1_1 x422000_1 x422001_1 = some (r1, r2)) ∧ Aside0 (kq ≤ k) ∧ Aside0 (w'.heap[gb419]? = some (.cells #[.int .i64 a1_0, .int .i64 a1_1] 23 (0, 0))) ∧ Aside0 (w'.heap[gb420]? = some (.cells #[.int .i64 0, .int .i64 0] 23 (0, 0))) ∧ Aside0 (w'.heap[gb421]? = some (.cells #[.int .i64 x422000_1, .int .i64 x422001_1] 23 (0, 0))) ∧ Aside0 (Below w.heap.size w w'))
 case atStart => exact ⟨(0), (a1_0), (a1_1), (by first | rfl | (simp; done) | (simp [*]; done)), H', ⟨Nat.le_refl _⟩, ⟨by (with_reducible repeat (first | refine blk_drewN ?_ _ | refine blk_drew ?_ | refine blk_alloc ?_ _)); refine blk_far ?_ NB419_421.out _; (with_reducible repeat (first | refine blk_drewN ?_ _ | refine blk_drew ?_ | refine blk_alloc ?_ _)); refine blk_far ?_ NB419_421.out _; (with_reducible repeat (first | refine blk_drewN ?_ _ | refine blk_drew ?_ | refine blk_alloc ?_ _)); exact BK419.out⟩, ⟨by (with_reducible repeat (first | refine blk_drewN ?_ _ | refine blk_drew ?_ | refine blk_alloc ?_ _)); refine blk_far ?_ NB420_421.out _; (with_reducible repeat (first | refine blk_drewN ?_ _ | refine blk_drew ?_ | refine blk_alloc ?_ _)); refine blk_far ?_ NB420_421.out _; (with_reducible repeat (first | refine blk_drewN ?_ _ | refine blk_drew ?_ | refine blk_alloc ?_ _)); exact BK420.out⟩, ⟨by (with_reducible repeat (first | refine blk_drewN ?_ _ | refine blk_drew ?_ | refine blk_alloc ?_ _)); refine blk_put (cs := #[.int .i64 a1_0, .int .i64 0]) ?_ 1 _ rfl; (with_reducible repeat (first | refine blk_drewN ?_ _ | refine blk_drew ?_ | refine blk_alloc ?_ _)); refine blk_put (cs := #[.int .i64 0, .int .i64 0]) ?_ 0 _ rfl; (with_reducible repeat (first | refine blk_drewN ?_ _ | refine blk_drew ?_ | refine blk_alloc ?_ _)); exact BK421.out⟩, ⟨by repeat (first | (with_reducible first | exact HB.out | apply below_alloc | apply pw_below_drewN | apply below_drew1 | refine below_set ?_ GE419.out | refine below_set ?_ GE420.out | refine below_set ?_ GE421.out) | exact HB.out)⟩⟩
 case round =>
  clear H'
  try clear p2; try clear c4; try clear c5; try clear c8; try clear c9; try clear hcz10_0; try clear hcz10_1; try clear hcz6_0; try clear hcz6_1; try clear hfz10_0; try clear hfz10_1; try clear hfz6_0; try clear hfz6_1
  obtain ⟨x6_1, x422000_1, x422001_1, rfl, HA, HK1, BK419, BK420, BK421, HB⟩ := hrel
  cases gk with
  | zero => exact absurd HA.out (by simp [dancestudioref03_next.l0])
  | succ k1 =>
   have H := HA.out
   clear HA
   simp only [dancestudioref03_next.l0] at H
   by_cases c11 : x6_1 < (l0.length : Int)
   rotate_left
   ·
    rw [if_neg c11] at H
    have c11b0 : decide (x6_1 < (l0.length : Int)) = false := decide_eq_false c11
    clear c11
    simp only [Option.some.injEq, Prod.mk.injEq] at H
    obtain ⟨rfl, rfl⟩ := H
    have hnb37 := NB421_419.out
    have hnc37 := NB419_421.out
    have hnb38 := NB421_420.out
    have hnc38 := NB420_421.out
    have hcz39 := blk_cell BK421.out; have hfz39 := blk_frozen BK421.out
    have hnb40 := NB420_419.out
    have hnc40 := NB419_420.out
    have hcz41 := blk_cell BK420.out; have hfz41 := blk_frozen BK420.out
    go_wp2
    refine bodyPost_ret (results_cell_row rfl _ _ gb420 23 #[.int .i64 x422000_1, .int .i64 x422001_1] (0, 0) _ rfl (by (with_reducible repeat (first | refine blk_drewN ?_ _ | refine blk_drew ?_ | refine blk_alloc ?_ _)); refine blk_put (cs := #[.int .i64 x422000_1, .int .i64 0]) ?_ 1 _ rfl; (with_reducible repeat (first | refine blk_drewN ?_ _ | refine blk_drew ?_ | refine blk_alloc ?_ _)); refine blk_put (cs := #[.int .i64 0, .int .i64 0]) ?_ 0 _ rfl; (with_reducible repeat (first | refine blk_drewN ?_ _ | refine blk_drew ?_ | refine blk_alloc ?_ _)); exact BK420.out) Try.underlying23 rfl (by kernel_rfl)) rfl ?_
    exact ⟨by first | rfl | (simp [errW_none, errW_some] <;> rfl) | (simp [*, errW_none, errW_some] <;> rfl), by repeat (first | (with_reducible first | exact HB.out | apply below_alloc | apply pw_below_drewN | apply below_drew1 | refine below_set ?_ GE419.out | refine below_set ?_ GE420.out | refine below_set ?_ GE421.out) | exact HB.out)⟩
   rw [if_pos c11] at H
   have c11b0 : decide (x6_1 < (l0.length : Int)) = true := decide_eq_true c11
   clear c11
   by_cases c12 : 0 ≤ x6_1
   rotate_left
   ·
    rw [if_neg c12] at H
    exact absurd H (by simp)
   rw [if_pos c12] at H
   have c12b0 : decide (0 ≤ x6_1) = true := decide_eq_true c12
   clear c12
   by_cases c13 : (((rd_T23 l0 x6_1).f0) == a1_0 && (((rd_T23 l0 x6_1).f1) == a1_1)) = true
   ·
    rw [if_pos c13] at H
    have c13b0 : (((rd_T23 l0 x6_1).f0) == a1_0 && (((rd_T23 l0 x6_1).f1) == a1_1)) = true := c13
    (try (have c13b1 : decide (((rd_T23 l0 x6_1).f0) = a1_0 && (((rd_T23 l0 x6_1).f1) == a1_1)) = true := by simpa using c13))
    (try (have c13b2 : (((rd_T23 l0 x6_1).f0) == a1_0 && (((rd_T23 l0 x6_1).f1) == a1_1)) = true := by simpa using c13))
    clear c13
    have H' := Aside0.mk H
    clear H
    try go_wp2
    replace BK419 := Aside0.mk (blk_drew BK419.out); replace BK420 := Aside0.mk (blk_drew BK420.out); replace BK421 := Aside0.mk (blk_drew BK421.out); replace HB := Aside0.mk (below_drew1 HB.out)
    have p422 : 0 ≤ (x6_1 : Int) := of_decide_eq_true (by first | (with_reducible assumption) | assumption)
    have q422 : x6_1 < (l0.length : Int) := of_decide_eq_true (by first | (with_reducible assumption) | assumption)
    obtain ⟨ad422, e422, hx422_0, hx422_1⟩ := at_T23 HR0.out x6_1 p422 q422
    have hw422_1 := hx422_1
    have hw422_0 := hx422_0
    cases e422
    replace hx422_0 := (HB.out.cell (World.block_lt_of_cell? w _ hx422_0)).trans hx422_0
    replace hx422_1 := (HB.out.cell (World.block_lt_of_cell? w _ hx422_1)).trans hx422_1
    replace p422 := eq_true p422
    replace q422 := eq_true q422
    refine start_ (n := 6) (S := fun w' => w'.cell? ⟨gb419, 0, none⟩ = some (.int .i64 a1_0) ∧ w'.cell? ⟨gb419, 1, none⟩ = some (.int .i64 a1_1) ∧ w'.cell? (ad422.add ((x6_1).toNat * 2)) = some (.int .i64 ((rd_T23 l0 x6_1).f0)) ∧ w'.cell? ⟨(ad422.add ((x6_1).toNat * 2)).block, (ad422.add ((x6_1).toNat * 2)).off + 1, none⟩ = some (.int .i64 ((rd_T23 l0 x6_1).f1))) (ds := []) #[false, false, false, false, false, false] (by kernel_rfl) rfl rfl ⟨(blk_cell BK419.out 0).trans rfl, (blk_cell BK419.out 1).trans rfl, ((HB.out.cell (World.block_lt_of_cell? w _ hw422_0)).trans hw422_0), ((HB.out.cell (World.block_lt_of_cell? w _ hw422_1)).trans hw422_1)⟩ (fun hHeld => ?_)
    generalize wr.drew = w14 at BK419 BK420 BK421 HB hx422_0 hx422_1 hHeld ⊢
    refine pure_ (i := 0) (N := some 15) (v := ?_) (a' := ?_) #[true, false, false, false, false, false] rfl rfl (by kernel_rfl) (fun _ _ _ h => h) (Or.inl ⟨by rfl, ?_⟩) ?_ ?_
    rotate_left
    ·
     intro w'
     go_simp
     with_reducible rfl
    rotate_left
    ·
     simp only [Act.put, List.setIfInBounds_toArray, List.set_cons_zero, List.set_cons_succ, i64_w, i32_w]
     rfl
    refine pure_ (i := 1) (N := some 16) (v := ?_) (a' := ?_) #[true, true, false, false, false, false] rfl rfl (by kernel_rfl) (fun _ _ _ h => h) (Or.inl ⟨by rfl, ?_⟩) ?_ ?_
    rotate_left
    ·
     intro w'
     go_simp
     with_reducible rfl
    rotate_left
    ·
     simp only [Act.put, List.setIfInBounds_toArray, List.set_cons_zero, List.set_cons_succ, i64_w, i32_w]
     rfl
    refine pure_ (i := 2) (N := some 17) (v := ?_) (a' := ?_) #[true, true, true, false, false, false] rfl rfl (by kernel_rfl) (fun _ _ _ h => h) (Or.inl ⟨by rfl, ?_⟩) ?_ ?_
    rotate_left
    ·
     intro w'
     go_simp
     with_reducible rfl
    rotate_left
    ·
     simp only [Act.put, List.setIfInBounds_toArray, List.set_cons_zero, List.set_cons_succ, i64_w, i32_w]
     rfl
    refine take_ (i := 3) (N := some 18) (v := ?_) (a' := ?_) #[true, true, true, true, false, false] rfl rfl (by kernel_rfl) (fun _ _ _ h => h) (Or.inl ⟨by rfl, ?_⟩) hHeld ?_ ?_
    rotate_left
    ·
     rintro w' ⟨s0, s1, s2, s3⟩
     go_simp
     with_reducible rfl
    rotate_left
    ·
     simp only [Act.put, List.setIfInBounds_toArray, List.set_cons_zero, List.set_cons_succ, i64_w, i32_w]
     rfl
    refine take_ (i := 4) (N := some 19) (v := ?_) (a' := ?_) #[true, true, true, true, true, false] rfl rfl (by kernel_rfl) (fun _ _ _ h => h) (Or.inl ⟨by rfl, ?_⟩) hHeld ?_ ?_
    rotate_left
    ·
     rintro w' ⟨s0, s1, s2, s3⟩
     go_simp
     with_reducible rfl
    rotate_left
    ·
     simp only [Act.put, List.setIfInBounds_toArray, List.set_cons_zero, List.set_cons_succ, i64_w, i32_w]
     rfl
    refine pure_ (i := 5) (N := some 20) (v := ?_) (a' := ?_) #[true, true, true, true, true, true] rfl rfl (by kernel_rfl) (fun _ _ _ h => h) (Or.inl ⟨by rfl, ?_⟩) ?_ ?_
    rotate_left
    ·
     intro w'
     go_simp
     with_reducible rfl
    rotate_left
    ·
     simp only [Act.put, List.setIfInBounds_toArray, List.set_cons_zero, List.set_cons_succ, i64_w, i32_w]
     rfl
    refine done_ (by kernel_rfl) ?_
    try go_wp2
    go_roundg k1
    case measure => have := HK1.out; omega
    case rel => exact ⟨(wrap64 (x6_1 + 1)), (x422000_1), (x422001_1), (by first | rfl | (simp; done) | (simp [*]; done)), H', ⟨by have := HK1.out; omega⟩, ⟨BK419.out⟩, ⟨BK420.out⟩, ⟨BK421.out⟩, ⟨HB.out⟩⟩
   rw [if_neg c13] at H
   have c13b0 : (((rd_T23 l0 x6_1).f0) == a1_0 && (((rd_T23 l0 x6_1).f1) == a1_1)) = false := by simpa using c13
   (try (have c13b1 : decide (((rd_T23 l0 x6_1).f0) = a1_0 && (((rd_T23 l0 x6_1).f1) == a1_1)) = false := by simpa using c13))
   (try (have c13b2 : (((rd_T23 l0 x6_1).f0) == a1_0 && (((rd_T23 l0 x6_1).f1) == a1_1)) = false := by simpa using c13))
   (try (have c13b3 : ¬ (((rd_T23 l0 x6_1).f0) = a1_0 && (((rd_T23 l0 x6_1).f1) == a1_1)) := by simpa using c13))
   clear c13
   replace H := Option.bind_eq_some_iff.mp H
   obtain ⟨t424, A150, H⟩ := H
   try dsimp only at H
   have A15 := Aside0.mk A150
   clear A150
   have HC16 := Aside0.mk H
   clear H
   try go_wp2
   replace BK419 := Aside0.mk (blk_drew BK419.out); replace BK420 := Aside0.mk (blk_drew BK420.out); replace BK421 := Aside0.mk (blk_drew BK421.out); replace HB := Aside0.mk (below_drew1 HB.out)
   have p422 : 0 ≤ (x6_1 : Int) := of_decide_eq_true (by first | (with_reducible assumption) | assumption)
   have q422 : x6_1 < (l0.length : Int) := of_decide_eq_true (by first | (with_reducible assumption) | assumption)
   obtain ⟨ad422, e422, hx422_0, hx422_1⟩ := at_T23 HR0.out x6_1 p422 q422
   have hw422_1 := hx422_1
   have hw422_0 := hx422_0
   cases e422
   replace hx422_0 := (HB.out.cell (World.block_lt_of_cell? w _ hx422_0)).trans hx422_0
   replace hx422_1 := (HB.out.cell (World.block_lt_of_cell? w _ hx422_1)).trans hx422_1
   replace p422 := eq_true p422
   replace q422 := eq_true q422
   refine start_ (n := 6) (S := fun w' => w'.cell? ⟨gb419, 0, none⟩ = some (.int .i64 a1_0) ∧ w'.cell? ⟨gb419, 1, none⟩ = some (.int .i64 a1_1) ∧ w'.cell? (ad422.add ((x6_1).toNat * 2)) = some (.int .i64 ((rd_T23 l0 x6_1).f0)) ∧ w'.cell? ⟨(ad422.add ((x6_1).toNat * 2)).block, (ad422.add ((x6_1).toNat * 2)).off + 1, none⟩ = some (.int .i64 ((rd_T23 l0 x6_1).f1))) (ds := []) #[false, false, false, false, false, false] (by kernel_rfl) rfl rfl ⟨(blk_cell BK419.out 0).trans rfl, (blk_cell BK419.out 1).trans rfl, ((HB.out.cell (World.block_lt_of_cell? w _ hw422_0)).trans hw422_0), ((HB.out.cell (World.block_lt_of_cell? w _ hw422_1)).trans hw422_1)⟩ (fun hHeld => ?_)
   generalize wr.drew = w17 at BK419 BK420 BK421 HB hx422_0 hx422_1 hHeld ⊢
   refine pure_ (i := 0) (N := some 15) (v := ?_) (a' := ?_) #[true, false, false, false, false, false] rfl rfl (by kernel_rfl) (fun _ _ _ h => h) (Or.inl ⟨by rfl, ?_⟩) ?_ ?_
   rotate_left
   ·
    intro w'
    go_simp
    with_reducible rfl
   rotate_left
   ·
    simp only [Act.put, List.setIfInBounds_toArray, List.set_cons_zero, List.set_cons_succ, i64_w, i32_w]
    rfl
   refine pure_ (i := 1) (N := some 16) (v := ?_) (a' := ?_) #[true, true, false, false, false, false] rfl rfl (by kernel_rfl) (fun _ _ _ h => h) (Or.inl ⟨by rfl, ?_⟩) ?_ ?_
   rotate_left
   ·
    intro w'
    go_simp
    with_reducible rfl
   rotate_left
   ·
    simp only [Act.put, List.setIfInBounds_toArray, List.set_cons_zero, List.set_cons_succ, i64_w, i32_w]
    rfl
   refine pure_ (i := 2) (N := some 17) (v := ?_) (a' := ?_) #[true, true, true, false, false, false] rfl rfl (by kernel_rfl) (fun _ _ _ h => h) (Or.inl ⟨by rfl, ?_⟩) ?_ ?_
   rotate_left
   ·
    intro w'
    go_simp
    with_reducible rfl
   rotate_left
   ·
    simp only [Act.put, List.setIfInBounds_toArray, List.set_cons_zero, List.set_cons_succ, i64_w, i32_w]
    rfl
   refine take_ (i := 3) (N := some 18) (v := ?_) (a' := ?_) #[true, true, true, true, false, false] rfl rfl (by kernel_rfl) (fun _ _ _ h => h) (Or.inl ⟨by rfl, ?_⟩) hHeld ?_ ?_
   rotate_left
   ·
    rintro w' ⟨s0, s1, s2, s3⟩
    go_simp
    with_reducible rfl
   rotate_left
   ·
    simp only [Act.put, List.setIfInBounds_toArray, List.set_cons_zero, List.set_cons_succ, i64_w, i32_w]
    rfl
   refine take_ (i := 4) (N := some 19) (v := ?_) (a' := ?_) #[true, true, true, true, true, false] rfl rfl (by kernel_rfl) (fun _ _ _ h => h) (Or.inl ⟨by rfl, ?_⟩) hHeld ?_ ?_
   rotate_left
   ·
    rintro w' ⟨s0, s1, s2, s3⟩
    go_simp
    with_reducible rfl
   rotate_left
   ·
    simp only [Act.put, List.setIfInBounds_toArray, List.set_cons_zero, List.set_cons_succ, i64_w, i32_w]
    rfl
   refine pure_ (i := 5) (N := some 20) (v := ?_) (a' := ?_) #[true, true, true, true, true, true] rfl rfl (by kernel_rfl) (fun _ _ _ h => h) (Or.inl ⟨by rfl, ?_⟩) ?_ ?_
   rotate_left
   ·
    intro w'
    go_simp
    with_reducible rfl
   rotate_left
   ·
    simp only [Act.put, List.setIfInBounds_toArray, List.set_cons_zero, List.set_cons_succ, i64_w, i32_w]
    rfl
   refine done_ (by kernel_rfl) ?_
   try go_wp2
   replace BK419 := Aside0.mk (blk_drew BK419.out); replace BK420 := Aside0.mk (blk_drew BK420.out); replace BK421 := Aside0.mk (blk_drew BK421.out); replace HB := Aside0.mk (below_drew1 HB.out)
   have p423 : 0 ≤ (x6_1 : Int) := of_decide_eq_true (by first | (with_reducible assumption) | assumption)
   have q423 : x6_1 < (l0.length : Int) := of_decide_eq_true (by first | (with_reducible assumption) | assumption)
   obtain ⟨ad423, e423, hx423_0, hx423_1⟩ := at_T23 HR0.out x6_1 p423 q423
   have hw423_1 := hx423_1
   have hw423_0 := hx423_0
   obtain rfl : ad422 = ad423 := (by injection e423)
   replace hx423_0 := (HB.out.cell (World.block_lt_of_cell? w _ hx423_0)).trans hx423_0
   replace hx423_1 := (HB.out.cell (World.block_lt_of_cell? w _ hx423_1)).trans hx423_1
   replace p423 := eq_true p423
   replace q423 := eq_true q423
   refine start_ (n := 8) (S := fun w' => w'.cell? ⟨gb419, 0, none⟩ = some (.int .i64 a1_0) ∧ w'.cell? ⟨gb419, 1, none⟩ = some (.int .i64 a1_1) ∧ w'.cell? ⟨gb421, 0, none⟩ = some (.int .i64 x422000_1) ∧ w'.cell? ⟨gb421, 1, none⟩ = some (.int .i64 x422001_1) ∧ w'.cell? (ad422.add ((x6_1).toNat * 2)) = some (.int .i64 ((rd_T23 l0 x6_1).f0)) ∧ w'.cell? ⟨(ad422.add ((x6_1).toNat * 2)).block, (ad422.add ((x6_1).toNat * 2)).off + 1, none⟩ = some (.int .i64 ((rd_T23 l0 x6_1).f1))) (ds := []) #[false, false, false, false, false, false, false, false] (by kernel_rfl) rfl rfl ⟨(blk_cell BK419.out 0).trans rfl, (blk_cell BK419.out 1).trans rfl, (blk_cell BK421.out 0).trans rfl, (blk_cell BK421.out 1).trans rfl, ((HB.out.cell (World.block_lt_of_cell? w _ hw423_0)).trans hw423_0), ((HB.out.cell (World.block_lt_of_cell? w _ hw423_1)).trans hw423_1)⟩ (fun hHeld => ?_); refine with_tabW dancestudioref03_next.tab6 dancestudioref03_next.bits6 (fun HT_ HW_ => ?_)
   generalize w17.drew = w18 at BK419 BK420 BK421 HB hx423_0 hx423_1 hHeld ⊢
   refine pure_ (i := 2) (N := some 23) (v := ?_) (a' := ?_) #[false, false, true, false, false, false, false, false] rfl rfl (any_of HT_.out (by kernel_rfl)) (fun _ _ _ h => h) (Or.inl ⟨by rfl, ?_⟩) ?_ ?_
   rotate_left
   ·
    intro w'
    go_simp
    with_reducible rfl
   rotate_left
   ·
    simp only [Act.put, List.setIfInBounds_toArray, List.set_cons_zero, List.set_cons_succ, i64_w, i32_w]
    rfl
   refine pure_ (i := 3) (N := some 24) (v := ?_) (a' := ?_) #[false, false, true, true, false, false, false, false] rfl rfl (any_of HT_.out (by kernel_rfl)) (fun _ _ _ h => h) (Or.inl ⟨by rfl, ?_⟩) ?_ ?_
   rotate_left
   ·
    intro w'
    go_simp
    with_reducible rfl
   rotate_left
   ·
    simp only [Act.put, List.setIfInBounds_toArray, List.set_cons_zero, List.set_cons_succ, i64_w, i32_w]
    rfl
   refine pure_ (i := 4) (N := some 25) (v := ?_) (a' := ?_) #[false, false, true, true, true, false, false, false] rfl rfl (any_of HT_.out (by kernel_rfl)) (fun _ _ _ h => h) (Or.inl ⟨by rfl, ?_⟩) ?_ ?_
   rotate_left
   ·
    intro w'
    go_simp
    with_reducible rfl
   rotate_left
   ·
    simp only [Act.put, List.setIfInBounds_toArray, List.set_cons_zero, List.set_cons_succ, i64_w, i32_w]
    rfl
   refine take_ (i := 0) (N := some 21) (v := ?_) (a' := ?_) #[true, false, true, true, true, false, false, false] rfl rfl (take_ofW HT_.out HW_.out (by kernel_rfl)) (fun _ _ _ h => h) (Or.inl ⟨by rfl, ?_⟩) hHeld ?_ ?_
   rotate_left
   ·
    rintro w' ⟨s0, s1, s2, s3, s4, s5⟩
    go_simp
    with_reducible rfl
   rotate_left
   ·
    simp only [Act.put, List.setIfInBounds_toArray, List.set_cons_zero, List.set_cons_succ, i64_w, i32_w]
    rfl
   refine take_ (i := 1) (N := some 22) (v := ?_) (a' := ?_) #[true, true, true, true, true, false, false, false] rfl rfl (take_ofW HT_.out HW_.out (by kernel_rfl)) (fun _ _ _ h => h) (Or.inl ⟨by rfl, ?_⟩) hHeld ?_ ?_
   rotate_left
   ·
    rintro w' ⟨s0, s1, s2, s3, s4, s5⟩
    go_simp
    with_reducible rfl
   rotate_left
   ·
    simp only [Act.put, List.setIfInBounds_toArray, List.set_cons_zero, List.set_cons_succ, i64_w, i32_w]
    rfl
   refine take_ (i := 5) (N := some 26) (v := ?_) (a' := ?_) #[true, true, true, true, true, true, false, false] rfl rfl (take_ofW HT_.out HW_.out (by kernel_rfl)) (fun _ _ _ h => h) (Or.inl ⟨by rfl, ?_⟩) hHeld ?_ ?_
   rotate_left
   ·
    rintro w' ⟨s0, s1, s2, s3, s4, s5⟩
    go_simp
    with_reducible rfl
   rotate_left
   ·
    simp only [Act.put, List.setIfInBounds_toArray, List.set_cons_zero, List.set_cons_succ, i64_w, i32_w]
    rfl
   refine one_ (i := 6) (N := some 27) #[true, true, true, true, true, true, true, false] rfl rfl (one_of HT_.out (by kernel_rfl)) (by decide) (fun K hK => ?_)
   refine goes_ Try.func34 (by kernel_rfl) rfl #[.agg #[.int .i64 a1_0, .int .i64 a1_1], .agg #[.int .i64 x422000_1, .int .i64 x422001_1], .agg #[.int .i64 ((rd_T23 l0 x6_1).f0), .int .i64 ((rd_T23 l0 x6_1).f1)]] (by rfl) rfl rfl (by (try simp only [List.map_toArray, List.map_cons, List.map_nil]); first | done | rfl | (simp only [List.length_drop, List.length_take]; rfl)) ?_
   with_reducible refine (dancestudioref03_cross.calls a1_0 a1_1 x422000_1 x422001_1 ((rd_T23 l0 x6_1).f0) ((rd_T23 l0 x6_1).f1) t424 _ A15.out).mono ?_
   rintro e w19 ⟨rfl, hb⟩
   refine ⟨_, rfl, ?_⟩
   replace BK419 := mBb BK419 hb; replace BK420 := mBb BK420 hb; replace BK421 := mBb BK421 hb; replace HB := mSt HB hb
   (try clear hb)
   (try clear hb2)
   (try clear hk)
   (try clear hi)
   refine hK.out _ _ ⟨blk_cell BK419.out 0, blk_cell BK419.out 1, blk_cell BK421.out 0, blk_cell BK421.out 1, ((HB.out.cell (World.block_lt_of_cell? w _ hw423_0)).trans hw423_0), ((HB.out.cell (World.block_lt_of_cell? w _ hw423_1)).trans hw423_1)⟩ (fun hHeld => ?_)
   clear hK K
   refine norm_ (a' := ?_) ?_ ?_
   rotate_left
   ·
    show Act.put _ (some 27) _ = _
    simp only [Act.put, List.setIfInBounds_toArray, List.set_cons_zero, List.set_cons_succ, i64_w, i32_w]
    rfl
   refine pure_ (i := 7) (N := some 7) (v := ?_) (a' := ?_) #[true, true, true, true, true, true, true, true] rfl rfl (any_of HT_.out (by kernel_rfl)) (fun _ _ _ h => h) (Or.inl ⟨by rfl, ?_⟩) ?_ ?_
   rotate_left
   ·
    intro w'
    go_simp
    with_reducible rfl
   rotate_left
   ·
    simp only [Act.put, List.setIfInBounds_toArray, List.set_cons_zero, List.set_cons_succ, i64_w, i32_w]
    rfl
   refine done_ (done_of HT_.out (by kernel_rfl)) ?_
   go_upto_region 7 with (fail)
   go_cut [50] (fun v50 wc => ∃ (kq : Nat) (x50_15 : Bool), v50 = .bool x50_15 ∧ Aside0 (dancestudioref03_next.j1 kq l0 x6_1 x50_15 a1_0 a1_1 x422000_1 x422001_1 = some (r1, r2)) ∧ Aside0 (kq ≤ k1) ∧ Aside0 (wc.heap[gb419]? = some (.cells #[.int .i64 a1_0, .int .i64 a1_1] 23 (0, 0))) ∧ Aside0 (wc.heap[gb420]? = some (.cells #[.int .i64 0, .int .i64 0] 23 (0, 0))) ∧ Aside0 (wc.heap[gb421]? = some (.cells #[.int .i64 x422000_1, .int .i64 x422001_1] 23 (0, 0))) ∧ Aside0 (Below w.heap.size w wc))
   case first =>
    have H := HC16.out
    clear HC16
    by_cases c20 : (x422000_1 == a1_0 && (x422001_1 == a1_1)) = true
    ·
     rw [if_pos c20] at H
     have c20b0 : (x422000_1 == a1_0 && (x422001_1 == a1_1)) = true := c20
     (try (have c20b1 : decide (x422000_1 = a1_0 && (x422001_1 == a1_1)) = true := by simpa using c20))
     (try (have c20b2 : (x422000_1 == a1_0 && (x422001_1 == a1_1)) = true := by simpa using c20))
     clear c20
     (first | rw [c20b0] | (simp only [i64_w, i32_w]; rw [c20b0]) | skip)
     have H' := Aside0.mk H
     clear H
     try go_wp2
     replace BK419 := Aside0.mk (blk_drew BK419.out); replace BK420 := Aside0.mk (blk_drew BK420.out); replace BK421 := Aside0.mk (blk_drew BK421.out); replace HB := Aside0.mk (below_drew1 HB.out)
     refine start_ (n := 23) (S := fun w' => w'.cell? ⟨gb421, 0, none⟩ = some (.int .i64 x422000_1) ∧ w'.cell? ⟨gb421, 1, none⟩ = some (.int .i64 x422001_1) ∧ w'.cell? ⟨gb419, 0, none⟩ = some (.int .i64 a1_0) ∧ w'.cell? ⟨gb419, 1, none⟩ = some (.int .i64 a1_1)) (ds := []) #[false, false, false, false, false, false, false, false, false, false, false, false, false, false, false, false, false, false, false, false, false, false, false] (by kernel_rfl) rfl rfl ⟨(blk_cell BK421.out 0).trans rfl, (blk_cell BK421.out 1).trans rfl, (blk_cell BK419.out 0).trans rfl, (blk_cell BK419.out 1).trans rfl⟩ (fun hHeld => ?_); refine with_tabW dancestudioref03_next.tab7 dancestudioref03_next.bits7 (fun HT_ HW_ => ?_)
     generalize w19.drew = w21 at BK419 BK420 BK421 HB hHeld ⊢
     refine take_ (i := 0) (N := some 28) (v := ?_) (a' := ?_) #[true, false, false, false, false, false, false, false, false, false, false, false, false, false, false, false, false, false, false, false, false, false, false] rfl rfl (take_ofW HT_.out HW_.out (by kernel_rfl)) (fun _ _ _ h => h) (Or.inl ⟨by rfl, ?_⟩) hHeld ?_ ?_
     rotate_left
     ·
      rintro w' ⟨s0, s1, s2, s3⟩
      go_simp
      with_reducible rfl
     rotate_left
     ·
      simp only [Act.put, List.setIfInBounds_toArray, List.set_cons_zero, List.set_cons_succ, i64_w, i32_w]
      rfl
     refine take_ (i := 1) (N := some 29) (v := ?_) (a' := ?_) #[true, true, false, false, false, false, false, false, false, false, false, false, false, false, false, false, false, false, false, false, false, false, false] rfl rfl (take_ofW HT_.out HW_.out (by kernel_rfl)) (fun _ _ _ h => h) (Or.inl ⟨by rfl, ?_⟩) hHeld ?_ ?_
     rotate_left
     ·
      rintro w' ⟨s0, s1, s2, s3⟩
      go_simp
      with_reducible rfl
     rotate_left
     ·
      simp only [Act.put, List.setIfInBounds_toArray, List.set_cons_zero, List.set_cons_succ, i64_w, i32_w]
      rfl
     refine pure_ (i := 2) (N := some 30) (v := ?_) (a' := ?_) #[true, true, true, false, false, false, false, false, false, false, false, false, false, false, false, false, false, false, false, false, false, false, false] rfl rfl (any_of HT_.out (by kernel_rfl)) (fun _ _ _ h => h) (Or.inl ⟨by rfl, ?_⟩) ?_ ?_
     rotate_left
     ·
      intro w'
      go_simp
      with_reducible rfl
     rotate_left
     ·
      simp only [Act.put, List.setIfInBounds_toArray, List.set_cons_zero, List.set_cons_succ, i64_w, i32_w]
      rfl
     refine pure_ (i := 3) (N := some 31) (v := ?_) (a' := ?_) #[true, true, true, true, false, false, false, false, false, false, false, false, false, false, false, false, false, false, false, false, false, false, false] rfl rfl (any_of HT_.out (by kernel_rfl)) (fun _ _ _ h => h) (Or.inl ⟨by rfl, ?_⟩) ?_ ?_
     rotate_left
     ·
      intro w'
      go_simp
      with_reducible rfl
     rotate_left
     ·
      simp only [Act.put, List.setIfInBounds_toArray, List.set_cons_zero, List.set_cons_succ, i64_w, i32_w]
      rfl
     refine pure_ (i := 4) (N := some 32) (v := undef) (a' := ?_) #[true, true, true, true, true, false, false, false, false, false, false, false, false, false, false, false, false, false, false, false, false, false, false] rfl rfl (any_of HT_.out (by kernel_rfl)) (fun _ _ _ h => h) (Or.inr ⟨by rfl, rfl⟩) ?_ ?_
     rotate_left
     ·
      simp only [Act.put, List.setIfInBounds_toArray, List.set_cons_zero, List.set_cons_succ, i64_w, i32_w]
      rfl
     refine pure_ (i := 5) (N := some 33) (v := undef) (a' := ?_) #[true, true, true, true, true, true, false, false, false, false, false, false, false, false, false, false, false, false, false, false, false, false, false] rfl rfl (any_of HT_.out (by kernel_rfl)) (fun _ _ _ h => h) (Or.inr ⟨by rfl, rfl⟩) ?_ ?_
     rotate_left
     ·
      simp only [Act.put, List.setIfInBounds_toArray, List.set_cons_zero, List.set_cons_succ, i64_w, i32_w]
      rfl
     refine pure_ (i := 6) (N := some 34) (v := ?_) (a' := ?_) #[true, true, true, true, true, true, true, false, false, false, false, false, false, false, false, false, false, false, false, false, false, false, false] rfl rfl (any_of HT_.out (by kernel_rfl)) (fun _ _ _ h => h) (Or.inl ⟨by rfl, ?_⟩) ?_ ?_
     rotate_left
     ·
      intro w'
      go_simp
      with_reducible rfl
     rotate_left
     ·
      simp only [Act.put, List.setIfInBounds_toArray, List.set_cons_zero, List.set_cons_succ, i64_w, i32_w]
      rfl
     refine pure_ (i := 7) (N := some 35) (v := ?_) (a' := ?_) #[true, true, true, true, true, true, true, true, false, false, false, false, false, false, false, false, false, false, false, false, false, false, false] rfl rfl (any_of HT_.out (by kernel_rfl)) (fun _ _ _ h => h) (Or.inl ⟨by rfl, ?_⟩) ?_ ?_
     rotate_left
     ·
      intro w'
      go_simp
      with_reducible rfl
     rotate_left
     ·
      simp only [Act.put, List.setIfInBounds_toArray, List.set_cons_zero, List.set_cons_succ, i64_w, i32_w]
      rfl
     refine pure_ (i := 8) (N := some 36) (v := undef) (a' := ?_) #[true, true, true, true, true, true, true, true, true, false, false, false, false, false, false, false, false, false, false, false, false, false, false] rfl rfl (any_of HT_.out (by kernel_rfl)) (fun _ _ _ h => h) (Or.inr ⟨by rfl, rfl⟩) ?_ ?_
     rotate_left
     ·
      simp only [Act.put, List.setIfInBounds_toArray, List.set_cons_zero, List.set_cons_succ, i64_w, i32_w]
      rfl
     refine pure_ (i := 9) (N := some 37) (v := undef) (a' := ?_) #[true, true, true, true, true, true, true, true, true, true, false, false, false, false, false, false, false, false, false, false, false, false, false] rfl rfl (any_of HT_.out (by kernel_rfl)) (fun _ _ _ h => h) (Or.inr ⟨by rfl, rfl⟩) ?_ ?_
     rotate_left
     ·
      simp only [Act.put, List.setIfInBounds_toArray, List.set_cons_zero, List.set_cons_succ, i64_w, i32_w]
      rfl
     refine pure_ (i := 10) (N := some 38) (v := undef) (a' := ?_) #[true, true, true, true, true, true, true, true, true, true, true, false, false, false, false, false, false, false, false, false, false, false, false] rfl rfl (any_of HT_.out (by kernel_rfl)) (fun _ _ _ h => h) (Or.inr ⟨by rfl, rfl⟩) ?_ ?_
     rotate_left
     ·
      simp only [Act.put, List.setIfInBounds_toArray, List.set_cons_zero, List.set_cons_succ, i64_w, i32_w]
      rfl
     refine pure_ (i := 11) (N := some 39) (v := undef) (a' := ?_) #[true, true, true, true, true, true, true, true, true, true, true, true, false, false, false, false, false, false, false, false, false, false, false] rfl rfl (any_of HT_.out (by kernel_rfl)) (fun _ _ _ h => h) (Or.inr ⟨by rfl, rfl⟩) ?_ ?_
     rotate_left
     ·
      simp only [Act.put, List.setIfInBounds_toArray, List.set_cons_zero, List.set_cons_succ, i64_w, i32_w]
      rfl
     refine pure_ (i := 12) (N := some 40) (v := undef) (a' := ?_) #[true, true, true, true, true, true, true, true, true, true, true, true, true, false, false, false, false, false, false, false, false, false, false] rfl rfl (any_of HT_.out (by kernel_rfl)) (fun _ _ _ h => h) (Or.inr ⟨by rfl, rfl⟩) ?_ ?_
     rotate_left
     ·
      simp only [Act.put, List.setIfInBounds_toArray, List.set_cons_zero, List.set_cons_succ, i64_w, i32_w]
      rfl
     refine pure_ (i := 13) (N := some 41) (v := undef) (a' := ?_) #[true, true, true, true, true, true, true, true, true, true, true, true, true, true, false, false, false, false, false, false, false, false, false] rfl rfl (any_of HT_.out (by kernel_rfl)) (fun _ _ _ h => h) (Or.inr ⟨by rfl, rfl⟩) ?_ ?_
     rotate_left
     ·
      simp only [Act.put, List.setIfInBounds_toArray, List.set_cons_zero, List.set_cons_succ, i64_w, i32_w]
      rfl
     refine pure_ (i := 14) (N := some 42) (v := undef) (a' := ?_) #[true, true, true, true, true, true, true, true, true, true, true, true, true, true, true, false, false, false, false, false, false, false, false] rfl rfl (any_of HT_.out (by kernel_rfl)) (fun _ _ _ h => h) (Or.inr ⟨by rfl, rfl⟩) ?_ ?_
     rotate_left
     ·
      simp only [Act.put, List.setIfInBounds_toArray, List.set_cons_zero, List.set_cons_succ, i64_w, i32_w]
      rfl
     refine pure_ (i := 15) (N := some 43) (v := undef) (a' := ?_) #[true, true, true, true, true, true, true, true, true, true, true, true, true, true, true, true, false, false, false, false, false, false, false] rfl rfl (any_of HT_.out (by kernel_rfl)) (fun _ _ _ h => h) (Or.inr ⟨by rfl, rfl⟩) ?_ ?_
     rotate_left
     ·
      simp only [Act.put, List.setIfInBounds_toArray, List.set_cons_zero, List.set_cons_succ, i64_w, i32_w]
      rfl
     refine pure_ (i := 16) (N := some 44) (v := undef) (a' := ?_) #[true, true, true, true, true, true, true, true, true, true, true, true, true, true, true, true, true, false, false, false, false, false, false] rfl rfl (any_of HT_.out (by kernel_rfl)) (fun _ _ _ h => h) (Or.inr ⟨by rfl, rfl⟩) ?_ ?_
     rotate_left
     ·
      simp only [Act.put, List.setIfInBounds_toArray, List.set_cons_zero, List.set_cons_succ, i64_w, i32_w]
      rfl
     refine pure_ (i := 17) (N := some 45) (v := undef) (a' := ?_) #[true, true, true, true, true, true, true, true, true, true, true, true, true, true, true, true, true, true, false, false, false, false, false] rfl rfl (any_of HT_.out (by kernel_rfl)) (fun _ _ _ h => h) (Or.inr ⟨by rfl, rfl⟩) ?_ ?_
     rotate_left
     ·
      simp only [Act.put, List.setIfInBounds_toArray, List.set_cons_zero, List.set_cons_succ, i64_w, i32_w]
      rfl
     refine pure_ (i := 18) (N := some 46) (v := undef) (a' := ?_) #[true, true, true, true, true, true, true, true, true, true, true, true, true, true, true, true, true, true, true, false, false, false, false] rfl rfl (any_of HT_.out (by kernel_rfl)) (fun _ _ _ h => h) (Or.inr ⟨by rfl, rfl⟩) ?_ ?_
     rotate_left
     ·
      simp only [Act.put, List.setIfInBounds_toArray, List.set_cons_zero, List.set_cons_succ, i64_w, i32_w]
      rfl
     refine pure_ (i := 19) (N := some 47) (v := undef) (a' := ?_) #[true, true, true, true, true, true, true, true, true, true, true, true, true, true, true, true, true, true, true, true, false, false, false] rfl rfl (any_of HT_.out (by kernel_rfl)) (fun _ _ _ h => h) (Or.inr ⟨by rfl, rfl⟩) ?_ ?_
     rotate_left
     ·
      simp only [Act.put, List.setIfInBounds_toArray, List.set_cons_zero, List.set_cons_succ, i64_w, i32_w]
      rfl
     refine pure_ (i := 20) (N := some 48) (v := undef) (a' := ?_) #[true, true, true, true, true, true, true, true, true, true, true, true, true, true, true, true, true, true, true, true, true, false, false] rfl rfl (any_of HT_.out (by kernel_rfl)) (fun _ _ _ h => h) (Or.inr ⟨by rfl, rfl⟩) ?_ ?_
     rotate_left
     ·
      simp only [Act.put, List.setIfInBounds_toArray, List.set_cons_zero, List.set_cons_succ, i64_w, i32_w]
      rfl
     refine pure_ (i := 21) (N := some 49) (v := undef) (a' := ?_) #[true, true, true, true, true, true, true, true, true, true, true, true, true, true, true, true, true, true, true, true, true, true, false] rfl rfl (any_of HT_.out (by kernel_rfl)) (fun _ _ _ h => h) (Or.inr ⟨by rfl, rfl⟩) ?_ ?_
     rotate_left
     ·
      simp only [Act.put, List.setIfInBounds_toArray, List.set_cons_zero, List.set_cons_succ, i64_w, i32_w]
      rfl
     refine pure_ (i := 22) (N := some 50) (v := ?_) (a' := ?_) #[true, true, true, true, true, true, true, true, true, true, true, true, true, true, true, true, true, true, true, true, true, true, true] rfl rfl (any_of HT_.out (by kernel_rfl)) (fun _ _ _ h => h) (Or.inl ⟨by rfl, ?_⟩) ?_ ?_
     rotate_left
     ·
      intro w'
      go_simp
      with_reducible rfl
     rotate_left
     ·
      simp only [Act.put, List.setIfInBounds_toArray, List.set_cons_zero, List.set_cons_succ, i64_w, i32_w]
      rfl
     refine done_ (done_of HT_.out (by kernel_rfl)) ?_
     try go_wp2
     go_meet
     case rel => exact ⟨_, (true), (by first | rfl | (simp; done) | (simp [*]; done)), H', ⟨by have := HK1.out; first | omega | exact Nat.le_refl _⟩, ⟨BK419.out⟩, ⟨BK420.out⟩, ⟨BK421.out⟩, ⟨HB.out⟩⟩
    rw [if_neg c20] at H
    have c20b0 : (x422000_1 == a1_0 && (x422001_1 == a1_1)) = false := by simpa using c20
    (try (have c20b1 : decide (x422000_1 = a1_0 && (x422001_1 == a1_1)) = false := by simpa using c20))
    (try (have c20b2 : (x422000_1 == a1_0 && (x422001_1 == a1_1)) = false := by simpa using c20))
    (try (have c20b3 : ¬ (x422000_1 = a1_0 && (x422001_1 == a1_1)) := by simpa using c20))
    clear c20
    (first | rw [c20b0] | (simp only [i64_w, i32_w]; rw [c20b0]) | skip)
    by_cases c22 : t424 < 0
    ·
     rw [if_pos c22] at H
     have c22b0 : decide (t424 < 0) = true := decide_eq_true c22
     clear c22
     have H' := Aside0.mk H
     clear H
     try go_wp2
     replace BK419 := Aside0.mk (blk_drew BK419.out); replace BK420 := Aside0.mk (blk_drew BK420.out); replace BK421 := Aside0.mk (blk_drew BK421.out); replace HB := Aside0.mk (below_drew1 HB.out)
     refine start_ (n := 23) (S := fun w' => w'.cell? ⟨gb421, 0, none⟩ = some (.int .i64 x422000_1) ∧ w'.cell? ⟨gb421, 1, none⟩ = some (.int .i64 x422001_1) ∧ w'.cell? ⟨gb419, 0, none⟩ = some (.int .i64 a1_0) ∧ w'.cell? ⟨gb419, 1, none⟩ = some (.int .i64 a1_1)) (ds := []) #[false, false, false, false, false, false, false, false, false, false, false, false, false, false, false, false, false, false, false, false, false, false, false] (by kernel_rfl) rfl rfl ⟨(blk_cell BK421.out 0).trans rfl, (blk_cell BK421.out 1).trans rfl, (blk_cell BK419.out 0).trans rfl, (blk_cell BK419.out 1).trans rfl⟩ (fun hHeld => ?_); refine with_tabW dancestudioref03_next.tab7 dancestudioref03_next.bits7 (fun HT_ HW_ => ?_)
     generalize w19.drew = w23 at BK419 BK420 BK421 HB hHeld ⊢
     refine take_ (i := 0) (N := some 28) (v := ?_) (a' := ?_) #[true, false, false, false, false, false, false, false, false, false, false, false, false, false, false, false, false, false, false, false, false, false, false] rfl rfl (take_ofW HT_.out HW_.out (by kernel_rfl)) (fun _ _ _ h => h) (Or.inl ⟨by rfl, ?_⟩) hHeld ?_ ?_
     rotate_left
     ·
      rintro w' ⟨s0, s1, s2, s3⟩
      go_simp
      with_reducible rfl
     rotate_left
     ·
      simp only [Act.put, List.setIfInBounds_toArray, List.set_cons_zero, List.set_cons_succ, i64_w, i32_w]
      rfl
     refine take_ (i := 1) (N := some 29) (v := ?_) (a' := ?_) #[true, true, false, false, false, false, false, false, false, false, false, false, false, false, false, false, false, false, false, false, false, false, false] rfl rfl (take_ofW HT_.out HW_.out (by kernel_rfl)) (fun _ _ _ h => h) (Or.inl ⟨by rfl, ?_⟩) hHeld ?_ ?_
     rotate_left
     ·
      rintro w' ⟨s0, s1, s2, s3⟩
      go_simp
      with_reducible rfl
     rotate_left
     ·
      simp only [Act.put, List.setIfInBounds_toArray, List.set_cons_zero, List.set_cons_succ, i64_w, i32_w]
      rfl
     refine pure_ (i := 2) (N := some 30) (v := ?_) (a' := ?_) #[true, true, true, false, false, false, false, false, false, false, false, false, false, false, false, false, false, false, false, false, false, false, false] rfl rfl (any_of HT_.out (by kernel_rfl)) (fun _ _ _ h => h) (Or.inl ⟨by rfl, ?_⟩) ?_ ?_
     rotate_left
     ·
      intro w'
      go_simp
      with_reducible rfl
     rotate_left
     ·
      simp only [Act.put, List.setIfInBounds_toArray, List.set_cons_zero, List.set_cons_succ, i64_w, i32_w]
      rfl
     refine pure_ (i := 3) (N := some 31) (v := ?_) (a' := ?_) #[true, true, true, true, false, false, false, false, false, false, false, false, false, false, false, false, false, false, false, false, false, false, false] rfl rfl (any_of HT_.out (by kernel_rfl)) (fun _ _ _ h => h) (Or.inl ⟨by rfl, ?_⟩) ?_ ?_
     rotate_left
     ·
      intro w'
      go_simp
      with_reducible rfl
     rotate_left
     ·
      simp only [Act.put, List.setIfInBounds_toArray, List.set_cons_zero, List.set_cons_succ, i64_w, i32_w]
      rfl
     refine pure_ (i := 4) (N := some 32) (v := ?_) (a' := ?_) #[true, true, true, true, true, false, false, false, false, false, false, false, false, false, false, false, false, false, false, false, false, false, false] rfl rfl (any_of HT_.out (by kernel_rfl)) (fun _ _ _ h => h) (Or.inl ⟨by rfl, ?_⟩) ?_ ?_
     rotate_left
     ·
      intro w'
      go_simp
      with_reducible rfl
     rotate_left
     ·
      simp only [Act.put, List.setIfInBounds_toArray, List.set_cons_zero, List.set_cons_succ, i64_w, i32_w]
      rfl
     refine pure_ (i := 5) (N := some 33) (v := ?_) (a' := ?_) #[true, true, true, true, true, true, false, false, false, false, false, false, false, false, false, false, false, false, false, false, false, false, false] rfl rfl (any_of HT_.out (by kernel_rfl)) (fun _ _ _ h => h) (Or.inl ⟨by rfl, ?_⟩) ?_ ?_
     rotate_left
     ·
      intro w'
      go_simp
      with_reducible rfl
     rotate_left
     ·
      simp only [Act.put, List.setIfInBounds_toArray, List.set_cons_zero, List.set_cons_succ, i64_w, i32_w]
      rfl
     refine pure_ (i := 6) (N := some 34) (v := ?_) (a' := ?_) #[true, true, true, true, true, true, true, false, false, false, false, false, false, false, false, false, false, false, false, false, false, false, false] rfl rfl (any_of HT_.out (by kernel_rfl)) (fun _ _ _ h => h) (Or.inl ⟨by rfl, ?_⟩) ?_ ?_
     rotate_left
     ·
      intro w'
      go_simp
      with_reducible rfl
     rotate_left
     ·
      simp only [Act.put, List.setIfInBounds_toArray, List.set_cons_zero, List.set_cons_succ, i64_w, i32_w]
      rfl
     refine pure_ (i := 7) (N := some 35) (v := ?_) (a' := ?_) #[true, true, true, true, true, true, true, true, false, false, false, false, false, false, false, false, false, false, false, false, false, false, false] rfl rfl (any_of HT_.out (by kernel_rfl)) (fun _ _ _ h => h) (Or.inl ⟨by rfl, ?_⟩) ?_ ?_
     rotate_left
     ·
      intro w'
      go_simp
      with_reducible rfl
     rotate_left
     ·
      simp only [Act.put, List.setIfInBounds_toArray, List.set_cons_zero, List.set_cons_succ, i64_w, i32_w]
      rfl
     refine pure_ (i := 8) (N := some 36) (v := undef) (a' := ?_) #[true, true, true, true, true, true, true, true, true, false, false, false, false, false, false, false, false, false, false, false, false, false, false] rfl rfl (any_of HT_.out (by kernel_rfl)) (fun _ _ _ h => h) (Or.inr ⟨by rfl, rfl⟩) ?_ ?_
     rotate_left
     ·
      simp only [Act.put, List.setIfInBounds_toArray, List.set_cons_zero, List.set_cons_succ, i64_w, i32_w]
      rfl
     refine pure_ (i := 9) (N := some 37) (v := undef) (a' := ?_) #[true, true, true, true, true, true, true, true, true, true, false, false, false, false, false, false, false, false, false, false, false, false, false] rfl rfl (any_of HT_.out (by kernel_rfl)) (fun _ _ _ h => h) (Or.inr ⟨by rfl, rfl⟩) ?_ ?_
     rotate_left
     ·
      simp only [Act.put, List.setIfInBounds_toArray, List.set_cons_zero, List.set_cons_succ, i64_w, i32_w]
      rfl
     refine pure_ (i := 10) (N := some 38) (v := undef) (a' := ?_) #[true, true, true, true, true, true, true, true, true, true, true, false, false, false, false, false, false, false, false, false, false, false, false] rfl rfl (any_of HT_.out (by kernel_rfl)) (fun _ _ _ h => h) (Or.inr ⟨by rfl, rfl⟩) ?_ ?_
     rotate_left
     ·
      simp only [Act.put, List.setIfInBounds_toArray, List.set_cons_zero, List.set_cons_succ, i64_w, i32_w]
      rfl
     refine pure_ (i := 11) (N := some 39) (v := undef) (a' := ?_) #[true, true, true, true, true, true, true, true, true, true, true, true, false, false, false, false, false, false, false, false, false, false, false] rfl rfl (any_of HT_.out (by kernel_rfl)) (fun _ _ _ h => h) (Or.inr ⟨by rfl, rfl⟩) ?_ ?_
     rotate_left
     ·
      simp only [Act.put, List.setIfInBounds_toArray, List.set_cons_zero, List.set_cons_succ, i64_w, i32_w]
      rfl
     refine pure_ (i := 12) (N := some 40) (v := undef) (a' := ?_) #[true, true, true, true, true, true, true, true, true, true, true, true, true, false, false, false, false, false, false, false, false, false, false] rfl rfl (any_of HT_.out (by kernel_rfl)) (fun _ _ _ h => h) (Or.inr ⟨by rfl, rfl⟩) ?_ ?_
     rotate_left
     ·
      simp only [Act.put, List.setIfInBounds_toArray, List.set_cons_zero, List.set_cons_succ, i64_w, i32_w]
      rfl
     refine pure_ (i := 13) (N := some 41) (v := undef) (a' := ?_) #[true, true, true, true, true, true, true, true, true, true, true, true, true, true, false, false, false, false, false, false, false, false, false] rfl rfl (any_of HT_.out (by kernel_rfl)) (fun _ _ _ h => h) (Or.inr ⟨by rfl, rfl⟩) ?_ ?_
     rotate_left
     ·
      simp only [Act.put, List.setIfInBounds_toArray, List.set_cons_zero, List.set_cons_succ, i64_w, i32_w]
      rfl
     refine pure_ (i := 14) (N := some 42) (v := undef) (a' := ?_) #[true, true, true, true, true, true, true, true, true, true, true, true, true, true, true, false, false, false, false, false, false, false, false] rfl rfl (any_of HT_.out (by kernel_rfl)) (fun _ _ _ h => h) (Or.inr ⟨by rfl, rfl⟩) ?_ ?_
     rotate_left
     ·
      simp only [Act.put, List.setIfInBounds_toArray, List.set_cons_zero, List.set_cons_succ, i64_w, i32_w]
      rfl
     refine pure_ (i := 15) (N := some 43) (v := undef) (a' := ?_) #[true, true, true, true, true, true, true, true, true, true, true, true, true, true, true, true, false, false, false, false, false, false, false] rfl rfl (any_of HT_.out (by kernel_rfl)) (fun _ _ _ h => h) (Or.inr ⟨by rfl, rfl⟩) ?_ ?_
     rotate_left
     ·
      simp only [Act.put, List.setIfInBounds_toArray, List.set_cons_zero, List.set_cons_succ, i64_w, i32_w]
      rfl
     refine pure_ (i := 16) (N := some 44) (v := undef) (a' := ?_) #[true, true, true, true, true, true, true, true, true, true, true, true, true, true, true, true, true, false, false, false, false, false, false] rfl rfl (any_of HT_.out (by kernel_rfl)) (fun _ _ _ h => h) (Or.inr ⟨by rfl, rfl⟩) ?_ ?_
     rotate_left
     ·
      simp only [Act.put, List.setIfInBounds_toArray, List.set_cons_zero, List.set_cons_succ, i64_w, i32_w]
      rfl
     refine pure_ (i := 17) (N := some 45) (v := undef) (a' := ?_) #[true, true, true, true, true, true, true, true, true, true, true, true, true, true, true, true, true, true, false, false, false, false, false] rfl rfl (any_of HT_.out (by kernel_rfl)) (fun _ _ _ h => h) (Or.inr ⟨by rfl, rfl⟩) ?_ ?_
     rotate_left
     ·
      simp only [Act.put, List.setIfInBounds_toArray, List.set_cons_zero, List.set_cons_succ, i64_w, i32_w]
      rfl
     refine pure_ (i := 18) (N := some 46) (v := undef) (a' := ?_) #[true, true, true, true, true, true, true, true, true, true, true, true, true, true, true, true, true, true, true, false, false, false, false] rfl rfl (any_of HT_.out (by kernel_rfl)) (fun _ _ _ h => h) (Or.inr ⟨by rfl, rfl⟩) ?_ ?_
     rotate_left
     ·
      simp only [Act.put, List.setIfInBounds_toArray, List.set_cons_zero, List.set_cons_succ, i64_w, i32_w]
      rfl
     refine pure_ (i := 19) (N := some 47) (v := undef) (a' := ?_) #[true, true, true, true, true, true, true, true, true, true, true, true, true, true, true, true, true, true, true, true, false, false, false] rfl rfl (any_of HT_.out (by kernel_rfl)) (fun _ _ _ h => h) (Or.inr ⟨by rfl, rfl⟩) ?_ ?_
     rotate_left
     ·
      simp only [Act.put, List.setIfInBounds_toArray, List.set_cons_zero, List.set_cons_succ, i64_w, i32_w]
      rfl
     refine pure_ (i := 20) (N := some 48) (v := undef) (a' := ?_) #[true, true, true, true, true, true, true, true, true, true, true, true, true, true, true, true, true, true, true, true, true, false, false] rfl rfl (any_of HT_.out (by kernel_rfl)) (fun _ _ _ h => h) (Or.inr ⟨by rfl, rfl⟩) ?_ ?_
     rotate_left
     ·
      simp only [Act.put, List.setIfInBounds_toArray, List.set_cons_zero, List.set_cons_succ, i64_w, i32_w]
      rfl
     refine pure_ (i := 21) (N := some 49) (v := undef) (a' := ?_) #[true, true, true, true, true, true, true, true, true, true, true, true, true, true, true, true, true, true, true, true, true, true, false] rfl rfl (any_of HT_.out (by kernel_rfl)) (fun _ _ _ h => h) (Or.inr ⟨by rfl, rfl⟩) ?_ ?_
     rotate_left
     ·
      simp only [Act.put, List.setIfInBounds_toArray, List.set_cons_zero, List.set_cons_succ, i64_w, i32_w]
      rfl
     refine pure_ (i := 22) (N := some 50) (v := ?_) (a' := ?_) #[true, true, true, true, true, true, true, true, true, true, true, true, true, true, true, true, true, true, true, true, true, true, true] rfl rfl (any_of HT_.out (by kernel_rfl)) (fun _ _ _ h => h) (Or.inl ⟨by rfl, ?_⟩) ?_ ?_
     rotate_left
     ·
      intro w'
      go_simp
      with_reducible rfl
     rotate_left
     ·
      simp only [Act.put, List.setIfInBounds_toArray, List.set_cons_zero, List.set_cons_succ, i64_w, i32_w]
      rfl
     refine done_ (done_of HT_.out (by kernel_rfl)) ?_
     try go_wp2
     go_meet
     case rel => exact ⟨_, (true), (by first | rfl | (simp; done) | (simp [*]; done)), H', ⟨by have := HK1.out; first | omega | exact Nat.le_refl _⟩, ⟨BK419.out⟩, ⟨BK420.out⟩, ⟨BK421.out⟩, ⟨HB.out⟩⟩
    rw [if_neg c22] at H
    have c22b0 : decide (t424 < 0) = false := decide_eq_false c22
    clear c22
    by_cases c24 : t424 = 0
    rotate_left
    ·
     rw [if_neg c24] at H
     have c24b0 : (t424 == 0) = false := beq_eq_false_iff_ne.mpr c24
     have c24b1 : (t424 != 0) = true := bne_iff_ne.mpr c24
     have H' := Aside0.mk H
     clear H
     try go_wp2
     replace BK419 := Aside0.mk (blk_drew BK419.out); replace BK420 := Aside0.mk (blk_drew BK420.out); replace BK421 := Aside0.mk (blk_drew BK421.out); replace HB := Aside0.mk (below_drew1 HB.out)
     refine start_ (n := 23) (S := fun w' => w'.cell? ⟨gb421, 0, none⟩ = some (.int .i64 x422000_1) ∧ w'.cell? ⟨gb421, 1, none⟩ = some (.int .i64 x422001_1) ∧ w'.cell? ⟨gb419, 0, none⟩ = some (.int .i64 a1_0) ∧ w'.cell? ⟨gb419, 1, none⟩ = some (.int .i64 a1_1)) (ds := []) #[false, false, false, false, false, false, false, false, false, false, false, false, false, false, false, false, false, false, false, false, false, false, false] (by kernel_rfl) rfl rfl ⟨(blk_cell BK421.out 0).trans rfl, (blk_cell BK421.out 1).trans rfl, (blk_cell BK419.out 0).trans rfl, (blk_cell BK419.out 1).trans rfl⟩ (fun hHeld => ?_); refine with_tabW dancestudioref03_next.tab7 dancestudioref03_next.bits7 (fun HT_ HW_ => ?_)
     generalize w19.drew = w30 at BK419 BK420 BK421 HB hHeld ⊢
     refine take_ (i := 0) (N := some 28) (v := ?_) (a' := ?_) #[true, false, false, false, false, false, false, false, false, false, false, false, false, false, false, false, false, false, false, false, false, false, false] rfl rfl (take_ofW HT_.out HW_.out (by kernel_rfl)) (fun _ _ _ h => h) (Or.inl ⟨by rfl, ?_⟩) hHeld ?_ ?_
     rotate_left
     ·
      rintro w' ⟨s0, s1, s2, s3⟩
      go_simp
      with_reducible rfl
     rotate_left
     ·
      simp only [Act.put, List.setIfInBounds_toArray, List.set_cons_zero, List.set_cons_succ, i64_w, i32_w]
      rfl
     refine take_ (i := 1) (N := some 29) (v := ?_) (a' := ?_) #[true, true, false, false, false, false, false, false, false, false, false, false, false, false, false, false, false, false, false, false, false, false, false] rfl rfl (take_ofW HT_.out HW_.out (by kernel_rfl)) (fun _ _ _ h => h) (Or.inl ⟨by rfl, ?_⟩) hHeld ?_ ?_
     rotate_left
     ·
      rintro w' ⟨s0, s1, s2, s3⟩
      go_simp
      with_reducible rfl
     rotate_left
     ·
      simp only [Act.put, List.setIfInBounds_toArray, List.set_cons_zero, List.set_cons_succ, i64_w, i32_w]
      rfl
     refine pure_ (i := 2) (N := some 30) (v := ?_) (a' := ?_) #[true, true, true, false, false, false, false, false, false, false, false, false, false, false, false, false, false, false, false, false, false, false, false] rfl rfl (any_of HT_.out (by kernel_rfl)) (fun _ _ _ h => h) (Or.inl ⟨by rfl, ?_⟩) ?_ ?_
     rotate_left
     ·
      intro w'
      go_simp
      with_reducible rfl
     rotate_left
     ·
      simp only [Act.put, List.setIfInBounds_toArray, List.set_cons_zero, List.set_cons_succ, i64_w, i32_w]
      rfl
     refine pure_ (i := 3) (N := some 31) (v := ?_) (a' := ?_) #[true, true, true, true, false, false, false, false, false, false, false, false, false, false, false, false, false, false, false, false, false, false, false] rfl rfl (any_of HT_.out (by kernel_rfl)) (fun _ _ _ h => h) (Or.inl ⟨by rfl, ?_⟩) ?_ ?_
     rotate_left
     ·
      intro w'
      go_simp
      with_reducible rfl
     rotate_left
     ·
      simp only [Act.put, List.setIfInBounds_toArray, List.set_cons_zero, List.set_cons_succ, i64_w, i32_w]
      rfl
     refine pure_ (i := 4) (N := some 32) (v := ?_) (a' := ?_) #[true, true, true, true, true, false, false, false, false, false, false, false, false, false, false, false, false, false, false, false, false, false, false] rfl rfl (any_of HT_.out (by kernel_rfl)) (fun _ _ _ h => h) (Or.inl ⟨by rfl, ?_⟩) ?_ ?_
     rotate_left
     ·
      intro w'
      go_simp
      with_reducible rfl
     rotate_left
     ·
      simp only [Act.put, List.setIfInBounds_toArray, List.set_cons_zero, List.set_cons_succ, i64_w, i32_w]
      rfl
     refine pure_ (i := 5) (N := some 33) (v := ?_) (a' := ?_) #[true, true, true, true, true, true, false, false, false, false, false, false, false, false, false, false, false, false, false, false, false, false, false] rfl rfl (any_of HT_.out (by kernel_rfl)) (fun _ _ _ h => h) (Or.inl ⟨by rfl, ?_⟩) ?_ ?_
     rotate_left
     ·
      intro w'
      go_simp
      with_reducible rfl
     rotate_left
     ·
      simp only [Act.put, List.setIfInBounds_toArray, List.set_cons_zero, List.set_cons_succ, i64_w, i32_w]
      rfl
     refine pure_ (i := 6) (N := some 34) (v := ?_) (a' := ?_) #[true, true, true, true, true, true, true, false, false, false, false, false, false, false, false, false, false, false, false, false, false, false, false] rfl rfl (any_of HT_.out (by kernel_rfl)) (fun _ _ _ h => h) (Or.inl ⟨by rfl, ?_⟩) ?_ ?_
     rotate_left
     ·
      intro w'
      go_simp
      with_reducible rfl
     rotate_left
     ·
      simp only [Act.put, List.setIfInBounds_toArray, List.set_cons_zero, List.set_cons_succ, i64_w, i32_w]
      rfl
     refine pure_ (i := 7) (N := some 35) (v := ?_) (a' := ?_) #[true, true, true, true, true, true, true, true, false, false, false, false, false, false, false, false, false, false, false, false, false, false, false] rfl rfl (any_of HT_.out (by kernel_rfl)) (fun _ _ _ h => h) (Or.inl ⟨by rfl, ?_⟩) ?_ ?_
     rotate_left
     ·
      intro w'
      go_simp
      with_reducible rfl
     rotate_left
     ·
      simp only [Act.put, List.setIfInBounds_toArray, List.set_cons_zero, List.set_cons_succ, i64_w, i32_w]
      rfl
     refine pure_ (i := 8) (N := some 36) (v := ?_) (a' := ?_) #[true, true, true, true, true, true, true, true, true, false, false, false, false, false, false, false, false, false, false, false, false, false, false] rfl rfl (any_of HT_.out (by kernel_rfl)) (fun _ _ _ h => h) (Or.inl ⟨by rfl, ?_⟩) ?_ ?_
     rotate_left
     ·
      intro w'
      go_simp
      with_reducible rfl
     rotate_left
     ·
      simp only [Act.put, List.setIfInBounds_toArray, List.set_cons_zero, List.set_cons_succ, i64_w, i32_w]
      rfl
     refine pure_ (i := 9) (N := some 37) (v := ?_) (a' := ?_) #[true, true, true, true, true, true, true, true, true, true, false, false, false, false, false, false, false, false, false, false, false, false, false] rfl rfl (any_of HT_.out (by kernel_rfl)) (fun _ _ _ h => h) (Or.inl ⟨by rfl, ?_⟩) ?_ ?_
     rotate_left
     ·
      intro w'
      go_simp
      with_reducible rfl
     rotate_left
     ·
      simp only [Act.put, List.setIfInBounds_toArray, List.set_cons_zero, List.set_cons_succ, i64_w, i32_w]
      rfl
     refine pure_ (i := 10) (N := some 38) (v := ?_) (a' := ?_) #[true, true, true, true, true, true, true, true, true, true, true, false, false, false, false, false, false, false, false, false, false, false, false] rfl rfl (any_of HT_.out (by kernel_rfl)) (fun _ _ _ h => h) (Or.inl ⟨by rfl, ?_⟩) ?_ ?_
     rotate_left
     ·
      intro w'
      go_simp
      with_reducible rfl
     rotate_left
     ·
      simp only [Act.put, List.setIfInBounds_toArray, List.set_cons_zero, List.set_cons_succ, i64_w, i32_w]
      rfl
     refine pure_ (i := 11) (N := some 39) (v := undef) (a' := ?_) #[true, true, true, true, true, true, true, true, true, true, true, true, false, false, false, false, false, false, false, false, false, false, false] rfl rfl (any_of HT_.out (by kernel_rfl)) (fun _ _ _ h => h) (Or.inr ⟨by rfl, rfl⟩) ?_ ?_
     rotate_left
     ·
      simp only [Act.put, List.setIfInBounds_toArray, List.set_cons_zero, List.set_cons_succ, i64_w, i32_w]
      rfl
     refine pure_ (i := 12) (N := some 40) (v := undef) (a' := ?_) #[true, true, true, true, true, true, true, true, true, true, true, true, true, false, false, false, false, false, false, false, false, false, false] rfl rfl (any_of HT_.out (by kernel_rfl)) (fun _ _ _ h => h) (Or.inr ⟨by rfl, rfl⟩) ?_ ?_
     rotate_left
     ·
      simp only [Act.put, List.setIfInBounds_toArray, List.set_cons_zero, List.set_cons_succ, i64_w, i32_w]
      rfl
     refine pure_ (i := 13) (N := some 41) (v := undef) (a' := ?_) #[true, true, true, true, true, true, true, true, true, true, true, true, true, true, false, false, false, false, false, false, false, false, false] rfl rfl (any_of HT_.out (by kernel_rfl)) (fun _ _ _ h => h) (Or.inr ⟨by rfl, rfl⟩) ?_ ?_
     rotate_left
     ·
      simp only [Act.put, List.setIfInBounds_toArray, List.set_cons_zero, List.set_cons_succ, i64_w, i32_w]
      rfl
     refine pure_ (i := 14) (N := some 42) (v := undef) (a' := ?_) #[true, true, true, true, true, true, true, true, true, true, true, true, true, true, true, false, false, false, false, false, false, false, false] rfl rfl (any_of HT_.out (by kernel_rfl)) (fun _ _ _ h => h) (Or.inr ⟨by rfl, rfl⟩) ?_ ?_
     rotate_left
     ·
      simp only [Act.put, List.setIfInBounds_toArray, List.set_cons_zero, List.set_cons_succ, i64_w, i32_w]
      rfl
     refine pure_ (i := 15) (N := some 43) (v := undef) (a' := ?_) #[true, true, true, true, true, true, true, true, true, true, true, true, true, true, true, true, false, false, false, false, false, false, false] rfl rfl (any_of HT_.out (by kernel_rfl)) (fun _ _ _ h => h) (Or.inr ⟨by rfl, rfl⟩) ?_ ?_
     rotate_left
     ·
      simp only [Act.put, List.setIfInBounds_toArray, List.set_cons_zero, List.set_cons_succ, i64_w, i32_w]
      rfl
     refine pure_ (i := 16) (N := some 44) (v := undef) (a' := ?_) #[true, true, true, true, true, true, true, true, true, true, true, true, true, true, true, true, true, false, false, false, false, false, false] rfl rfl (any_of HT_.out (by kernel_rfl)) (fun _ _ _ h => h) (Or.inr ⟨by rfl, rfl⟩) ?_ ?_
     rotate_left
     ·
      simp only [Act.put, List.setIfInBounds_toArray, List.set_cons_zero, List.set_cons_succ, i64_w, i32_w]
      rfl
     refine pure_ (i := 17) (N := some 45) (v := undef) (a' := ?_) #[true, true, true, true, true, true, true, true, true, true, true, true, true, true, true, true, true, true, false, false, false, false, false] rfl rfl (any_of HT_.out (by kernel_rfl)) (fun _ _ _ h => h) (Or.inr ⟨by rfl, rfl⟩) ?_ ?_
     rotate_left
     ·
      simp only [Act.put, List.setIfInBounds_toArray, List.set_cons_zero, List.set_cons_succ, i64_w, i32_w]
      rfl
     refine pure_ (i := 18) (N := some 46) (v := undef) (a' := ?_) #[true, true, true, true, true, true, true, true, true, true, true, true, true, true, true, true, true, true, true, false, false, false, false] rfl rfl (any_of HT_.out (by kernel_rfl)) (fun _ _ _ h => h) (Or.inr ⟨by rfl, rfl⟩) ?_ ?_
     rotate_left
     ·
      simp only [Act.put, List.setIfInBounds_toArray, List.set_cons_zero, List.set_cons_succ, i64_w, i32_w]
      rfl
     refine pure_ (i := 19) (N := some 47) (v := undef) (a' := ?_) #[true, true, true, true, true, true, true, true, true, true, true, true, true, true, true, true, true, true, true, true, false, false, false] rfl rfl (any_of HT_.out (by kernel_rfl)) (fun _ _ _ h => h) (Or.inr ⟨by rfl, rfl⟩) ?_ ?_
     rotate_left
     ·
      simp only [Act.put, List.setIfInBounds_toArray, List.set_cons_zero, List.set_cons_succ, i64_w, i32_w]
      rfl
     refine pure_ (i := 20) (N := some 48) (v := undef) (a' := ?_) #[true, true, true, true, true, true, true, true, true, true, true, true, true, true, true, true, true, true, true, true, true, false, false] rfl rfl (any_of HT_.out (by kernel_rfl)) (fun _ _ _ h => h) (Or.inr ⟨by rfl, rfl⟩) ?_ ?_
     rotate_left
     ·
      simp only [Act.put, List.setIfInBounds_toArray, List.set_cons_zero, List.set_cons_succ, i64_w, i32_w]
      rfl
     refine pure_ (i := 21) (N := some 49) (v := ?_) (a' := ?_) #[true, true, true, true, true, true, true, true, true, true, true, true, true, true, true, true, true, true, true, true, true, true, false] rfl rfl (any_of HT_.out (by kernel_rfl)) (fun _ _ _ h => h) (Or.inl ⟨by rfl, ?_⟩) ?_ ?_
     rotate_left
     ·
      intro w'
      go_simp
      with_reducible rfl
     rotate_left
     ·
      simp only [Act.put, List.setIfInBounds_toArray, List.set_cons_zero, List.set_cons_succ, i64_w, i32_w]
      rfl
     refine pure_ (i := 22) (N := some 50) (v := ?_) (a' := ?_) #[true, true, true, true, true, true, true, true, true, true, true, true, true, true, true, true, true, true, true, true, true, true, true] rfl rfl (any_of HT_.out (by kernel_rfl)) (fun _ _ _ h => h) (Or.inl ⟨by rfl, ?_⟩) ?_ ?_
     rotate_left
     ·
      intro w'
      go_simp
      with_reducible rfl
     rotate_left
     ·
      simp only [Act.put, List.setIfInBounds_toArray, List.set_cons_zero, List.set_cons_succ, i64_w, i32_w]
      rfl
     refine done_ (done_of HT_.out (by kernel_rfl)) ?_
     try go_wp2
     go_meet
     case rel => exact ⟨_, (false), (by first | rfl | (simp; done) | (simp [*]; done)), H', ⟨by have := HK1.out; first | omega | exact Nat.le_refl _⟩, ⟨BK419.out⟩, ⟨BK420.out⟩, ⟨BK421.out⟩, ⟨HB.out⟩⟩
    rw [if_pos c24] at H
    have c24b0 : (t424 == 0) = true := beq_iff_eq.mpr c24
    have c24b1 : (t424 != 0) = false := bne_eq_false_iff_eq.mpr c24
    clear c24
    replace H := Option.bind_eq_some_iff.mp H
    obtain ⟨t426, A250, H⟩ := H
    try dsimp only at H
    have A25 := Aside0.mk A250
    clear A250
    replace H := Option.bind_eq_some_iff.mp H
    obtain ⟨t427, A260, H⟩ := H
    try dsimp only at H
    have A26 := Aside0.mk A260
    clear A260
    have H' := Aside0.mk H
    clear H
    try go_wp2
    replace BK419 := Aside0.mk (blk_drew BK419.out); replace BK420 := Aside0.mk (blk_drew BK420.out); replace BK421 := Aside0.mk (blk_drew BK421.out); replace HB := Aside0.mk (below_drew1 HB.out)
    have p425 : 0 ≤ (x6_1 : Int) := of_decide_eq_true (by first | (with_reducible assumption) | assumption)
    have q425 : x6_1 < (l0.length : Int) := of_decide_eq_true (by first | (with_reducible assumption) | assumption)
    obtain ⟨ad425, e425, hx425_0, hx425_1⟩ := at_T23 HR0.out x6_1 p425 q425
    have hw425_1 := hx425_1
    have hw425_0 := hx425_0
    obtain rfl : ad422 = ad425 := (by injection e425)
    replace hx425_0 := (HB.out.cell (World.block_lt_of_cell? w _ hx425_0)).trans hx425_0
    replace hx425_1 := (HB.out.cell (World.block_lt_of_cell? w _ hx425_1)).trans hx425_1
    replace p425 := eq_true p425
    replace q425 := eq_true q425
    refine start_ (n := 23) (S := fun w' => w'.cell? ⟨gb421, 0, none⟩ = some (.int .i64 x422000_1) ∧ w'.cell? ⟨gb421, 1, none⟩ = some (.int .i64 x422001_1) ∧ w'.cell? ⟨gb419, 0, none⟩ = some (.int .i64 a1_0) ∧ w'.cell? ⟨gb419, 1, none⟩ = some (.int .i64 a1_1) ∧ w'.cell? (ad422.add ((x6_1).toNat * 2)) = some (.int .i64 ((rd_T23 l0 x6_1).f0)) ∧ w'.cell? ⟨(ad422.add ((x6_1).toNat * 2)).block, (ad422.add ((x6_1).toNat * 2)).off + 1, none⟩ = some (.int .i64 ((rd_T23 l0 x6_1).f1))) (ds := []) #[false, false, false, false, false, false, false, false, false, false, false, false, false, false, false, false, false, false, false, false, false, false, false] (by kernel_rfl) rfl rfl ⟨(blk_cell BK421.out 0).trans rfl, (blk_cell BK421.out 1).trans rfl, (blk_cell BK419.out 0).trans rfl, (blk_cell BK419.out 1).trans rfl, ((HB.out.cell (World.block_lt_of_cell? w _ hw425_0)).trans hw425_0), ((HB.out.cell (World.block_lt_of_cell? w _ hw425_1)).trans hw425_1)⟩ (fun hHeld => ?_); refine with_tabW dancestudioref03_next.tab7 dancestudioref03_next.bits7 (fun HT_ HW_ => ?_)
    generalize w19.drew = w27 at BK419 BK420 BK421 HB hx425_0 hx425_1 hHeld ⊢
    refine take_ (i := 0) (N := some 28) (v := ?_) (a' := ?_) #[true, false, false, false, false, false, false, false, false, false, false, false, false, false, false, false, false, false, false, false, false, false, false] rfl rfl (take_ofW HT_.out HW_.out (by kernel_rfl)) (fun _ _ _ h => h) (Or.inl ⟨by rfl, ?_⟩) hHeld ?_ ?_
    rotate_left
    ·
     rintro w' ⟨s0, s1, s2, s3, s4, s5⟩
     go_simp
     with_reducible rfl
    rotate_left
    ·
     simp only [Act.put, List.setIfInBounds_toArray, List.set_cons_zero, List.set_cons_succ, i64_w, i32_w]
     rfl
    refine take_ (i := 1) (N := some 29) (v := ?_) (a' := ?_) #[true, true, false, false, false, false, false, false, false, false, false, false, false, false, false, false, false, false, false, false, false, false, false] rfl rfl (take_ofW HT_.out HW_.out (by kernel_rfl)) (fun _ _ _ h => h) (Or.inl ⟨by rfl, ?_⟩) hHeld ?_ ?_
    rotate_left
    ·
     rintro w' ⟨s0, s1, s2, s3, s4, s5⟩
     go_simp
     with_reducible rfl
    rotate_left
    ·
     simp only [Act.put, List.setIfInBounds_toArray, List.set_cons_zero, List.set_cons_succ, i64_w, i32_w]
     rfl
    refine pure_ (i := 2) (N := some 30) (v := ?_) (a' := ?_) #[true, true, true, false, false, false, false, false, false, false, false, false, false, false, false, false, false, false, false, false, false, false, false] rfl rfl (any_of HT_.out (by kernel_rfl)) (fun _ _ _ h => h) (Or.inl ⟨by rfl, ?_⟩) ?_ ?_
    rotate_left
    ·
     intro w'
     go_simp
     with_reducible rfl
    rotate_left
    ·
     simp only [Act.put, List.setIfInBounds_toArray, List.set_cons_zero, List.set_cons_succ, i64_w, i32_w]
     rfl
    refine pure_ (i := 3) (N := some 31) (v := ?_) (a' := ?_) #[true, true, true, true, false, false, false, false, false, false, false, false, false, false, false, false, false, false, false, false, false, false, false] rfl rfl (any_of HT_.out (by kernel_rfl)) (fun _ _ _ h => h) (Or.inl ⟨by rfl, ?_⟩) ?_ ?_
    rotate_left
    ·
     intro w'
     go_simp
     with_reducible rfl
    rotate_left
    ·
     simp only [Act.put, List.setIfInBounds_toArray, List.set_cons_zero, List.set_cons_succ, i64_w, i32_w]
     rfl
    refine pure_ (i := 4) (N := some 32) (v := ?_) (a' := ?_) #[true, true, true, true, true, false, false, false, false, false, false, false, false, false, false, false, false, false, false, false, false, false, false] rfl rfl (any_of HT_.out (by kernel_rfl)) (fun _ _ _ h => h) (Or.inl ⟨by rfl, ?_⟩) ?_ ?_
    rotate_left
    ·
     intro w'
     go_simp
     with_reducible rfl
    rotate_left
    ·
     simp only [Act.put, List.setIfInBounds_toArray, List.set_cons_zero, List.set_cons_succ, i64_w, i32_w]
     rfl
    refine pure_ (i := 5) (N := some 33) (v := ?_) (a' := ?_) #[true, true, true, true, true, true, false, false, false, false, false, false, false, false, false, false, false, false, false, false, false, false, false] rfl rfl (any_of HT_.out (by kernel_rfl)) (fun _ _ _ h => h) (Or.inl ⟨by rfl, ?_⟩) ?_ ?_
    rotate_left
    ·
     intro w'
     go_simp
     with_reducible rfl
    rotate_left
    ·
     simp only [Act.put, List.setIfInBounds_toArray, List.set_cons_zero, List.set_cons_succ, i64_w, i32_w]
     rfl
    refine pure_ (i := 6) (N := some 34) (v := ?_) (a' := ?_) #[true, true, true, true, true, true, true, false, false, false, false, false, false, false, false, false, false, false, false, false, false, false, false] rfl rfl (any_of HT_.out (by kernel_rfl)) (fun _ _ _ h => h) (Or.inl ⟨by rfl, ?_⟩) ?_ ?_
    rotate_left
    ·
     intro w'
     go_simp
     with_reducible rfl
    rotate_left
    ·
     simp only [Act.put, List.setIfInBounds_toArray, List.set_cons_zero, List.set_cons_succ, i64_w, i32_w]
     rfl
    refine pure_ (i := 7) (N := some 35) (v := ?_) (a' := ?_) #[true, true, true, true, true, true, true, true, false, false, false, false, false, false, false, false, false, false, false, false, false, false, false] rfl rfl (any_of HT_.out (by kernel_rfl)) (fun _ _ _ h => h) (Or.inl ⟨by rfl, ?_⟩) ?_ ?_
    rotate_left
    ·
     intro w'
     go_simp
     with_reducible rfl
    rotate_left
    ·
     simp only [Act.put, List.setIfInBounds_toArray, List.set_cons_zero, List.set_cons_succ, i64_w, i32_w]
     rfl
    refine pure_ (i := 8) (N := some 36) (v := ?_) (a' := ?_) #[true, true, true, true, true, true, true, true, true, false, false, false, false, false, false, false, false, false, false, false, false, false, false] rfl rfl (any_of HT_.out (by kernel_rfl)) (fun _ _ _ h => h) (Or.inl ⟨by rfl, ?_⟩) ?_ ?_
    rotate_left
    ·
     intro w'
     go_simp
     with_reducible rfl
    rotate_left
    ·
     simp only [Act.put, List.setIfInBounds_toArray, List.set_cons_zero, List.set_cons_succ, i64_w, i32_w]
     rfl
    refine pure_ (i := 9) (N := some 37) (v := ?_) (a' := ?_) #[true, true, true, true, true, true, true, true, true, true, false, false, false, false, false, false, false, false, false, false, false, false, false] rfl rfl (any_of HT_.out (by kernel_rfl)) (fun _ _ _ h => h) (Or.inl ⟨by rfl, ?_⟩) ?_ ?_
    rotate_left
    ·
     intro w'
     go_simp
     with_reducible rfl
    rotate_left
    ·
     simp only [Act.put, List.setIfInBounds_toArray, List.set_cons_zero, List.set_cons_succ, i64_w, i32_w]
     rfl
    refine pure_ (i := 10) (N := some 38) (v := ?_) (a' := ?_) #[true, true, true, true, true, true, true, true, true, true, true, false, false, false, false, false, false, false, false, false, false, false, false] rfl rfl (any_of HT_.out (by kernel_rfl)) (fun _ _ _ h => h) (Or.inl ⟨by rfl, ?_⟩) ?_ ?_
    rotate_left
    ·
     intro w'
     go_simp
     with_reducible rfl
    rotate_left
    ·
     simp only [Act.put, List.setIfInBounds_toArray, List.set_cons_zero, List.set_cons_succ, i64_w, i32_w]
     rfl
    refine pure_ (i := 12) (N := some 40) (v := ?_) (a' := ?_) #[true, true, true, true, true, true, true, true, true, true, true, false, true, false, false, false, false, false, false, false, false, false, false] rfl rfl (any_of HT_.out (by kernel_rfl)) (fun _ _ _ h => h) (Or.inl ⟨by rfl, ?_⟩) ?_ ?_
    rotate_left
    ·
     intro w'
     go_simp
     with_reducible rfl
    rotate_left
    ·
     simp only [Act.put, List.setIfInBounds_toArray, List.set_cons_zero, List.set_cons_succ, i64_w, i32_w]
     rfl
    refine pure_ (i := 13) (N := some 41) (v := ?_) (a' := ?_) #[true, true, true, true, true, true, true, true, true, true, true, false, true, true, false, false, false, false, false, false, false, false, false] rfl rfl (any_of HT_.out (by kernel_rfl)) (fun _ _ _ h => h) (Or.inl ⟨by rfl, ?_⟩) ?_ ?_
    rotate_left
    ·
     intro w'
     go_simp
     with_reducible rfl
    rotate_left
    ·
     simp only [Act.put, List.setIfInBounds_toArray, List.set_cons_zero, List.set_cons_succ, i64_w, i32_w]
     rfl
    refine pure_ (i := 14) (N := some 42) (v := ?_) (a' := ?_) #[true, true, true, true, true, true, true, true, true, true, true, false, true, true, true, false, false, false, false, false, false, false, false] rfl rfl (any_of HT_.out (by kernel_rfl)) (fun _ _ _ h => h) (Or.inl ⟨by rfl, ?_⟩) ?_ ?_
    rotate_left
    ·
     intro w'
     go_simp
     with_reducible rfl
    rotate_left
    ·
     simp only [Act.put, List.setIfInBounds_toArray, List.set_cons_zero, List.set_cons_succ, i64_w, i32_w]
     rfl
    refine take_ (i := 11) (N := some 39) (v := ?_) (a' := ?_) #[true, true, true, true, true, true, true, true, true, true, true, true, true, true, true, false, false, false, false, false, false, false, false] rfl rfl (take_ofW HT_.out HW_.out (by kernel_rfl)) (fun _ _ _ h => h) (Or.inl ⟨by rfl, ?_⟩) hHeld ?_ ?_
    rotate_left
    ·
     rintro w' ⟨s0, s1, s2, s3, s4, s5⟩
     go_simp
     with_reducible rfl
    rotate_left
    ·
     simp only [Act.put, List.setIfInBounds_toArray, List.set_cons_zero, List.set_cons_succ, i64_w, i32_w]
     rfl
    refine take_ (i := 15) (N := some 43) (v := ?_) (a' := ?_) #[true, true, true, true, true, true, true, true, true, true, true, true, true, true, true, true, false, false, false, false, false, false, false] rfl rfl (take_ofW HT_.out HW_.out (by kernel_rfl)) (fun _ _ _ h => h) (Or.inl ⟨by rfl, ?_⟩) hHeld ?_ ?_
    rotate_left
    ·
     rintro w' ⟨s0, s1, s2, s3, s4, s5⟩
     go_simp
     with_reducible rfl
    rotate_left
    ·
     simp only [Act.put, List.setIfInBounds_toArray, List.set_cons_zero, List.set_cons_succ, i64_w, i32_w]
     rfl
    refine take_ (i := 17) (N := some 45) (v := ?_) (a' := ?_) #[true, true, true, true, true, true, true, true, true, true, true, true, true, true, true, true, false, true, false, false, false, false, false] rfl rfl (take_ofW HT_.out HW_.out (by kernel_rfl)) (fun _ _ _ h => h) (Or.inl ⟨by rfl, ?_⟩) hHeld ?_ ?_
    rotate_left
    ·
     rintro w' ⟨s0, s1, s2, s3, s4, s5⟩
     go_simp
     with_reducible rfl
    rotate_left
    ·
     simp only [Act.put, List.setIfInBounds_toArray, List.set_cons_zero, List.set_cons_succ, i64_w, i32_w]
     rfl
    refine take_ (i := 18) (N := some 46) (v := ?_) (a' := ?_) #[true, true, true, true, true, true, true, true, true, true, true, true, true, true, true, true, false, true, true, false, false, false, false] rfl rfl (take_ofW HT_.out HW_.out (by kernel_rfl)) (fun _ _ _ h => h) (Or.inl ⟨by rfl, ?_⟩) hHeld ?_ ?_
    rotate_left
    ·
     rintro w' ⟨s0, s1, s2, s3, s4, s5⟩
     go_simp
     with_reducible rfl
    rotate_left
    ·
     simp only [Act.put, List.setIfInBounds_toArray, List.set_cons_zero, List.set_cons_succ, i64_w, i32_w]
     rfl
    refine one_ (i := 16) (N := some 44) #[true, true, true, true, true, true, true, true, true, true, true, true, true, true, true, true, true, true, true, false, false, false, false] rfl rfl (one_of HT_.out (by kernel_rfl)) (by decide) (fun K hK => ?_)
    refine goes_ Try.func32 (by kernel_rfl) rfl #[.agg #[.int .i64 a1_0, .int .i64 a1_1], .agg #[.int .i64 ((rd_T23 l0 x6_1).f0), .int .i64 ((rd_T23 l0 x6_1).f1)]] (by rfl) rfl rfl (by (try simp only [List.map_toArray, List.map_cons, List.map_nil]); first | done | rfl | (simp only [List.length_drop, List.length_take]; rfl)) ?_
    with_reducible refine (dancestudioref03_square.calls a1_0 a1_1 ((rd_T23 l0 x6_1).f0) ((rd_T23 l0 x6_1).f1) t426 _ A25.out).mono ?_
    rintro e w28 ⟨rfl, hb⟩
    refine ⟨_, rfl, ?_⟩
    replace BK419 := mBb BK419 hb; replace BK420 := mBb BK420 hb; replace BK421 := mBb BK421 hb; replace HB := mSt HB hb
    (try clear hb)
    (try clear hb2)
    (try clear hk)
    (try clear hi)
    refine hK.out _ _ ⟨blk_cell BK421.out 0, blk_cell BK421.out 1, blk_cell BK419.out 0, blk_cell BK419.out 1, ((HB.out.cell (World.block_lt_of_cell? w _ hw425_0)).trans hw425_0), ((HB.out.cell (World.block_lt_of_cell? w _ hw425_1)).trans hw425_1)⟩ (fun hHeld => ?_)
    clear hK K
    refine norm_ (a' := ?_) ?_ ?_
    rotate_left
    ·
     show Act.put _ (some 44) _ = _
     simp only [Act.put, List.setIfInBounds_toArray, List.set_cons_zero, List.set_cons_succ, i64_w, i32_w]
     rfl
    refine one_ (i := 19) (N := some 47) #[true, true, true, true, true, true, true, true, true, true, true, true, true, true, true, true, true, true, true, true, false, false, false] rfl rfl (one_of HT_.out (by kernel_rfl)) (by decide) (fun K hK => ?_)
    refine goes_ Try.func32 (by kernel_rfl) rfl #[.agg #[.int .i64 a1_0, .int .i64 a1_1], .agg #[.int .i64 x422000_1, .int .i64 x422001_1]] (by rfl) rfl rfl (by (try simp only [List.map_toArray, List.map_cons, List.map_nil]); first | done | rfl | (simp only [List.length_drop, List.length_take]; rfl)) ?_
    with_reducible refine (dancestudioref03_square.calls a1_0 a1_1 x422000_1 x422001_1 t427 _ A26.out).mono ?_
    rintro e w29 ⟨rfl, hb⟩
    refine ⟨_, rfl, ?_⟩
    replace BK419 := mBb BK419 hb; replace BK420 := mBb BK420 hb; replace BK421 := mBb BK421 hb; replace HB := mSt HB hb
    (try clear hb)
    (try clear hb2)
    (try clear hk)
    (try clear hi)
    refine hK.out _ _ ⟨blk_cell BK421.out 0, blk_cell BK421.out 1, blk_cell BK419.out 0, blk_cell BK419.out 1, ((HB.out.cell (World.block_lt_of_cell? w _ hw425_0)).trans hw425_0), ((HB.out.cell (World.block_lt_of_cell? w _ hw425_1)).trans hw425_1)⟩ (fun hHeld => ?_)
    clear hK K
    refine norm_ (a' := ?_) ?_ ?_
    rotate_left
    ·
     show Act.put _ (some 47) _ = _
     simp only [Act.put, List.setIfInBounds_toArray, List.set_cons_zero, List.set_cons_succ, i64_w, i32_w]
     rfl
    refine pure_ (i := 20) (N := some 48) (v := ?_) (a' := ?_) #[true, true, true, true, true, true, true, true, true, true, true, true, true, true, true, true, true, true, true, true, true, false, false] rfl rfl (any_of HT_.out (by kernel_rfl)) (fun _ _ _ h => h) (Or.inl ⟨by rfl, ?_⟩) ?_ ?_
    rotate_left
    ·
     intro w'
     go_simp
     with_reducible rfl
    rotate_left
    ·
     simp only [Act.put, List.setIfInBounds_toArray, List.set_cons_zero, List.set_cons_succ, i64_w, i32_w]
     rfl
    refine pure_ (i := 21) (N := some 49) (v := ?_) (a' := ?_) #[true, true, true, true, true, true, true, true, true, true, true, true, true, true, true, true, true, true, true, true, true, true, false] rfl rfl (any_of HT_.out (by kernel_rfl)) (fun _ _ _ h => h) (Or.inl ⟨by rfl, ?_⟩) ?_ ?_
    rotate_left
    ·
     intro w'
     go_simp
     with_reducible rfl
    rotate_left
    ·
     simp only [Act.put, List.setIfInBounds_toArray, List.set_cons_zero, List.set_cons_succ, i64_w, i32_w]
     rfl
    refine pure_ (i := 22) (N := some 50) (v := ?_) (a' := ?_) #[true, true, true, true, true, true, true, true, true, true, true, true, true, true, true, true, true, true, true, true, true, true, true] rfl rfl (any_of HT_.out (by kernel_rfl)) (fun _ _ _ h => h) (Or.inl ⟨by rfl, ?_⟩) ?_ ?_
    rotate_left
    ·
     intro w'
     go_simp
     with_reducible rfl
    rotate_left
    ·
     simp only [Act.put, List.setIfInBounds_toArray, List.set_cons_zero, List.set_cons_succ, i64_w, i32_w]
     rfl
    refine done_ (done_of HT_.out (by kernel_rfl)) ?_
    try go_wp2
    go_meet
    case rel => exact ⟨_, (decide (t426 > t427)), (by first | rfl | (simp; done) | (simp [*]; done)), H', ⟨by have := HK1.out; first | omega | exact Nat.le_refl _⟩, ⟨BK419.out⟩, ⟨BK420.out⟩, ⟨BK421.out⟩, ⟨HB.out⟩⟩
   case rest =>
    clear HC16; try clear c2; try clear p2; try clear c3; try clear p4; try clear q4; try clear hx4; try clear c22; try clear c22b0; try clear c24; try clear c24b0; try clear c24b1; try clear hx425_0; try clear hx425_1; try clear p425; try clear q425
    obtain ⟨kq, x50_15, rfl, HA, HJ15, BK419, BK420, BK421, HB⟩ := hcut
    cases kq with
    | zero => exact absurd HA.out (by simp [dancestudioref03_next.j1])
    | succ kj15 =>
     have H := HA.out
     clear HA
     simp only [dancestudioref03_next.j1] at H
     by_cases c31 : x50_15 = true
     rotate_left
     ·
      replace c31 := Bool.eq_false_iff.mpr c31
      subst c31
      rw [if_neg (show ¬ (false = true) by decide)] at H
      have H' := Aside0.mk H
      clear H
      go_wp2
      go_roundg kj15
      case measure => have := HK1.out; have := HJ15.out; omega
      case rel => exact ⟨(wrap64 (x6_1 + 1)), (x422000_1), (x422001_1), (by first | rfl | (simp; done) | (simp [*]; done)), H', ⟨by have := HK1.out; have := HJ15.out; omega⟩, ⟨BK419.out⟩, ⟨BK420.out⟩, ⟨BK421.out⟩, ⟨HB.out⟩⟩
     subst c31
     rw [if_pos rfl] at H
     by_cases c32 : 0 ≤ x6_1
     rotate_left
     ·
      rw [if_neg c32] at H
      exact absurd H (by simp)
     rw [if_pos c32] at H
     have c32b0 : decide (0 ≤ x6_1) = true := decide_eq_true c32
     clear c32
     by_cases c33 : x6_1 < (l0.length : Int)
     rotate_left
     ·
      rw [if_neg c33] at H
      exact absurd H (by simp)
     rw [if_pos c33] at H
     have c33b0 : decide (x6_1 < (l0.length : Int)) = true := decide_eq_true c33
     clear c33
     have H' := Aside0.mk H
     clear H
     have p428 : 0 ≤ (x6_1 : Int) := of_decide_eq_true (by first | (with_reducible assumption) | assumption)
     have q428 : x6_1 < (l0.length : Int) := of_decide_eq_true (by first | (with_reducible assumption) | assumption)
     obtain ⟨ad428, e428, hx428_0, hx428_1⟩ := at_T23 HR0.out x6_1 p428 q428
     obtain rfl : ad422 = ad428 := (by injection e428)
     replace hx428_0 := (HB.out.cell (World.block_lt_of_cell? w _ hx428_0)).trans hx428_0
     replace hx428_1 := (HB.out.cell (World.block_lt_of_cell? w _ hx428_1)).trans hx428_1
     replace p428 := eq_true p428
     replace q428 := eq_true q428
     have hnb34 := NB421_419.out
     have hnc34 := NB419_421.out
     have hnb35 := NB421_420.out
     have hnc35 := NB420_421.out
     have hcz36 := blk_cell BK421.out; have hfz36 := blk_frozen BK421.out
     go_wp2
     go_roundg kj15
     case measure => have := HK1.out; have := HJ15.out; omega
     case rel => exact ⟨(wrap64 (x6_1 + 1)), ((rd_T23 l0 x6_1).f0), ((rd_T23 l0 x6_1).f1), (by first | rfl | (simp; done) | (simp [*]; done)), H', ⟨by have := HK1.out; have := HJ15.out; omega⟩, ⟨by (with_reducible repeat (first | refine blk_drewN ?_ _ | refine blk_drew ?_ | refine blk_alloc ?_ _)); refine blk_far ?_ NB419_421.out _; (with_reducible repeat (first | refine blk_drewN ?_ _ | refine blk_drew ?_ | refine blk_alloc ?_ _)); refine blk_far ?_ NB419_421.out _; (with_reducible repeat (first | refine blk_drewN ?_ _ | refine blk_drew ?_ | refine blk_alloc ?_ _)); exact BK419.out⟩, ⟨by (with_reducible repeat (first | refine blk_drewN ?_ _ | refine blk_drew ?_ | refine blk_alloc ?_ _)); refine blk_far ?_ NB420_421.out _; (with_reducible repeat (first | refine blk_drewN ?_ _ | refine blk_drew ?_ | refine blk_alloc ?_ _)); refine blk_far ?_ NB420_421.out _; (with_reducible repeat (first | refine blk_drewN ?_ _ | refine blk_drew ?_ | refine blk_alloc ?_ _)); exact BK420.out⟩, ⟨by (with_reducible repeat (first | refine blk_drewN ?_ _ | refine blk_drew ?_ | refine blk_alloc ?_ _)); refine blk_put (cs := #[.int .i64 ((rd_T23 l0 x6_1).f0), .int .i64 x422001_1]) ?_ 1 _ rfl; (with_reducible repeat (first | refine blk_drewN ?_ _ | refine blk_drew ?_ | refine blk_alloc ?_ _)); refine blk_put (cs := #[.int .i64 x422000_1, .int .i64 x422001_1]) ?_ 0 _ rfl; (with_reducible repeat (first | refine blk_drewN ?_ _ | refine blk_drew ?_ | refine blk_alloc ?_ _)); exact BK421.out⟩, ⟨by repeat (first | (with_reducible first | exact HB.out | apply below_alloc | apply pw_below_drewN | apply below_drew1 | refine below_set ?_ GE419.out | refine below_set ?_ GE420.out | refine below_set ?_ GE421.out) | exact HB.out)⟩⟩
end Go.Proofs.Ytmilejcbkpkplaa.PAll
-- Written by wip/tools/handprint.py: walks of the functions that the law reaches; Lean checks them.
namespace Go.Proofs.Ytmilejcbkpkplaa.PAll
open Go.RowKit Go.Proofs.YtmilejcbkpkplaaW.PrintWords Go.Proofs.YtmilejcbkpkplaaW.PrintLast Go.Proofs.YtmilejcbkpkplaaW.PrintMore
attribute [local go_sem] max2_int min2_int max_two min_two max_three min_three max_four min_four   -- for this text's walks alone
set_option linter.unusedVariables false
set_option linter.unusedSimpArgs false
attribute [local go_sem high] eqA23

/-! ### dancestudioref03_Hull: function 21 -/
mutual
def dancestudioref03_Hull.l0 : Nat → List (S23) → Int → Option ((List (S23)) × Int)
 | 0, _, _ => none
 | k + 1, x0, x4 => if x4 < (x0.length : Int) then (if 0 ≤ x4 then ((dancestudioref03_Valid.f ((rd_T23 x0 x4).f0) ((rd_T23 x0 x4).f1)).bind fun t335 => (if t335 = true then (dancestudioref03_Hull.l0 k x0 (wrap64 (x4 + 1))) else (some (([] : List (S23)), 1)))) else (none)) else (if (x0.length : Int) = 0 then (some (([] : List (S23)), 0)) else (if 0 < (x0.length : Int) then (dancestudioref03_Hull.l1 k x0 0 ((rd_T23 x0 0).f0) ((rd_T23 x0 0).f1)) else (none)))
def dancestudioref03_Hull.l1 : Nat → List (S23) → Int → Int → Int → Option ((List (S23)) × Int)
 | 0, _, _, _, _ => none
 | k + 1, x0, x6, x338000, x338001 => if x6 < (x0.length : Int) then (if 0 ≤ x6 then ((dancestudioref03_before.f ((rd_T23 x0 x6).f0) ((rd_T23 x0 x6).f1) x338000 x338001).bind fun t339 => (if t339 = true then (dancestudioref03_Hull.l1 k x0 (wrap64 (x6 + 1)) ((rd_T23 x0 x6).f0) ((rd_T23 x0 x6).f1)) else (dancestudioref03_Hull.l1 k x0 (wrap64 (x6 + 1)) x338000 x338001))) else (none)) else ((dancestudioref03_next.f k x0 x338000 x338001).bind fun bt344 => (dancestudioref03_Hull.l2 k x0 (([(⟨x338000, x338001⟩ : S23)] : List (S23))) x338000 x338001 bt344.1 bt344.2))
def dancestudioref03_Hull.l2 : Nat → List (S23) → List (S23) → Int → Int → Int → Int → Option ((List (S23)) × Int)
 | 0, _, _, _, _, _, _ => none
 | k + 1, x0, x7, x338000, x338001, x347000, x347001 => if (!(x347000 == x338000) || (!(x347001 == x338001))) = true then (if x7.length < 8796093022208 then ((dancestudioref03_next.f k x0 x347000 x347001).bind fun bt350 => (dancestudioref03_Hull.l2 k x0 (x7 ++ [(⟨x347000, x347001⟩ : S23)]) x338000 x338001 bt350.1 bt350.2)) else (none)) else (some (x7, 0))
end
def dancestudioref03_Hull.f (k : Nat) (l0 : List (S23)) : Option ((List (S23)) × Int) := if (l0.length : Int) > 16 then (some (([] : List (S23)), 3)) else (dancestudioref03_Hull.l0 k l0 0)
theorem dancestudioref03_Hull.mono_l : ∀ k, (∀ y0 y1, LeO (dancestudioref03_Hull.l0 k y0 y1) (dancestudioref03_Hull.l0 (k + 1) y0 y1)) ∧ (∀ y0 y1 y2 y3, LeO (dancestudioref03_Hull.l1 k y0 y1 y2 y3) (dancestudioref03_Hull.l1 (k + 1) y0 y1 y2 y3)) ∧ (∀ y0 y1 y2 y3 y4 y5, LeO (dancestudioref03_Hull.l2 k y0 y1 y2 y3 y4 y5) (dancestudioref03_Hull.l2 (k + 1) y0 y1 y2 y3 y4 y5))
 | 0 => ⟨fun _ _ r h => by simp [dancestudioref03_Hull.l0] at h, fun _ _ _ _ r h => by simp [dancestudioref03_Hull.l1] at h, fun _ _ _ _ _ _ r h => by simp [dancestudioref03_Hull.l2] at h⟩
 | k + 1 => by
  obtain ⟨ih0, ih1, ih2⟩ := dancestudioref03_Hull.mono_l k
  refine ⟨?_, ?_, ?_⟩
  ·
   intro y0 y1
   unfold dancestudioref03_Hull.l0
   repeat' first
   | (with_reducible exact ih0 _ _)
   | (with_reducible exact ih1 _ _ _ _)
   | (with_reducible exact ih2 _ _ _ _ _ _)
   | (with_reducible exact dancestudioref03_next.mono _ _ _ _)
   | (with_reducible exact LeO.refl _)
   | (with_reducible exact LeO.none _)
   | (with_reducible refine LeO.ite ?_ ?_)
   | (with_reducible refine LeO.bind ?_ (fun _ => ?_))
   | exact ih0 _ _
   | exact ih1 _ _ _ _
   | exact ih2 _ _ _ _ _ _
   | exact dancestudioref03_next.mono _ _ _ _
   | exact LeO.none _
   | refine LeO.ite ?_ ?_
   | refine LeO.bind ?_ (fun _ => ?_)
  ·
   intro y0 y1 y2 y3
   unfold dancestudioref03_Hull.l1
   repeat' first
   | (with_reducible exact ih0 _ _)
   | (with_reducible exact ih1 _ _ _ _)
   | (with_reducible exact ih2 _ _ _ _ _ _)
   | (with_reducible exact dancestudioref03_next.mono _ _ _ _)
   | (with_reducible exact LeO.refl _)
   | (with_reducible exact LeO.none _)
   | (with_reducible refine LeO.ite ?_ ?_)
   | (with_reducible refine LeO.bind ?_ (fun _ => ?_))
   | exact ih0 _ _
   | exact ih1 _ _ _ _
   | exact ih2 _ _ _ _ _ _
   | exact dancestudioref03_next.mono _ _ _ _
   | exact LeO.none _
   | refine LeO.ite ?_ ?_
   | refine LeO.bind ?_ (fun _ => ?_)
  ·
   intro y0 y1 y2 y3 y4 y5
   unfold dancestudioref03_Hull.l2
   repeat' first
   | (with_reducible exact ih0 _ _)
   | (with_reducible exact ih1 _ _ _ _)
   | (with_reducible exact ih2 _ _ _ _ _ _)
   | (with_reducible exact dancestudioref03_next.mono _ _ _ _)
   | (with_reducible exact LeO.refl _)
   | (with_reducible exact LeO.none _)
   | (with_reducible refine LeO.ite ?_ ?_)
   | (with_reducible refine LeO.bind ?_ (fun _ => ?_))
   | exact ih0 _ _
   | exact ih1 _ _ _ _
   | exact ih2 _ _ _ _ _ _
   | exact dancestudioref03_next.mono _ _ _ _
   | exact LeO.none _
   | refine LeO.ite ?_ ?_
   | refine LeO.bind ?_ (fun _ => ?_)
theorem dancestudioref03_Hull.mono : ∀ a0 k, LeO (dancestudioref03_Hull.f k a0) (dancestudioref03_Hull.f (k + 1) a0) := by
 intro a0 k
 obtain ⟨ih0, ih1, ih2⟩ := dancestudioref03_Hull.mono_l k
 unfold dancestudioref03_Hull.f
 repeat' first
   | (with_reducible exact ih0 _ _)
   | (with_reducible exact ih1 _ _ _ _)
   | (with_reducible exact ih2 _ _ _ _ _ _)
   | (with_reducible exact dancestudioref03_next.mono _ _ _ _)
   | (with_reducible exact LeO.refl _)
   | (with_reducible exact LeO.none _)
   | (with_reducible refine LeO.ite ?_ ?_)
   | (with_reducible refine LeO.bind ?_ (fun _ => ?_))
   | exact ih0 _ _
   | exact ih1 _ _ _ _
   | exact ih2 _ _ _ _ _ _
   | exact dancestudioref03_next.mono _ _ _ _
   | exact LeO.none _
   | refine LeO.ite ?_ ?_
   | refine LeO.bind ?_ (fun _ => ?_)
set_option maxHeartbeats 8000000 in
set_option maxRecDepth 100000 in
theorem dancestudioref03_Hull.calls (k : Nat) (A0 : Option Addr) (c0 : Nat) (l0 : List (S23)) (r1 : List (S23)) (r2 : Int) (w : World) (hr0 : Kd.C k23 w A0 l0.length l0) (hc0 : l0.length ≤ c0) (h : dancestudioref03_Hull.f k l0 = some (r1, r2)) :
  Calls Try.prog 21 #[.slice A0 l0.length c0] w fun e w' => ∃ v0_ : Value, e = .returned (.tuple #[v0_, .int .i64 r2]) ∧ Kd.R k23 23 w' w.heap.size (fun _ => True) v0_ r1 ∧ Below w.heap.size w w' := by
 have hu23 := Try.underlying23
 have HR0 := Aside0.mk hr0
 have HC0 := Aside0.mk hc0
 clear hr0 hc0
 have HB := Aside0.mk (Below.refl w.heap.size w)
 have H : (if (l0.length : Int) > 16 then (some (([] : List (S23)), 3)) else (dancestudioref03_Hull.l0 k l0 0)) = some (r1, r2) := h
 clear h
 by_cases c2 : (l0.length : Int) > 16
 ·
  rw [if_pos c2] at H
  have c2b0 : decide (16 < (l0.length : Int)) = true := decide_eq_true c2
  have c2b1 : decide (16 < l0.length) = true := decide_eq_true (by omega)
  clear c2
  simp only [Option.some.injEq, Prod.mk.injEq] at H
  obtain ⟨rfl, rfl⟩ := H
  go_enter Try.func21, Try.ntmps21
  go_wp2
  go_ret2
  exact ⟨_, by first | rfl | (simp [errW_none, errW_some] <;> rfl) | (simp [*, errW_none, errW_some] <;> rfl), by first | exact Kd.R_nil _ _ _ _ _ | exact Kd.N_nil _ _ _ _ _ | exact Kd.V_nil _ _ _ _ _ | exact Kd.Q_nil _ _ _ _ _ | exact Kd.S_nil _ _ _ _ _, HB.out⟩
 rw [if_neg c2] at H
 have c2b0 : decide (16 < (l0.length : Int)) = false := decide_eq_false c2
 have c2b1 : decide (16 < l0.length) = false := decide_eq_false (by omega)
 clear c2
 have H' := Aside0.mk H
 clear H
 go_enter Try.func21, Try.ntmps21
 go_wp2
 go_loopg [4] k (fun kq v4 w' => ∃ (x4_1 : Int), v4 = .int .i64 x4_1 ∧ Aside0 (dancestudioref03_Hull.l0 kq l0 x4_1 = some (r1, r2)) ∧ Aside0 (kq ≤ k) ∧ Aside0 (Below w.heap.size w w'))
 case atStart => exact ⟨(0), (by first | rfl | (simp; done) | (simp [*]; done)), H', ⟨Nat.le_refl _⟩, ⟨HB.out⟩⟩
 case round =>
  clear H'
  try clear c2; try clear c2b0; try clear c2b1; try clear p2
  obtain ⟨x4_1, rfl, HA, HK1, HB⟩ := hrel
  cases gk with
  | zero => exact absurd HA.out (by simp [dancestudioref03_Hull.l0])
  | succ k1 =>
   have H := HA.out
   clear HA
   simp only [dancestudioref03_Hull.l0] at H
   by_cases c3 : x4_1 < (l0.length : Int)
   ·
    rw [if_pos c3] at H
    have c3b0 : decide (x4_1 < (l0.length : Int)) = true := decide_eq_true c3
    clear c3
    by_cases c4 : 0 ≤ x4_1
    rotate_left
    ·
     rw [if_neg c4] at H
     exact absurd H (by simp)
    rw [if_pos c4] at H
    have c4b0 : decide (0 ≤ x4_1) = true := decide_eq_true c4
    clear c4
    replace H := Option.bind_eq_some_iff.mp H
    obtain ⟨t335, A50, H⟩ := H
    try dsimp only at H
    have A5 := Aside0.mk A50
    clear A50
    by_cases c6 : t335 = true
    rotate_left
    ·
     replace c6 := Bool.eq_false_iff.mpr c6
     subst c6
     rw [if_neg (show ¬ (false = true) by decide)] at H
     simp only [Option.some.injEq, Prod.mk.injEq] at H
     obtain ⟨rfl, rfl⟩ := H
     have p334 : 0 ≤ (x4_1 : Int) := of_decide_eq_true (by first | (with_reducible assumption) | assumption)
     have q334 : x4_1 < (l0.length : Int) := of_decide_eq_true (by first | (with_reducible assumption) | assumption)
     obtain ⟨ad334, e334, hx334_0, hx334_1⟩ := at_T23 HR0.out x4_1 p334 q334
     cases e334
     replace hx334_0 := (HB.out.cell (World.block_lt_of_cell? w _ hx334_0)).trans hx334_0
     replace hx334_1 := (HB.out.cell (World.block_lt_of_cell? w _ hx334_1)).trans hx334_1
     replace p334 := eq_true p334
     replace q334 := eq_true q334
     go_wp2_with (first | ((with_reducible refine gate_callee (f := 31) rfl ?_); refine goesL_ (some 22) rfl rfl Try.func31 (by kernel_rfl) rfl #[.agg #[.int .i64 ((rd_T23 l0 x4_1).f0), .int .i64 ((rd_T23 l0 x4_1).f1)]] rfl (by (try simp only [List.map_toArray, List.map_cons, List.map_nil]); first | done | rfl | (simp only [List.length_drop, List.length_take]; rfl)) ?_; (with_reducible refine (dancestudioref03_Valid.calls ((rd_T23 l0 x4_1).f0) ((rd_T23 l0 x4_1).f1) false _ A5.out).mono ?_); rintro e w8 ⟨rfl, hb⟩; refine ⟨_, rfl, ?_⟩; replace HB := mSt HB hb; (try clear hb)))
     go_ret2
     exact ⟨_, by first | rfl | (simp [errW_none, errW_some] <;> rfl) | (simp [*, errW_none, errW_some] <;> rfl), by first | exact Kd.R_nil _ _ _ _ _ | exact Kd.N_nil _ _ _ _ _ | exact Kd.V_nil _ _ _ _ _ | exact Kd.Q_nil _ _ _ _ _ | exact Kd.S_nil _ _ _ _ _, HB.out⟩
    subst c6
    rw [if_pos rfl] at H
    have H' := Aside0.mk H
    clear H
    have p334 : 0 ≤ (x4_1 : Int) := of_decide_eq_true (by first | (with_reducible assumption) | assumption)
    have q334 : x4_1 < (l0.length : Int) := of_decide_eq_true (by first | (with_reducible assumption) | assumption)
    obtain ⟨ad334, e334, hx334_0, hx334_1⟩ := at_T23 HR0.out x4_1 p334 q334
    cases e334
    replace hx334_0 := (HB.out.cell (World.block_lt_of_cell? w _ hx334_0)).trans hx334_0
    replace hx334_1 := (HB.out.cell (World.block_lt_of_cell? w _ hx334_1)).trans hx334_1
    replace p334 := eq_true p334
    replace q334 := eq_true q334
    go_wp2_with (first | ((with_reducible refine gate_callee (f := 31) rfl ?_); refine goesL_ (some 22) rfl rfl Try.func31 (by kernel_rfl) rfl #[.agg #[.int .i64 ((rd_T23 l0 x4_1).f0), .int .i64 ((rd_T23 l0 x4_1).f1)]] rfl (by (try simp only [List.map_toArray, List.map_cons, List.map_nil]); first | done | rfl | (simp only [List.length_drop, List.length_take]; rfl)) ?_; (with_reducible refine (dancestudioref03_Valid.calls ((rd_T23 l0 x4_1).f0) ((rd_T23 l0 x4_1).f1) true _ A5.out).mono ?_); rintro e w7 ⟨rfl, hb⟩; refine ⟨_, rfl, ?_⟩; replace HB := mSt HB hb; (try clear hb)))
    go_roundg k1
    case measure => have := HK1.out; omega
    case rel => exact ⟨(wrap64 (x4_1 + 1)), (by first | rfl | (simp; done) | (simp [*]; done)), H', ⟨by have := HK1.out; omega⟩, ⟨HB.out⟩⟩
   rw [if_neg c3] at H
   have c3b0 : decide (x4_1 < (l0.length : Int)) = false := decide_eq_false c3
   clear c3
   by_cases c9 : (l0.length : Int) = 0
   ·
    rw [if_pos c9] at H
    have c9b0 : ((l0.length : Int) == 0) = true := beq_iff_eq.mpr c9
    have c9b1 : ((l0.length : Int) != 0) = false := bne_eq_false_iff_eq.mpr c9
    clear c9
    simp only [Option.some.injEq, Prod.mk.injEq] at H
    obtain ⟨rfl, rfl⟩ := H
    go_wp2
    go_ret2
    exact ⟨_, by first | rfl | (simp [errW_none, errW_some] <;> rfl) | (simp [*, errW_none, errW_some] <;> rfl), by first | exact Kd.R_nil _ _ _ _ _ | exact Kd.N_nil _ _ _ _ _ | exact Kd.V_nil _ _ _ _ _ | exact Kd.Q_nil _ _ _ _ _ | exact Kd.S_nil _ _ _ _ _, HB.out⟩
   rw [if_neg c9] at H
   have c9b0 : ((l0.length : Int) == 0) = false := beq_eq_false_iff_ne.mpr c9
   have c9b1 : ((l0.length : Int) != 0) = true := bne_iff_ne.mpr c9
   have c9b2 : ¬ (l0 = []) := fun h_ => c9 (by rw [h_]; rfl)
   by_cases c10 : 0 < (l0.length : Int)
   rotate_left
   ·
    rw [if_neg c10] at H
    exact absurd H (by simp)
   rw [if_pos c10] at H
   have c10b0 : decide (0 < (l0.length : Int)) = true := decide_eq_true c10
   have c10b1 : decide (0 < l0.length) = true := decide_eq_true (by omega)
   clear c10
   have H' := Aside0.mk H
   clear H
   have p336 : 0 ≤ (0 : Int) := (by omega)
   have q336 : 0 < (l0.length : Int) := of_decide_eq_true (by first | (with_reducible assumption) | assumption)
   obtain ⟨ad336, e336, hx336_0, hx336_1⟩ := at_T23 HR0.out 0 p336 q336
   cases e336
   have qi336 : (0 < l0.length) = True := eq_true (by omega)
   (try rw [show ((0 : Int)).toNat = 0 from rfl] at hx336_0)
   (try rw [show 0 * 2 = 0 from rfl] at hx336_0)
   (try rw [Addr.add_zero'] at hx336_0)
   (try rw [show ((0 : Int)).toNat = 0 from rfl] at hx336_1)
   (try rw [show 0 * 2 = 0 from rfl] at hx336_1)
   (try rw [Addr.add_zero'] at hx336_1)
   replace hx336_0 := (HB.out.cell (World.block_lt_of_cell? w _ hx336_0)).trans hx336_0
   replace hx336_1 := (HB.out.cell (World.block_lt_of_cell? w _ hx336_1)).trans hx336_1
   replace p336 := eq_true p336
   replace q336 := eq_true q336
   go_wp2_with (first | ((with_reducible refine gate_dst (N := 5) rfl ?_); refine box_event ?hg (N := 5) ?hd (cs := #[.int .i64 0, .int .i64 0]) (t := 23) ?hr ?_; (case hd => rfl); (case hg => rfl); (case hr => first | (go_simp; done) | (go_simp; rfl)); intro gb337 hg w11 hbox hb; have BK337 := Aside0.mk hbox; have GW337 := mGw HB hg; have GE337 := GW337; replace HB := mSt HB hb; clear hb hbox hg; have hcz12 := blk_cell BK337.out; have hfz12 := blk_frozen BK337.out))
   go_loopg [6] k1 (fun kq v6 w' => ∃ (x6_2 : Int) (x338000_2 : Int) (x338001_2 : Int), v6 = .int .i64 x6_2 ∧ Aside0 (dancestudioref03_Hull.l1 kq l0 x6_2 x338000_2 x338001_2 = some (r1, r2)) ∧ Aside0 (kq ≤ k1) ∧ Aside0 (w'.heap[gb337]? = some (.cells #[.int .i64 x338000_2, .int .i64 x338001_2] 23 (0, 0))) ∧ Aside0 (Below w.heap.size w w'))
   case atStart => exact ⟨(0), ((rd_T23 l0 0).f0), ((rd_T23 l0 0).f1), (by first | rfl | (simp; done) | (simp [*]; done)), H', ⟨Nat.le_refl _⟩, ⟨by (with_reducible repeat (first | refine blk_drewN ?_ _ | refine blk_drew ?_ | refine blk_alloc ?_ _)); refine blk_put (cs := #[.int .i64 ((rd_T23 l0 0).f0), .int .i64 0]) ?_ 1 _ rfl; (with_reducible repeat (first | refine blk_drewN ?_ _ | refine blk_drew ?_ | refine blk_alloc ?_ _)); refine blk_put (cs := #[.int .i64 0, .int .i64 0]) ?_ 0 _ rfl; (with_reducible repeat (first | refine blk_drewN ?_ _ | refine blk_drew ?_ | refine blk_alloc ?_ _)); exact BK337.out⟩, ⟨by repeat (first | (with_reducible first | exact HB.out | apply below_alloc | apply pw_below_drewN | apply below_drew1 | refine below_set ?_ GE337.out) | exact HB.out)⟩⟩
   case round =>
    clear H'
    try clear c1; try clear c2; try clear c2b0; try clear c2b1; try clear p2; try clear c3; try clear c3b0; try clear p3; try clear q3; try clear hx3; try clear qi3; try clear c4; try clear c4b0; try clear c6; try clear p6; try clear c9; try clear c9b0; try clear c9b1; try clear c9b2; try clear c10; try clear c10b0; try clear c10b1; try clear hcz12_0; try clear hcz12_1; try clear hfz12_0; try clear hfz12_1; try clear hx334_0; try clear hx334_1; try clear hx336_0; try clear hx336_1; try clear p334; try clear p336; try clear q334; try clear q336
    obtain ⟨x6_2, x338000_2, x338001_2, rfl, HA, HK2, BK337, HB⟩ := hrel
    cases gk with
    | zero => exact absurd HA.out (by simp [dancestudioref03_Hull.l1])
    | succ k2 =>
     have H := HA.out
     clear HA
     simp only [dancestudioref03_Hull.l1] at H
     by_cases c13 : x6_2 < (l0.length : Int)
     rotate_left
     ·
      rw [if_neg c13] at H
      have c13b0 : decide (x6_2 < (l0.length : Int)) = false := decide_eq_false c13
      clear c13
      obtain ⟨y341, hy341⟩ : ∃ y_ : List (S23), y_ = (([(⟨x338000_2, x338001_2⟩ : S23)] : List (S23))) := ⟨_, rfl⟩
      rw [← hy341] at H
      have Ny341 := Aside0.mk hy341
      clear hy341
      replace H := Option.bind_eq_some_iff.mp H
      obtain ⟨⟨t344, t345⟩, A220, H⟩ := H
      try dsimp only at H
      have A22 := Aside0.mk A220
      clear A220
      have H' := Aside0.mk H
      clear H
      have hcz23 := blk_cell BK337.out; have hfz23 := blk_frozen BK337.out
      go_wp2_with (first | ((with_reducible refine gate_dst (N := 47) rfl ?_); refine Kd.R_lit k23 _ 23 ?hg (N := 47) ?hd (xs := ([(⟨x338000_2, x338001_2⟩ : S23)] : List (S23))) (inner := [.int .i64 x338000_2, .int .i64 x338001_2]) (ok := fun _ => True) (okp := fun _ => True) ?hr ?hp (fun _ hk => hk) trivial (Below.refl _ _) (Nat.le_refl _) (by simp) ?_; (case hd => rfl); (case hg => rfl); (case hr => first | (go_simp; done) | (go_simp; rfl)); (case hp => exact (Reps.c2 (k23_mkM _ _ _ _) (Reps.none _ _))); intro v342 w24 ho25 hb hg_ hnew_; clear hg_ hnew_; (first | rw [← Ny341.out] at ho25 | (simp only [Int.reduceToNat] at ho25; rw [← Ny341.out] at ho25)); have HO343 := Aside0.mk (Kd.R_lower (Kd.R_newB ho25 (g := gb337) (o := .cells #[.int .i64 x338000_2, .int .i64 x338001_2] 23 (0, 0)) BK337.out) (below_size HB.out)); replace BK337 := mBb BK337 hb; replace HB := mSt HB hb; clear hb ho25; have hcz26 := blk_cell BK337.out; have hfz26 := blk_frozen BK337.out) | ((with_reducible refine gate_callee (f := 43) rfl ?_); refine goesL_ (some 50) rfl rfl Try.func43 (by kernel_rfl) rfl #[.slice (some ad336) l0.length c0, .agg #[.int .i64 x338000_2, .int .i64 x338001_2]] rfl (by (try simp only [List.map_toArray, List.map_cons, List.map_nil]); first | done | rfl | (simp only [List.length_drop, List.length_take]; rfl)) ?_; (with_reducible refine (dancestudioref03_next.calls k2 _ _ l0 x338000_2 x338001_2 t344 t345 _ ?side1 ?side2 A22.out).mono ?_); (case side1 => repeat (first | exact (Kd.C_below HR0.out HB.out) | (with_reducible refine Kd.C_alloc ?_ _) | (with_reducible refine Kd.C_drewN ?_ _) | (with_reducible refine Kd.C_drew ?_))); (case side2 => exact HC0.out); rintro e w27 ⟨rfl, hb⟩; refine ⟨_, rfl, ?_⟩; replace HO343 := Aside0.mk (Kd.R_below HO343.out hb); replace BK337 := mBb BK337 hb; replace HB := mSt HB hb; (try clear hb)) | ((with_reducible refine gate_dst (N := 8) rfl ?_); refine box_event ?hg (N := 8) ?hd (cs := #[.int .i64 0, .int .i64 0]) (t := 23) ?hr ?_; (case hd => rfl); (case hg => rfl); (case hr => first | (go_simp; done) | (go_simp; rfl)); intro gb346 hg w28 hbox hb; replace HO343 := Aside0.mk (Kd.R_below (Kd.R_elderB HO343.out gb346 (Nat.le_of_eq hg.symm)) hb); have BK346 := Aside0.mk hbox; have GW346 := mGw HB hg; have GE346 := GW346; replace HB := mSt HB hb; have NB337_346 := mNe BK337 hg; have NB346_337 := mSy NB337_346; replace BK337 := mBb BK337 hb; clear hb hbox hg; have hnb29 := NB346_337.out; have hnc29 := NB337_346.out; have hcz30 := blk_cell BK346.out; have hfz30 := blk_frozen BK346.out))
      go_loopg [7, 8] k2 (fun kq v7 v8 w' => ∃ (gb346 : Nat) (x7_3 : List (S23)) (x347000_3 : Int) (x347001_3 : Int), v8 = .pointer (some ⟨gb346, 0, none⟩) ∧ Aside0 (dancestudioref03_Hull.l2 kq l0 x7_3 x338000_2 x338001_2 x347000_3 x347001_3 = some (r1, r2)) ∧ Aside0 (kq ≤ k2) ∧ Aside0 (Kd.R k23 23 w' w.heap.size (fun k_ => k_ ≠ gb337 ∧ k_ ≠ gb346) v7 x7_3) ∧ Aside0 (w'.heap[gb337]? = some (.cells #[.int .i64 x338000_2, .int .i64 x338001_2] 23 (0, 0))) ∧ Aside0 (w'.heap[gb346]? = some (.cells #[.int .i64 x347000_3, .int .i64 x347001_3] 23 (0, 0))) ∧ Aside0 (Below w.heap.size w w') ∧ Aside0 (w.heap.size ≤ gb346) ∧ Aside0 (gb337 ≠ gb346) ∧ Aside0 (gb346 ≠ gb337))
      case atStart => exact ⟨gb346, (y341), (t344), (t345), rfl, H', ⟨Nat.le_refl _⟩, ⟨by (with_reducible repeat (first | apply Kd.R_alloc | apply Kd.R_drewN | apply Kd.R_drew)); exact Kd.R_mono (Kd.R_far (p := ⟨gb346, 1, none⟩) (Kd.R_far (p := ⟨gb346, 0, none⟩) (Kd.R_mono HO343.out (fun k_ hk => (⟨hk, hk.2⟩ : _ ∧ k_ ≠ gb346))) (fun _ hk => hk.2) (.int .i64 t344)) (fun _ hk => hk.2) (.int .i64 t345)) (fun _ hk => ⟨hk.1.1.2, hk.1.2⟩)⟩, ⟨by (with_reducible repeat (first | refine blk_drewN ?_ _ | refine blk_drew ?_ | refine blk_alloc ?_ _)); refine blk_far ?_ NB337_346.out _; (with_reducible repeat (first | refine blk_drewN ?_ _ | refine blk_drew ?_ | refine blk_alloc ?_ _)); refine blk_far ?_ NB337_346.out _; (with_reducible repeat (first | refine blk_drewN ?_ _ | refine blk_drew ?_ | refine blk_alloc ?_ _)); exact BK337.out⟩, ⟨by (with_reducible repeat (first | refine blk_drewN ?_ _ | refine blk_drew ?_ | refine blk_alloc ?_ _)); refine blk_put (cs := #[.int .i64 t344, .int .i64 0]) ?_ 1 _ rfl; (with_reducible repeat (first | refine blk_drewN ?_ _ | refine blk_drew ?_ | refine blk_alloc ?_ _)); refine blk_put (cs := #[.int .i64 0, .int .i64 0]) ?_ 0 _ rfl; (with_reducible repeat (first | refine blk_drewN ?_ _ | refine blk_drew ?_ | refine blk_alloc ?_ _)); exact BK346.out⟩, ⟨by repeat (first | (with_reducible first | exact HB.out | apply below_alloc | apply pw_below_drewN | apply below_drew1 | refine below_set ?_ GE337.out | refine below_set ?_ GE346.out) | exact HB.out)⟩, ⟨GE346.out⟩, ⟨NB337_346.out⟩, ⟨NB346_337.out⟩⟩
      case round =>
       clear H'
       try clear c1; try clear c2; try clear c2b0; try clear c2b1; try clear p2; try clear c3; try clear c3b0; try clear p3; try clear q3; try clear hx3; try clear qi3; try clear c4; try clear c4b0; try clear c6; try clear p6; try clear c9; try clear c9b0; try clear c9b1; try clear c9b2; try clear c10; try clear c10b0; try clear c10b1; try clear c13; try clear c13b0; try clear c14; try clear c14b0; try clear c16; try clear c21; try clear c29; try clear hcz12_0; try clear hcz12_1; try clear hcz19_0; try clear hcz19_1; try clear hcz23_0; try clear hcz23_1; try clear hcz26_0; try clear hcz26_1; try clear hcz30_0; try clear hcz30_1; try clear hfz12_0; try clear hfz12_1; try clear hfz19_0; try clear hfz19_1; try clear hfz23_0; try clear hfz23_1; try clear hfz26_0; try clear hfz26_1; try clear hfz30_0; try clear hfz30_1; try clear hx334_0; try clear hx334_1; try clear hx336_0; try clear hx336_1; try clear hx338_0; try clear hx338_1; try clear hx340_0; try clear hx340_1; try clear p334; try clear p336; try clear p338; try clear p340; try clear q334; try clear q336; try clear q338; try clear q340
       obtain ⟨gb346, x7_3, x347000_3, x347001_3, rfl, HA, HK3, HO_7, BK337, BK346, HB, GE346, NB337_346, NB346_337⟩ := hrel
       cases gk with
       | zero => exact absurd HA.out (by simp [dancestudioref03_Hull.l2])
       | succ k3 =>
        have H := HA.out
        clear HA
        simp only [dancestudioref03_Hull.l2] at H
        by_cases c31 : (!(x347000_3 == x338000_2) || (!(x347001_3 == x338001_2))) = true
        rotate_left
        ·
         rw [if_neg c31] at H
         have c31b0 : (!(x347000_3 == x338000_2) || (!(x347001_3 == x338001_2))) = false := by simpa using c31
         clear c31
         simp only [Option.some.injEq, Prod.mk.injEq] at H
         obtain ⟨rfl, rfl⟩ := H
         have hnb41 := NB346_337.out
         have hnc41 := NB337_346.out
         have hcz42 := blk_cell BK346.out; have hfz42 := blk_frozen BK346.out; have hcz43 := blk_cell BK337.out; have hfz43 := blk_frozen BK337.out
         go_wp2
         go_ret2
         exact ⟨_, by first | rfl | (simp [errW_none, errW_some] <;> rfl) | (simp [*, errW_none, errW_some] <;> rfl), by (with_reducible repeat (first | apply Kd.R_alloc | apply Kd.R_drewN | apply Kd.R_drew)); exact Kd.R_mono HO_7.out (fun _ hk => trivial), HB.out⟩
        rw [if_pos c31] at H
        have c31b0 : (!(x347000_3 == x338000_2) || (!(x347001_3 == x338001_2))) = true := c31
        clear c31
        by_cases c32 : x7_3.length < 8796093022208
        rotate_left
        ·
         rw [if_neg c32] at H
         exact absurd H (by simp)
        rw [if_pos c32] at H
        have LMc32 := Aside0.mk c32
        clear c32
        obtain ⟨y347, hy347⟩ : ∃ y_ : List (S23), y_ = (x7_3 ++ [(⟨x347000_3, x347001_3⟩ : S23)]) := ⟨_, rfl⟩
        rw [← hy347] at H
        have Ny347 := Aside0.mk hy347
        clear hy347
        replace H := Option.bind_eq_some_iff.mp H
        obtain ⟨⟨t350, t351⟩, A330, H⟩ := H
        try dsimp only at H
        have A33 := Aside0.mk A330
        clear A330
        have H' := Aside0.mk H
        clear H
        have hnb34 := NB346_337.out
        have hnc34 := NB337_346.out
        have hcz35 := blk_cell BK346.out; have hfz35 := blk_frozen BK346.out; have hcz36 := blk_cell BK337.out; have hfz36 := blk_frozen BK337.out
        go_wp2_with (first | ((with_reducible refine gate_builtin (b := .append) (xs := #[.tmp 57, .tmp 59]) rfl ?_); at_builtin; refine Kd.R_append k23 (w0 := w) w.heap.size rfl (.tmp 57) (.tmp 59) 41 23 (.agg #[(.int .i64 0), (.int .i64 0)]) 16 rfl Try.underlying41 info23 rfl (by decide) (by omega) u7 x7_3 (⟨x347000_3, x347001_3⟩ : S23) [.int .i64 x347000_3, .int .i64 x347001_3] (fun k_ => k_ ≠ gb337 ∧ k_ ≠ gb346) (fun _ => False) rfl rfl ?aP (fun _ hk => hk.elim) ?aF ?aO ?aB ?aS ?aL ?_; (case aP => exact k23_mkM _ _ _ (⟨x347000_3, x347001_3⟩ : S23)); (case aB => exact HB.out); (case aF => exact (fun k_ hk => ⟨Kd.freshB (g := gb337) (o := .cells #[.int .i64 x338000_2, .int .i64 x338001_2] 23 (0, 0)) BK337.out k_ hk, Kd.freshB (g := gb346) (o := .cells #[.int .i64 x347000_3, .int .i64 x347001_3] 23 (0, 0)) BK346.out k_ hk⟩)); (case aO => exact HO_7.out); (case aS => exact (below_size HB.out)); (case aL => have := LMc32.out; omega); intro v348 w37 ho hb hg hat; rw [← Ny347.out] at ho; replace BK337 := Aside0.mk (blk_grown (g := gb337) (o := .cells #[.int .i64 x338000_2, .int .i64 x338001_2] 23 (0, 0)) BK337.out hg (Kd.R_away HO_7.out (fun _ hk => hk.1))); replace BK346 := Aside0.mk (blk_grown (g := gb346) (o := .cells #[.int .i64 x347000_3, .int .i64 x347001_3] 23 (0, 0)) BK346.out hg (Kd.R_away HO_7.out (fun _ hk => hk.2))); replace HB := Aside0.mk hb; have HO349 := Aside0.mk ho; clear HO_7; clear ho hb hg hat; have hcz38 := blk_cell BK346.out; have hfz38 := blk_frozen BK346.out) | ((with_reducible refine gate_callee (f := 43) rfl ?_); refine goesL_ (some 56) rfl rfl Try.func43 (by kernel_rfl) rfl #[.slice (some ad336) l0.length c0, .agg #[.int .i64 x347000_3, .int .i64 x347001_3]] rfl (by (try simp only [List.map_toArray, List.map_cons, List.map_nil]); first | done | rfl | (simp only [List.length_drop, List.length_take]; rfl)) ?_; obtain ⟨gbn, hgn⟩ : ∃ g_, g_ = w37.heap.size := ⟨_, rfl⟩; rw [← hgn]; have m0_ : Aside0 ((w37.alloc (.cells #[.int .i64 x347000_3, .int .i64 x347001_3] 23)).heap[gbn]? = some (.cells #[.int .i64 x347000_3, .int .i64 x347001_3] 23 (0, 0))) := ⟨by rw [hgn]; exact blk_new _ _⟩; have m1_ := Aside0.mk (blk_alloc BK337.out (.cells #[.int .i64 x347000_3, .int .i64 x347001_3] 23)); have m2_ := Aside0.mk (below_alloc HB.out (.cells #[.int .i64 x347000_3, .int .i64 x347001_3] 23)); have m3_ := Aside0.mk (Kd.R_alloc (Kd.R_mono (Kd.R_elderB HO349.out gbn (Nat.le_of_eq hgn.symm)) (fun _ hk => (⟨hk.1.1, hk.2⟩ : _ ∧ _))) (.cells #[.int .i64 x347000_3, .int .i64 x347001_3] 23)); have m4_ : Aside0 (w.heap.size ≤ gbn) := ⟨by rw [hgn]; exact below_size HB.out⟩; have m5_ : Aside0 (gb337 ≠ gbn) := ⟨by rw [hgn]; exact Nat.ne_of_lt (blk_lt BK337.out)⟩; have m6_ : Aside0 (gbn ≠ gb337) := ⟨m5_.out.symm⟩; clear BK337 BK346 HB HO349 GE346 NB337_346 NB346_337; generalize w37.alloc (.cells #[.int .i64 x347000_3, .int .i64 x347001_3] 23) = wn at m0_ m1_ m2_ m3_ ⊢; clear hgn; have BK337 := m1_; have HB := m2_; have HO349 := m3_; have BK346 := m0_; have GE346 := m4_; have NB337_346 := m5_; have NB346_337 := m6_; clear m0_ m1_ m2_ m3_ m4_ m5_ m6_; have hnbn := NB346_337.out; have hncn := NB337_346.out; (with_reducible refine (dancestudioref03_next.calls k3 _ _ l0 x347000_3 x347001_3 t350 t351 _ ?side1 ?side2 A33.out).mono ?_); (case side1 => repeat (first | exact (Kd.C_below HR0.out HB.out) | (with_reducible refine Kd.C_alloc ?_ _) | (with_reducible refine Kd.C_drewN ?_ _) | (with_reducible refine Kd.C_drew ?_))); (case side2 => exact HC0.out); rintro e w39 ⟨rfl, hb⟩; refine ⟨_, rfl, ?_⟩; replace HO349 := Aside0.mk (Kd.R_below HO349.out hb); replace BK337 := mBb BK337 hb; replace BK346 := mBb BK346 hb; replace HB := mSt HB hb; (try clear hb); have hcz40 := blk_cell BK346.out; have hfz40 := blk_frozen BK346.out))
        go_roundg k3
        case measure => have := HK1.out; have := HK2.out; have := HK3.out; omega
        case rel => exact ⟨gbn, (y347), (t350), (t351), rfl, H', ⟨by have := HK1.out; have := HK2.out; have := HK3.out; omega⟩, ⟨by (with_reducible repeat (first | apply Kd.R_alloc | apply Kd.R_drewN | apply Kd.R_drew)); exact Kd.R_mono (Kd.R_far (p := ⟨gbn, 1, none⟩) (Kd.R_far (p := ⟨gbn, 0, none⟩) (Kd.R_mono HO349.out (fun k_ hk => (⟨hk, hk.2⟩ : _ ∧ k_ ≠ gbn))) (fun _ hk => hk.2) (.int .i64 t350)) (fun _ hk => hk.2) (.int .i64 t351)) (fun _ hk => ⟨hk.1.1, hk.1.2⟩)⟩, ⟨by (with_reducible repeat (first | refine blk_drewN ?_ _ | refine blk_drew ?_ | refine blk_alloc ?_ _)); refine blk_far ?_ NB337_346.out _; (with_reducible repeat (first | refine blk_drewN ?_ _ | refine blk_drew ?_ | refine blk_alloc ?_ _)); refine blk_far ?_ NB337_346.out _; (with_reducible repeat (first | refine blk_drewN ?_ _ | refine blk_drew ?_ | refine blk_alloc ?_ _)); exact BK337.out⟩, ⟨by (with_reducible repeat (first | refine blk_drewN ?_ _ | refine blk_drew ?_ | refine blk_alloc ?_ _)); refine blk_put (cs := #[.int .i64 t350, .int .i64 x347001_3]) ?_ 1 _ rfl; (with_reducible repeat (first | refine blk_drewN ?_ _ | refine blk_drew ?_ | refine blk_alloc ?_ _)); refine blk_put (cs := #[.int .i64 x347000_3, .int .i64 x347001_3]) ?_ 0 _ rfl; (with_reducible repeat (first | refine blk_drewN ?_ _ | refine blk_drew ?_ | refine blk_alloc ?_ _)); exact BK346.out⟩, ⟨by repeat (first | (with_reducible first | exact HB.out | apply below_alloc | apply pw_below_drewN | apply below_drew1 | refine below_set ?_ GE337.out | refine below_set ?_ GE346.out) | exact HB.out)⟩, ⟨GE346.out⟩, ⟨NB337_346.out⟩, ⟨NB346_337.out⟩⟩
     rw [if_pos c13] at H
     have c13b0 : decide (x6_2 < (l0.length : Int)) = true := decide_eq_true c13
     clear c13
     by_cases c14 : 0 ≤ x6_2
     rotate_left
     ·
      rw [if_neg c14] at H
      exact absurd H (by simp)
     rw [if_pos c14] at H
     have c14b0 : decide (0 ≤ x6_2) = true := decide_eq_true c14
     clear c14
     replace H := Option.bind_eq_some_iff.mp H
     obtain ⟨t339, A150, H⟩ := H
     try dsimp only at H
     have A15 := Aside0.mk A150
     clear A150
     by_cases c16 : t339 = true
     rotate_left
     ·
      replace c16 := Bool.eq_false_iff.mpr c16
      subst c16
      rw [if_neg (show ¬ (false = true) by decide)] at H
      have H' := Aside0.mk H
      clear H
      try go_wp2
      replace BK337 := Aside0.mk (blk_drew BK337.out); replace HB := Aside0.mk (below_drew1 HB.out)
      have p338 : 0 ≤ (x6_2 : Int) := of_decide_eq_true (by first | (with_reducible assumption) | assumption)
      have q338 : x6_2 < (l0.length : Int) := of_decide_eq_true (by first | (with_reducible assumption) | assumption)
      obtain ⟨ad338, e338, hx338_0, hx338_1⟩ := at_T23 HR0.out x6_2 p338 q338
      have hw338_1 := hx338_1
      have hw338_0 := hx338_0
      obtain rfl : ad336 = ad338 := (by injection e338)
      replace hx338_0 := (HB.out.cell (World.block_lt_of_cell? w _ hx338_0)).trans hx338_0
      replace hx338_1 := (HB.out.cell (World.block_lt_of_cell? w _ hx338_1)).trans hx338_1
      replace p338 := eq_true p338
      replace q338 := eq_true q338
      refine start_ (n := 6) (S := fun w' => w'.cell? ⟨gb337, 0, none⟩ = some (.int .i64 x338000_2) ∧ w'.cell? ⟨gb337, 1, none⟩ = some (.int .i64 x338001_2) ∧ w'.cell? (ad336.add ((x6_2).toNat * 2)) = some (.int .i64 ((rd_T23 l0 x6_2).f0)) ∧ w'.cell? ⟨(ad336.add ((x6_2).toNat * 2)).block, (ad336.add ((x6_2).toNat * 2)).off + 1, none⟩ = some (.int .i64 ((rd_T23 l0 x6_2).f1))) (ds := []) #[false, false, false, false, false, false] (by kernel_rfl) rfl rfl ⟨(blk_cell BK337.out 0).trans rfl, (blk_cell BK337.out 1).trans rfl, ((HB.out.cell (World.block_lt_of_cell? w _ hw338_0)).trans hw338_0), ((HB.out.cell (World.block_lt_of_cell? w _ hw338_1)).trans hw338_1)⟩ (fun hHeld => ?_)
      generalize wr.drew = w20 at BK337 HB hx338_0 hx338_1 hHeld ⊢
      refine pure_ (i := 0) (N := some 36) (v := ?_) (a' := ?_) #[true, false, false, false, false, false] rfl rfl (by kernel_rfl) (fun _ _ _ h => h) (Or.inl ⟨by rfl, ?_⟩) ?_ ?_
      rotate_left
      ·
       intro w'
       go_simp
       with_reducible rfl
      rotate_left
      ·
       simp only [Act.put, List.setIfInBounds_toArray, List.set_cons_zero, List.set_cons_succ, i64_w, i32_w]
       rfl
      refine pure_ (i := 1) (N := some 37) (v := ?_) (a' := ?_) #[true, true, false, false, false, false] rfl rfl (by kernel_rfl) (fun _ _ _ h => h) (Or.inl ⟨by rfl, ?_⟩) ?_ ?_
      rotate_left
      ·
       intro w'
       go_simp
       with_reducible rfl
      rotate_left
      ·
       simp only [Act.put, List.setIfInBounds_toArray, List.set_cons_zero, List.set_cons_succ, i64_w, i32_w]
       rfl
      refine pure_ (i := 2) (N := some 38) (v := ?_) (a' := ?_) #[true, true, true, false, false, false] rfl rfl (by kernel_rfl) (fun _ _ _ h => h) (Or.inl ⟨by rfl, ?_⟩) ?_ ?_
      rotate_left
      ·
       intro w'
       go_simp
       with_reducible rfl
      rotate_left
      ·
       simp only [Act.put, List.setIfInBounds_toArray, List.set_cons_zero, List.set_cons_succ, i64_w, i32_w]
       rfl
      refine take_ (i := 3) (N := some 39) (v := ?_) (a' := ?_) #[true, true, true, true, false, false] rfl rfl (by kernel_rfl) (fun _ _ _ h => h) (Or.inl ⟨by rfl, ?_⟩) hHeld ?_ ?_
      rotate_left
      ·
       rintro w' ⟨s0, s1, s2, s3⟩
       go_simp
       with_reducible rfl
      rotate_left
      ·
       simp only [Act.put, List.setIfInBounds_toArray, List.set_cons_zero, List.set_cons_succ, i64_w, i32_w]
       rfl
      refine take_ (i := 4) (N := some 40) (v := ?_) (a' := ?_) #[true, true, true, true, true, false] rfl rfl (by kernel_rfl) (fun _ _ _ h => h) (Or.inl ⟨by rfl, ?_⟩) hHeld ?_ ?_
      rotate_left
      ·
       rintro w' ⟨s0, s1, s2, s3⟩
       go_simp
       with_reducible rfl
      rotate_left
      ·
       simp only [Act.put, List.setIfInBounds_toArray, List.set_cons_zero, List.set_cons_succ, i64_w, i32_w]
       rfl
      refine one_ (i := 5) (N := some 41) #[true, true, true, true, true, true] rfl rfl (by kernel_rfl) (by decide) (fun K hK => ?_)
      refine goes_ Try.func42 (by kernel_rfl) rfl #[.agg #[.int .i64 ((rd_T23 l0 x6_2).f0), .int .i64 ((rd_T23 l0 x6_2).f1)], .agg #[.int .i64 x338000_2, .int .i64 x338001_2]] (by rfl) rfl rfl (by (try simp only [List.map_toArray, List.map_cons, List.map_nil]); first | done | rfl | (simp only [List.length_drop, List.length_take]; rfl)) ?_
      with_reducible refine (dancestudioref03_before.calls ((rd_T23 l0 x6_2).f0) ((rd_T23 l0 x6_2).f1) x338000_2 x338001_2 false _ A15.out).mono ?_
      rintro e w21 ⟨rfl, hb⟩
      refine ⟨_, rfl, ?_⟩
      replace BK337 := mBb BK337 hb; replace HB := mSt HB hb
      (try clear hb)
      (try clear hb2)
      (try clear hk)
      (try clear hi)
      refine hK.out _ _ ⟨blk_cell BK337.out 0, blk_cell BK337.out 1, ((HB.out.cell (World.block_lt_of_cell? w _ hw338_0)).trans hw338_0), ((HB.out.cell (World.block_lt_of_cell? w _ hw338_1)).trans hw338_1)⟩ (fun hHeld => ?_)
      clear hK K
      refine norm_ (a' := ?_) ?_ ?_
      rotate_left
      ·
       show Act.put _ (some 41) _ = _
       simp only [Act.put, List.setIfInBounds_toArray, List.set_cons_zero, List.set_cons_succ, i64_w, i32_w]
       rfl
      refine done_ (by kernel_rfl) ?_
      try go_wp2
      go_roundg k2
      case measure => have := HK1.out; have := HK2.out; omega
      case rel => exact ⟨(wrap64 (x6_2 + 1)), (x338000_2), (x338001_2), (by first | rfl | (simp; done) | (simp [*]; done)), H', ⟨by have := HK1.out; have := HK2.out; omega⟩, ⟨BK337.out⟩, ⟨HB.out⟩⟩
     subst c16
     rw [if_pos rfl] at H
     have H' := Aside0.mk H
     clear H
     try go_wp2
     replace BK337 := Aside0.mk (blk_drew BK337.out); replace HB := Aside0.mk (below_drew1 HB.out)
     have p338 : 0 ≤ (x6_2 : Int) := of_decide_eq_true (by first | (with_reducible assumption) | assumption)
     have q338 : x6_2 < (l0.length : Int) := of_decide_eq_true (by first | (with_reducible assumption) | assumption)
     obtain ⟨ad338, e338, hx338_0, hx338_1⟩ := at_T23 HR0.out x6_2 p338 q338
     have hw338_1 := hx338_1
     have hw338_0 := hx338_0
     obtain rfl : ad336 = ad338 := (by injection e338)
     replace hx338_0 := (HB.out.cell (World.block_lt_of_cell? w _ hx338_0)).trans hx338_0
     replace hx338_1 := (HB.out.cell (World.block_lt_of_cell? w _ hx338_1)).trans hx338_1
     replace p338 := eq_true p338
     replace q338 := eq_true q338
     refine start_ (n := 6) (S := fun w' => w'.cell? ⟨gb337, 0, none⟩ = some (.int .i64 x338000_2) ∧ w'.cell? ⟨gb337, 1, none⟩ = some (.int .i64 x338001_2) ∧ w'.cell? (ad336.add ((x6_2).toNat * 2)) = some (.int .i64 ((rd_T23 l0 x6_2).f0)) ∧ w'.cell? ⟨(ad336.add ((x6_2).toNat * 2)).block, (ad336.add ((x6_2).toNat * 2)).off + 1, none⟩ = some (.int .i64 ((rd_T23 l0 x6_2).f1))) (ds := []) #[false, false, false, false, false, false] (by kernel_rfl) rfl rfl ⟨(blk_cell BK337.out 0).trans rfl, (blk_cell BK337.out 1).trans rfl, ((HB.out.cell (World.block_lt_of_cell? w _ hw338_0)).trans hw338_0), ((HB.out.cell (World.block_lt_of_cell? w _ hw338_1)).trans hw338_1)⟩ (fun hHeld => ?_)
     generalize wr.drew = w17 at BK337 HB hx338_0 hx338_1 hHeld ⊢
     refine pure_ (i := 0) (N := some 36) (v := ?_) (a' := ?_) #[true, false, false, false, false, false] rfl rfl (by kernel_rfl) (fun _ _ _ h => h) (Or.inl ⟨by rfl, ?_⟩) ?_ ?_
     rotate_left
     ·
      intro w'
      go_simp
      with_reducible rfl
     rotate_left
     ·
      simp only [Act.put, List.setIfInBounds_toArray, List.set_cons_zero, List.set_cons_succ, i64_w, i32_w]
      rfl
     refine pure_ (i := 1) (N := some 37) (v := ?_) (a' := ?_) #[true, true, false, false, false, false] rfl rfl (by kernel_rfl) (fun _ _ _ h => h) (Or.inl ⟨by rfl, ?_⟩) ?_ ?_
     rotate_left
     ·
      intro w'
      go_simp
      with_reducible rfl
     rotate_left
     ·
      simp only [Act.put, List.setIfInBounds_toArray, List.set_cons_zero, List.set_cons_succ, i64_w, i32_w]
      rfl
     refine pure_ (i := 2) (N := some 38) (v := ?_) (a' := ?_) #[true, true, true, false, false, false] rfl rfl (by kernel_rfl) (fun _ _ _ h => h) (Or.inl ⟨by rfl, ?_⟩) ?_ ?_
     rotate_left
     ·
      intro w'
      go_simp
      with_reducible rfl
     rotate_left
     ·
      simp only [Act.put, List.setIfInBounds_toArray, List.set_cons_zero, List.set_cons_succ, i64_w, i32_w]
      rfl
     refine take_ (i := 3) (N := some 39) (v := ?_) (a' := ?_) #[true, true, true, true, false, false] rfl rfl (by kernel_rfl) (fun _ _ _ h => h) (Or.inl ⟨by rfl, ?_⟩) hHeld ?_ ?_
     rotate_left
     ·
      rintro w' ⟨s0, s1, s2, s3⟩
      go_simp
      with_reducible rfl
     rotate_left
     ·
      simp only [Act.put, List.setIfInBounds_toArray, List.set_cons_zero, List.set_cons_succ, i64_w, i32_w]
      rfl
     refine take_ (i := 4) (N := some 40) (v := ?_) (a' := ?_) #[true, true, true, true, true, false] rfl rfl (by kernel_rfl) (fun _ _ _ h => h) (Or.inl ⟨by rfl, ?_⟩) hHeld ?_ ?_
     rotate_left
     ·
      rintro w' ⟨s0, s1, s2, s3⟩
      go_simp
      with_reducible rfl
     rotate_left
     ·
      simp only [Act.put, List.setIfInBounds_toArray, List.set_cons_zero, List.set_cons_succ, i64_w, i32_w]
      rfl
     refine one_ (i := 5) (N := some 41) #[true, true, true, true, true, true] rfl rfl (by kernel_rfl) (by decide) (fun K hK => ?_)
     refine goes_ Try.func42 (by kernel_rfl) rfl #[.agg #[.int .i64 ((rd_T23 l0 x6_2).f0), .int .i64 ((rd_T23 l0 x6_2).f1)], .agg #[.int .i64 x338000_2, .int .i64 x338001_2]] (by rfl) rfl rfl (by (try simp only [List.map_toArray, List.map_cons, List.map_nil]); first | done | rfl | (simp only [List.length_drop, List.length_take]; rfl)) ?_
     with_reducible refine (dancestudioref03_before.calls ((rd_T23 l0 x6_2).f0) ((rd_T23 l0 x6_2).f1) x338000_2 x338001_2 true _ A15.out).mono ?_
     rintro e w18 ⟨rfl, hb⟩
     refine ⟨_, rfl, ?_⟩
     replace BK337 := mBb BK337 hb; replace HB := mSt HB hb
     (try clear hb)
     (try clear hb2)
     (try clear hk)
     (try clear hi)
     refine hK.out _ _ ⟨blk_cell BK337.out 0, blk_cell BK337.out 1, ((HB.out.cell (World.block_lt_of_cell? w _ hw338_0)).trans hw338_0), ((HB.out.cell (World.block_lt_of_cell? w _ hw338_1)).trans hw338_1)⟩ (fun hHeld => ?_)
     clear hK K
     refine norm_ (a' := ?_) ?_ ?_
     rotate_left
     ·
      show Act.put _ (some 41) _ = _
      simp only [Act.put, List.setIfInBounds_toArray, List.set_cons_zero, List.set_cons_succ, i64_w, i32_w]
      rfl
     refine done_ (by kernel_rfl) ?_
     have p340 : 0 ≤ (x6_2 : Int) := of_decide_eq_true (by first | (with_reducible assumption) | assumption)
     have q340 : x6_2 < (l0.length : Int) := of_decide_eq_true (by first | (with_reducible assumption) | assumption)
     obtain ⟨ad340, e340, hx340_0, hx340_1⟩ := at_T23 HR0.out x6_2 p340 q340
     obtain rfl : ad336 = ad340 := (by injection e340)
     replace hx340_0 := (HB.out.cell (World.block_lt_of_cell? w _ hx340_0)).trans hx340_0
     replace hx340_1 := (HB.out.cell (World.block_lt_of_cell? w _ hx340_1)).trans hx340_1
     replace p340 := eq_true p340
     replace q340 := eq_true q340
     have hcz19 := blk_cell BK337.out; have hfz19 := blk_frozen BK337.out
     try go_wp2
     go_roundg k2
     case measure => have := HK1.out; have := HK2.out; omega
     case rel => exact ⟨(wrap64 (x6_2 + 1)), ((rd_T23 l0 x6_2).f0), ((rd_T23 l0 x6_2).f1), (by first | rfl | (simp; done) | (simp [*]; done)), H', ⟨by have := HK1.out; have := HK2.out; omega⟩, ⟨by (with_reducible repeat (first | refine blk_drewN ?_ _ | refine blk_drew ?_ | refine blk_alloc ?_ _)); refine blk_put (cs := #[.int .i64 ((rd_T23 l0 x6_2).f0), .int .i64 x338001_2]) ?_ 1 _ rfl; (with_reducible repeat (first | refine blk_drewN ?_ _ | refine blk_drew ?_ | refine blk_alloc ?_ _)); refine blk_put (cs := #[.int .i64 x338000_2, .int .i64 x338001_2]) ?_ 0 _ rfl; (with_reducible repeat (first | refine blk_drewN ?_ _ | refine blk_drew ?_ | refine blk_alloc ?_ _)); exact BK337.out⟩, ⟨by repeat (first | (with_reducible first | exact HB.out | apply below_alloc | apply pw_below_drewN | apply below_drew1 | refine below_set ?_ GE337.out) | exact HB.out)⟩⟩
end Go.Proofs.Ytmilejcbkpkplaa.PAll
-- Written by wip/tools/handprint.py: walks of the functions that the law reaches; Lean checks them.
namespace Go.Proofs.Ytmilejcbkpkplaa.PAll
open Go.RowKit Go.Proofs.YtmilejcbkpkplaaW.PrintWords Go.Proofs.YtmilejcbkpkplaaW.PrintLast Go.Proofs.YtmilejcbkpkplaaW.PrintMore
attribute [local go_sem] max2_int min2_int max_two min_two max_three min_three max_four min_four   -- for this text's walks alone
set_option linter.unusedVariables false
set_option linter.unusedSimpArgs false

/-! ### dancestudioref03_Inside: function 24 -/
def dancestudioref03_Inside.l0 : Nat → List (S23) → Int → Int → Int → Option (Bool × Int)
 | 0, _, _, _, _ => none
 | k + 1, x6, x8, x404000, x404001 => if x8 < (x6.length : Int) then (if 0 ≤ x8 then (if (x6.length : Int) = 0 then (none) else (if 0 ≤ (Int.tmod (wrap64 (x8 + 1)) (x6.length : Int)) then (if (Int.tmod (wrap64 (x8 + 1)) (x6.length : Int)) < (x6.length : Int) then ((dancestudioref03_cross.f ((rd_T23 x6 x8).f0) ((rd_T23 x6 x8).f1) ((rd_T23 x6 (Int.tmod (wrap64 (x8 + 1)) (x6.length : Int))).f0) ((rd_T23 x6 (Int.tmod (wrap64 (x8 + 1)) (x6.length : Int))).f1) x404000 x404001).bind fun t415 => (if t415 < 0 then (some (false, 0)) else (dancestudioref03_Inside.l0 k x6 (wrap64 (x8 + 1)) x404000 x404001))) else (none)) else (none))) else (none)) else (some (true, 0))
def dancestudioref03_Inside.f (k : Nat) (a0_0 : Int) (a0_1 : Int) (l1 : List (S23)) : Option (Bool × Int) := (dancestudioref03_Hull.f k l1).bind fun bt404 => (if bt404.2 = 0 then ((dancestudioref03_Valid.f a0_0 a0_1).bind fun t408 => (if t408 = true then (if (bt404.1.length : Int) = 0 then (some (false, 0)) else (if (bt404.1.length : Int) < 3 then (if 0 < (bt404.1.length : Int) then (if 0 ≤ (wrap64 ((bt404.1.length : Int) - 1)) then (if (wrap64 ((bt404.1.length : Int) - 1)) < (bt404.1.length : Int) then ((dancestudioref03_Near.f k a0_0 a0_1 ((rd_T23 bt404.1 0).f0) ((rd_T23 bt404.1 0).f1) ((rd_T23 bt404.1 (wrap64 ((bt404.1.length : Int) - 1))).f0) ((rd_T23 bt404.1 (wrap64 ((bt404.1.length : Int) - 1))).f1) 0).bind fun bt411 => (some (bt411.1, bt411.2))) else (none)) else (none)) else (none)) else (dancestudioref03_Inside.l0 k bt404.1 0 a0_0 a0_1))) else (some (false, 1)))) else (some (false, bt404.2)))
theorem dancestudioref03_Inside.mono_l : ∀ k, (∀ y0 y1 y2 y3, LeO (dancestudioref03_Inside.l0 k y0 y1 y2 y3) (dancestudioref03_Inside.l0 (k + 1) y0 y1 y2 y3))
 | 0 => fun _ _ _ _ r h => by simp [dancestudioref03_Inside.l0] at h
 | k + 1 => by
  have ih0 := dancestudioref03_Inside.mono_l k
  ·
   intro y0 y1 y2 y3
   unfold dancestudioref03_Inside.l0
   repeat' first
   | (with_reducible exact ih0 _ _ _ _)
   | (with_reducible exact dancestudioref03_Hull.mono _ _)
   | (with_reducible exact dancestudioref03_Near.mono _ _ _ _ _ _ _ _)
   | (with_reducible exact LeO.refl _)
   | (with_reducible exact LeO.none _)
   | (with_reducible refine LeO.ite ?_ ?_)
   | (with_reducible refine LeO.bind ?_ (fun _ => ?_))
   | exact ih0 _ _ _ _
   | exact dancestudioref03_Hull.mono _ _
   | exact dancestudioref03_Near.mono _ _ _ _ _ _ _ _
   | exact LeO.none _
   | refine LeO.ite ?_ ?_
   | refine LeO.bind ?_ (fun _ => ?_)
theorem dancestudioref03_Inside.mono : ∀ a0 a1 a2 k, LeO (dancestudioref03_Inside.f k a0 a1 a2) (dancestudioref03_Inside.f (k + 1) a0 a1 a2) := by
 intro a0 a1 a2 k
 have ih0 := dancestudioref03_Inside.mono_l k
 unfold dancestudioref03_Inside.f
 repeat' first
   | (with_reducible exact ih0 _ _ _ _)
   | (with_reducible exact dancestudioref03_Hull.mono _ _)
   | (with_reducible exact dancestudioref03_Near.mono _ _ _ _ _ _ _ _)
   | (with_reducible exact LeO.refl _)
   | (with_reducible exact LeO.none _)
   | (with_reducible refine LeO.ite ?_ ?_)
   | (with_reducible refine LeO.bind ?_ (fun _ => ?_))
   | exact ih0 _ _ _ _
   | exact dancestudioref03_Hull.mono _ _
   | exact dancestudioref03_Near.mono _ _ _ _ _ _ _ _
   | exact LeO.none _
   | refine LeO.ite ?_ ?_
   | refine LeO.bind ?_ (fun _ => ?_)
def dancestudioref03_Inside.T9 : Bool × List (List Nat × List Nat) := (true, [([], []), ([], []), ([1], [1]), ([2], [2]), ([], []), ([], []), ([5], [5]), ([6], [6]), ([4, 7], [4, 7]), ([8], [8]), ([0, 3, 9], [0, 3, 9]), ([10], [10]), ([10], [10]), ([11, 10, 0, 1, 2, 3, 4, 5, 6, 7, 8, 9, 10, 11, 12], [11]), ([12, 13, 0, 1, 2, 3, 4, 5, 6, 7, 8, 9, 10, 11, 12, 13], [12])])
def dancestudioref03_Inside.B9 : List Nat := [0, 0, 2, 6, 0, 0, 32, 96, 240, 496, 1023, 2047, 2047, 8191, 16383]
theorem dancestudioref03_Inside.tab9 : rtab .any (opsOf Try.f24 9) = dancestudioref03_Inside.T9 := by kernel_rfl
theorem dancestudioref03_Inside.bits9 : waitsOk dancestudioref03_Inside.T9.2 dancestudioref03_Inside.B9 = true := by kernel_rfl
def dancestudioref03_Inside.T13 : Bool × List (List Nat × List Nat) := (true, [([], []), ([], []), ([0, 1], [0, 1]), ([2], [2]), ([], []), ([], []), ([5], [5]), ([], []), ([7], [7]), ([6, 8], [6, 8]), ([4, 9], [4, 9]), ([10], [10]), ([], []), ([3, 11, 12], [3, 11, 12]), ([13], [13])])
def dancestudioref03_Inside.B13 : List Nat := [0, 0, 3, 7, 0, 0, 32, 0, 128, 480, 1008, 2032, 0, 8191, 16383]
theorem dancestudioref03_Inside.tab13 : rtab .any (opsOf Try.f24 13) = dancestudioref03_Inside.T13 := by kernel_rfl
theorem dancestudioref03_Inside.bits13 : waitsOk dancestudioref03_Inside.T13.2 dancestudioref03_Inside.B13 = true := by kernel_rfl
set_option maxHeartbeats 8000000 in
set_option maxRecDepth 100000 in
theorem dancestudioref03_Inside.calls (k : Nat) (a0_0 : Int) (a0_1 : Int) (A1 : Option Addr) (c1 : Nat) (l1 : List (S23)) (r1 : Bool) (r2 : Int) (w : World) (hr1 : Kd.C k23 w A1 l1.length l1) (hc1 : l1.length ≤ c1) (h : dancestudioref03_Inside.f k a0_0 a0_1 l1 = some (r1, r2)) :
  Calls Try.prog 24 #[.agg #[.int .i64 a0_0, .int .i64 a0_1], .slice A1 l1.length c1] w fun e w' => e = .returned (.tuple #[.bool r1, .int .i64 r2]) ∧ Below w.heap.size w w' := by
 have hu23 := Try.underlying23
 have HR1 := Aside0.mk hr1
 have HC1 := Aside0.mk hc1
 clear hr1 hc1
 have HB := Aside0.mk (Below.refl w.heap.size w)
 have H : ((dancestudioref03_Hull.f k l1).bind fun bt404 => (if bt404.2 = 0 then ((dancestudioref03_Valid.f a0_0 a0_1).bind fun t408 => (if t408 = true then (if (bt404.1.length : Int) = 0 then (some (false, 0)) else (if (bt404.1.length : Int) < 3 then (if 0 < (bt404.1.length : Int) then (if 0 ≤ (wrap64 ((bt404.1.length : Int) - 1)) then (if (wrap64 ((bt404.1.length : Int) - 1)) < (bt404.1.length : Int) then ((dancestudioref03_Near.f k a0_0 a0_1 ((rd_T23 bt404.1 0).f0) ((rd_T23 bt404.1 0).f1) ((rd_T23 bt404.1 (wrap64 ((bt404.1.length : Int) - 1))).f0) ((rd_T23 bt404.1 (wrap64 ((bt404.1.length : Int) - 1))).f1) 0).bind fun bt411 => (some (bt411.1, bt411.2))) else (none)) else (none)) else (none)) else (dancestudioref03_Inside.l0 k bt404.1 0 a0_0 a0_1))) else (some (false, 1)))) else (some (false, bt404.2)))) = some (r1, r2) := h
 clear h
 replace H := Option.bind_eq_some_iff.mp H
 obtain ⟨⟨t404, t405⟩, A30, H⟩ := H
 try dsimp only at H
 have A3 := Aside0.mk A30
 clear A30
 by_cases c4 : t405 = 0
 rotate_left
 ·
  rw [if_neg c4] at H
  have c4b0 : (t405 == 0) = false := beq_eq_false_iff_ne.mpr c4
  have c4b1 : (t405 != 0) = true := bne_iff_ne.mpr c4
  simp only [Option.some.injEq, Prod.mk.injEq] at H
  obtain ⟨rfl, rfl⟩ := H
  go_enter Try.func24, Try.ntmps24
  go_wp2_with (first | ((with_reducible refine gate_dst (N := 2) rfl ?_); refine box_event ?hg (N := 2) ?hd (cs := #[.int .i64 a0_0, .int .i64 a0_1]) (t := 23) ?hr ?_; (case hd => rfl); (case hg => rfl); (case hr => first | (go_simp; done) | (go_simp; rfl)); intro gb403 hg w47 hbox hb; have BK403 := Aside0.mk hbox; have GW403 := mGw HB hg; have GE403 := GW403; replace HB := mSt HB hb; clear hb hbox hg) | ((with_reducible refine gate_callee (f := 21) rfl ?_); refine goesL_ (some 11) rfl rfl Try.func21 (by kernel_rfl) rfl #[.slice A1 l1.length c1] rfl (by (try simp only [List.map_toArray, List.map_cons, List.map_nil]); first | done | rfl | (simp only [List.length_drop, List.length_take]; rfl)) ?_; (with_reducible refine (dancestudioref03_Hull.calls k _ _ l1 t404 t405 _ ?side1 ?side2 A3.out).mono ?_); (case side1 => repeat (first | exact (Kd.C_below HR1.out HB.out) | (with_reducible refine Kd.C_alloc ?_ _) | (with_reducible refine Kd.C_drewN ?_ _) | (with_reducible refine Kd.C_drew ?_))); (case side2 => exact HC1.out); rintro e w48 ⟨v406, rfl, ho0, hb⟩; refine ⟨_, rfl, ?_⟩; have HO407 := Aside0.mk (Kd.R_lower (Kd.R_newB ho0 (g := gb403) (o := .cells #[.int .i64 a0_0, .int .i64 a0_1] 23 (0, 0)) BK403.out) (below_size HB.out)); replace BK403 := mBb BK403 hb; replace HB := mSt HB hb; (try clear hb); (try clear ho0)))
  go_ret2
  exact ⟨by first | rfl | (simp [errW_none, errW_some] <;> rfl) | (simp [*, errW_none, errW_some] <;> rfl), HB.out⟩
 rw [if_pos c4] at H
 have c4b0 : (t405 == 0) = true := beq_iff_eq.mpr c4
 have c4b1 : (t405 != 0) = false := bne_eq_false_iff_eq.mpr c4
 clear c4
 replace H := Option.bind_eq_some_iff.mp H
 obtain ⟨t408, A50, H⟩ := H
 try dsimp only at H
 have A5 := Aside0.mk A50
 clear A50
 by_cases c6 : t408 = true
 rotate_left
 ·
  replace c6 := Bool.eq_false_iff.mpr c6
  subst c6
  rw [if_neg (show ¬ (false = true) by decide)] at H
  simp only [Option.some.injEq, Prod.mk.injEq] at H
  obtain ⟨rfl, rfl⟩ := H
  go_enter Try.func24, Try.ntmps24
  go_wp2_with (first | ((with_reducible refine gate_dst (N := 2) rfl ?_); refine box_event ?hg (N := 2) ?hd (cs := #[.int .i64 a0_0, .int .i64 a0_1]) (t := 23) ?hr ?_; (case hd => rfl); (case hg => rfl); (case hr => first | (go_simp; done) | (go_simp; rfl)); intro gb403 hg w43 hbox hb; have BK403 := Aside0.mk hbox; have GW403 := mGw HB hg; have GE403 := GW403; replace HB := mSt HB hb; clear hb hbox hg) | ((with_reducible refine gate_callee (f := 21) rfl ?_); refine goesL_ (some 11) rfl rfl Try.func21 (by kernel_rfl) rfl #[.slice A1 l1.length c1] rfl (by (try simp only [List.map_toArray, List.map_cons, List.map_nil]); first | done | rfl | (simp only [List.length_drop, List.length_take]; rfl)) ?_; (with_reducible refine (dancestudioref03_Hull.calls k _ _ l1 t404 t405 _ ?side1 ?side2 A3.out).mono ?_); (case side1 => repeat (first | exact (Kd.C_below HR1.out HB.out) | (with_reducible refine Kd.C_alloc ?_ _) | (with_reducible refine Kd.C_drewN ?_ _) | (with_reducible refine Kd.C_drew ?_))); (case side2 => exact HC1.out); rintro e w44 ⟨v406, rfl, ho0, hb⟩; refine ⟨_, rfl, ?_⟩; have HO407 := Aside0.mk (Kd.R_lower (Kd.R_newB ho0 (g := gb403) (o := .cells #[.int .i64 a0_0, .int .i64 a0_1] 23 (0, 0)) BK403.out) (below_size HB.out)); replace BK403 := mBb BK403 hb; replace HB := mSt HB hb; (try clear hb); (try clear ho0); have hcz45 := blk_cell BK403.out; have hfz45 := blk_frozen BK403.out) | ((with_reducible refine gate_callee (f := 31) rfl ?_); refine goesL_ (some 18) rfl rfl Try.func31 (by kernel_rfl) rfl #[.agg #[.int .i64 a0_0, .int .i64 a0_1]] rfl (by (try simp only [List.map_toArray, List.map_cons, List.map_nil]); first | done | rfl | (simp only [List.length_drop, List.length_take]; rfl)) ?_; (with_reducible refine (dancestudioref03_Valid.calls a0_0 a0_1 false _ A5.out).mono ?_); rintro e w46 ⟨rfl, hb⟩; refine ⟨_, rfl, ?_⟩; replace HO407 := Aside0.mk (Kd.R_below HO407.out hb); replace BK403 := mBb BK403 hb; replace HB := mSt HB hb; (try clear hb)))
  go_ret2
  exact ⟨by first | rfl | (simp [errW_none, errW_some] <;> rfl) | (simp [*, errW_none, errW_some] <;> rfl), HB.out⟩
 subst c6
 rw [if_pos rfl] at H
 by_cases c7 : (t404.length : Int) = 0
 ·
  rw [if_pos c7] at H
  have c7b0 : ((t404.length : Int) == 0) = true := beq_iff_eq.mpr c7
  have c7b1 : ((t404.length : Int) != 0) = false := bne_eq_false_iff_eq.mpr c7
  clear c7
  simp only [Option.some.injEq, Prod.mk.injEq] at H
  obtain ⟨rfl, rfl⟩ := H
  go_enter Try.func24, Try.ntmps24
  go_wp2_with (first | ((with_reducible refine gate_dst (N := 2) rfl ?_); refine box_event ?hg (N := 2) ?hd (cs := #[.int .i64 a0_0, .int .i64 a0_1]) (t := 23) ?hr ?_; (case hd => rfl); (case hg => rfl); (case hr => first | (go_simp; done) | (go_simp; rfl)); intro gb403 hg w8 hbox hb; have BK403 := Aside0.mk hbox; have GW403 := mGw HB hg; have GE403 := GW403; replace HB := mSt HB hb; clear hb hbox hg) | ((with_reducible refine gate_callee (f := 21) rfl ?_); refine goesL_ (some 11) rfl rfl Try.func21 (by kernel_rfl) rfl #[.slice A1 l1.length c1] rfl (by (try simp only [List.map_toArray, List.map_cons, List.map_nil]); first | done | rfl | (simp only [List.length_drop, List.length_take]; rfl)) ?_; (with_reducible refine (dancestudioref03_Hull.calls k _ _ l1 t404 t405 _ ?side1 ?side2 A3.out).mono ?_); (case side1 => repeat (first | exact (Kd.C_below HR1.out HB.out) | (with_reducible refine Kd.C_alloc ?_ _) | (with_reducible refine Kd.C_drewN ?_ _) | (with_reducible refine Kd.C_drew ?_))); (case side2 => exact HC1.out); rintro e w9 ⟨v406, rfl, ho0, hb⟩; refine ⟨_, rfl, ?_⟩; have HO407 := Aside0.mk (Kd.R_lower (Kd.R_newB ho0 (g := gb403) (o := .cells #[.int .i64 a0_0, .int .i64 a0_1] 23 (0, 0)) BK403.out) (below_size HB.out)); replace BK403 := mBb BK403 hb; replace HB := mSt HB hb; (try clear hb); (try clear ho0); have hcz10 := blk_cell BK403.out; have hfz10 := blk_frozen BK403.out) | ((with_reducible refine gate_callee (f := 31) rfl ?_); refine goesL_ (some 18) rfl rfl Try.func31 (by kernel_rfl) rfl #[.agg #[.int .i64 a0_0, .int .i64 a0_1]] rfl (by (try simp only [List.map_toArray, List.map_cons, List.map_nil]); first | done | rfl | (simp only [List.length_drop, List.length_take]; rfl)) ?_; (with_reducible refine (dancestudioref03_Valid.calls a0_0 a0_1 true _ A5.out).mono ?_); rintro e w11 ⟨rfl, hb⟩; refine ⟨_, rfl, ?_⟩; replace HO407 := Aside0.mk (Kd.R_below HO407.out hb); replace BK403 := mBb BK403 hb; replace HB := mSt HB hb; (try clear hb); obtain ⟨Ao12, co12, eo12⟩ := Kd.R_slice HO407.out; subst eo12))
  go_ret2
  exact ⟨by first | rfl | (simp [errW_none, errW_some] <;> rfl) | (simp [*, errW_none, errW_some] <;> rfl), HB.out⟩
 rw [if_neg c7] at H
 have c7b0 : ((t404.length : Int) == 0) = false := beq_eq_false_iff_ne.mpr c7
 have c7b1 : ((t404.length : Int) != 0) = true := bne_iff_ne.mpr c7
 have c7b2 : ¬ (t404 = []) := fun h_ => c7 (by rw [h_]; rfl)
 by_cases c13 : (t404.length : Int) < 3
 ·
  rw [if_pos c13] at H
  have c13b0 : decide ((t404.length : Int) < 3) = true := decide_eq_true c13
  have c13b1 : decide (t404.length < 3) = true := decide_eq_true (by omega)
  clear c13
  by_cases c14 : 0 < (t404.length : Int)
  rotate_left
  ·
   rw [if_neg c14] at H
   exact absurd H (by simp)
  rw [if_pos c14] at H
  have c14b0 : decide (0 < (t404.length : Int)) = true := decide_eq_true c14
  have c14b1 : decide (0 < t404.length) = true := decide_eq_true (by omega)
  clear c14
  obtain ⟨ji15, hji15⟩ : ∃ j_ : Int, (wrap64 ((t404.length : Int) - 1)) = j_ := ⟨_, rfl⟩
  replace H : (if 0 ≤ (ji15) then (if (ji15) < (t404.length : Int) then ((dancestudioref03_Near.f k a0_0 a0_1 ((rd_T23 t404 0).f0) ((rd_T23 t404 0).f1) ((rd_T23 t404 (ji15)).f0) ((rd_T23 t404 (ji15)).f1) 0).bind fun bt411 => (some (bt411.1, bt411.2))) else (none)) else (none)) = some (r1, r2) := by first | (rw [hji15] at H; exact H) | (simp only [hji15] at H ⊢; exact H)
  (try rw [hji15] at A3)
  (try rw [hji15] at A5)
  have hji15w : (IntKind.i64.wrap ((t404.length : Int) - 1)) = ji15 := (i64_w _).trans hji15
  by_cases c16 : 0 ≤ (ji15)
  rotate_left
  ·
   rw [if_neg c16] at H
   exact absurd H (by simp)
  rw [if_pos c16] at H
  have c16b0 : decide (0 ≤ (ji15)) = true := decide_eq_true c16
  clear c16
  by_cases c17 : (ji15) < (t404.length : Int)
  rotate_left
  ·
   rw [if_neg c17] at H
   exact absurd H (by simp)
  rw [if_pos c17] at H
  have c17b0 : decide ((ji15) < (t404.length : Int)) = true := decide_eq_true c17
  clear c17
  replace H := Option.bind_eq_some_iff.mp H
  obtain ⟨⟨t411, t412⟩, A180, H⟩ := H
  try dsimp only at H
  have A18 := Aside0.mk A180
  clear A180
  simp only [Option.some.injEq, Prod.mk.injEq] at H
  obtain ⟨rfl, rfl⟩ := H
  go_enter Try.func24, Try.ntmps24
  try go_wp2_with (first | ((with_reducible refine gate_dst (N := 2) rfl ?_); refine box_event ?hg (N := 2) ?hd (cs := #[.int .i64 a0_0, .int .i64 a0_1]) (t := 23) ?hr ?_; (case hd => rfl); (case hg => rfl); (case hr => first | (go_simp; done) | (go_simp; rfl)); intro gb403 hg w19 hbox hb; have BK403 := Aside0.mk hbox; have GW403 := mGw HB hg; have GE403 := GW403; replace HB := mSt HB hb; clear hb hbox hg) | ((with_reducible refine gate_callee (f := 21) rfl ?_); refine goesL_ (some 11) rfl rfl Try.func21 (by kernel_rfl) rfl #[.slice A1 l1.length c1] rfl (by (try simp only [List.map_toArray, List.map_cons, List.map_nil]); first | done | rfl | (simp only [List.length_drop, List.length_take]; rfl)) ?_; (with_reducible refine (dancestudioref03_Hull.calls k _ _ l1 t404 t405 _ ?side1 ?side2 A3.out).mono ?_); (case side1 => repeat (first | exact (Kd.C_below HR1.out HB.out) | (with_reducible refine Kd.C_alloc ?_ _) | (with_reducible refine Kd.C_drewN ?_ _) | (with_reducible refine Kd.C_drew ?_))); (case side2 => exact HC1.out); rintro e w20 ⟨v406, rfl, ho0, hb⟩; refine ⟨_, rfl, ?_⟩; have HO407 := Aside0.mk (Kd.R_lower (Kd.R_newB ho0 (g := gb403) (o := .cells #[.int .i64 a0_0, .int .i64 a0_1] 23 (0, 0)) BK403.out) (below_size HB.out)); replace BK403 := mBb BK403 hb; replace HB := mSt HB hb; (try clear hb); (try clear ho0); have hcz21 := blk_cell BK403.out; have hfz21 := blk_frozen BK403.out) | ((with_reducible refine gate_callee (f := 31) rfl ?_); refine goesL_ (some 18) rfl rfl Try.func31 (by kernel_rfl) rfl #[.agg #[.int .i64 a0_0, .int .i64 a0_1]] rfl (by (try simp only [List.map_toArray, List.map_cons, List.map_nil]); first | done | rfl | (simp only [List.length_drop, List.length_take]; rfl)) ?_; (with_reducible refine (dancestudioref03_Valid.calls a0_0 a0_1 true _ A5.out).mono ?_); rintro e w22 ⟨rfl, hb⟩; refine ⟨_, rfl, ?_⟩; replace HO407 := Aside0.mk (Kd.R_below HO407.out hb); replace BK403 := mBb BK403 hb; replace HB := mSt HB hb; (try clear hb); obtain ⟨Ao23, co23, eo23⟩ := Kd.R_slice HO407.out; subst eo23))
  replace HO407 := Aside0.mk (Kd.R_drew HO407.out); replace BK403 := Aside0.mk (blk_drew BK403.out); replace HB := Aside0.mk (below_drew1 HB.out)
  have p409 : 0 ≤ (0 : Int) := (by omega)
  have q409 : 0 < (t404.length : Int) := of_decide_eq_true (by first | (with_reducible assumption) | assumption)
  obtain ⟨ad409, e409, hx409_0, hx409_1⟩ := at_T23 (Kd.R_reads' HO407.out).2.2 0 p409 q409
  cases e409
  have qi409 : (0 < t404.length) = True := eq_true (by omega)
  (try rw [show ((0 : Int)).toNat = 0 from rfl] at hx409_0)
  (try rw [show 0 * 2 = 0 from rfl] at hx409_0)
  (try rw [Addr.add_zero'] at hx409_0)
  (try rw [show ((0 : Int)).toNat = 0 from rfl] at hx409_1)
  (try rw [show 0 * 2 = 0 from rfl] at hx409_1)
  (try rw [Addr.add_zero'] at hx409_1)
  replace p409 := eq_true p409
  replace q409 := eq_true q409
  have p410 : 0 ≤ ((ji15) : Int) := of_decide_eq_true (by first | (with_reducible assumption) | assumption)
  have q410 : (ji15) < (t404.length : Int) := of_decide_eq_true (by first | (with_reducible assumption) | assumption)
  obtain ⟨ad410, e410, hx410_0, hx410_1⟩ := at_T23 (Kd.R_reads' HO407.out).2.2 (ji15) p410 q410
  obtain rfl : ad409 = ad410 := (by injection e410)
  replace p410 := eq_true p410
  replace q410 := eq_true q410
  refine start_ (n := 15) (S := fun w' => w'.cell? ⟨gb403, 0, none⟩ = some (.int .i64 a0_0) ∧ w'.cell? ⟨gb403, 1, none⟩ = some (.int .i64 a0_1) ∧ w'.cell? ad409 = some (.int .i64 ((rd_T23 t404 0).f0)) ∧ w'.cell? ⟨ad409.block, ad409.off + 1, none⟩ = some (.int .i64 ((rd_T23 t404 0).f1)) ∧ w'.cell? (ad409.add (((ji15)).toNat * 2)) = some (.int .i64 ((rd_T23 t404 (ji15)).f0)) ∧ w'.cell? ⟨(ad409.add (((ji15)).toNat * 2)).block, (ad409.add (((ji15)).toNat * 2)).off + 1, none⟩ = some (.int .i64 ((rd_T23 t404 (ji15)).f1))) (ds := []) #[false, false, false, false, false, false, false, false, false, false, false, false, false, false, false] (by kernel_rfl) rfl rfl ⟨(blk_cell BK403.out 0).trans rfl, (blk_cell BK403.out 1).trans rfl, hx409_0, hx409_1, hx410_0, hx410_1⟩ (fun hHeld => ?_); refine with_tabW dancestudioref03_Inside.tab9 dancestudioref03_Inside.bits9 (fun HT_ HW_ => ?_)
  generalize w22.drew = w24 at HO407 BK403 HB hx409_0 hx409_1 hx410_0 hx410_1 hHeld ⊢
  refine pure_ (i := 1) (N := some 27) (v := ?_) (a' := ?_) #[false, true, false, false, false, false, false, false, false, false, false, false, false, false, false] rfl rfl (any_of HT_.out (by kernel_rfl)) (fun _ _ _ h => h) (Or.inl ⟨by rfl, ?_⟩) ?_ ?_
  rotate_left
  ·
   intro w'
   go_simp
   with_reducible rfl
  rotate_left
  ·
   simp only [Act.put, List.setIfInBounds_toArray, List.set_cons_zero, List.set_cons_succ, i64_w, i32_w]
   rfl
  refine pure_ (i := 2) (N := some 28) (v := ?_) (a' := ?_) #[false, true, true, false, false, false, false, false, false, false, false, false, false, false, false] rfl rfl (any_of HT_.out (by kernel_rfl)) (fun _ _ _ h => h) (Or.inl ⟨by rfl, ?_⟩) ?_ ?_
  rotate_left
  ·
   intro w'
   go_simp
   with_reducible rfl
  rotate_left
  ·
   simp only [Act.put, List.setIfInBounds_toArray, List.set_cons_zero, List.set_cons_succ, i64_w, i32_w]
   rfl
  refine pure_ (i := 4) (N := some 30) (v := ?_) (a' := ?_) #[false, true, true, false, true, false, false, false, false, false, false, false, false, false, false] rfl rfl (any_of HT_.out (by kernel_rfl)) (fun _ _ _ h => h) (Or.inl ⟨by rfl, ?_⟩) ?_ ?_
  rotate_left
  ·
   intro w'
   go_simp
   with_reducible rfl
  rotate_left
  ·
   simp only [Act.put, List.setIfInBounds_toArray, List.set_cons_zero, List.set_cons_succ, i64_w, i32_w]
   rfl
  refine pure_ (i := 5) (N := some 31) (v := ?_) (a' := ?_) #[false, true, true, false, true, true, false, false, false, false, false, false, false, false, false] rfl rfl (any_of HT_.out (by kernel_rfl)) (fun _ _ _ h => h) (Or.inl ⟨by rfl, ?_⟩) ?_ ?_
  rotate_left
  ·
   intro w'
   go_simp
   with_reducible rfl
  rotate_left
  ·
   simp only [Act.put, List.setIfInBounds_toArray, List.set_cons_zero, List.set_cons_succ, i64_w, i32_w]
   rfl
  refine pure_ (i := 6) (N := some 32) (v := ?_) (a' := ?_) #[false, true, true, false, true, true, true, false, false, false, false, false, false, false, false] rfl rfl (any_of HT_.out (by kernel_rfl)) (fun _ _ _ h => h) (Or.inl ⟨by rfl, ?_⟩) ?_ ?_
  rotate_left
  ·
   intro w'
   go_simp
   with_reducible rfl
  rotate_left
  ·
   simp only [Act.put, List.setIfInBounds_toArray, List.set_cons_zero, List.set_cons_succ, i64_w, i32_w]
   rfl
  refine pure_ (i := 7) (N := some 33) (v := ?_) (a' := ?_) #[false, true, true, false, true, true, true, true, false, false, false, false, false, false, false] rfl rfl (any_of HT_.out (by kernel_rfl)) (fun _ _ _ h => h) (Or.inl ⟨by rfl, ?_⟩) ?_ ?_
  rotate_left
  ·
   intro w'
   go_simp
   with_reducible rfl
  rotate_left
  ·
   simp only [Act.put, List.setIfInBounds_toArray, List.set_cons_zero, List.set_cons_succ, i64_w, i32_w]
   rfl
  refine pure_ (i := 8) (N := some 34) (v := ?_) (a' := ?_) #[false, true, true, false, true, true, true, true, true, false, false, false, false, false, false] rfl rfl (any_of HT_.out (by kernel_rfl)) (fun _ _ _ h => h) (Or.inl ⟨by rfl, ?_⟩) ?_ ?_
  rotate_left
  ·
   intro w'
   go_simp
   with_reducible rfl
  rotate_left
  ·
   simp only [Act.put, List.setIfInBounds_toArray, List.set_cons_zero, List.set_cons_succ, i64_w, i32_w]
   rfl
  refine take_ (i := 0) (N := some 26) (v := ?_) (a' := ?_) #[true, true, true, false, true, true, true, true, true, false, false, false, false, false, false] rfl rfl (take_ofW HT_.out HW_.out (by kernel_rfl)) (fun _ _ _ h => h) (Or.inl ⟨by rfl, ?_⟩) hHeld ?_ ?_
  rotate_left
  ·
   rintro w' ⟨s0, s1, s2, s3, s4, s5⟩
   go_simp
   with_reducible rfl
  rotate_left
  ·
   simp only [Act.put, List.setIfInBounds_toArray, List.set_cons_zero, List.set_cons_succ, i64_w, i32_w]
   rfl
  refine take_ (i := 3) (N := some 29) (v := ?_) (a' := ?_) #[true, true, true, true, true, true, true, true, true, false, false, false, false, false, false] rfl rfl (take_ofW HT_.out HW_.out (by kernel_rfl)) (fun _ _ _ h => h) (Or.inl ⟨by rfl, ?_⟩) hHeld ?_ ?_
  rotate_left
  ·
   rintro w' ⟨s0, s1, s2, s3, s4, s5⟩
   go_simp
   with_reducible rfl
  rotate_left
  ·
   simp only [Act.put, List.setIfInBounds_toArray, List.set_cons_zero, List.set_cons_succ, i64_w, i32_w]
   rfl
  refine take_ (i := 9) (N := some 35) (v := ?_) (a' := ?_) #[true, true, true, true, true, true, true, true, true, true, false, false, false, false, false] rfl rfl (take_ofW HT_.out HW_.out (by kernel_rfl)) (fun _ _ _ h => h) (Or.inl ⟨by rfl, ?_⟩) hHeld ?_ ?_
  rotate_left
  ·
   rintro w' ⟨s0, s1, s2, s3, s4, s5⟩
   go_simp
   with_reducible rfl
  rotate_left
  ·
   simp only [Act.put, List.setIfInBounds_toArray, List.set_cons_zero, List.set_cons_succ, i64_w, i32_w]
   rfl
  refine one_ (i := 10) (N := some 36) #[true, true, true, true, true, true, true, true, true, true, true, false, false, false, false] rfl rfl (one_of HT_.out (by kernel_rfl)) (by decide) (fun K hK => ?_)
  refine goes_ Try.func17 (by kernel_rfl) rfl #[.agg #[.int .i64 a0_0, .int .i64 a0_1], .agg #[.int .i64 ((rd_T23 t404 0).f0), .int .i64 ((rd_T23 t404 0).f1)], .agg #[.int .i64 ((rd_T23 t404 (ji15)).f0), .int .i64 ((rd_T23 t404 (ji15)).f1)], .int .i64 0] (by rfl) rfl rfl (by (try simp only [List.map_toArray, List.map_cons, List.map_nil]); first | done | (simp only [hji15]; rfl) | rfl | (simp only [List.length_drop, List.length_take]; rfl)) ?_
  with_reducible refine (dancestudioref03_Near.calls k a0_0 a0_1 ((rd_T23 t404 0).f0) ((rd_T23 t404 0).f1) ((rd_T23 t404 (ji15)).f0) ((rd_T23 t404 (ji15)).f1) 0 t411 t412 _ A18.out).mono ?_
  rintro e w25 ⟨rfl, hb⟩
  have HS2_ := (hb.cell (World.block_lt_of_cell? _ _ (hHeld.2.2.1))).trans (hHeld.2.2.1)
  have HS3_ := (hb.cell (World.block_lt_of_cell? _ _ (hHeld.2.2.2.1))).trans (hHeld.2.2.2.1)
  have HS4_ := (hb.cell (World.block_lt_of_cell? _ _ (hHeld.2.2.2.2.1))).trans (hHeld.2.2.2.2.1)
  have HS5_ := (hb.cell (World.block_lt_of_cell? _ _ (hHeld.2.2.2.2.2))).trans (hHeld.2.2.2.2.2)
  refine ⟨_, rfl, ?_⟩
  replace HO407 := Aside0.mk (Kd.R_below HO407.out hb); replace BK403 := mBb BK403 hb; replace HB := mSt HB hb
  (try clear hb)
  (try clear hb2)
  (try clear hk)
  (try clear hi)
  refine hK.out _ _ ⟨blk_cell BK403.out 0, blk_cell BK403.out 1, HS2_, HS3_, HS4_, HS5_⟩ (fun hHeld => ?_)
  clear hK K
  refine norm_ (a' := ?_) ?_ ?_
  rotate_left
  ·
   show Act.put _ (some 36) _ = _
   simp only [Act.put, List.setIfInBounds_toArray, List.set_cons_zero, List.set_cons_succ, i64_w, i32_w]
   rfl
  refine pure_ (i := 11) (N := some 37) (v := ?_) (a' := ?_) #[true, true, true, true, true, true, true, true, true, true, true, true, false, false, false] rfl rfl (any_of HT_.out (by kernel_rfl)) (fun _ _ _ h => h) (Or.inl ⟨by rfl, ?_⟩) ?_ ?_
  rotate_left
  ·
   intro w'
   go_simp
   with_reducible rfl
  rotate_left
  ·
   simp only [Act.put, List.setIfInBounds_toArray, List.set_cons_zero, List.set_cons_succ, i64_w, i32_w]
   rfl
  refine pure_ (i := 12) (N := some 38) (v := ?_) (a' := ?_) #[true, true, true, true, true, true, true, true, true, true, true, true, true, false, false] rfl rfl (any_of HT_.out (by kernel_rfl)) (fun _ _ _ h => h) (Or.inl ⟨by rfl, ?_⟩) ?_ ?_
  rotate_left
  ·
   intro w'
   go_simp
   with_reducible rfl
  rotate_left
  ·
   simp only [Act.put, List.setIfInBounds_toArray, List.set_cons_zero, List.set_cons_succ, i64_w, i32_w]
   rfl
  refine pure_ (i := 13) (N := some 4) (v := ?_) (a' := ?_) #[true, true, true, true, true, true, true, true, true, true, true, true, true, true, false] rfl rfl (any_of HT_.out (by kernel_rfl)) (fun _ _ _ h => h) (Or.inl ⟨by rfl, ?_⟩) ?_ ?_
  rotate_left
  ·
   intro w'
   go_simp
   with_reducible rfl
  rotate_left
  ·
   simp only [Act.put, List.setIfInBounds_toArray, List.set_cons_zero, List.set_cons_succ, i64_w, i32_w]
   rfl
  refine pure_ (i := 14) (N := some 5) (v := ?_) (a' := ?_) #[true, true, true, true, true, true, true, true, true, true, true, true, true, true, true] rfl rfl (any_of HT_.out (by kernel_rfl)) (fun _ _ _ h => h) (Or.inl ⟨by rfl, ?_⟩) ?_ ?_
  rotate_left
  ·
   intro w'
   go_simp
   with_reducible rfl
  rotate_left
  ·
   simp only [Act.put, List.setIfInBounds_toArray, List.set_cons_zero, List.set_cons_succ, i64_w, i32_w]
   rfl
  refine done_ (done_of HT_.out (by kernel_rfl)) ?_
  try go_wp2
  go_ret2
  exact ⟨by first | rfl | (simp [errW_none, errW_some] <;> rfl) | (simp only [← hji15]; first | rfl | (simp [errW_none, errW_some] <;> rfl)) | (simp [*, errW_none, errW_some] <;> rfl), HB.out⟩
 rw [if_neg c13] at H
 have c13b0 : decide ((t404.length : Int) < 3) = false := decide_eq_false c13
 have c13b1 : decide (t404.length < 3) = false := decide_eq_false (by omega)
 clear c13
 have H' := Aside0.mk H
 clear H
 go_enter Try.func24, Try.ntmps24
 go_wp2_with (first | ((with_reducible refine gate_dst (N := 2) rfl ?_); refine box_event ?hg (N := 2) ?hd (cs := #[.int .i64 a0_0, .int .i64 a0_1]) (t := 23) ?hr ?_; (case hd => rfl); (case hg => rfl); (case hr => first | (go_simp; done) | (go_simp; rfl)); intro gb403 hg w26 hbox hb; have BK403 := Aside0.mk hbox; have GW403 := mGw HB hg; have GE403 := GW403; replace HB := mSt HB hb; clear hb hbox hg) | ((with_reducible refine gate_callee (f := 21) rfl ?_); refine goesL_ (some 11) rfl rfl Try.func21 (by kernel_rfl) rfl #[.slice A1 l1.length c1] rfl (by (try simp only [List.map_toArray, List.map_cons, List.map_nil]); first | done | rfl | (simp only [List.length_drop, List.length_take]; rfl)) ?_; (with_reducible refine (dancestudioref03_Hull.calls k _ _ l1 t404 t405 _ ?side1 ?side2 A3.out).mono ?_); (case side1 => repeat (first | exact (Kd.C_below HR1.out HB.out) | (with_reducible refine Kd.C_alloc ?_ _) | (with_reducible refine Kd.C_drewN ?_ _) | (with_reducible refine Kd.C_drew ?_))); (case side2 => exact HC1.out); rintro e w27 ⟨v406, rfl, ho0, hb⟩; refine ⟨_, rfl, ?_⟩; have HO407 := Aside0.mk (Kd.R_lower (Kd.R_newB ho0 (g := gb403) (o := .cells #[.int .i64 a0_0, .int .i64 a0_1] 23 (0, 0)) BK403.out) (below_size HB.out)); replace BK403 := mBb BK403 hb; replace HB := mSt HB hb; (try clear hb); (try clear ho0); have hcz28 := blk_cell BK403.out; have hfz28 := blk_frozen BK403.out) | ((with_reducible refine gate_callee (f := 31) rfl ?_); refine goesL_ (some 18) rfl rfl Try.func31 (by kernel_rfl) rfl #[.agg #[.int .i64 a0_0, .int .i64 a0_1]] rfl (by (try simp only [List.map_toArray, List.map_cons, List.map_nil]); first | done | rfl | (simp only [List.length_drop, List.length_take]; rfl)) ?_; (with_reducible refine (dancestudioref03_Valid.calls a0_0 a0_1 true _ A5.out).mono ?_); rintro e w29 ⟨rfl, hb⟩; refine ⟨_, rfl, ?_⟩; replace HO407 := Aside0.mk (Kd.R_below HO407.out hb); replace BK403 := mBb BK403 hb; replace HB := mSt HB hb; (try clear hb); obtain ⟨Ao30, co30, eo30⟩ := Kd.R_slice HO407.out; subst eo30))
 go_loopg [8] k (fun kq v8 w' => ∃ (x8_1 : Int), v8 = .int .i64 x8_1 ∧ Aside0 (dancestudioref03_Inside.l0 kq t404 x8_1 a0_0 a0_1 = some (r1, r2)) ∧ Aside0 (kq ≤ k) ∧ Aside0 (Kd.R k23 23 w' w.heap.size (fun k_ => k_ ≠ gb403) (.slice Ao30 t404.length co30) t404) ∧ Aside0 (w'.heap[gb403]? = some (.cells #[.int .i64 a0_0, .int .i64 a0_1] 23 (0, 0))) ∧ Aside0 (Below w.heap.size w w'))
 case atStart => exact ⟨(0), (by first | rfl | (simp; done) | (simp [*]; done)), H', ⟨Nat.le_refl _⟩, ⟨by (with_reducible repeat (first | apply Kd.R_alloc | apply Kd.R_drewN | apply Kd.R_drew)); exact Kd.R_mono HO407.out (fun _ hk => hk.2)⟩, ⟨BK403.out⟩, ⟨HB.out⟩⟩
 case round =>
  clear H'
  try clear c1; try clear c2; try clear p2; try clear c3; try clear c4; try clear c4b0; try clear c4b1; try clear p4; try clear q4; try clear hx4; try clear qi4; try clear c6; try clear p6; try clear c7; try clear c7b0; try clear c7b1; try clear c7b2; try clear c13; try clear c13b0; try clear c13b1; try clear c14; try clear c14b0; try clear c14b1; try clear c16; try clear c16b0; try clear c17; try clear c17b0; try clear c21; try clear c24; try clear hcz10_0; try clear hcz10_1; try clear hcz21_0; try clear hcz21_1; try clear hcz28_0; try clear hcz28_1; try clear hfz10_0; try clear hfz10_1; try clear hfz21_0; try clear hfz21_1; try clear hfz28_0; try clear hfz28_1; try clear hx409_0; try clear hx409_1; try clear hx410_0; try clear hx410_1; try clear p409; try clear p410; try clear q409; try clear q410
  obtain ⟨x8_1, rfl, HA, HK1, HO_6, BK403, HB⟩ := hrel
  cases gk with
  | zero => exact absurd HA.out (by simp [dancestudioref03_Inside.l0])
  | succ k1 =>
   have H := HA.out
   clear HA
   simp only [dancestudioref03_Inside.l0] at H
   by_cases c31 : x8_1 < (t404.length : Int)
   rotate_left
   ·
    rw [if_neg c31] at H
    have c31b0 : decide (x8_1 < (t404.length : Int)) = false := decide_eq_false c31
    clear c31
    simp only [Option.some.injEq, Prod.mk.injEq] at H
    obtain ⟨rfl, rfl⟩ := H
    go_wp2
    go_ret2
    exact ⟨by first | rfl | (simp [errW_none, errW_some] <;> rfl) | (simp [*, errW_none, errW_some] <;> rfl), HB.out⟩
   rw [if_pos c31] at H
   have c31b0 : decide (x8_1 < (t404.length : Int)) = true := decide_eq_true c31
   clear c31
   by_cases c32 : 0 ≤ x8_1
   rotate_left
   ·
    rw [if_neg c32] at H
    exact absurd H (by simp)
   rw [if_pos c32] at H
   have c32b0 : decide (0 ≤ x8_1) = true := decide_eq_true c32
   clear c32
   by_cases c33 : (t404.length : Int) = 0
   ·
    rw [if_pos c33] at H
    exact absurd H (by simp)
   rw [if_neg c33] at H
   have c33b0 : ((t404.length : Int) == 0) = false := beq_eq_false_iff_ne.mpr c33
   have c33b1 : ((t404.length : Int) != 0) = true := bne_iff_ne.mpr c33
   have c33b2 : ¬ (t404 = []) := fun h_ => c33 (by rw [h_]; rfl)
   obtain ⟨ji34, hji34⟩ : ∃ j_ : Int, (Int.tmod (wrap64 (x8_1 + 1)) (t404.length : Int)) = j_ := ⟨_, rfl⟩
   replace H : (if 0 ≤ (ji34) then (if (ji34) < (t404.length : Int) then ((dancestudioref03_cross.f ((rd_T23 t404 x8_1).f0) ((rd_T23 t404 x8_1).f1) ((rd_T23 t404 (ji34)).f0) ((rd_T23 t404 (ji34)).f1) a0_0 a0_1).bind fun t415 => (if t415 < 0 then (some (false, 0)) else (dancestudioref03_Inside.l0 k1 t404 (wrap64 (x8_1 + 1)) a0_0 a0_1))) else (none)) else (none)) = some (r1, r2) := by first | (rw [hji34] at H; exact H) | (simp only [hji34] at H ⊢; exact H)
   by_cases c35 : 0 ≤ (ji34)
   rotate_left
   ·
    rw [if_neg c35] at H
    exact absurd H (by simp)
   rw [if_pos c35] at H
   have c35b0 : decide (0 ≤ (ji34)) = true := decide_eq_true c35
   clear c35
   by_cases c36 : (ji34) < (t404.length : Int)
   rotate_left
   ·
    rw [if_neg c36] at H
    exact absurd H (by simp)
   rw [if_pos c36] at H
   have c36b0 : decide ((ji34) < (t404.length : Int)) = true := decide_eq_true c36
   clear c36
   replace H := Option.bind_eq_some_iff.mp H
   obtain ⟨t415, A370, H⟩ := H
   try dsimp only at H
   have A37 := Aside0.mk A370
   clear A370
   by_cases c38 : t415 < 0
   ·
    rw [if_pos c38] at H
    have c38b0 : decide (t415 < 0) = true := decide_eq_true c38
    clear c38
    simp only [Option.some.injEq, Prod.mk.injEq] at H
    obtain ⟨rfl, rfl⟩ := H
    try go_wp2
    replace HO_6 := Aside0.mk (Kd.R_drew HO_6.out); replace BK403 := Aside0.mk (blk_drew BK403.out); replace HB := Aside0.mk (below_drew1 HB.out)
    have p413 : 0 ≤ (x8_1 : Int) := of_decide_eq_true (by first | (with_reducible assumption) | assumption)
    have q413 : x8_1 < (t404.length : Int) := of_decide_eq_true (by first | (with_reducible assumption) | assumption)
    obtain ⟨ad413, e413, hx413_0, hx413_1⟩ := at_T23 (Kd.R_reads' HO_6.out).2.2 x8_1 p413 q413
    cases e413
    replace p413 := eq_true p413
    replace q413 := eq_true q413
    have p414 : 0 ≤ ((ji34) : Int) := of_decide_eq_true (by first | (with_reducible assumption) | assumption)
    have q414 : (ji34) < (t404.length : Int) := of_decide_eq_true (by first | (with_reducible assumption) | assumption)
    obtain ⟨ad414, e414, hx414_0, hx414_1⟩ := at_T23 (Kd.R_reads' HO_6.out).2.2 (ji34) p414 q414
    obtain rfl : ad413 = ad414 := (by injection e414)
    replace p414 := eq_true p414
    replace q414 := eq_true q414
    refine start_ (n := 15) (S := fun w' => w'.cell? ⟨gb403, 0, none⟩ = some (.int .i64 a0_0) ∧ w'.cell? ⟨gb403, 1, none⟩ = some (.int .i64 a0_1) ∧ w'.cell? (ad413.add ((x8_1).toNat * 2)) = some (.int .i64 ((rd_T23 t404 x8_1).f0)) ∧ w'.cell? ⟨(ad413.add ((x8_1).toNat * 2)).block, (ad413.add ((x8_1).toNat * 2)).off + 1, none⟩ = some (.int .i64 ((rd_T23 t404 x8_1).f1)) ∧ w'.cell? (ad413.add (((ji34)).toNat * 2)) = some (.int .i64 ((rd_T23 t404 (ji34)).f0)) ∧ w'.cell? ⟨(ad413.add (((ji34)).toNat * 2)).block, (ad413.add (((ji34)).toNat * 2)).off + 1, none⟩ = some (.int .i64 ((rd_T23 t404 (ji34)).f1))) (ds := []) #[false, false, false, false, false, false, false, false, false, false, false, false, false, false, false] (by kernel_rfl) rfl rfl ⟨(blk_cell BK403.out 0).trans rfl, (blk_cell BK403.out 1).trans rfl, hx413_0, hx413_1, hx414_0, hx414_1⟩ (fun hHeld => ?_); refine with_tabW dancestudioref03_Inside.tab13 dancestudioref03_Inside.bits13 (fun HT_ HW_ => ?_)
    generalize wr.drew = w39 at HO_6 BK403 HB hx413_0 hx413_1 hx414_0 hx414_1 hHeld ⊢
    refine pure_ (i := 0) (N := some 45) (v := ?_) (a' := ?_) #[true, false, false, false, false, false, false, false, false, false, false, false, false, false, false] rfl rfl (any_of HT_.out (by kernel_rfl)) (fun _ _ _ h => h) (Or.inl ⟨by rfl, ?_⟩) ?_ ?_
    rotate_left
    ·
     intro w'
     go_simp
     with_reducible rfl
    rotate_left
    ·
     simp only [Act.put, List.setIfInBounds_toArray, List.set_cons_zero, List.set_cons_succ, i64_w, i32_w]
     rfl
    refine pure_ (i := 1) (N := some 46) (v := ?_) (a' := ?_) #[true, true, false, false, false, false, false, false, false, false, false, false, false, false, false] rfl rfl (any_of HT_.out (by kernel_rfl)) (fun _ _ _ h => h) (Or.inl ⟨by rfl, ?_⟩) ?_ ?_
    rotate_left
    ·
     intro w'
     go_simp
     with_reducible rfl
    rotate_left
    ·
     simp only [Act.put, List.setIfInBounds_toArray, List.set_cons_zero, List.set_cons_succ, i64_w, i32_w]
     rfl
    refine pure_ (i := 2) (N := some 47) (v := ?_) (a' := ?_) #[true, true, true, false, false, false, false, false, false, false, false, false, false, false, false] rfl rfl (any_of HT_.out (by kernel_rfl)) (fun _ _ _ h => h) (Or.inl ⟨by rfl, ?_⟩) ?_ ?_
    rotate_left
    ·
     intro w'
     go_simp
     with_reducible rfl
    rotate_left
    ·
     simp only [Act.put, List.setIfInBounds_toArray, List.set_cons_zero, List.set_cons_succ, i64_w, i32_w]
     rfl
    refine pure_ (i := 4) (N := some 49) (v := ?_) (a' := ?_) #[true, true, true, false, true, false, false, false, false, false, false, false, false, false, false] rfl rfl (any_of HT_.out (by kernel_rfl)) (fun _ _ _ h => h) (Or.inl ⟨by rfl, ?_⟩) ?_ ?_
    rotate_left
    ·
     intro w'
     go_simp
     with_reducible rfl
    rotate_left
    ·
     simp only [Act.put, List.setIfInBounds_toArray, List.set_cons_zero, List.set_cons_succ, i64_w, i32_w]
     rfl
    refine pure_ (i := 5) (N := some 50) (v := ?_) (a' := ?_) #[true, true, true, false, true, true, false, false, false, false, false, false, false, false, false] rfl rfl (any_of HT_.out (by kernel_rfl)) (fun _ _ _ h => h) (Or.inl ⟨by rfl, ?_⟩) ?_ ?_
    rotate_left
    ·
     intro w'
     go_simp
     with_reducible rfl
    rotate_left
    ·
     simp only [Act.put, List.setIfInBounds_toArray, List.set_cons_zero, List.set_cons_succ, i64_w, i32_w]
     rfl
    refine pure_ (i := 6) (N := some 51) (v := ?_) (a' := ?_) #[true, true, true, false, true, true, true, false, false, false, false, false, false, false, false] rfl rfl (any_of HT_.out (by kernel_rfl)) (fun _ _ _ h => h) (Or.inl ⟨by rfl, ?_⟩) ?_ ?_
    rotate_left
    ·
     intro w'
     go_simp
     with_reducible rfl
    rotate_left
    ·
     simp only [Act.put, List.setIfInBounds_toArray, List.set_cons_zero, List.set_cons_succ, i64_w, i32_w]
     rfl
    refine pure_ (i := 7) (N := some 52) (v := ?_) (a' := ?_) #[true, true, true, false, true, true, true, true, false, false, false, false, false, false, false] rfl rfl (any_of HT_.out (by kernel_rfl)) (fun _ _ _ h => h) (Or.inl ⟨by rfl, ?_⟩) ?_ ?_
    rotate_left
    ·
     intro w'
     go_simp
     with_reducible rfl
    rotate_left
    ·
     simp only [Act.put, List.setIfInBounds_toArray, List.set_cons_zero, List.set_cons_succ, i64_w, i32_w]
     rfl
    refine pure_ (i := 8) (N := some 53) (v := ?_) (a' := ?_) #[true, true, true, false, true, true, true, true, true, false, false, false, false, false, false] rfl rfl (any_of HT_.out (by kernel_rfl)) (fun _ _ _ h => h) (Or.inl ⟨by rfl, ?_⟩) ?_ ?_
    rotate_left
    ·
     intro w'
     go_simp
     with_reducible rfl
    rotate_left
    ·
     simp only [Act.put, List.setIfInBounds_toArray, List.set_cons_zero, List.set_cons_succ, i64_w, i32_w]
     rfl
    refine pure_ (i := 9) (N := some 54) (v := ?_) (a' := ?_) #[true, true, true, false, true, true, true, true, true, true, false, false, false, false, false] rfl rfl (any_of HT_.out (by kernel_rfl)) (fun _ _ _ h => h) (Or.inl ⟨by rfl, ?_⟩) ?_ ?_
    rotate_left
    ·
     intro w'
     go_simp
     with_reducible rfl
    rotate_left
    ·
     simp only [Act.put, List.setIfInBounds_toArray, List.set_cons_zero, List.set_cons_succ, i64_w, i32_w]
     rfl
    refine pure_ (i := 10) (N := some 55) (v := ?_) (a' := ?_) #[true, true, true, false, true, true, true, true, true, true, true, false, false, false, false] rfl rfl (any_of HT_.out (by kernel_rfl)) (fun _ _ _ h => h) (Or.inl ⟨by rfl, ?_⟩) ?_ ?_
    rotate_left
    ·
     intro w'
     go_simp
     with_reducible rfl
    rotate_left
    ·
     simp only [Act.put, List.setIfInBounds_toArray, List.set_cons_zero, List.set_cons_succ, i64_w, i32_w]
     rfl
    refine take_ (i := 3) (N := some 48) (v := ?_) (a' := ?_) #[true, true, true, true, true, true, true, true, true, true, true, false, false, false, false] rfl rfl (take_ofW HT_.out HW_.out (by kernel_rfl)) (fun _ _ _ h => h) (Or.inl ⟨by rfl, ?_⟩) hHeld ?_ ?_
    rotate_left
    ·
     rintro w' ⟨s0, s1, s2, s3, s4, s5⟩
     go_simp
     with_reducible rfl
    rotate_left
    ·
     simp only [Act.put, List.setIfInBounds_toArray, List.set_cons_zero, List.set_cons_succ, i64_w, i32_w]
     rfl
    refine take_ (i := 11) (N := some 56) (v := ?_) (a' := ?_) #[true, true, true, true, true, true, true, true, true, true, true, true, false, false, false] rfl rfl (take_ofW HT_.out HW_.out (by kernel_rfl)) (fun _ _ _ h => h) (Or.inl ⟨by rfl, ?_⟩) hHeld ?_ ?_
    rotate_left
    ·
     rintro w' ⟨s0, s1, s2, s3, s4, s5⟩
     go_simp
     with_reducible rfl
    rotate_left
    ·
     simp only [Act.put, List.setIfInBounds_toArray, List.set_cons_zero, List.set_cons_succ, i64_w, i32_w]
     rfl
    refine take_ (i := 12) (N := some 57) (v := ?_) (a' := ?_) #[true, true, true, true, true, true, true, true, true, true, true, true, true, false, false] rfl rfl (take_ofW HT_.out HW_.out (by kernel_rfl)) (fun _ _ _ h => h) (Or.inl ⟨by rfl, ?_⟩) hHeld ?_ ?_
    rotate_left
    ·
     rintro w' ⟨s0, s1, s2, s3, s4, s5⟩
     go_simp
     with_reducible rfl
    rotate_left
    ·
     simp only [Act.put, List.setIfInBounds_toArray, List.set_cons_zero, List.set_cons_succ, i64_w, i32_w]
     rfl
    refine one_ (i := 13) (N := some 58) #[true, true, true, true, true, true, true, true, true, true, true, true, true, true, false] rfl rfl (one_of HT_.out (by kernel_rfl)) (by decide) (fun K hK => ?_)
    refine goes_ Try.func34 (by kernel_rfl) rfl #[.agg #[.int .i64 ((rd_T23 t404 x8_1).f0), .int .i64 ((rd_T23 t404 x8_1).f1)], .agg #[.int .i64 ((rd_T23 t404 (ji34)).f0), .int .i64 ((rd_T23 t404 (ji34)).f1)], .agg #[.int .i64 a0_0, .int .i64 a0_1]] (by rfl) rfl rfl (by (try simp only [List.map_toArray, List.map_cons, List.map_nil]); first | done | (simp only [hji34]; rfl) | rfl | (simp only [List.length_drop, List.length_take]; rfl)) ?_
    with_reducible refine (dancestudioref03_cross.calls ((rd_T23 t404 x8_1).f0) ((rd_T23 t404 x8_1).f1) ((rd_T23 t404 (ji34)).f0) ((rd_T23 t404 (ji34)).f1) a0_0 a0_1 t415 _ A37.out).mono ?_
    rintro e w40 ⟨rfl, hb⟩
    have HS2_ := (hb.cell (World.block_lt_of_cell? _ _ (hHeld.2.2.1))).trans (hHeld.2.2.1)
    have HS3_ := (hb.cell (World.block_lt_of_cell? _ _ (hHeld.2.2.2.1))).trans (hHeld.2.2.2.1)
    have HS4_ := (hb.cell (World.block_lt_of_cell? _ _ (hHeld.2.2.2.2.1))).trans (hHeld.2.2.2.2.1)
    have HS5_ := (hb.cell (World.block_lt_of_cell? _ _ (hHeld.2.2.2.2.2))).trans (hHeld.2.2.2.2.2)
    refine ⟨_, rfl, ?_⟩
    replace HO_6 := Aside0.mk (Kd.R_below HO_6.out hb); replace BK403 := mBb BK403 hb; replace HB := mSt HB hb
    (try clear hb)
    (try clear hb2)
    (try clear hk)
    (try clear hi)
    refine hK.out _ _ ⟨blk_cell BK403.out 0, blk_cell BK403.out 1, HS2_, HS3_, HS4_, HS5_⟩ (fun hHeld => ?_)
    clear hK K
    refine norm_ (a' := ?_) ?_ ?_
    rotate_left
    ·
     show Act.put _ (some 58) _ = _
     simp only [Act.put, List.setIfInBounds_toArray, List.set_cons_zero, List.set_cons_succ, i64_w, i32_w]
     rfl
    refine pure_ (i := 14) (N := some 59) (v := ?_) (a' := ?_) #[true, true, true, true, true, true, true, true, true, true, true, true, true, true, true] rfl rfl (any_of HT_.out (by kernel_rfl)) (fun _ _ _ h => h) (Or.inl ⟨by rfl, ?_⟩) ?_ ?_
    rotate_left
    ·
     intro w'
     go_simp
     with_reducible rfl
    rotate_left
    ·
     simp only [Act.put, List.setIfInBounds_toArray, List.set_cons_zero, List.set_cons_succ, i64_w, i32_w]
     rfl
    refine done_ (done_of HT_.out (by kernel_rfl)) ?_
    try go_wp2
    go_ret2
    exact ⟨by first | rfl | (simp [errW_none, errW_some] <;> rfl) | (simp only [← hji34]; first | rfl | (simp [errW_none, errW_some] <;> rfl)) | (simp [*, errW_none, errW_some] <;> rfl), HB.out⟩
   rw [if_neg c38] at H
   have c38b0 : decide (t415 < 0) = false := decide_eq_false c38
   clear c38
   have H' := Aside0.mk H
   clear H
   try go_wp2
   replace HO_6 := Aside0.mk (Kd.R_drew HO_6.out); replace BK403 := Aside0.mk (blk_drew BK403.out); replace HB := Aside0.mk (below_drew1 HB.out)
   have p413 : 0 ≤ (x8_1 : Int) := of_decide_eq_true (by first | (with_reducible assumption) | assumption)
   have q413 : x8_1 < (t404.length : Int) := of_decide_eq_true (by first | (with_reducible assumption) | assumption)
   obtain ⟨ad413, e413, hx413_0, hx413_1⟩ := at_T23 (Kd.R_reads' HO_6.out).2.2 x8_1 p413 q413
   cases e413
   replace p413 := eq_true p413
   replace q413 := eq_true q413
   have p414 : 0 ≤ ((ji34) : Int) := of_decide_eq_true (by first | (with_reducible assumption) | assumption)
   have q414 : (ji34) < (t404.length : Int) := of_decide_eq_true (by first | (with_reducible assumption) | assumption)
   obtain ⟨ad414, e414, hx414_0, hx414_1⟩ := at_T23 (Kd.R_reads' HO_6.out).2.2 (ji34) p414 q414
   obtain rfl : ad413 = ad414 := (by injection e414)
   replace p414 := eq_true p414
   replace q414 := eq_true q414
   refine start_ (n := 15) (S := fun w' => w'.cell? ⟨gb403, 0, none⟩ = some (.int .i64 a0_0) ∧ w'.cell? ⟨gb403, 1, none⟩ = some (.int .i64 a0_1) ∧ w'.cell? (ad413.add ((x8_1).toNat * 2)) = some (.int .i64 ((rd_T23 t404 x8_1).f0)) ∧ w'.cell? ⟨(ad413.add ((x8_1).toNat * 2)).block, (ad413.add ((x8_1).toNat * 2)).off + 1, none⟩ = some (.int .i64 ((rd_T23 t404 x8_1).f1)) ∧ w'.cell? (ad413.add (((ji34)).toNat * 2)) = some (.int .i64 ((rd_T23 t404 (ji34)).f0)) ∧ w'.cell? ⟨(ad413.add (((ji34)).toNat * 2)).block, (ad413.add (((ji34)).toNat * 2)).off + 1, none⟩ = some (.int .i64 ((rd_T23 t404 (ji34)).f1))) (ds := []) #[false, false, false, false, false, false, false, false, false, false, false, false, false, false, false] (by kernel_rfl) rfl rfl ⟨(blk_cell BK403.out 0).trans rfl, (blk_cell BK403.out 1).trans rfl, hx413_0, hx413_1, hx414_0, hx414_1⟩ (fun hHeld => ?_); refine with_tabW dancestudioref03_Inside.tab13 dancestudioref03_Inside.bits13 (fun HT_ HW_ => ?_)
   generalize wr.drew = w41 at HO_6 BK403 HB hx413_0 hx413_1 hx414_0 hx414_1 hHeld ⊢
   refine pure_ (i := 0) (N := some 45) (v := ?_) (a' := ?_) #[true, false, false, false, false, false, false, false, false, false, false, false, false, false, false] rfl rfl (any_of HT_.out (by kernel_rfl)) (fun _ _ _ h => h) (Or.inl ⟨by rfl, ?_⟩) ?_ ?_
   rotate_left
   ·
    intro w'
    go_simp
    with_reducible rfl
   rotate_left
   ·
    simp only [Act.put, List.setIfInBounds_toArray, List.set_cons_zero, List.set_cons_succ, i64_w, i32_w]
    rfl
   refine pure_ (i := 1) (N := some 46) (v := ?_) (a' := ?_) #[true, true, false, false, false, false, false, false, false, false, false, false, false, false, false] rfl rfl (any_of HT_.out (by kernel_rfl)) (fun _ _ _ h => h) (Or.inl ⟨by rfl, ?_⟩) ?_ ?_
   rotate_left
   ·
    intro w'
    go_simp
    with_reducible rfl
   rotate_left
   ·
    simp only [Act.put, List.setIfInBounds_toArray, List.set_cons_zero, List.set_cons_succ, i64_w, i32_w]
    rfl
   refine pure_ (i := 2) (N := some 47) (v := ?_) (a' := ?_) #[true, true, true, false, false, false, false, false, false, false, false, false, false, false, false] rfl rfl (any_of HT_.out (by kernel_rfl)) (fun _ _ _ h => h) (Or.inl ⟨by rfl, ?_⟩) ?_ ?_
   rotate_left
   ·
    intro w'
    go_simp
    with_reducible rfl
   rotate_left
   ·
    simp only [Act.put, List.setIfInBounds_toArray, List.set_cons_zero, List.set_cons_succ, i64_w, i32_w]
    rfl
   refine pure_ (i := 4) (N := some 49) (v := ?_) (a' := ?_) #[true, true, true, false, true, false, false, false, false, false, false, false, false, false, false] rfl rfl (any_of HT_.out (by kernel_rfl)) (fun _ _ _ h => h) (Or.inl ⟨by rfl, ?_⟩) ?_ ?_
   rotate_left
   ·
    intro w'
    go_simp
    with_reducible rfl
   rotate_left
   ·
    simp only [Act.put, List.setIfInBounds_toArray, List.set_cons_zero, List.set_cons_succ, i64_w, i32_w]
    rfl
   refine pure_ (i := 5) (N := some 50) (v := ?_) (a' := ?_) #[true, true, true, false, true, true, false, false, false, false, false, false, false, false, false] rfl rfl (any_of HT_.out (by kernel_rfl)) (fun _ _ _ h => h) (Or.inl ⟨by rfl, ?_⟩) ?_ ?_
   rotate_left
   ·
    intro w'
    go_simp
    with_reducible rfl
   rotate_left
   ·
    simp only [Act.put, List.setIfInBounds_toArray, List.set_cons_zero, List.set_cons_succ, i64_w, i32_w]
    rfl
   refine pure_ (i := 6) (N := some 51) (v := ?_) (a' := ?_) #[true, true, true, false, true, true, true, false, false, false, false, false, false, false, false] rfl rfl (any_of HT_.out (by kernel_rfl)) (fun _ _ _ h => h) (Or.inl ⟨by rfl, ?_⟩) ?_ ?_
   rotate_left
   ·
    intro w'
    go_simp
    with_reducible rfl
   rotate_left
   ·
    simp only [Act.put, List.setIfInBounds_toArray, List.set_cons_zero, List.set_cons_succ, i64_w, i32_w]
    rfl
   refine pure_ (i := 7) (N := some 52) (v := ?_) (a' := ?_) #[true, true, true, false, true, true, true, true, false, false, false, false, false, false, false] rfl rfl (any_of HT_.out (by kernel_rfl)) (fun _ _ _ h => h) (Or.inl ⟨by rfl, ?_⟩) ?_ ?_
   rotate_left
   ·
    intro w'
    go_simp
    with_reducible rfl
   rotate_left
   ·
    simp only [Act.put, List.setIfInBounds_toArray, List.set_cons_zero, List.set_cons_succ, i64_w, i32_w]
    rfl
   refine pure_ (i := 8) (N := some 53) (v := ?_) (a' := ?_) #[true, true, true, false, true, true, true, true, true, false, false, false, false, false, false] rfl rfl (any_of HT_.out (by kernel_rfl)) (fun _ _ _ h => h) (Or.inl ⟨by rfl, ?_⟩) ?_ ?_
   rotate_left
   ·
    intro w'
    go_simp
    with_reducible rfl
   rotate_left
   ·
    simp only [Act.put, List.setIfInBounds_toArray, List.set_cons_zero, List.set_cons_succ, i64_w, i32_w]
    rfl
   refine pure_ (i := 9) (N := some 54) (v := ?_) (a' := ?_) #[true, true, true, false, true, true, true, true, true, true, false, false, false, false, false] rfl rfl (any_of HT_.out (by kernel_rfl)) (fun _ _ _ h => h) (Or.inl ⟨by rfl, ?_⟩) ?_ ?_
   rotate_left
   ·
    intro w'
    go_simp
    with_reducible rfl
   rotate_left
   ·
    simp only [Act.put, List.setIfInBounds_toArray, List.set_cons_zero, List.set_cons_succ, i64_w, i32_w]
    rfl
   refine pure_ (i := 10) (N := some 55) (v := ?_) (a' := ?_) #[true, true, true, false, true, true, true, true, true, true, true, false, false, false, false] rfl rfl (any_of HT_.out (by kernel_rfl)) (fun _ _ _ h => h) (Or.inl ⟨by rfl, ?_⟩) ?_ ?_
   rotate_left
   ·
    intro w'
    go_simp
    with_reducible rfl
   rotate_left
   ·
    simp only [Act.put, List.setIfInBounds_toArray, List.set_cons_zero, List.set_cons_succ, i64_w, i32_w]
    rfl
   refine take_ (i := 3) (N := some 48) (v := ?_) (a' := ?_) #[true, true, true, true, true, true, true, true, true, true, true, false, false, false, false] rfl rfl (take_ofW HT_.out HW_.out (by kernel_rfl)) (fun _ _ _ h => h) (Or.inl ⟨by rfl, ?_⟩) hHeld ?_ ?_
   rotate_left
   ·
    rintro w' ⟨s0, s1, s2, s3, s4, s5⟩
    go_simp
    with_reducible rfl
   rotate_left
   ·
    simp only [Act.put, List.setIfInBounds_toArray, List.set_cons_zero, List.set_cons_succ, i64_w, i32_w]
    rfl
   refine take_ (i := 11) (N := some 56) (v := ?_) (a' := ?_) #[true, true, true, true, true, true, true, true, true, true, true, true, false, false, false] rfl rfl (take_ofW HT_.out HW_.out (by kernel_rfl)) (fun _ _ _ h => h) (Or.inl ⟨by rfl, ?_⟩) hHeld ?_ ?_
   rotate_left
   ·
    rintro w' ⟨s0, s1, s2, s3, s4, s5⟩
    go_simp
    with_reducible rfl
   rotate_left
   ·
    simp only [Act.put, List.setIfInBounds_toArray, List.set_cons_zero, List.set_cons_succ, i64_w, i32_w]
    rfl
   refine take_ (i := 12) (N := some 57) (v := ?_) (a' := ?_) #[true, true, true, true, true, true, true, true, true, true, true, true, true, false, false] rfl rfl (take_ofW HT_.out HW_.out (by kernel_rfl)) (fun _ _ _ h => h) (Or.inl ⟨by rfl, ?_⟩) hHeld ?_ ?_
   rotate_left
   ·
    rintro w' ⟨s0, s1, s2, s3, s4, s5⟩
    go_simp
    with_reducible rfl
   rotate_left
   ·
    simp only [Act.put, List.setIfInBounds_toArray, List.set_cons_zero, List.set_cons_succ, i64_w, i32_w]
    rfl
   refine one_ (i := 13) (N := some 58) #[true, true, true, true, true, true, true, true, true, true, true, true, true, true, false] rfl rfl (one_of HT_.out (by kernel_rfl)) (by decide) (fun K hK => ?_)
   refine goes_ Try.func34 (by kernel_rfl) rfl #[.agg #[.int .i64 ((rd_T23 t404 x8_1).f0), .int .i64 ((rd_T23 t404 x8_1).f1)], .agg #[.int .i64 ((rd_T23 t404 (ji34)).f0), .int .i64 ((rd_T23 t404 (ji34)).f1)], .agg #[.int .i64 a0_0, .int .i64 a0_1]] (by rfl) rfl rfl (by (try simp only [List.map_toArray, List.map_cons, List.map_nil]); first | done | (simp only [hji34]; rfl) | rfl | (simp only [List.length_drop, List.length_take]; rfl)) ?_
   with_reducible refine (dancestudioref03_cross.calls ((rd_T23 t404 x8_1).f0) ((rd_T23 t404 x8_1).f1) ((rd_T23 t404 (ji34)).f0) ((rd_T23 t404 (ji34)).f1) a0_0 a0_1 t415 _ A37.out).mono ?_
   rintro e w42 ⟨rfl, hb⟩
   have HS2_ := (hb.cell (World.block_lt_of_cell? _ _ (hHeld.2.2.1))).trans (hHeld.2.2.1)
   have HS3_ := (hb.cell (World.block_lt_of_cell? _ _ (hHeld.2.2.2.1))).trans (hHeld.2.2.2.1)
   have HS4_ := (hb.cell (World.block_lt_of_cell? _ _ (hHeld.2.2.2.2.1))).trans (hHeld.2.2.2.2.1)
   have HS5_ := (hb.cell (World.block_lt_of_cell? _ _ (hHeld.2.2.2.2.2))).trans (hHeld.2.2.2.2.2)
   refine ⟨_, rfl, ?_⟩
   replace HO_6 := Aside0.mk (Kd.R_below HO_6.out hb); replace BK403 := mBb BK403 hb; replace HB := mSt HB hb
   (try clear hb)
   (try clear hb2)
   (try clear hk)
   (try clear hi)
   refine hK.out _ _ ⟨blk_cell BK403.out 0, blk_cell BK403.out 1, HS2_, HS3_, HS4_, HS5_⟩ (fun hHeld => ?_)
   clear hK K
   refine norm_ (a' := ?_) ?_ ?_
   rotate_left
   ·
    show Act.put _ (some 58) _ = _
    simp only [Act.put, List.setIfInBounds_toArray, List.set_cons_zero, List.set_cons_succ, i64_w, i32_w]
    rfl
   refine pure_ (i := 14) (N := some 59) (v := ?_) (a' := ?_) #[true, true, true, true, true, true, true, true, true, true, true, true, true, true, true] rfl rfl (any_of HT_.out (by kernel_rfl)) (fun _ _ _ h => h) (Or.inl ⟨by rfl, ?_⟩) ?_ ?_
   rotate_left
   ·
    intro w'
    go_simp
    with_reducible rfl
   rotate_left
   ·
    simp only [Act.put, List.setIfInBounds_toArray, List.set_cons_zero, List.set_cons_succ, i64_w, i32_w]
    rfl
   refine done_ (done_of HT_.out (by kernel_rfl)) ?_
   try go_wp2
   go_roundg k1
   case measure => have := HK1.out; omega
   case rel => exact ⟨(wrap64 (x8_1 + 1)), (by first | rfl | (simp; done) | (simp [*]; done)), H', ⟨by have := HK1.out; omega⟩, ⟨by (with_reducible repeat (first | apply Kd.R_alloc | apply Kd.R_drewN | apply Kd.R_drew)); exact HO_6.out⟩, ⟨BK403.out⟩, ⟨HB.out⟩⟩
end Go.Proofs.Ytmilejcbkpkplaa.PAll
-- Written by wip/tools/handprint.py: walks of the functions that the law reaches; Lean checks them.
namespace Go.Proofs.Ytmilejcbkpkplaa.PAll
open Go.RowKit Go.Proofs.YtmilejcbkpkplaaW.PrintWords Go.Proofs.YtmilejcbkpkplaaW.PrintLast Go.Proofs.YtmilejcbkpkplaaW.PrintMore
attribute [local go_sem] max2_int min2_int max_two min_two max_three min_three max_four min_four   -- for this text's walks alone
set_option linter.unusedVariables false
set_option linter.unusedSimpArgs false

/-! ### dancestudiolaw03_GeomInside: function 8 -/
def dancestudiolaw03_GeomInside.f (k : Nat) (a0_0 : Int) (a0_1 : Int) (l1 : List (S23)) : Option (Bool) := if (l1.length : Int) > 20 then ((dancestudiolaw03_awake.f k).bind fun t417 => (some t417)) else ((geom_Inside.f k a0_0 a0_1 l1).bind fun bt418 => ((dancestudioref03_Inside.f k a0_0 a0_1 l1).bind fun bt420 => (if (bt418.1 == bt420.1) = true then (if bt418.2 = bt420.2 then ((dancestudiolaw03_awake.f k).bind fun t422 => (some t422)) else (none)) else (none))))
theorem dancestudiolaw03_GeomInside.mono : ∀ a0 a1 a2 k, LeO (dancestudiolaw03_GeomInside.f k a0 a1 a2) (dancestudiolaw03_GeomInside.f (k + 1) a0 a1 a2) := by
 intro a0 a1 a2 k
 unfold dancestudiolaw03_GeomInside.f
 repeat' first
   | (with_reducible exact dancestudiolaw03_awake.mono _)
   | (with_reducible exact dancestudioref03_Inside.mono _ _ _ _)
   | (with_reducible exact geom_Inside.mono _ _ _ _)
   | (with_reducible exact LeO.refl _)
   | (with_reducible exact LeO.none _)
   | (with_reducible refine LeO.ite ?_ ?_)
   | (with_reducible refine LeO.bind ?_ (fun _ => ?_))
   | exact dancestudiolaw03_awake.mono _
   | exact dancestudioref03_Inside.mono _ _ _ _
   | exact geom_Inside.mono _ _ _ _
   | exact LeO.none _
   | refine LeO.ite ?_ ?_
   | refine LeO.bind ?_ (fun _ => ?_)
set_option maxHeartbeats 8000000 in
set_option maxRecDepth 100000 in
theorem dancestudiolaw03_GeomInside.calls (k : Nat) (a0_0 : Int) (a0_1 : Int) (A1 : Option Addr) (c1 : Nat) (l1 : List (S23)) (r : Bool) (w : World) (hr1 : Kd.C k23 w A1 l1.length l1) (hc1 : l1.length ≤ c1) (h : dancestudiolaw03_GeomInside.f k a0_0 a0_1 l1 = some r) :
  Calls Try.prog 8 #[.agg #[.int .i64 a0_0, .int .i64 a0_1], .slice A1 l1.length c1] w fun e w' => e = .returned (.bool r) ∧ Below w.heap.size w w' := by
 have hu23 := Try.underlying23
 have HR1 := Aside0.mk hr1
 have HC1 := Aside0.mk hc1
 clear hr1 hc1
 have HB := Aside0.mk (Below.refl w.heap.size w)
 have H : (if (l1.length : Int) > 20 then ((dancestudiolaw03_awake.f k).bind fun t417 => (some t417)) else ((geom_Inside.f k a0_0 a0_1 l1).bind fun bt418 => ((dancestudioref03_Inside.f k a0_0 a0_1 l1).bind fun bt420 => (if (bt418.1 == bt420.1) = true then (if bt418.2 = bt420.2 then ((dancestudiolaw03_awake.f k).bind fun t422 => (some t422)) else (none)) else (none))))) = some r := h
 clear h
 by_cases c3 : (l1.length : Int) > 20
 ·
  rw [if_pos c3] at H
  have c3b0 : decide (20 < (l1.length : Int)) = true := decide_eq_true c3
  have c3b1 : decide (20 < l1.length) = true := decide_eq_true (by omega)
  clear c3
  replace H := Option.bind_eq_some_iff.mp H
  obtain ⟨t417, A40, H⟩ := H
  replace H : (some t417) = some r := H
  have A4 := Aside0.mk A40
  clear A40
  obtain rfl := Option.some.inj H
  go_enter Try.func8, Try.ntmps8
  go_wp2_with (first | ((with_reducible refine gate_dst (N := 2) rfl ?_); refine box_event ?hg (N := 2) ?hd (cs := #[.int .i64 a0_0, .int .i64 a0_1]) (t := 23) ?hr ?_; (case hd => rfl); (case hg => rfl); (case hr => first | (go_simp; done) | (go_simp; rfl)); intro gb416 hg w5 hbox hb; have n0_ := Aside0.mk (below_step (by repeat (first | (with_reducible first | exact HB.out | apply below_alloc | apply pw_below_drewN | apply below_drew1) | exact HB.out)) hb); have n1_ := Aside0.mk (hbox); have n2_ := Aside0.mk ((by rw [hg]; exact (below_size (by repeat (first | (with_reducible first | exact HB.out | apply below_alloc | apply pw_below_drewN | apply below_drew1) | exact HB.out))) : w.heap.size ≤ gb416)); have n3_ := Aside0.mk ((by rw [hg]; exact (below_size (by repeat (first | (with_reducible first | exact HB.out | apply below_alloc | apply pw_below_drewN | apply below_drew1) | exact HB.out))) : w.heap.size ≤ gb416)); clear HB; have HB := n0_; have BK416 := n1_; have GW416 := n2_; have GE416 := n3_; clear n0_ n1_ n2_ n3_; clear hb hbox hg) | ((with_reducible refine gate_callee (f := 15) rfl ?_); refine goesL_ (some 12) rfl rfl Try.func15 (by kernel_rfl) rfl #[] rfl (by (try simp only [List.map_toArray, List.map_cons, List.map_nil]); first | done | rfl | (simp only [List.length_drop, List.length_take]; rfl)) ?_; (with_reducible refine (dancestudiolaw03_awake.calls k  t417 _ A4.out).mono ?_); rintro e w6 ⟨rfl, hb⟩; refine ⟨_, rfl, ?_⟩; have n0_ := Aside0.mk (blk_below (g := gb416) (o := .cells #[.int .i64 a0_0, .int .i64 a0_1] 23 (0, 0)) (by (with_reducible repeat (first | refine blk_drewN ?_ _ | refine blk_drew ?_ | refine blk_alloc ?_ _)); exact BK416.out) hb); have n1_ := Aside0.mk (below_step (by repeat (first | (with_reducible first | exact HB.out | apply below_alloc | apply pw_below_drewN | apply below_drew1 | refine below_set ?_ GE416.out) | exact HB.out)) hb); clear BK416; clear HB; have BK416 := n0_; have HB := n1_; clear n0_ n1_; (try clear hb); (try clear hb2); (try clear hk); (try clear hi)))
  go_ret
  exact ⟨by first | rfl | (simp [errW_none, errW_some] <;> rfl) | (simp [*, errW_none, errW_some] <;> rfl), by repeat (first | (with_reducible first | exact HB.out | apply below_alloc | apply pw_below_drewN | apply below_drew1 | refine below_set ?_ GE416.out) | exact HB.out)⟩
 ·
  rw [if_neg c3] at H
  have c3b0 : decide (20 < (l1.length : Int)) = false := decide_eq_false c3
  have c3b1 : decide (20 < l1.length) = false := decide_eq_false (by omega)
  clear c3
  replace H := Option.bind_eq_some_iff.mp H
  obtain ⟨⟨t418, t419⟩, A70, H⟩ := H
  replace H : ((dancestudioref03_Inside.f k a0_0 a0_1 l1).bind fun bt420 => (if (t418 == bt420.1) = true then (if t419 = bt420.2 then ((dancestudiolaw03_awake.f k).bind fun t422 => (some t422)) else (none)) else (none))) = some r := H
  have A7 := Aside0.mk A70
  clear A70
  replace H := Option.bind_eq_some_iff.mp H
  obtain ⟨⟨t420, t421⟩, A80, H⟩ := H
  replace H : (if (t418 == t420) = true then (if t419 = t421 then ((dancestudiolaw03_awake.f k).bind fun t422 => (some t422)) else (none)) else (none)) = some r := H
  have A8 := Aside0.mk A80
  clear A80
  by_cases c9 : (t418 == t420) = true
  ·
   rw [if_pos c9] at H
   have c9b0 : (t418 == t420) = true := c9
   (try (have c9b1 : decide (t418 = t420) = true := by simpa using c9))
   (try (have c9b2 : (t418 == t420) = true := by simpa using c9))
   clear c9
   by_cases c10 : t419 = t421
   ·
    rw [if_pos c10] at H
    have c10b0 : (t419 == t421) = true := beq_iff_eq.mpr c10
    have c10b1 : (t419 != t421) = false := bne_eq_false_iff_eq.mpr c10
    clear c10
    replace H := Option.bind_eq_some_iff.mp H
    obtain ⟨t422, A110, H⟩ := H
    replace H : (some t422) = some r := H
    have A11 := Aside0.mk A110
    clear A110
    obtain rfl := Option.some.inj H
    go_enter Try.func8, Try.ntmps8
    go_wp2_with (first | ((with_reducible refine gate_dst (N := 2) rfl ?_); refine box_event ?hg (N := 2) ?hd (cs := #[.int .i64 a0_0, .int .i64 a0_1]) (t := 23) ?hr ?_; (case hd => rfl); (case hg => rfl); (case hr => first | (go_simp; done) | (go_simp; rfl)); intro gb416 hg w12 hbox hb; have n0_ := Aside0.mk (below_step (by repeat (first | (with_reducible first | exact HB.out | apply below_alloc | apply pw_below_drewN | apply below_drew1) | exact HB.out)) hb); have n1_ := Aside0.mk (hbox); have n2_ := Aside0.mk ((by rw [hg]; exact (below_size (by repeat (first | (with_reducible first | exact HB.out | apply below_alloc | apply pw_below_drewN | apply below_drew1) | exact HB.out))) : w.heap.size ≤ gb416)); have n3_ := Aside0.mk ((by rw [hg]; exact (below_size (by repeat (first | (with_reducible first | exact HB.out | apply below_alloc | apply pw_below_drewN | apply below_drew1) | exact HB.out))) : w.heap.size ≤ gb416)); clear HB; have HB := n0_; have BK416 := n1_; have GW416 := n2_; have GE416 := n3_; clear n0_ n1_ n2_ n3_; clear hb hbox hg; have hcz13_0 : w12.cell? ⟨gb416, 0, none⟩ = some (.int .i64 a0_0) := (blk_cell BK416.out 0).trans rfl; have hcz13_1 : w12.cell? ⟨gb416, 1, none⟩ = some (.int .i64 a0_1) := (blk_cell BK416.out 1).trans rfl; have hfz13_0 := blk_frozen BK416.out 0; have hfz13_1 := blk_frozen BK416.out 1) | ((with_reducible refine gate_callee (f := 23) rfl ?_); refine goesL_ (some 16) rfl rfl Try.func23 (by kernel_rfl) rfl #[.agg #[.int .i64 a0_0, .int .i64 a0_1], .slice A1 l1.length c1] rfl (by (try simp only [List.map_toArray, List.map_cons, List.map_nil]); first | done | rfl | (simp only [List.length_drop, List.length_take]; rfl)) ?_; (with_reducible refine (geom_Inside.calls k a0_0 a0_1 _ _ l1 t418 t419 _ ?side1 ?side2 A7.out).mono ?_); (case side1 => repeat (first | exact (Kd.C_below HR1.out HB.out) | (with_reducible refine Kd.C_alloc ?_ _) | (with_reducible refine Kd.C_drewN ?_ _) | (with_reducible refine Kd.C_drew ?_))); (case side2 => exact HC1.out); rintro e w14 ⟨rfl, hb⟩; refine ⟨_, rfl, ?_⟩; have n0_ := Aside0.mk (blk_below (g := gb416) (o := .cells #[.int .i64 a0_0, .int .i64 a0_1] 23 (0, 0)) (by (with_reducible repeat (first | refine blk_drewN ?_ _ | refine blk_drew ?_ | refine blk_alloc ?_ _)); exact BK416.out) hb); have n1_ := Aside0.mk (below_step (by repeat (first | (with_reducible first | exact HB.out | apply below_alloc | apply pw_below_drewN | apply below_drew1 | refine below_set ?_ GE416.out) | exact HB.out)) hb); clear BK416; clear HB; have BK416 := n0_; have HB := n1_; clear n0_ n1_; (try clear hb); (try clear hb2); (try clear hk); (try clear hi); have hcz15_0 : w14.cell? ⟨gb416, 0, none⟩ = some (.int .i64 a0_0) := (blk_cell BK416.out 0).trans rfl; have hcz15_1 : w14.cell? ⟨gb416, 1, none⟩ = some (.int .i64 a0_1) := (blk_cell BK416.out 1).trans rfl; have hfz15_0 := blk_frozen BK416.out 0; have hfz15_1 := blk_frozen BK416.out 1) | ((with_reducible refine gate_callee (f := 24) rfl ?_); refine goesL_ (some 22) rfl rfl Try.func24 (by kernel_rfl) rfl #[.agg #[.int .i64 a0_0, .int .i64 a0_1], .slice A1 l1.length c1] rfl (by (try simp only [List.map_toArray, List.map_cons, List.map_nil]); first | done | rfl | (simp only [List.length_drop, List.length_take]; rfl)) ?_; (with_reducible refine (dancestudioref03_Inside.calls k a0_0 a0_1 _ _ l1 t420 t421 _ ?side1 ?side2 A8.out).mono ?_); (case side1 => repeat (first | exact (Kd.C_below HR1.out HB.out) | (with_reducible refine Kd.C_alloc ?_ _) | (with_reducible refine Kd.C_drewN ?_ _) | (with_reducible refine Kd.C_drew ?_))); (case side2 => exact HC1.out); rintro e w16 ⟨rfl, hb⟩; refine ⟨_, rfl, ?_⟩; have n0_ := Aside0.mk (blk_below (g := gb416) (o := .cells #[.int .i64 a0_0, .int .i64 a0_1] 23 (0, 0)) (by (with_reducible repeat (first | refine blk_drewN ?_ _ | refine blk_drew ?_ | refine blk_alloc ?_ _)); exact BK416.out) hb); have n1_ := Aside0.mk (below_step (by repeat (first | (with_reducible first | exact HB.out | apply below_alloc | apply pw_below_drewN | apply below_drew1 | refine below_set ?_ GE416.out) | exact HB.out)) hb); clear BK416; clear HB; have BK416 := n0_; have HB := n1_; clear n0_ n1_; (try clear hb); (try clear hb2); (try clear hk); (try clear hi)) | (go_at_call 15; (with_reducible refine (dancestudiolaw03_awake.calls k  t422 _ A11.out).mono ?_); rintro e w17 ⟨rfl, hb⟩; have n0_ := Aside0.mk (blk_below (g := gb416) (o := .cells #[.int .i64 a0_0, .int .i64 a0_1] 23 (0, 0)) (by (with_reducible repeat (first | refine blk_drewN ?_ _ | refine blk_drew ?_ | refine blk_alloc ?_ _)); exact BK416.out) hb); have n1_ := Aside0.mk (below_step (by repeat (first | (with_reducible first | exact HB.out | apply below_alloc | apply pw_below_drewN | apply below_drew1 | refine below_set ?_ GE416.out) | exact HB.out)) hb); clear BK416; clear HB; have BK416 := n0_; have HB := n1_; clear n0_ n1_; (try clear hb); (try clear hb2); (try clear hk); (try clear hi)))
    go_ret
    exact ⟨by first | rfl | (simp [errW_none, errW_some] <;> rfl) | (simp [*, errW_none, errW_some] <;> rfl), by repeat (first | (with_reducible first | exact HB.out | apply below_alloc | apply pw_below_drewN | apply below_drew1 | refine below_set ?_ GE416.out) | exact HB.out)⟩
   ·
    rw [if_neg c10] at H
    exact absurd H (by simp)
  ·
   rw [if_neg c9] at H
   exact absurd H (by simp)
end Go.Proofs.Ytmilejcbkpkplaa.PAll
/- Plain facts about rounded quotients, square roots, greatest common divisors and the order of products, without any program. -/
namespace Go.Proofs.Ytmilejcbkpkplaa.MathNum
open Go.RowKit

theorem w64 {n : Int} (h1 : -9223372036854775808 ≤ n) (h2 : n ≤ 9223372036854775807) : wrap64 n = n := by
  unfold wrap64; omega

theorem mul_range {a b A B : Int} (h1 : -A ≤ a) (h2 : a ≤ A) (h3 : 0 ≤ b) (h4 : b ≤ B) : -(A * B) ≤ a * b ∧ a * b ≤ A * B := by
  have hA : 0 ≤ A := by omega
  have k1 : a * b ≤ A * b := Int.mul_le_mul_of_nonneg_right h2 h3
  have k2 : A * b ≤ A * B := Int.mul_le_mul_of_nonneg_left h4 hA
  have k3 : -A * b ≤ a * b := Int.mul_le_mul_of_nonneg_right h1 h3
  have k4 : -A * b = -(A * b) := Int.neg_mul A b
  omega

theorem mul_range2 {a b A B : Int} (h1 : -A ≤ a) (h2 : a ≤ A) (h3 : -B ≤ b) (h4 : b ≤ B) : -(A * B) ≤ a * b ∧ a * b ≤ A * B := by
  rcases Int.le_total 0 b with h | h
  · exact mul_range h1 h2 h h4
  · have := mul_range (a := a) (b := -b) (B := B) h1 h2 (by omega) (by omega)
    rw [Int.mul_neg] at this
    omega

/-- Go's quotient and remainder by a positive number, corrected, are the floor and its remainder. -/
theorem tdiv_floor {a b : Int} (hb : 0 < b) : (a.tmod b < 0 → a.tdiv b - 1 = a / b ∧ a.tmod b + b = a % b) ∧ (¬ a.tmod b < 0 → a.tdiv b = a / b ∧ a.tmod b = a % b) := by
  have e := Int.mul_tdiv_add_tmod a b
  have l := Int.tmod_lt_of_pos a hb
  have l2 : -b < a.tmod b := by
    have := Int.lt_tmod_of_pos a hb
    exact this
  constructor
  · intro h
    have := (Int.ediv_emod_unique (a := a) (b := b) (r := a.tmod b + b) (q := a.tdiv b - 1) hb).mpr ⟨by rw [Int.mul_sub, Int.mul_one]; omega, by omega, by omega⟩
    exact ⟨this.1.symm, this.2.symm⟩
  · intro h
    have := (Int.ediv_emod_unique (a := a) (b := b) (r := a.tmod b) (q := a.tdiv b) hb).mpr ⟨by omega, by omega, l⟩
    exact ⟨this.1.symm, this.2.symm⟩

theorem ediv_range {a b A : Int} (hb : 0 < b) (h1 : -A ≤ a) (h2 : a ≤ A) : -A ≤ a / b ∧ a / b ≤ A := by
  have hA : 0 ≤ A := by omega
  constructor
  · have : -A * b ≤ a := by
      have : -A * b ≤ -A * 1 := Int.mul_le_mul_of_nonpos_left (by omega) (by omega)
      omega
    exact Int.le_ediv_of_mul_le hb this
  · have : a < (A + 1) * b := by
      have : (A + 1) * 1 ≤ (A + 1) * b := Int.mul_le_mul_of_nonneg_left (by omega) (by omega)
      omega
    have := Int.ediv_lt_of_lt_mul hb this
    omega

/-- a / b, rounded to the nearest, halves to the even number, for a positive b. -/
def near (a b : Int) : Int := if 2 * (a % b) > b ∨ 2 * (a % b) = b ∧ (a / b) % 2 ≠ 0 then a / b + 1 else a / b

/-- What 'near' is, by its own words. -/
theorem near_spec {a b : Int} (hb : 0 < b) : ∃ q r : Int, a = b * q + r ∧ 0 ≤ r ∧ r < b ∧ near a b = (if 2 * r > b ∨ 2 * r = b ∧ q % 2 ≠ 0 then q + 1 else q) ∧ q = a / b ∧ r = a % b :=
  ⟨a / b, a % b, (Int.mul_ediv_add_emod a b).symm, Int.emod_nonneg a (by omega), Int.emod_lt_of_pos a hb, rfl, rfl, rfl⟩

theorem near_of {a b q r : Int} (hb : 0 < b) (e : a = b * q + r) (h0 : 0 ≤ r) (h1 : r < b) : near a b = (if 2 * r > b ∨ 2 * r = b ∧ q % 2 ≠ 0 then q + 1 else q) := by
  have := (Int.ediv_emod_unique (a := a) (b := b) (r := r) (q := q) hb).mpr ⟨by omega, h0, h1⟩
  unfold near
  rw [this.1, this.2]

/-- Exact to half a unit, halves to the even number. -/
theorem near_off {a b : Int} (hb : 0 < b) : 2 * (a - near a b * b) ≤ b ∧ -b ≤ 2 * (a - near a b * b) ∧ (2 * (a - near a b * b) = b ∨ 2 * (a - near a b * b) = -b → near a b % 2 = 0) := by
  obtain ⟨q, r, e, h0, h1, hn, _, _⟩ := near_spec (a := a) hb
  rw [hn]
  split
  · have : (q + 1) * b = b * q + b := by rw [Int.add_mul, Int.mul_comm]; omega
    rw [this]; omega
  · have : q * b = b * q := Int.mul_comm q b
    rw [this]; omega

/-- It is the only such number. -/
theorem near_unique {a b n : Int} (hb : 0 < b) (h1 : 2 * (a - n * b) ≤ b) (h2 : -b ≤ 2 * (a - n * b)) (h3 : 2 * (a - n * b) = b ∨ 2 * (a - n * b) = -b → n % 2 = 0) : near a b = n := by
  obtain ⟨g1, g2, g3⟩ := near_off (a := a) hb
  generalize near a b = m at *
  -- m and n differ by at most one
  have k1 : (m - n) * b ≤ b := by rw [Int.sub_mul]; omega
  have k2 : -b ≤ (m - n) * b := by rw [Int.sub_mul]; omega
  have l1 : m - n ≤ 1 := by
    apply Int.not_lt.mp; intro h
    have : 2 * b ≤ (m - n) * b := Int.mul_le_mul_of_nonneg_right (by omega) (by omega)
    omega
  have l2 : -1 ≤ m - n := by
    apply Int.not_lt.mp; intro h
    have : (m - n) * b ≤ -2 * b := Int.mul_le_mul_of_nonneg_right (by omega) (by omega)
    omega
  have h : m = n ∨ m = n + 1 ∨ m = n - 1 := by omega
  rcases h with h | h | h
  · exact h
  · subst h
    rw [Int.add_mul] at *
    have a1 := h3 (Or.inl (by omega))
    have a2 := g3 (Or.inr (by omega))
    omega
  · subst h
    rw [Int.sub_mul] at *
    have a1 := h3 (Or.inr (by omega))
    have a2 := g3 (Or.inl (by omega))
    omega

theorem near_neg {a b : Int} (hb : 0 < b) : near (-a) b = -near a b := by
  obtain ⟨g1, g2, g3⟩ := near_off (a := a) hb
  apply near_unique hb
  · rw [Int.neg_mul]; omega
  · rw [Int.neg_mul]; omega
  · intro h
    rw [Int.neg_mul] at h
    have := g3 (by omega)
    omega

theorem near_exact {b q : Int} (hb : 0 < b) : near (b * q) b = q := by
  rw [near_of hb (q := q) (r := 0) (by omega) (by omega) hb]
  rw [if_neg (by omega)]

theorem near_shift {a b c : Int} (hb : 0 < b) (hc : c % 2 = 0) : near (a + c * b) b = near a b + c := by
  obtain ⟨g1, g2, g3⟩ := near_off (a := a) hb
  apply near_unique hb
  · rw [Int.add_mul]; omega
  · rw [Int.add_mul]; omega
  · intro h
    rw [Int.add_mul] at h
    have := g3 (by omega)
    omega

theorem near_lo {a b m : Int} (hb : 0 < b) (h : m * b ≤ a) : m ≤ near a b := by
  obtain ⟨q, r, e, h0, h1, hn, hq, _⟩ := near_spec (a := a) hb
  have : m ≤ q := by rw [hq]; exact Int.le_ediv_of_mul_le hb h
  rw [hn]; split <;> omega

theorem near_hi {a b m : Int} (hb : 0 < b) (h : a ≤ m * b) : near a b ≤ m := by
  have := near_lo (a := -a) (m := -m) hb (by rw [Int.neg_mul]; omega)
  rw [near_neg hb] at this
  omega

theorem near_range {a b A : Int} (hb : 0 < b) (h1 : -A ≤ a) (h2 : a ≤ A) : -A ≤ near a b ∧ near a b ≤ A := by
  have hA : 0 ≤ A := by omega
  have k : A * 1 ≤ A * b := Int.mul_le_mul_of_nonneg_left (by omega) hA
  exact ⟨near_lo hb (by rw [Int.neg_mul]; omega), near_hi hb (by omega)⟩

/-- -1, 0 or 1, as a is less than, equal to or greater than b. -/
def cmp3 (a b : Int) : Int := if a < b then -1 else if a > b then 1 else 0

theorem cmp3_lt {a b : Int} (h : a < b) : cmp3 a b = -1 := by unfold cmp3; rw [if_pos h]
theorem cmp3_gt {a b : Int} (h : b < a) : cmp3 a b = 1 := by unfold cmp3; rw [if_neg (by omega), if_pos h]
theorem cmp3_eq {a b : Int} (h : a = b) : cmp3 a b = 0 := by unfold cmp3; rw [if_neg (by omega), if_neg (by omega)]
theorem cmp3_swap (a b : Int) : cmp3 b a = -cmp3 a b := by unfold cmp3; split <;> split <;> (try split) <;> omega
theorem cmp3_range (a b : Int) : -1 ≤ cmp3 a b ∧ cmp3 a b ≤ 1 := by unfold cmp3; split <;> (try split) <;> omega
theorem cmp3_cases (a b : Int) : (a < b ∧ cmp3 a b = -1) ∨ (a = b ∧ cmp3 a b = 0) ∨ (b < a ∧ cmp3 a b = 1) := by
  rcases Int.lt_trichotomy a b with h | h | h
  · exact Or.inl ⟨h, cmp3_lt h⟩
  · exact Or.inr (Or.inl ⟨h, cmp3_eq h⟩)
  · exact Or.inr (Or.inr ⟨h, cmp3_gt h⟩)

end Go.Proofs.Ytmilejcbkpkplaa.MathNum
/- Words for what a printed function answers once it has rounds enough. -/
namespace Go.Proofs.Ytmilejcbkpkplaa.EvWords
open Go Go.RowKit Go.Proofs.YtmilejcbkpkplaaW.PrintWords Go.Proofs.YtmilejcbkpkplaaW.PrintLast Go.Proofs.YtmilejcbkpkplaaW.PrintMore Go.Proofs.Ytmilejcbkpkplaa.MathNum

theorem ev_pos {α : Type} {c : Prop} [Decidable c] (h : c) {A B : Nat → Option α} {r : α} (e : Ev A r) : Ev (fun k => if c then A k else B k) r := by
  simp only [if_pos h]; exact e
theorem ev_neg {α : Type} {c : Prop} [Decidable c] (h : ¬ c) {A B : Nat → Option α} {r : α} (e : Ev B r) : Ev (fun k => if c then A k else B k) r := by
  simp only [if_neg h]; exact e
theorem ev_now {α : Type} (r : α) : Ev (fun _ => some r) r := Ev.now r
theorem ev_eq {α : Type} {g : Nat → Option α} {r r' : α} (e : Ev g r) (h : r = r') : Ev g r' := h ▸ e
theorem ev_some {α : Type} {g : Nat → Option α} {r : α} (e : Ev g r) : ∃ k, g k = some r := e.rounds
/-- A step of a loop, or of a join: the number of rounds goes down by one. -/
theorem ev_step {α : Type} {g f : Nat → Option α} {r : α} (h : ∀ k, g (k + 1) = f k) (e : Ev f r) : Ev g r := Ev.step h e
theorem ev_let {α β : Type} {a : α} {f : Nat → α → Option β} {r : β} (e : Ev (fun n => f n a) r) : Ev (fun n => (some a).bind (f n)) r := by
  simpa only [Option.bind_some] using e

/-- A list's element behind a store. -/
theorem rd_set {l : List Int} {i j v : Int} (h0 : 0 ≤ i) (h1 : i < l.length) (hj : 0 ≤ j) : rd (l.set i.toNat v) j = if j = i then v else rd l j := by
  unfold rd
  rw [List.getD_eq_getElem?_getD, List.getElem?_set, List.getD_eq_getElem?_getD]
  by_cases h : j = i
  · subst h
    rw [if_pos rfl, if_pos rfl, if_pos (by omega)]; rfl
  · rw [if_neg (by omega), if_neg h]
theorem rdB_set {l : List Bool} {i j : Int} {v : Bool} (h0 : 0 ≤ i) (h1 : i < l.length) (hj : 0 ≤ j) : rdOf false (l.set i.toNat v) j = if j = i then v else rdOf false l j := by
  unfold rdOf
  rw [List.getD_eq_getElem?_getD, List.getElem?_set, List.getD_eq_getElem?_getD]
  by_cases h : j = i
  · subst h
    rw [if_pos rfl, if_pos rfl, if_pos (by omega)]; rfl
  · rw [if_neg (by omega), if_neg h]
theorem rd_rep {n : Nat} {v j : Int} (h0 : 0 ≤ j) (h1 : j < n) : rd (List.replicate n v) j = v := by
  unfold rd
  rw [List.getD_eq_getElem?_getD, List.getElem?_replicate, if_pos (by omega)]; rfl
theorem rdB_rep {n : Nat} {j : Int} : rdOf false (List.replicate n false) j = false := by
  unfold rdOf
  rw [List.getD_eq_getElem?_getD, List.getElem?_replicate]
  split <;> rfl
end Go.Proofs.Ytmilejcbkpkplaa.EvWords
/- The chapter's examples, and which points and radii are valid. -/
namespace Go.Proofs.Ytmilejcbkpkplaa.PAll
set_option linter.unusedVariables false
open Go Go.RowKit Go.Proofs.YtmilejcbkpkplaaW.PrintWords Go.Proofs.YtmilejcbkpkplaaW.PrintLast Go.Proofs.YtmilejcbkpkplaaW.PrintMore Go.Proofs.Ytmilejcbkpkplaa.MathNum Go.Proofs.Ytmilejcbkpkplaa.EvWords

set_option maxRecDepth 100000 in
theorem awake_ev : Ev (fun k => dancestudiolaw03_awake.f k) true := Ev.of dancestudiolaw03_awake.mono (k := 60) (by decide +kernel)

/-- A number that a coordinate can be. -/
def cOk (x : Int) : Prop := -32768 ≤ x ∧ x ≤ 32768
instance (x : Int) : Decidable (cOk x) := by unfold cOk; exact inferInstance
def pOk (p : S23) : Prop := cOk p.f0 ∧ cOk p.f1
instance (p : S23) : Decidable (pOk p) := by unfold pOk; exact inferInstance
def rOk (r : Int) : Prop := 0 ≤ r ∧ r ≤ 32768
instance (r : Int) : Decidable (rOk r) := by unfold rOk; exact inferInstance

theorem rdT_nat (c : List S23) {i : Nat} (h : i < c.length) : rd_T23 c (i : Int) = c[i] := by
  unfold rd_T23
  rw [List.getD_eq_getElem?_getD, Int.toNat_natCast, List.getElem?_eq_getElem h]; rfl
theorem rd_nat (c : List Int) {i : Nat} (h : i < c.length) : rd c (i : Int) = c[i] := by
  unfold rd
  rw [List.getD_eq_getElem?_getD, Int.toNat_natCast, List.getElem?_eq_getElem h]; rfl

theorem valid_l1 {rs : List Int} (hr : rs.length ≤ 9223372036854775807) (R : Bool) (hy : (∀ r ∈ rs, rOk r) → R = true) (hn : ¬ (∀ r ∈ rs, rOk r) → R = false) (d : Nat) : ∀ i : Nat, i + d = rs.length → (∀ r ∈ rs.take i, rOk r) →
    Ev (fun k => geom_valid.l1 k rs (rs.length : Int) (i : Int)) R := by
  induction d with
  | zero =>
    intro i hi hp
    rw [List.take_of_length_le (by omega)] at hp
    rw [hy hp]
    exact ev_step (fun k => by simp only [geom_valid.l1] <;> exact rfl) (ev_neg (by omega) (ev_now _))
  | succ d ih =>
    intro i hi hp
    have hlt : i < rs.length := by omega
    refine ev_step (fun k => by simp only [geom_valid.l1] <;> exact rfl) (ev_pos (by omega) (ev_pos (by omega) (ev_pos (by omega) ?_)))
    rw [rd_nat rs hlt]
    by_cases h0 : rs[i] < 0
    · rw [hn fun h => by have := (h _ (List.getElem_mem hlt)).1; omega]
      exact ev_pos h0 (ev_now _)
    · refine ev_neg h0 ?_
      by_cases h1 : rs[i] > 32768
      · rw [hn fun h => by have := (h _ (List.getElem_mem hlt)).2; omega]
        exact ev_pos h1 (ev_now _)
      · refine ev_neg h1 ?_
        rw [w64 (by omega) (by omega)]
        refine ih (i + 1) (by omega) (fun r hm => ?_)
        rw [List.take_succ_eq_append_getElem hlt] at hm
        rcases List.mem_append.1 hm with hm | hm
        · exact hp r hm
        · rw [List.mem_singleton.1 hm]; exact ⟨by omega, by omega⟩
theorem valid_l0 {ps : List S23} {rs : List Int} (hp0 : ps.length ≤ 9223372036854775807) (hr : rs.length ≤ 9223372036854775807) (R : Bool) (hy : (∀ p ∈ ps, pOk p) → (∀ r ∈ rs, rOk r) → R = true) (hn : ¬ ((∀ p ∈ ps, pOk p) ∧ (∀ r ∈ rs, rOk r)) → R = false) (d : Nat) :
    ∀ i : Nat, i + d = ps.length → (∀ p ∈ ps.take i, pOk p) → Ev (fun k => geom_valid.l0 k rs ps (ps.length : Int) (i : Int)) R := by
  induction d with
  | zero =>
    intro i hi hp
    rw [List.take_of_length_le (by omega)] at hp
    refine ev_step (fun k => by simp only [geom_valid.l0] <;> exact rfl) (ev_neg (by omega) ?_)
    exact valid_l1 hr R (hy hp) (fun h => hn fun h' => h h'.2) rs.length 0 (by omega) (by simp)
  | succ d ih =>
    intro i hi hp
    have hlt : i < ps.length := by omega
    refine ev_step (fun k => by simp only [geom_valid.l0] <;> exact rfl) (ev_pos (by omega) (ev_pos (by omega) (ev_pos (by omega) ?_)))
    rw [rdT_nat ps hlt]
    have bad : ¬ pOk ps[i] → R = false := fun h => hn fun h' => h (h'.1 _ (List.getElem_mem hlt))
    by_cases h0 : ps[i].f0 < -32768
    · rw [bad fun h => by have := h.1.1; omega]
      exact ev_pos h0 (ev_now _)
    · refine ev_neg h0 ?_
      by_cases h1 : ps[i].f0 > 32768
      · rw [bad fun h => by have := h.1.2; omega]
        exact ev_pos h1 (ev_now _)
      · refine ev_neg h1 ?_
        by_cases h2 : ps[i].f1 < -32768
        · rw [bad fun h => by have := h.2.1; omega]
          exact ev_pos h2 (ev_now _)
        · refine ev_neg h2 ?_
          by_cases h3 : ps[i].f1 > 32768
          · rw [bad fun h => by have := h.2.2; omega]
            exact ev_pos h3 (ev_now _)
          · refine ev_neg h3 ?_
            rw [w64 (by omega) (by omega)]
            refine ih (i + 1) (by omega) (fun p hm => ?_)
            rw [List.take_succ_eq_append_getElem hlt] at hm
            rcases List.mem_append.1 hm with hm | hm
            · exact hp p hm
            · rw [List.mem_singleton.1 hm]; exact ⟨⟨by omega, by omega⟩, ⟨by omega, by omega⟩⟩
theorem valid_ev {ps : List S23} {rs : List Int} (hp : ps.length ≤ 9223372036854775807) (hr : rs.length ≤ 9223372036854775807) : Ev (fun k => geom_valid.f k ps rs) (decide ((∀ p ∈ ps, pOk p) ∧ (∀ r ∈ rs, rOk r))) := by
  simp only [geom_valid.f]
  exact valid_l0 hp hr _ (fun a b => by simpa using ⟨a, b⟩) (fun h => by simpa using h) ps.length 0 (by omega) (by simp)

theorem rValid (x y : Int) : dancestudioref03_Valid.f x y = some (decide (cOk x ∧ cOk y)) := by
  unfold dancestudioref03_Valid.f cOk
  by_cases h1 : x ≥ -32768
  · by_cases h2 : x ≤ 32768
    · by_cases h3 : y ≥ -32768
      · rw [if_pos h1, if_pos h2, if_pos h3]; exact congrArg some (decide_eq_decide.2 (by omega))
      · rw [if_pos h1, if_pos h2, if_neg h3]; exact congrArg some (decide_eq_false (by omega)).symm
    · rw [if_pos h1, if_neg h2]; exact congrArg some (decide_eq_false (by omega)).symm
  · rw [if_neg h1]; exact congrArg some (decide_eq_false (by omega)).symm
theorem rRadius (r : Int) : dancestudioref03_Radius.f r = some (decide (rOk r)) := by
  unfold dancestudioref03_Radius.f rOk
  by_cases h1 : r ≥ 0
  · rw [if_pos h1]; exact congrArg some (decide_eq_decide.2 (by omega))
  · rw [if_neg h1]; exact congrArg some (decide_eq_false (by omega)).symm

theorem minus_ok {a b c d : Int} (ha : cOk a) (hb : cOk b) (hc : cOk c) (hd : cOk d) : geom_minus.f a b c d = some (a - c, b - d) := by
  unfold geom_minus.f cOk at *
  rw [w64 (by omega) (by omega), w64 (by omega) (by omega)]
/-- Products of small numbers. -/
theorem mul_bound {a b m n : Int} (ha : -m ≤ a ∧ a ≤ m) (hb : -n ≤ b ∧ b ≤ n) : -(m * n) ≤ a * b ∧ a * b ≤ m * n := by
  have hm : 0 ≤ m := by omega
  have hn : 0 ≤ n := by omega
  constructor
  · by_cases h : 0 ≤ a
    · have h1 : a * (-n) ≤ a * b := Int.mul_le_mul_of_nonneg_left hb.1 h
      have h2 : a * n ≤ m * n := Int.mul_le_mul_of_nonneg_right ha.2 hn
      have h3 : a * (-n) = -(a * n) := Int.mul_neg a n
      omega
    · have h1 : (-a) * b ≤ (-a) * n := Int.mul_le_mul_of_nonneg_left hb.2 (by omega)
      have h2 : (-a) * n ≤ m * n := Int.mul_le_mul_of_nonneg_right (by omega) hn
      have h3 : (-a) * b = -(a * b) := Int.neg_mul a b
      omega
  · by_cases h : 0 ≤ a
    · have h1 : a * b ≤ a * n := Int.mul_le_mul_of_nonneg_left hb.2 h
      have h2 : a * n ≤ m * n := Int.mul_le_mul_of_nonneg_right ha.2 hn
      omega
    · have h1 : (-a) * (-n) ≤ (-a) * b := Int.mul_le_mul_of_nonneg_left hb.1 (by omega)
      have h2 : (-a) * n ≤ m * n := Int.mul_le_mul_of_nonneg_right (by omega) hn
      have h3 : (-a) * b = -(a * b) := Int.neg_mul a b
      have h4 : (-a) * (-n) = -((-a) * n) := Int.mul_neg (-a) n
      omega
theorem dot_ok {a b c d : Int} (ha : -131072 ≤ a ∧ a ≤ 131072) (hb : -131072 ≤ b ∧ b ≤ 131072) (hc : -131072 ≤ c ∧ c ≤ 131072) (hd : -131072 ≤ d ∧ d ≤ 131072) : geom_dot.f a b c d = some (a * c + b * d) := by
  unfold geom_dot.f
  have h1 := mul_bound ha hc
  have h2 := mul_bound hb hd
  rw [w64 (n := a * c) (by omega) (by omega), w64 (n := b * d) (by omega) (by omega), w64 (by omega) (by omega)]
theorem cross_ok {a b c d : Int} (ha : -131072 ≤ a ∧ a ≤ 131072) (hb : -131072 ≤ b ∧ b ≤ 131072) (hc : -131072 ≤ c ∧ c ≤ 131072) (hd : -131072 ≤ d ∧ d ≤ 131072) : geom_cross.f a b c d = some (a * d - b * c) := by
  unfold geom_cross.f
  have h1 := mul_bound ha hd
  have h2 := mul_bound hb hc
  rw [w64 (n := a * d) (by omega) (by omega), w64 (n := b * c) (by omega) (by omega), w64 (by omega) (by omega)]
theorem square_ok {a b c d : Int} (ha : cOk a) (hb : cOk b) (hc : cOk c) (hd : cOk d) : dancestudioref03_square.f a b c d = some ((a - c) * (a - c) + (b - d) * (b - d)) := by
  unfold dancestudioref03_square.f
  unfold cOk at *
  have x : -131072 ≤ a - c ∧ a - c ≤ 131072 := by omega
  have y : -131072 ≤ b - d ∧ b - d ≤ 131072 := by omega
  have h1 := mul_bound x x
  have h2 := mul_bound y y
  rw [w64 (n := a - c) (by omega) (by omega), w64 (n := b - d) (by omega) (by omega), w64 (n := (a - c) * (a - c)) (by omega) (by omega), w64 (n := (b - d) * (b - d)) (by omega) (by omega), w64 (by omega) (by omega)]
theorem rcross_ok {a b c d e f : Int} (ha : cOk a) (hb : cOk b) (hc : cOk c) (hd : cOk d) (he : cOk e) (hf : cOk f) : dancestudioref03_cross.f a b c d e f = some ((c - a) * (f - b) - (d - b) * (e - a)) := by
  unfold dancestudioref03_cross.f
  unfold cOk at *
  have x : -131072 ≤ c - a ∧ c - a ≤ 131072 := by omega
  have y : -131072 ≤ f - b ∧ f - b ≤ 131072 := by omega
  have z : -131072 ≤ d - b ∧ d - b ≤ 131072 := by omega
  have u : -131072 ≤ e - a ∧ e - a ≤ 131072 := by omega
  have h1 := mul_bound x y
  have h2 := mul_bound z u
  rw [w64 (n := c - a) (by omega) (by omega), w64 (n := f - b) (by omega) (by omega), w64 (n := d - b) (by omega) (by omega), w64 (n := e - a) (by omega) (by omega), w64 (n := (c - a) * (f - b)) (by omega) (by omega), w64 (n := (d - b) * (e - a)) (by omega) (by omega), w64 (by omega) (by omega)]
end Go.Proofs.Ytmilejcbkpkplaa.PAll
/- Plain facts about points, segments, moving discs and convex hulls, over whole numbers, without any program. -/
namespace Go.Proofs.Ytmilejcbkpkplaa.MathGeom
open Go.RowKit Go.Proofs.Ytmilejcbkpkplaa.MathNum

/-- The scalar and the cross product. -/
def dt (a b c d : Int) : Int := a * c + b * d
def cr (a b c d : Int) : Int := a * d - b * c

/-- The sign of the least squared distance of the origin from the segment d, d + v less r2. -/
def nst (dx dy vx vy r2 : Int) : Int :=
  if -(dt dx dy vx vy) ≤ 0 then cmp3 (dt dx dy dx dy) r2
  else if -(dt dx dy vx vy) ≥ dt vx vy vx vy then cmp3 (dt (dx + vx) (dy + vy) (dx + vx) (dy + vy)) r2
  else cmp3 (cr dx dy vx vy * cr dx dy vx vy) (r2 * dt vx vy vx vy)

theorem mul_self_nonneg' (a : Int) : 0 ≤ a * a := by
  rcases Int.le_total 0 a with h | h
  · exact Int.mul_nonneg h h
  · have := Int.mul_nonneg (a := -a) (b := -a) (by omega) (by omega)
    rw [Int.neg_mul_neg] at this; exact this
theorem dt_self (a b : Int) : 0 ≤ dt a b a b := by
  unfold dt
  have h1 := mul_self_nonneg' a
  have h2 := mul_self_nonneg' b
  omega
theorem dt_zero {a b : Int} (h : dt a b a b ≤ 0) : a = 0 ∧ b = 0 := by
  unfold dt at h
  have h1 := mul_self_nonneg' a
  have h2 := mul_self_nonneg' b
  have e1 : a * a = 0 := by omega
  have e2 : b * b = 0 := by omega
  exact ⟨(Int.mul_eq_zero.mp e1).elim id id, (Int.mul_eq_zero.mp e2).elim id id⟩

/-- The segment the other way round. -/
theorem nst_rev (dx dy vx vy r2 : Int) : nst (dx + vx) (dy + vy) (-vx) (-vy) r2 = nst dx dy vx vy r2 := by
  have e1 : -(dt (dx + vx) (dy + vy) (-vx) (-vy)) = dt vx vy vx vy - -(dt dx dy vx vy) := by unfold dt; grind
  have e2 : dt (-vx) (-vy) (-vx) (-vy) = dt vx vy vx vy := by unfold dt; grind
  have e3 : cr (dx + vx) (dy + vy) (-vx) (-vy) = -(cr dx dy vx vy) := by unfold cr; grind
  have e4 : dx + vx + -vx = dx := by omega
  have e5 : dy + vy + -vy = dy := by omega
  unfold nst
  rw [e1, e2, e3, e4, e5]
  generalize ha : -(dt dx dy vx vy) = a at *
  have hL := dt_self vx vy
  by_cases c1 : a ≤ 0
  · rw [if_pos c1]
    by_cases c2 : dt vx vy vx vy - a ≤ 0
    · rw [if_pos c2]
      have hz := dt_zero (a := vx) (b := vy) (by omega)
      rw [hz.1, hz.2]; simp
    · rw [if_neg c2, if_pos (by omega)]
  · rw [if_neg c1]
    by_cases c2 : a ≥ dt vx vy vx vy
    · rw [if_pos c2, if_pos (by omega)]
    · rw [if_neg c2, if_neg (by omega), if_neg (by omega)]
      congr 1; grind
theorem nst_neg (dx dy vx vy r2 : Int) : nst (-dx) (-dy) (-vx) (-vy) r2 = nst dx dy vx vy r2 := by
  have e1 : dt (-dx) (-dy) (-vx) (-vy) = dt dx dy vx vy := by unfold dt; grind
  have e2 : dt (-vx) (-vy) (-vx) (-vy) = dt vx vy vx vy := by unfold dt; grind
  have e3 : cr (-dx) (-dy) (-vx) (-vy) = cr dx dy vx vy := by unfold cr; grind
  have e4 : dt (-dx) (-dy) (-dx) (-dy) = dt dx dy dx dy := by unfold dt; grind
  have e5 : dt (-dx + -vx) (-dy + -vy) (-dx + -vx) (-dy + -vy) = dt (dx + vx) (dy + vy) (dx + vx) (dy + vy) := by unfold dt; grind
  unfold nst
  rw [e1, e2, e3, e4, e5]
/-- Lagrange: the product of the squares is the sum of the squared products. -/
theorem lagrange (a b c d : Int) : dt a b a b * dt c d c d = dt a b c d * dt a b c d + cr a b c d * cr a b c d := by unfold dt cr; grind
theorem cr_shift (dx dy vx vy : Int) : cr (dx + vx) (dy + vy) vx vy = cr dx dy vx vy := by unfold cr; grind

/-- Nearer than the radius at some moment: at an end, or between. -/
theorem nst_touch (dx dy vx vy r2 : Int) : (nst dx dy vx vy r2 < 0) ↔ (dt dx dy dx dy < r2 ∨ dt (dx + vx) (dy + vy) (dx + vx) (dy + vy) < r2 ∨
    (0 < -(dt dx dy vx vy) ∧ -(dt dx dy vx vy) < dt vx vy vx vy ∧ cr dx dy vx vy * cr dx dy vx vy < r2 * dt vx vy vx vy)) := by
  have hend : dt (dx + vx) (dy + vy) (dx + vx) (dy + vy) = dt dx dy dx dy + 2 * dt dx dy vx vy + dt vx vy vx vy := by unfold dt; grind
  have hL := dt_self vx vy
  have neg3 : ∀ a b : Int, cmp3 a b < 0 ↔ a < b := by
    intro a b
    rcases cmp3_cases a b with ⟨h, e⟩ | ⟨h, e⟩ | ⟨h, e⟩ <;> rw [e] <;> omega
  unfold nst
  by_cases c1 : -(dt dx dy vx vy) ≤ 0
  · rw [if_pos c1, neg3]; omega
  · rw [if_neg c1]
    by_cases c2 : -(dt dx dy vx vy) ≥ dt vx vy vx vy
    · rw [if_pos c2, neg3]; omega
    · rw [if_neg c2, neg3]
      constructor
      · intro h; exact Or.inr (Or.inr ⟨by omega, by omega, h⟩)
      · rintro (h | h | ⟨_, _, h⟩)
        · have l := lagrange dx dy vx vy
          have q := mul_self_nonneg' (dt dx dy vx vy)
          have : dt dx dy dx dy * dt vx vy vx vy < r2 * dt vx vy vx vy := Int.mul_lt_mul_of_pos_right h (by omega)
          omega
        · have l := lagrange (dx + vx) (dy + vy) vx vy
          rw [cr_shift] at l
          have q := mul_self_nonneg' (dt (dx + vx) (dy + vy) vx vy)
          have : dt (dx + vx) (dy + vy) (dx + vx) (dy + vy) * dt vx vy vx vy < r2 * dt vx vy vx vy := Int.mul_lt_mul_of_pos_right h (by omega)
          omega
        · exact h

/-- Not nearer than the radius: at no moment k / n. -/
theorem nst_moment {dx dy vx vy r n k : Int} (h : ¬ nst dx dy vx vy (r * r) < 0) (hk : 0 ≤ k) (hn : k ≤ n) :
    (r * n) * (r * n) ≤ (dx * n + vx * k) * (dx * n + vx * k) + (dy * n + vy * k) * (dy * n + vy * k) := by
  have ex : (dx * n + vx * k) * (dx * n + vx * k) + (dy * n + vy * k) * (dy * n + vy * k) = n * n * dt dx dy dx dy + 2 * (n * k) * dt dx dy vx vy + k * k * dt vx vy vx vy := by unfold dt; grind
  have er : (r * n) * (r * n) = n * n * (r * r) := by grind
  have hL := dt_self vx vy
  have nn := mul_self_nonneg' n
  have kk := mul_self_nonneg' k
  have nk : 0 ≤ n * k := Int.mul_nonneg (by omega) hk
  have ge3 : ∀ a b : Int, ¬ cmp3 a b < 0 → b ≤ a := by
    intro a b
    rcases cmp3_cases a b with ⟨h, e⟩ | ⟨h, e⟩ | ⟨h, e⟩ <;> rw [e] <;> omega
  rw [ex, er]
  unfold nst at h
  by_cases c1 : -(dt dx dy vx vy) ≤ 0
  · rw [if_pos c1] at h
    have g := ge3 _ _ h
    have a1 : n * n * (r * r) ≤ n * n * dt dx dy dx dy := Int.mul_le_mul_of_nonneg_left g nn
    have a2 : 0 ≤ n * k * dt dx dy vx vy := Int.mul_nonneg nk (by omega)
    have a3 : 0 ≤ k * k * dt vx vy vx vy := Int.mul_nonneg kk hL
    have a4 : 2 * (n * k) * dt dx dy vx vy = 2 * (n * k * dt dx dy vx vy) := by grind
    omega
  · rw [if_neg c1] at h
    by_cases c2 : -(dt dx dy vx vy) ≥ dt vx vy vx vy
    · rw [if_pos c2] at h
      have g := ge3 _ _ h
      have a1 : n * n * (r * r) ≤ n * n * dt (dx + vx) (dy + vy) (dx + vx) (dy + vy) := Int.mul_le_mul_of_nonneg_left g nn
      have a2 : n * n * dt dx dy dx dy + 2 * (n * k) * dt dx dy vx vy + k * k * dt vx vy vx vy = n * n * dt (dx + vx) (dy + vy) (dx + vx) (dy + vy) + 2 * (n * (n - k) * (-(dt dx dy vx vy) - dt vx vy vx vy)) + (n - k) * (n - k) * dt vx vy vx vy := by unfold dt; grind
      have a3 : 0 ≤ n * (n - k) * (-(dt dx dy vx vy) - dt vx vy vx vy) := Int.mul_nonneg (Int.mul_nonneg (by omega) (by omega)) (by omega)
      have a4 : 0 ≤ (n - k) * (n - k) * dt vx vy vx vy := Int.mul_nonneg (mul_self_nonneg' _) hL
      omega
    · rw [if_neg c2] at h
      have g := ge3 _ _ h
      have hLp : 0 < dt vx vy vx vy := by omega
      apply Int.not_lt.mp
      intro lt
      have b1 := Int.mul_lt_mul_of_pos_right lt hLp
      have b2 : n * n * (r * r * dt vx vy vx vy) ≤ n * n * (cr dx dy vx vy * cr dx dy vx vy) := Int.mul_le_mul_of_nonneg_left g nn
      have b3 : (n * n * dt dx dy dx dy + 2 * (n * k) * dt dx dy vx vy + k * k * dt vx vy vx vy) * dt vx vy vx vy = (n * dt dx dy vx vy + k * dt vx vy vx vy) * (n * dt dx dy vx vy + k * dt vx vy vx vy) + n * n * (cr dx dy vx vy * cr dx dy vx vy) := by unfold dt cr; grind
      have b4 := mul_self_nonneg' (n * dt dx dy vx vy + k * dt vx vy vx vy)
      have b5 : n * n * (r * r) * dt vx vy vx vy = n * n * (r * r * dt vx vy vx vy) := by grind
      omega
end Go.Proofs.Ytmilejcbkpkplaa.MathGeom
