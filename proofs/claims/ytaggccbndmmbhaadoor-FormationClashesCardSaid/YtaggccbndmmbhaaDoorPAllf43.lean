-- Written by wip/tools/handprint.py: walks of the functions that the law reaches; Lean checks them.
import Derived.Test.YtaggccbndmmbhaaDoorBase
import Derived.Test.YtaggccbndmmbhaaDoorPAllf44
namespace Go.Proofs.YtaggccbndmmbhaaDoor.PAll
open Go.RowKit Go.Proofs.YtaggccbndmmbhaaDoorW.PrintWords Go.Proofs.YtaggccbndmmbhaaDoorW.PrintLast Go.Proofs.YtaggccbndmmbhaaDoorW.PrintMore
attribute [local go_sem] max2_int min2_int max_two min_two max_three min_three max_four min_four   -- for this text's walks alone
set_option linter.unusedVariables false
set_option linter.unusedSimpArgs false

/-! ### formation_Rotate_fn1: function 43 -/
def formation_Rotate_fn1.f (k : Nat) (a0_0 : Int) (a0_1 : Int) (a1 : Int) : Option (Int × Int) := (angle_Turned.f k a0_0 a0_1 (wrap64 ((Int.tmod a1 4) * 64))).bind fun bt395 => (some (bt395.1, bt395.2.1))
set_option maxHeartbeats 8000000 in
set_option maxRecDepth 100000 in
theorem formation_Rotate_fn1.calls (k : Nat) (a0_0 : Int) (a0_1 : Int) (a1 : Int) (r1 : Int) (r2 : Int) (w : World) (gq_ : Nat) (hcap1 : w.cell? ⟨gq_, 0, none⟩ = some (.int .i64 a1)) (hmx : Mx w) (h : formation_Rotate_fn1.f k a0_0 a0_1 a1 = some (r1, r2)) :
  Calls Tryd.prog 43 #[.agg #[.int .i64 a0_0, .int .i64 a0_1], .pointer (some ⟨gq_, 0, none⟩)] w fun e w' => e = .returned (.agg #[.int .i64 r1, .int .i64 r2]) ∧ Below w.heap.size w w' := by
 have HMX_ := Aside0.mk hmx
 clear hmx
 have HG1_ := Aside0.mk hcap1
 clear hcap1
 have hu52 := Tryd.underlying52
 have HB := Aside0.mk (Below.refl w.heap.size w)
 have H := h
 unfold formation_Rotate_fn1.f at H
 clear h
 replace H := Option.bind_eq_some_iff.mp H
 obtain ⟨⟨t395, t396, t397⟩, A30, H⟩ := H
 try dsimp only at H
 have A3 := Aside0.mk A30
 clear A30
 simp only [Option.some.injEq, Prod.mk.injEq] at H
 obtain ⟨rfl, rfl⟩ := H
 go_enter Tryd.func43, Tryd.ntmps43
 go_wp2_with (first | ((with_reducible refine gate_dst (N := 2) rfl ?_); refine box_event rfl (N := 2) rfl (cs := #[.int .i64 a0_0, .int .i64 a0_1]) (t := 52) (by first | (go_simp; done) | (go_simp; rfl)) ?_; intro gb1 hg w4 hbox hb; have BK1 := Aside0.mk hbox; have GW1 := mGw HB hg; have GE1 := GW1; replace HB := mSt HB hb; clear hb hbox hg) | ((with_reducible refine gate_dst (N := 3) rfl ?_); refine box_event rfl (N := 3) rfl (cs := #[.int .i64 0, .int .i64 0]) (t := 52) (by first | (go_simp; done) | (go_simp; rfl)) ?_; intro gb2 hg w5 hbox hb; have BK2 := Aside0.mk hbox; have GW2 := mGw HB hg; have GE2 := GW2; replace HB := mSt HB hb; have NB1_2 := mNe BK1 hg; have NB2_1 := mSy NB1_2; replace BK1 := mBb BK1 hb; clear hb hbox hg; have hnb6 := NB1_2.out; have hnc6 := NB2_1.out; have hq_ : w5.cell? ⟨gq_, 0, none⟩ = some (.int .i64 a1) := (HB.out.cell (World.block_lt_of_cell? w _ HG1_.out)).trans HG1_.out; have hcz7 := blk_cell BK1.out; have hfz7 := blk_frozen BK1.out) | ((with_reducible refine gate_callee (f := 44) rfl ?_); refine goesL_ (some 11) rfl rfl Tryd.func44 (by kernel_rfl) rfl #[.agg #[.int .i64 a0_0, .int .i64 a0_1], .int .i64 (wrap64 ((Int.tmod a1 4) * 64))] rfl (mA2 rfl rfl) ?_; (with_reducible refine (angle_Turned.calls k a0_0 a0_1 (wrap64 ((Int.tmod a1 4) * 64)) t395 t396 t397 _ (Mx.below HMX_.out HB.out) A3.out).mono ?_); rintro e w8 ⟨rfl, hb⟩; refine ⟨_, rfl, ?_⟩; replace BK1 := mBb BK1 hb; replace BK2 := mBb BK2 hb; replace HB := mSt HB hb; (try clear hb)) | ((with_reducible refine gate_dst (N := 4) rfl ?_); refine box_event rfl (N := 4) rfl (cs := #[.int .i64 0, .int .i64 0]) (t := 52) (by first | (go_simp; done) | (go_simp; rfl)) ?_; intro gb3 hg w9 hbox hb; have BK3 := Aside0.mk hbox; have GW3 := mGw HB hg; have GE3 := GW3; replace HB := mSt HB hb; have NB1_3 := mNe BK1 hg; have NB3_1 := mSy NB1_3; replace BK1 := mBb BK1 hb; have NB2_3 := mNe BK2 hg; have NB3_2 := mSy NB2_3; replace BK2 := mBb BK2 hb; clear hb hbox hg; have hnb10 := NB3_1.out; have hnc10 := NB1_3.out; have hnb11 := NB3_2.out; have hnc11 := NB2_3.out; have hcz12 := blk_cell BK3.out; have hfz12 := blk_frozen BK3.out; have hcz13 := blk_cell BK2.out; have hfz13 := blk_frozen BK2.out))
 refine bodyPost_ret (results_cell_row rfl _ _ gb2 52 #[.int .i64 t395, .int .i64 t396] (0, 0) _ rfl (by refine blk_put (cs := #[.int .i64 t395, .int .i64 0]) ?_ 1 _ rfl; refine blk_put (cs := #[.int .i64 0, .int .i64 0]) ?_ 0 _ rfl; refine blk_far ?_ NB2_3.out _; refine blk_far ?_ NB2_3.out _; exact BK2.out) Tryd.underlying52 rfl (by kernel_rfl)) rfl ?_
 exact ⟨rfl, hO HB⟩
end Go.Proofs.YtaggccbndmmbhaaDoor.PAll
