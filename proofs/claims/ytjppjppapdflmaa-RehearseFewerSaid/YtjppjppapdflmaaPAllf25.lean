-- Written by wip/tools/handprint.py: walks of the functions that the law reaches; Lean checks them.
import Derived.Test.YtjppjppapdflmaaRMi
import Derived.Test.YtjppjppapdflmaaPAllx0
import Derived.Test.YtjppjppapdflmaaRPg
import Derived.Test.YtjppjppapdflmaaPAllf16
import Derived.Test.YtjppjppapdflmaaRPm
namespace Go.Proofs.Ytjppjppapdflmaa.PAll
open Go.RowKit Go.Proofs.YtjppjppapdflmaaW.PrintWords Go.Proofs.YtjppjppapdflmaaW.PrintLast Go.Proofs.YtjppjppapdflmaaW.PrintMore
attribute [local go_sem] max2_int min2_int max_two min_two max_three min_three max_four min_four   -- for this text's walks alone
set_option linter.unusedVariables false
set_option linter.unusedSimpArgs false

/-! ### dancestudiolaw50_sooner: function 25 -/
def dancestudiolaw50_sooner.f (k : Nat) (l0_0 : List (S53)) (l0_1 : List (S55)) (l0_2 : List (S59)) (a0_3 : Int) (a1 : Int) : Option (Bool) := (dancestudiolaw50_of.f).bind fun t656 => ((rehearse_Plan.f k l0_0 l0_1 l0_2 a0_3).bind fun bt657 => ((dancestudiolaw50_of.f).bind fun t661 => ((rehearse_End.f k l0_0 l0_1 l0_2 a0_3 bt657.1).bind fun bt662 => (if bt657.2 = 0 then (if bt662.2 = 0 then (some (decide (bt662.1 ≤ a1))) else (some false)) else (some false)))))
set_option maxHeartbeats 8000000 in
set_option maxRecDepth 100000 in
theorem dancestudiolaw50_sooner.calls (k : Nat) (A0_0 : Option Addr) (c0_0 : Nat) (l0_0 : List (S53)) (A0_1 : Option Addr) (c0_1 : Nat) (l0_1 : List (S55)) (A0_2 : Option Addr) (c0_2 : Nat) (l0_2 : List (S59)) (a0_3 : Int) (a1 : Int) (r : Bool) (w : World) (hr0_0 : Kd.C k53 w A0_0 l0_0.length l0_0) (hc0_0 : l0_0.length ≤ c0_0) (hr0_1 : Kd.C k55 w A0_1 l0_1.length l0_1) (hc0_1 : l0_1.length ≤ c0_1) (hr0_2 : Kd.C k59 w A0_2 l0_2.length l0_2) (hc0_2 : l0_2.length ≤ c0_2) (hmx : Mx w) (h : dancestudiolaw50_sooner.f k l0_0 l0_1 l0_2 a0_3 a1 = some r) :
  Calls Try.prog 25 #[.agg #[.slice A0_0 l0_0.length c0_0, .slice A0_1 l0_1.length c0_1, .slice A0_2 l0_2.length c0_2, .int .i64 a0_3], .int .i64 a1] w fun e w' => e = .returned (.bool r) ∧ Below w.heap.size w w' := by
 have HMX_ := Aside0.mk hmx
 clear hmx
 have hu30 := Try.underlying26
 have HR0_0 := Aside0.mk hr0_0
 have HC0_0 := Aside0.mk hc0_0
 clear hr0_0 hc0_0
 have HR0_1 := Aside0.mk hr0_1
 have HC0_1 := Aside0.mk hc0_1
 clear hr0_1 hc0_1
 have HR0_2 := Aside0.mk hr0_2
 have HC0_2 := Aside0.mk hc0_2
 clear hr0_2 hc0_2
 have HB := Aside0.mk (Below.refl w.heap.size w)
 have H := h
 unfold dancestudiolaw50_sooner.f at H
 clear h
 replace H := Option.bind_eq_some_iff.mp H
 obtain ⟨t656, A30, H⟩ := H
 try dsimp only at H
 have A3 := Aside0.mk A30
 clear A30
 replace H := Option.bind_eq_some_iff.mp H
 obtain ⟨⟨t657, t660⟩, A40, H⟩ := H
 try dsimp only at H
 have A4 := Aside0.mk A40
 clear A40
 replace H := Option.bind_eq_some_iff.mp H
 obtain ⟨t661, A50, H⟩ := H
 try dsimp only at H
 have A5 := Aside0.mk A50
 clear A50
 replace H := Option.bind_eq_some_iff.mp H
 obtain ⟨⟨t662, t663⟩, A60, H⟩ := H
 try dsimp only at H
 have A6 := Aside0.mk A60
 clear A60
 by_cases c7 : t660 = 0
 rotate_left
 ·
  rw [if_neg c7] at H
  have c7b0 := beq_eq_false_iff_ne.mpr c7
  have c7b1 := bne_iff_ne.mpr c7
  obtain rfl := Option.some.inj H
  go_enter Try.func25, Try.ntmps25
  go_wp2_with (first | ((with_reducible refine gate_dst (N := 2) rfl ?_); refine box_event rfl (N := 2) rfl (cs := #[.slice A0_0 l0_0.length c0_0, .slice A0_1 l0_1.length c0_1, .slice A0_2 l0_2.length c0_2, .int .i64 a0_3]) (t := 26) (by first | (go_simp; done) | (go_simp; rfl)) ?_; intro gb1 hg w25 hbox hb; have BK1 := Aside0.mk hbox; have GW1 := mGw HB hg; have GE1 := GW1; replace HB := mSt HB hb; clear hb hbox hg; have hcz26 := blk_cell BK1.out; have hfz26 := blk_frozen BK1.out) | (go_at_call 11; (with_reducible refine (dancestudiolaw50_of.calls  t661 _ A5.out).mono ?_); rintro e w30 ⟨rfl, hb⟩; replace HO659 := Aside0.mk (Kd.R_below HO659.out hb); replace BK1 := mBb BK1 hb; replace HB := mSt HB hb; (try clear hb); obtain ⟨Ao31, co31, eo31⟩ := Kd.R_slice HO659.out; subst eo31) | ((with_reducible refine gate_callee (f := 21) rfl ?_); refine goesL_ (some 12) rfl rfl Try.func21 (by kernel_rfl) rfl #[.agg #[.slice A0_0 l0_0.length c0_0, .slice A0_1 l0_1.length c0_1, .slice A0_2 l0_2.length c0_2, .int .i64 a0_3]] rfl (mA1 rfl) ?_; (with_reducible refine (rehearse_Plan.calls k _ _ l0_0 _ _ l0_1 _ _ l0_2 a0_3 t657 t660 _ (Kd.C_below HR0_0.out HB.out) HC0_0.out (Kd.C_below HR0_1.out HB.out) HC0_1.out (Kd.C_below HR0_2.out HB.out) HC0_2.out (Mx.below HMX_.out HB.out) A4.out).mono ?_); rintro e w28 ⟨v658, rfl, ho0, hb⟩; refine ⟨_, rfl, ?_⟩; have HO659 := Aside0.mk (Kd.R_lower ho0 (below_size HB.out)); replace BK1 := mBb BK1 hb; replace HB := mSt HB hb; (try clear hb); (try clear ho0); have hcz29 := blk_cell BK1.out; have hfz29 := blk_frozen BK1.out) | (go_at_call 11; (with_reducible refine (dancestudiolaw50_of.calls  t656 _ A3.out).mono ?_); rintro e w27 ⟨rfl, hb⟩; replace BK1 := mBb BK1 hb; replace HB := mSt HB hb; (try clear hb)) | ((with_reducible refine gate_callee (f := 16) rfl ?_); refine goesL_ (some 19) rfl rfl Try.func16 (by kernel_rfl) rfl #[.agg #[.slice A0_0 l0_0.length c0_0, .slice A0_1 l0_1.length c0_1, .slice A0_2 l0_2.length c0_2, .int .i64 a0_3], .slice Ao31 t657.length co31] rfl (mA2 rfl rfl) ?_; (with_reducible refine (rehearse_End.calls k _ _ l0_0 _ _ l0_1 _ _ l0_2 a0_3 _ _ t657 t662 t663 _ (Kd.C_below HR0_0.out HB.out) HC0_0.out (Kd.C_below HR0_1.out HB.out) HC0_1.out (Kd.C_below HR0_2.out HB.out) HC0_2.out ((Kd.R_reads' HO659.out).2.2) ((Kd.R_reads' HO659.out).2.1) (Mx.below HMX_.out HB.out) A6.out).mono ?_); rintro e w32 ⟨rfl, hb⟩; refine ⟨_, rfl, ?_⟩; replace HO659 := Aside0.mk (Kd.R_below HO659.out hb); replace BK1 := mBb BK1 hb; replace HB := mSt HB hb; (try clear hb)))
  go_ret
  exact ⟨rfl, HB.out⟩
 rw [if_pos c7] at H
 have c7b0 := beq_iff_eq.mpr c7
 have c7b1 := bne_eq_false_iff_eq.mpr c7
 clear c7
 by_cases c8 : t663 = 0
 rotate_left
 ·
  rw [if_neg c8] at H
  have c8b0 := beq_eq_false_iff_ne.mpr c8
  have c8b1 := bne_iff_ne.mpr c8
  obtain rfl := Option.some.inj H
  go_enter Try.func25, Try.ntmps25
  go_wp2_with (first | ((with_reducible refine gate_dst (N := 2) rfl ?_); refine box_event rfl (N := 2) rfl (cs := #[.slice A0_0 l0_0.length c0_0, .slice A0_1 l0_1.length c0_1, .slice A0_2 l0_2.length c0_2, .int .i64 a0_3]) (t := 26) (by first | (go_simp; done) | (go_simp; rfl)) ?_; intro gb1 hg w17 hbox hb; have BK1 := Aside0.mk hbox; have GW1 := mGw HB hg; have GE1 := GW1; replace HB := mSt HB hb; clear hb hbox hg; have hcz18 := blk_cell BK1.out; have hfz18 := blk_frozen BK1.out) | (go_at_call 11; (with_reducible refine (dancestudiolaw50_of.calls  t661 _ A5.out).mono ?_); rintro e w22 ⟨rfl, hb⟩; replace HO659 := Aside0.mk (Kd.R_below HO659.out hb); replace BK1 := mBb BK1 hb; replace HB := mSt HB hb; (try clear hb); obtain ⟨Ao23, co23, eo23⟩ := Kd.R_slice HO659.out; subst eo23) | ((with_reducible refine gate_callee (f := 21) rfl ?_); refine goesL_ (some 12) rfl rfl Try.func21 (by kernel_rfl) rfl #[.agg #[.slice A0_0 l0_0.length c0_0, .slice A0_1 l0_1.length c0_1, .slice A0_2 l0_2.length c0_2, .int .i64 a0_3]] rfl (mA1 rfl) ?_; (with_reducible refine (rehearse_Plan.calls k _ _ l0_0 _ _ l0_1 _ _ l0_2 a0_3 t657 t660 _ (Kd.C_below HR0_0.out HB.out) HC0_0.out (Kd.C_below HR0_1.out HB.out) HC0_1.out (Kd.C_below HR0_2.out HB.out) HC0_2.out (Mx.below HMX_.out HB.out) A4.out).mono ?_); rintro e w20 ⟨v658, rfl, ho0, hb⟩; refine ⟨_, rfl, ?_⟩; have HO659 := Aside0.mk (Kd.R_lower ho0 (below_size HB.out)); replace BK1 := mBb BK1 hb; replace HB := mSt HB hb; (try clear hb); (try clear ho0); have hcz21 := blk_cell BK1.out; have hfz21 := blk_frozen BK1.out) | (go_at_call 11; (with_reducible refine (dancestudiolaw50_of.calls  t656 _ A3.out).mono ?_); rintro e w19 ⟨rfl, hb⟩; replace BK1 := mBb BK1 hb; replace HB := mSt HB hb; (try clear hb)) | ((with_reducible refine gate_callee (f := 16) rfl ?_); refine goesL_ (some 19) rfl rfl Try.func16 (by kernel_rfl) rfl #[.agg #[.slice A0_0 l0_0.length c0_0, .slice A0_1 l0_1.length c0_1, .slice A0_2 l0_2.length c0_2, .int .i64 a0_3], .slice Ao23 t657.length co23] rfl (mA2 rfl rfl) ?_; (with_reducible refine (rehearse_End.calls k _ _ l0_0 _ _ l0_1 _ _ l0_2 a0_3 _ _ t657 t662 t663 _ (Kd.C_below HR0_0.out HB.out) HC0_0.out (Kd.C_below HR0_1.out HB.out) HC0_1.out (Kd.C_below HR0_2.out HB.out) HC0_2.out ((Kd.R_reads' HO659.out).2.2) ((Kd.R_reads' HO659.out).2.1) (Mx.below HMX_.out HB.out) A6.out).mono ?_); rintro e w24 ⟨rfl, hb⟩; refine ⟨_, rfl, ?_⟩; replace HO659 := Aside0.mk (Kd.R_below HO659.out hb); replace BK1 := mBb BK1 hb; replace HB := mSt HB hb; (try clear hb)))
  go_ret
  exact ⟨rfl, HB.out⟩
 rw [if_pos c8] at H
 have c8b0 := beq_iff_eq.mpr c8
 have c8b1 := bne_eq_false_iff_eq.mpr c8
 clear c8
 obtain rfl := Option.some.inj H
 go_enter Try.func25, Try.ntmps25
 go_wp2_with (first | ((with_reducible refine gate_dst (N := 2) rfl ?_); refine box_event rfl (N := 2) rfl (cs := #[.slice A0_0 l0_0.length c0_0, .slice A0_1 l0_1.length c0_1, .slice A0_2 l0_2.length c0_2, .int .i64 a0_3]) (t := 26) (by first | (go_simp; done) | (go_simp; rfl)) ?_; intro gb1 hg w9 hbox hb; have BK1 := Aside0.mk hbox; have GW1 := mGw HB hg; have GE1 := GW1; replace HB := mSt HB hb; clear hb hbox hg; have hcz10 := blk_cell BK1.out; have hfz10 := blk_frozen BK1.out) | (go_at_call 11; (with_reducible refine (dancestudiolaw50_of.calls  t661 _ A5.out).mono ?_); rintro e w14 ⟨rfl, hb⟩; replace HO659 := Aside0.mk (Kd.R_below HO659.out hb); replace BK1 := mBb BK1 hb; replace HB := mSt HB hb; (try clear hb); obtain ⟨Ao15, co15, eo15⟩ := Kd.R_slice HO659.out; subst eo15) | ((with_reducible refine gate_callee (f := 21) rfl ?_); refine goesL_ (some 12) rfl rfl Try.func21 (by kernel_rfl) rfl #[.agg #[.slice A0_0 l0_0.length c0_0, .slice A0_1 l0_1.length c0_1, .slice A0_2 l0_2.length c0_2, .int .i64 a0_3]] rfl (mA1 rfl) ?_; (with_reducible refine (rehearse_Plan.calls k _ _ l0_0 _ _ l0_1 _ _ l0_2 a0_3 t657 t660 _ (Kd.C_below HR0_0.out HB.out) HC0_0.out (Kd.C_below HR0_1.out HB.out) HC0_1.out (Kd.C_below HR0_2.out HB.out) HC0_2.out (Mx.below HMX_.out HB.out) A4.out).mono ?_); rintro e w12 ⟨v658, rfl, ho0, hb⟩; refine ⟨_, rfl, ?_⟩; have HO659 := Aside0.mk (Kd.R_lower ho0 (below_size HB.out)); replace BK1 := mBb BK1 hb; replace HB := mSt HB hb; (try clear hb); (try clear ho0); have hcz13 := blk_cell BK1.out; have hfz13 := blk_frozen BK1.out) | (go_at_call 11; (with_reducible refine (dancestudiolaw50_of.calls  t656 _ A3.out).mono ?_); rintro e w11 ⟨rfl, hb⟩; replace BK1 := mBb BK1 hb; replace HB := mSt HB hb; (try clear hb)) | ((with_reducible refine gate_callee (f := 16) rfl ?_); refine goesL_ (some 19) rfl rfl Try.func16 (by kernel_rfl) rfl #[.agg #[.slice A0_0 l0_0.length c0_0, .slice A0_1 l0_1.length c0_1, .slice A0_2 l0_2.length c0_2, .int .i64 a0_3], .slice Ao15 t657.length co15] rfl (mA2 rfl rfl) ?_; (with_reducible refine (rehearse_End.calls k _ _ l0_0 _ _ l0_1 _ _ l0_2 a0_3 _ _ t657 t662 t663 _ (Kd.C_below HR0_0.out HB.out) HC0_0.out (Kd.C_below HR0_1.out HB.out) HC0_1.out (Kd.C_below HR0_2.out HB.out) HC0_2.out ((Kd.R_reads' HO659.out).2.2) ((Kd.R_reads' HO659.out).2.1) (Mx.below HMX_.out HB.out) A6.out).mono ?_); rintro e w16 ⟨rfl, hb⟩; refine ⟨_, rfl, ?_⟩; replace HO659 := Aside0.mk (Kd.R_below HO659.out hb); replace BK1 := mBb BK1 hb; replace HB := mSt HB hb; (try clear hb)))
 go_ret
 exact ⟨rfl, HB.out⟩
end Go.Proofs.Ytjppjppapdflmaa.PAll
