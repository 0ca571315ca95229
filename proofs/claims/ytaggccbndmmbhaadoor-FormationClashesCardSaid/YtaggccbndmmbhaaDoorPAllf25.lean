-- Written by wip/tools/handprint.py: walks of the functions that the law reaches; Lean checks them.
import Derived.Test.YtaggccbndmmbhaaDoorBase
import Derived.Test.YtaggccbndmmbhaaDoorPAllf114
namespace Go.Proofs.YtaggccbndmmbhaaDoor.PAll
open Go.RowKit Go.Proofs.YtaggccbndmmbhaaDoorW.PrintWords Go.Proofs.YtaggccbndmmbhaaDoorW.PrintLast Go.Proofs.YtaggccbndmmbhaaDoorW.PrintMore
attribute [local go_sem] max2_int min2_int max_two min_two max_three min_three max_four min_four   -- for this text's walks alone
set_option linter.unusedVariables false
set_option linter.unusedSimpArgs false
attribute [local go_sem high] eqA52

/-! ### formation_Rotate: function 25 -/
def formation_Rotate.f (k : Nat) (a0_0 : ByteArray) (l0_1 : List (S52)) (a1 : Int) : Option (ByteArray × (List (S52)) × Int) := (formation_changedR.f k a0_0 l0_1 a1).bind fun bt412 => (some (bt412.1, bt412.2.1, bt412.2.2))
set_option maxHeartbeats 8000000 in
set_option maxRecDepth 100000 in
theorem formation_Rotate.calls (k : Nat) (a0_0 : ByteArray) (A0_1 : Option Addr) (c0_1 : Nat) (l0_1 : List (S52)) (a1 : Int) (r1 : ByteArray) (r2 : List (S52)) (r3 : Int) (w : World) (hr0_1 : Kd.C k52 w A0_1 l0_1.length l0_1) (hc0_1 : l0_1.length ≤ c0_1) (hmx : Mx w) (h : formation_Rotate.f k a0_0 l0_1 a1 = some (r1, r2, r3)) :
  Calls Tryd.prog 25 #[.agg #[.string a0_0, .slice A0_1 l0_1.length c0_1], .int .i64 a1] w fun e w' => ∃ v1_ : Value, e = .returned (.tuple #[.agg #[.string r1, v1_], .int .i64 r3]) ∧ Kd.R k52 52 w' w.heap.size (fun _ => True) v1_ r2 ∧ Below w.heap.size w w' := by
 have HMX_ := Aside0.mk hmx
 clear hmx
 have hu24 := Tryd.underlying24
 have HR0_1 := Aside0.mk hr0_1
 have HC0_1 := Aside0.mk hc0_1
 clear hr0_1 hc0_1
 have HB := Aside0.mk (Below.refl w.heap.size w)
 have H := h
 unfold formation_Rotate.f at H
 clear h
 replace H := Option.bind_eq_some_iff.mp H
 obtain ⟨⟨t412, t413, t416⟩, A30, H⟩ := H
 try dsimp only at H
 have A3 := Aside0.mk A30
 clear A30
 simp only [Option.some.injEq, Prod.mk.injEq] at H
 obtain ⟨rfl, rfl, rfl⟩ := H
 have hmf : ∀ (fn : Fn) (first cap : Array Value) (w : World), (Instr.makeFunc fn first cap).run Tryd.prog w = .ok (.func fn first cap) w := fun _ _ _ _ => rfl
 go_enter Tryd.func25, Tryd.ntmps25
 go_wp2_with (first | ((with_reducible refine gate_dst (N := 2) rfl ?_); refine box_event rfl (N := 2) rfl (cs := #[.string a0_0, .slice A0_1 l0_1.length c0_1]) (t := 24) (by first | (go_simp; done) | (go_simp; rfl)) ?_; intro gb1 hg w4 hbox hb; have BK1 := Aside0.mk hbox; have GW1 := mGw HB hg; have GE1 := GW1; replace HB := mSt HB hb; clear hb hbox hg) | ((with_reducible refine gate_dst (N := 3) rfl ?_); refine box_event rfl (N := 3) rfl (cs := #[.int .i64 a1]) (t := 3) (by first | (go_simp; done) | (go_simp; rfl)) ?_; intro gq_ hg wq_ hbox hb; replace BK1 := mBb BK1 hb; replace HB := mSt HB hb; have HGQ_ := Aside0.mk hbox; clear hb hbox hg) | ((with_reducible refine gate_dst (N := 4) rfl ?_); refine box_event rfl (N := 4) rfl (cs := #[.string (⟨#[]⟩ : ByteArray), .slice none 0 0]) (t := 24) (by first | (go_simp; done) | (go_simp; rfl)) ?_; intro gb2 hg w5 hbox hb; have q0_ := mBb HGQ_ hb; clear HGQ_; have HGQ_ := q0_; clear q0_; have BK2 := Aside0.mk hbox; have GW2 := mGw HB hg; have GE2 := GW2; replace HB := mSt HB hb; have NB1_2 := mNe BK1 hg; have NB2_1 := mSy NB1_2; replace BK1 := mBb BK1 hb; clear hb hbox hg; have hnb6 := NB1_2.out; have hnc6 := NB2_1.out; have hcz7 := blk_cell BK1.out; have hfz7 := blk_frozen BK1.out) | ((with_reducible refine gate_callee (f := 41) rfl ?_); refine goesL_ (some 8) rfl rfl Tryd.func41 (by kernel_rfl) rfl #[.agg #[.string a0_0, .slice A0_1 l0_1.length c0_1], .func (.func 43) #[] #[.pointer (some ⟨gq_, 0, none⟩)]] rfl (mA2 rfl rfl) ?_; (with_reducible refine (formation_changedR.calls k a0_0 _ _ l0_1 a1 t412 t413 t416 _ ?side1 ?side2 gq_ ?sg1 (Mx.below HMX_.out HB.out) A3.out).mono ?_); (case sg1 => exact (blk_cell HGQ_.out 0).trans rfl); (case side1 => exact Kd.C_below HR0_1.out HB.out); (case side2 => exact HC0_1.out); rintro e w8 ⟨v414, rfl, ho0, hb⟩; refine ⟨_, rfl, ?_⟩; have HO415 := Aside0.mk (Kd.R_lower ho0 (below_size HB.out)); replace BK1 := mBb BK1 hb; replace BK2 := mBb BK2 hb; replace HB := mSt HB hb; (try clear hb); (try clear ho0); have hcz9 := blk_cell BK2.out; have hfz9 := blk_frozen BK2.out; obtain ⟨Ao10, co10, eo10⟩ := Kd.R_slice HO415.out; subst eo10))
 refine bodyPost_ret (results_ct rfl _ _ gb2 24 #[.string t412, .slice Ao10 t413.length co10] (0, 0) _ rfl (by refine blk_put (cs := #[.string t412, .slice none 0 0]) ?_ 1 _ rfl; refine blk_put (cs := #[.string (⟨#[]⟩ : ByteArray), .slice none 0 0]) ?_ 0 _ rfl; exact BK2.out) Tryd.underlying24 rfl (by kernel_rfl)) rfl ?_
 exact ⟨_, rfl, by exact Kd.R_mono (Kd.R_far (p := ⟨gb2, 1, none⟩) (Kd.R_far (p := ⟨gb2, 0, none⟩) (Kd.R_types HO415.out BK2.out (by decide)) (fun _ hk => hk.2) (.string t412)) (fun _ hk => hk.2) (.slice Ao10 t413.length co10)) (fun _ hk => trivial), hO HB⟩
end Go.Proofs.YtaggccbndmmbhaaDoor.PAll
