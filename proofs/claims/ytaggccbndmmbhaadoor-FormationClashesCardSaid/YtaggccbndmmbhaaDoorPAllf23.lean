-- Written by wip/tools/handprint.py: walks of the functions that the law reaches; Lean checks them.
import Derived.Test.YtaggccbndmmbhaaDoorBase
import Derived.Test.YtaggccbndmmbhaaDoorPAllf41
namespace Go.Proofs.YtaggccbndmmbhaaDoor.PAll
open Go.RowKit Go.Proofs.YtaggccbndmmbhaaDoorW.PrintWords Go.Proofs.YtaggccbndmmbhaaDoorW.PrintLast Go.Proofs.YtaggccbndmmbhaaDoorW.PrintMore
attribute [local go_sem] max2_int min2_int max_two min_two max_three min_three max_four min_four   -- for this text's walks alone
set_option linter.unusedVariables false
set_option linter.unusedSimpArgs false

/-! ### formation_Mirror: function 23 -/
def formation_Mirror.f (k : Nat) (a0_0 : ByteArray) (l0_1 : List (S52)) : Option (ByteArray × (List (S52)) × Int) := (formation_changed.f k a0_0 l0_1).bind fun bt368 => (some (bt368.1, bt368.2.1, bt368.2.2))
set_option maxHeartbeats 8000000 in
set_option maxRecDepth 100000 in
theorem formation_Mirror.calls (k : Nat) (a0_0 : ByteArray) (A0_1 : Option Addr) (c0_1 : Nat) (l0_1 : List (S52)) (r1 : ByteArray) (r2 : List (S52)) (r3 : Int) (w : World) (hr0_1 : Kd.C k52 w A0_1 l0_1.length l0_1) (hc0_1 : l0_1.length ≤ c0_1) (hmx : Mx w) (h : formation_Mirror.f k a0_0 l0_1 = some (r1, r2, r3)) :
  Calls Tryd.prog 23 #[.agg #[.string a0_0, .slice A0_1 l0_1.length c0_1]] w fun e w' => ∃ v1_ : Value, e = .returned (.tuple #[.agg #[.string r1, v1_], .int .i64 r3]) ∧ Kd.R k52 52 w' w.heap.size (fun _ => True) v1_ r2 ∧ Below w.heap.size w w' := by
 have HMX_ := Aside0.mk hmx
 clear hmx
 have hu24 := Tryd.underlying24
 have HR0_1 := Aside0.mk hr0_1
 have HC0_1 := Aside0.mk hc0_1
 clear hr0_1 hc0_1
 have HB := Aside0.mk (Below.refl w.heap.size w)
 have H := h
 unfold formation_Mirror.f at H
 clear h
 replace H := Option.bind_eq_some_iff.mp H
 obtain ⟨⟨t368, t369, t372⟩, A20, H⟩ := H
 try dsimp only at H
 have A2 := Aside0.mk A20
 clear A20
 simp only [Option.some.injEq, Prod.mk.injEq] at H
 obtain ⟨rfl, rfl, rfl⟩ := H
 go_enter Tryd.func23, Tryd.ntmps23
 go_wp2_with (first | ((with_reducible refine gate_dst (N := 1) rfl ?_); refine box_event rfl (N := 1) rfl (cs := #[.string a0_0, .slice A0_1 l0_1.length c0_1]) (t := 24) (by first | (go_simp; done) | (go_simp; rfl)) ?_; intro gb1 hg w3 hbox hb; have BK1 := Aside0.mk hbox; have GW1 := mGw HB hg; have GE1 := GW1; replace HB := mSt HB hb; clear hb hbox hg) | ((with_reducible refine gate_dst (N := 2) rfl ?_); refine box_event rfl (N := 2) rfl (cs := #[.string (⟨#[]⟩ : ByteArray), .slice none 0 0]) (t := 24) (by first | (go_simp; done) | (go_simp; rfl)) ?_; intro gb2 hg w4 hbox hb; have BK2 := Aside0.mk hbox; have GW2 := mGw HB hg; have GE2 := GW2; replace HB := mSt HB hb; have NB1_2 := mNe BK1 hg; have NB2_1 := mSy NB1_2; replace BK1 := mBb BK1 hb; clear hb hbox hg; have hnb5 := NB1_2.out; have hnc5 := NB2_1.out; have hcz6 := blk_cell BK1.out; have hfz6 := blk_frozen BK1.out) | ((with_reducible refine gate_callee (f := 41) rfl ?_); refine goesL_ (some 5) rfl rfl Tryd.func41 (by kernel_rfl) rfl #[.agg #[.string a0_0, .slice A0_1 l0_1.length c0_1], .func (.func 42) #[] #[]] rfl (mA2 rfl rfl) ?_; (with_reducible refine (formation_changed.calls k a0_0 _ _ l0_1 t368 t369 t372 _ ?side1 ?side2 ?sidem_ A2.out).mono ?_); (case sidem_ => exact Mx.below HMX_.out HB.out); (case side1 => exact Kd.C_below HR0_1.out HB.out); (case side2 => exact HC0_1.out); rintro e w7 ⟨v370, rfl, ho0, hb⟩; refine ⟨_, rfl, ?_⟩; have HO371 := Aside0.mk (Kd.R_lower ho0 (below_size HB.out)); replace BK1 := mBb BK1 hb; replace BK2 := mBb BK2 hb; replace HB := mSt HB hb; (try clear hb); (try clear ho0); have hcz8 := blk_cell BK2.out; have hfz8 := blk_frozen BK2.out; obtain ⟨Ao9, co9, eo9⟩ := Kd.R_slice HO371.out; subst eo9))
 refine bodyPost_ret (results_ct rfl _ _ gb2 24 #[.string t368, .slice Ao9 t369.length co9] (0, 0) _ rfl (by (with_reducible repeat (first | refine blk_drewN ?_ _ | refine blk_drew ?_ | refine blk_alloc ?_ _)); refine blk_put (cs := #[.string t368, .slice none 0 0]) ?_ 1 _ rfl; (with_reducible repeat (first | refine blk_drewN ?_ _ | refine blk_drew ?_ | refine blk_alloc ?_ _)); refine blk_put (cs := #[.string (⟨#[]⟩ : ByteArray), .slice none 0 0]) ?_ 0 _ rfl; (with_reducible repeat (first | refine blk_drewN ?_ _ | refine blk_drew ?_ | refine blk_alloc ?_ _)); exact BK2.out) Tryd.underlying24 rfl (by kernel_rfl)) rfl ?_
 exact ⟨_, rfl, by (with_reducible repeat (first | apply Kd.R_alloc | apply Kd.R_drewN | apply Kd.R_drew)); exact Kd.R_mono (Kd.R_far (p := ⟨gb2, 1, none⟩) (Kd.R_far (p := ⟨gb2, 0, none⟩) (Kd.R_types HO371.out BK2.out (by decide)) (fun _ hk => hk.2) (.string t368)) (fun _ hk => hk.2) (.slice Ao9 t369.length co9)) (fun _ hk => trivial), hO HB⟩
end Go.Proofs.YtaggccbndmmbhaaDoor.PAll
