-- Written by wip/tools/handprint.py: walks of the functions that the law reaches; Lean checks them.
import Derived.Test.YtimikhbnihedkaaDoorMC0
import Derived.Test.YtimikhbnihedkaaDoorMC2
import Derived.Test.YtimikhbnihedkaaDoorMC3
namespace Go.Proofs.YtimikhbnihedkaaDoor.PAll
open Go.RowKit Go.Proofs.YtimikhbnihedkaaDoorW.PrintWords Go.Proofs.YtimikhbnihedkaaDoorW.PrintLast Go.Proofs.YtimikhbnihedkaaDoorW.PrintMore
attribute [local go_sem] max2_int min2_int max_two min_two max_three min_three max_four min_four   -- for this text's walks alone
set_option linter.unusedVariables false
set_option linter.unusedSimpArgs false

/-! ### dancestudiolaw35_alike: function 27 -/
def dancestudiolaw35_alike.f (k : Nat) (l0 : List (S43)) (l1 : List (S43)) : Option (Bool) := (lang_Norm.f k l0).bind fun bt832 => ((lang_Norm.f k l1).bind fun bt836 => ((dancestudioref35_Same.f k bt832.1 bt836.1).bind fun t840 => (if t840 = true then (some ((bt832.2 == 0) == (bt836.2 == 0))) else (some false))))
set_option maxHeartbeats 8000000 in
set_option maxRecDepth 100000 in
theorem dancestudiolaw35_alike.calls (k : Nat) (A0 : Option Addr) (c0 : Nat) (l0 : List (S43)) (A1 : Option Addr) (c1 : Nat) (l1 : List (S43)) (r : Bool) (w : World) (hr0 : Kd.C k43 w A0 l0.length l0) (hc0 : l0.length ≤ c0) (hr1 : Kd.C k43 w A1 l1.length l1) (hc1 : l1.length ≤ c1) (hmx : Mx w) (h : dancestudiolaw35_alike.f k l0 l1 = some r) :
  Calls Tryd.prog 27 #[.slice A0 l0.length c0, .slice A1 l1.length c1] w fun e w' => e = .returned (.bool r) ∧ Below w.heap.size w w' := by
 have HMX_ := Aside0.mk hmx
 clear hmx
 have HR0 := Aside0.mk hr0
 have HC0 := Aside0.mk hc0
 clear hr0 hc0
 have HR1 := Aside0.mk hr1
 have HC1 := Aside0.mk hc1
 clear hr1 hc1
 have HB := Aside0.mk (Below.refl w.heap.size w)
 have H := h
 unfold dancestudiolaw35_alike.f at H
 clear h
 replace H := Option.bind_eq_some_iff.mp H
 obtain ⟨⟨t832, t835⟩, A30, H⟩ := H
 try dsimp only at H
 have A3 := Aside0.mk A30
 clear A30
 replace H := Option.bind_eq_some_iff.mp H
 obtain ⟨⟨t836, t839⟩, A40, H⟩ := H
 try dsimp only at H
 have A4 := Aside0.mk A40
 clear A40
 replace H := Option.bind_eq_some_iff.mp H
 obtain ⟨t840, A50, H⟩ := H
 try dsimp only at H
 have A5 := Aside0.mk A50
 clear A50
 by_cases c6 : t840 = true
 ·
  subst c6
  rw [if_pos rfl] at H
  obtain rfl := Option.some.inj H
  go_enter Tryd.func27, Tryd.ntmps27
  go_wp2_with (first | ((with_reducible refine gate_callee (f := 22) rfl ?_); refine goesL_ (some 11) rfl rfl Tryd.func22 (by kernel_rfl) rfl #[.slice A0 l0.length c0] rfl (mA1 rfl) ?_; (with_reducible refine (lang_Norm.calls k _ _ l0 t832 t835 _ HR0.out HC0.out (Mx.below HMX_.out HB.out) A3.out).mono ?_); rintro e w7 ⟨v833, rfl, ho0, hb⟩; refine ⟨_, rfl, ?_⟩; have HO834 := Aside0.mk (Kd.V_lower (Kd.V_mono (ok' := fun k_ => True) ho0 (fun k_ hk_ => trivial)) (below_size HB.out)); replace HB := mSt HB hb; (try clear hb); (try clear ho0)) | ((with_reducible refine gate_callee (f := 22) rfl ?_); refine goesL_ (some 16) rfl rfl Tryd.func22 (by kernel_rfl) rfl #[.slice A1 l1.length c1] rfl (mA1 rfl) ?_; (with_reducible refine (lang_Norm.calls k _ _ l1 t836 t839 _ (Kd.C_below HR1.out HB.out) HC1.out (Mx.below HMX_.out HB.out) A4.out).mono ?_); rintro e w8 ⟨v837, rfl, ho0, hb⟩; refine ⟨_, rfl, ?_⟩; replace HO834 := Aside0.mk (Kd.V_below HO834.out hb); have HO838 := Aside0.mk (Kd.V_lower (Kd.V_mono (ok' := fun k_ => True) ho0 (fun k_ hk_ => trivial)) (below_size HB.out)); replace HB := mSt HB hb; (try clear hb); (try clear ho0); obtain ⟨Ao9, co9, eo9⟩ := Kd.V_slice HO834.out; subst eo9; obtain ⟨Ao10, co10, eo10⟩ := Kd.V_slice HO838.out; subst eo10) | ((with_reducible refine gate_callee (f := 21) rfl ?_); refine goesL_ (some 21) rfl rfl Tryd.func21 (by kernel_rfl) rfl #[.slice Ao9 t832.length co9, .slice Ao10 t836.length co10] rfl (mA2 rfl rfl) ?_; (with_reducible refine (dancestudioref35_Same.calls k _ _ t832 _ _ t836 true _ ((Kd.V_reads' HO834.out).2.2) ((Kd.V_reads' HO834.out).2.1) ((Kd.V_reads' HO838.out).2.2) ((Kd.V_reads' HO838.out).2.1) A5.out).mono ?_); rintro e w' ⟨rfl, ⟨nd, rfl⟩⟩; refine ⟨_, rfl, ?_⟩))
  go_ret
  exact ⟨rfl, hO HB⟩
 replace c6 := Bool.eq_false_iff.mpr c6
 subst c6
 rw [if_neg (show ¬ (false = true) by decide)] at H
 obtain rfl := Option.some.inj H
 go_enter Tryd.func27, Tryd.ntmps27
 go_wp2_with (first | ((with_reducible refine gate_callee (f := 22) rfl ?_); refine goesL_ (some 11) rfl rfl Tryd.func22 (by kernel_rfl) rfl #[.slice A0 l0.length c0] rfl (mA1 rfl) ?_; (with_reducible refine (lang_Norm.calls k _ _ l0 t832 t835 _ HR0.out HC0.out (Mx.below HMX_.out HB.out) A3.out).mono ?_); rintro e w11 ⟨v833, rfl, ho0, hb⟩; refine ⟨_, rfl, ?_⟩; have HO834 := Aside0.mk (Kd.V_lower (Kd.V_mono (ok' := fun k_ => True) ho0 (fun k_ hk_ => trivial)) (below_size HB.out)); replace HB := mSt HB hb; (try clear hb); (try clear ho0)) | ((with_reducible refine gate_callee (f := 22) rfl ?_); refine goesL_ (some 16) rfl rfl Tryd.func22 (by kernel_rfl) rfl #[.slice A1 l1.length c1] rfl (mA1 rfl) ?_; (with_reducible refine (lang_Norm.calls k _ _ l1 t836 t839 _ (Kd.C_below HR1.out HB.out) HC1.out (Mx.below HMX_.out HB.out) A4.out).mono ?_); rintro e w12 ⟨v837, rfl, ho0, hb⟩; refine ⟨_, rfl, ?_⟩; replace HO834 := Aside0.mk (Kd.V_below HO834.out hb); have HO838 := Aside0.mk (Kd.V_lower (Kd.V_mono (ok' := fun k_ => True) ho0 (fun k_ hk_ => trivial)) (below_size HB.out)); replace HB := mSt HB hb; (try clear hb); (try clear ho0); obtain ⟨Ao13, co13, eo13⟩ := Kd.V_slice HO834.out; subst eo13; obtain ⟨Ao14, co14, eo14⟩ := Kd.V_slice HO838.out; subst eo14) | ((with_reducible refine gate_callee (f := 21) rfl ?_); refine goesL_ (some 21) rfl rfl Tryd.func21 (by kernel_rfl) rfl #[.slice Ao13 t832.length co13, .slice Ao14 t836.length co14] rfl (mA2 rfl rfl) ?_; (with_reducible refine (dancestudioref35_Same.calls k _ _ t832 _ _ t836 false _ ((Kd.V_reads' HO834.out).2.2) ((Kd.V_reads' HO834.out).2.1) ((Kd.V_reads' HO838.out).2.2) ((Kd.V_reads' HO838.out).2.1) A5.out).mono ?_); rintro e w' ⟨rfl, ⟨nd, rfl⟩⟩; refine ⟨_, rfl, ?_⟩))
 go_ret
 exact ⟨rfl, hO HB⟩
end Go.Proofs.YtimikhbnihedkaaDoor.PAll
