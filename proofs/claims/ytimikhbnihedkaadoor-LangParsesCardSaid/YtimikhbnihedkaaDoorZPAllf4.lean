import Derived.Test.YtimikhbnihedkaaDoorZMC0
import Derived.Test.YtimikhbnihedkaaDoorZMC3
import Derived.Test.YtimikhbnihedkaaDoorZMC2
import Derived.Test.YtimikhbnihedkaaDoorZPAllf20
namespace Go.Proofs.YtimikhbnihedkaaDoor.PAll
open Go.RowKit Go.Proofs.YtimikhbnihedkaaDoorW.PrintWords Go.Proofs.YtimikhbnihedkaaDoorW.PrintLast Go.Proofs.YtimikhbnihedkaaDoorW.PrintMore
attribute [local go_sem] max2_int min2_int max_two min_two max_three min_three max_four min_four
set_option linter.unusedVariables false
set_option linter.unusedSimpArgs false

/-! ### dancestudiolaw35_LangParses: function 4 -/
def dancestudiolaw35_LangParses.f (k : Nat) (a0 : ByteArray) : Option (Bool) := if (a0.size : Int) > 1100 then ((dancestudiolaw35_awake.f k).bind fun t614 => (some t614)) else ((lang_Parse.f k a0).bind fun bt615 => ((dancestudioref35_Parse.f k a0).bind fun bt619 => ((dancestudioref35_Same.f k bt615.1 bt619.1).bind fun t623 => (if t623 = true then (if bt615.2 = bt619.2 then ((dancestudiolaw35_awake.f k).bind fun t624 => (some t624)) else (none)) else (none)))))
set_option maxHeartbeats 8000000 in
set_option maxRecDepth 100000 in
theorem dancestudiolaw35_LangParses.calls (k : Nat) (a0 : ByteArray) (r : Bool) (w : World) (hmx : Mx w) (h : dancestudiolaw35_LangParses.f k a0 = some r) :
  Calls Tryd.prog 4 #[.string a0] w fun e w' => e = .returned (.bool r) ∧ Below w.heap.size w w' := by
 have HMX_ := Aside0.mk hmx
 clear hmx
 have HB := Aside0.mk (Below.refl w.heap.size w)
 have H := h
 unfold dancestudiolaw35_LangParses.f at H
 clear h
 by_cases c2 : (a0.size : Int) > 1100
 ·
  rw [if_pos c2] at H
  have c2b0 := decide_eq_true c2
  have c2b1 : decide (1100 < a0.size) = true := decide_eq_true (by omega)
  clear c2
  replace H := Option.bind_eq_some_iff.mp H
  obtain ⟨t614, A30, H⟩ := H
  try dsimp only at H
  have A3 := Aside0.mk A30
  clear A30
  obtain rfl := Option.some.inj H
  go_enter Tryd.func4, Tryd.ntmps4
  go_wp2_with (first | ((with_reducible refine gate_callee (f := 11) rfl ?_); refine goesL_ (some 10) rfl rfl Tryd.func11 (by kernel_rfl) rfl #[] rfl (mA0) ?_; (with_reducible refine (dancestudiolaw35_awake.calls k  t614 _ (Mx.below HMX_.out HB.out) A3.out).mono ?_); rintro e w4 ⟨rfl, hb⟩; refine ⟨_, rfl, ?_⟩; replace HB := mSt HB hb; (try clear hb)))
  go_ret
  exact ⟨rfl, HB.out⟩
 rw [if_neg c2] at H
 have c2b0 := decide_eq_false c2
 have c2b1 : decide (1100 < a0.size) = false := decide_eq_false (by omega)
 clear c2
 replace H := Option.bind_eq_some_iff.mp H
 obtain ⟨⟨t615, t616⟩, A50, H⟩ := H
 try dsimp only at H
 have A5 := Aside0.mk A50
 clear A50
 replace H := Option.bind_eq_some_iff.mp H
 obtain ⟨⟨t619, t620⟩, A60, H⟩ := H
 try dsimp only at H
 have A6 := Aside0.mk A60
 clear A60
 replace H := Option.bind_eq_some_iff.mp H
 obtain ⟨t623, A70, H⟩ := H
 try dsimp only at H
 have A7 := Aside0.mk A70
 clear A70
 by_cases c8 : t623 = true
 rotate_left
 ·
  replace c8 := Bool.eq_false_iff.mpr c8
  subst c8
  rw [if_neg (show ¬ (false = true) by decide)] at H
  exact absurd H (by simp)
 subst c8
 rw [if_pos rfl] at H
 obtain ⟨c9, H⟩ : (t616 = t620) ∧ _ := mIf H
 have c9b0 := beq_iff_eq.mpr c9
 have c9b1 := bne_eq_false_iff_eq.mpr c9
 clear c9
 replace H := Option.bind_eq_some_iff.mp H
 obtain ⟨t624, A100, H⟩ := H
 try dsimp only at H
 have A10 := Aside0.mk A100
 clear A100
 obtain rfl := Option.some.inj H
 go_enter Tryd.func4, Tryd.ntmps4
 go_wp2_with (first | ((with_reducible refine gate_callee (f := 19) rfl ?_); refine goesL_ (some 13) rfl rfl Tryd.func19 (by kernel_rfl) rfl #[.string a0] rfl (mA1 rfl) ?_; (with_reducible refine (lang_Parse.calls k a0 t615 t616 _ ?sidem_ A5.out).mono ?_); (case sidem_ => first | ((repeat (first | exact HMX_.out | apply Mx.drewN | apply Mx.drew)); done) | (refine Mx.below HMX_.out ?_; (repeat (first | (with_reducible first | exact HB.out | apply below_alloc | apply pw_below_drewN | apply below_drew1 | refine below_set ?_ (Aside0.out (by assumption))) | exact HB.out)); done)); rintro e w11 ⟨v617, rfl, ho0, hb⟩; refine ⟨_, rfl, ?_⟩; have HO618 := Aside0.mk (Kd.R_lower ho0 (below_size (hO HB))); replace HB := mSx HB hb; (try clear hb); (try clear ho0)) | ((with_reducible refine gate_callee (f := 20) rfl ?_); refine goesL_ (some 18) rfl rfl Tryd.func20 (by kernel_rfl) rfl #[.string a0] rfl (mA1 rfl) ?_; (with_reducible refine (dancestudioref35_Parse.calls k a0 t619 t620 _ A6.out).mono ?_); rintro e w12 ⟨v621, rfl, ho0, hb⟩; refine ⟨_, rfl, ?_⟩; have HO622 := Aside0.mk (Kd.R_lower (Kd.R_new' ho0 (Kd.R_lt (rO HO618))) (below_size (hO HB))); replace HO618 := Aside0.mk (Kd.R_elder' (rO HO618) (Kd.R_base ho0) hb); replace HB := mSx HB hb; (try clear hb); (try clear ho0); obtain ⟨Ao13, co13, eo13⟩ := Kd.R_slice HO618.out; subst eo13; obtain ⟨Ao14, co14, eo14⟩ := Kd.R_slice HO622.out; subst eo14) | ((with_reducible refine gate_callee (f := 21) rfl ?_); refine goesL_ (some 23) rfl rfl Tryd.func21 (by kernel_rfl) rfl #[.slice Ao13 t615.length co13, .slice Ao14 t619.length co14] rfl (mA2 rfl rfl) ?_; (with_reducible refine (dancestudioref35_Same.calls k _ _ t615 _ _ t619 true _ (cO (Kd.R_reads' HO618.out).2.2) ((Kd.R_reads' HO618.out).2.1) (cO (Kd.R_reads' HO622.out).2.2) ((Kd.R_reads' HO622.out).2.1) A7.out).mono ?_); rintro e w' ⟨rfl, ⟨nd, rfl⟩⟩; refine ⟨_, rfl, ?_⟩) | (go_at_call 11; (with_reducible refine (dancestudiolaw35_awake.calls k  t624 _ ?sidem_ A10.out).mono ?_); (case sidem_ => first | ((repeat (first | exact HMX_.out | apply Mx.drewN | apply Mx.drew)); done) | (refine Mx.below HMX_.out ?_; (repeat (first | (with_reducible first | exact HB.out | apply below_alloc | apply pw_below_drewN | apply below_drew1 | refine below_set ?_ (Aside0.out (by assumption))) | exact HB.out)); done)); rintro e w15 ⟨rfl, hb⟩; replace HO618 := Aside0.mk (Kd.R_below (rO HO618) hb); replace HO622 := Aside0.mk (Kd.R_below (rO HO622) hb); replace HB := mSx HB hb; (try clear hb)))
 go_ret
 exact ⟨rfl, HB.out⟩
end Go.Proofs.YtimikhbnihedkaaDoor.PAll
