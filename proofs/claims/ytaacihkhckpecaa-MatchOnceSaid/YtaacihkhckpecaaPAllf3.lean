-- Written by wip/tools/handprint.py: walks of the functions that the law reaches; Lean checks them.
import Derived.Test.YtaacihkhckpecaaPAllx0
import Derived.Test.YtaacihkhckpecaaPAllf11
import Derived.Test.YtaacihkhckpecaaPAllf12
import Derived.Test.YtaacihkhckpecaaPAllf13
import Derived.Test.YtaacihkhckpecaaPAllf14
import Derived.Test.YtaacihkhckpecaaPAllf15
namespace Go.Proofs.Ytaacihkhckpecaa.PAll
open Go.RowKit Go.Proofs.YtaacihkhckpecaaW.PrintWords Go.Proofs.YtaacihkhckpecaaW.PrintLast Go.Proofs.YtaacihkhckpecaaW.PrintMore
attribute [local go_sem] max2_int min2_int max_two min_two max_three min_three max_four min_four   -- for this text's walks alone
set_option linter.unusedVariables false
set_option linter.unusedSimpArgs false

/-! ### dancestudiolaw10_MatchSizes: function 3 -/
def dancestudiolaw10_MatchSizes.f (k : Nat) (l0 : List (List Bool)) : Option (Bool) := (match_Size.f k l0).bind fun bt359 => ((dancestudioref10_Size.f k l0).bind fun bt361 => ((match_Check.f k l0).bind fun t363 => ((dancestudioref10_Check.f k l0).bind fun t364 => (if t363 = t364 then (if bt359.1 = bt361.1 then (if bt359.2 = bt361.2 then ((dancestudiolaw10_awake.f k).bind fun t365 => (some t365)) else (none)) else (none)) else (none)))))
theorem dancestudiolaw10_MatchSizes.mono : ∀ a0 k, LeO (dancestudiolaw10_MatchSizes.f k a0) (dancestudiolaw10_MatchSizes.f (k + 1) a0) := by
 intro a0 k
 unfold dancestudiolaw10_MatchSizes.f
 repeat' first
   | (with_reducible exact dancestudiolaw10_awake.mono _)
   | (with_reducible exact dancestudioref10_Check.mono _ _)
   | (with_reducible exact dancestudioref10_Size.mono _ _)
   | (with_reducible exact match_Check.mono _ _)
   | (with_reducible exact match_Size.mono _ _)
   | (with_reducible exact LeO.refl _)
   | (with_reducible exact LeO.none _)
   | (with_reducible refine LeO.ite ?_ ?_)
   | (with_reducible refine LeO.bind ?_ (fun _ => ?_))
   | exact dancestudiolaw10_awake.mono _
   | exact dancestudioref10_Check.mono _ _
   | exact dancestudioref10_Size.mono _ _
   | exact match_Check.mono _ _
   | exact match_Size.mono _ _
   | exact LeO.none _
   | refine LeO.ite ?_ ?_
   | refine LeO.bind ?_ (fun _ => ?_)
set_option maxHeartbeats 8000000 in
set_option maxRecDepth 100000 in
theorem dancestudiolaw10_MatchSizes.calls (k : Nat) (A0 : Option Addr) (c0 : Nat) (l0 : List (List Bool)) (r : Bool) (w : World) (hr0 : Kd.C (Kd.slice 4 Kd.bool) w A0 l0.length l0) (hc0 : l0.length ≤ c0) (h : dancestudiolaw10_MatchSizes.f k l0 = some r) :
  Calls Try.prog 3 #[.slice A0 l0.length c0] w fun e w' => e = .returned (.bool r) ∧ Below w.heap.size w w' := by
 have HR0 := Aside0.mk hr0
 have HC0 := Aside0.mk hc0
 clear hr0 hc0
 have HB := Aside0.mk (Below.refl w.heap.size w)
 have H : ((match_Size.f k l0).bind fun bt359 => ((dancestudioref10_Size.f k l0).bind fun bt361 => ((match_Check.f k l0).bind fun t363 => ((dancestudioref10_Check.f k l0).bind fun t364 => (if t363 = t364 then (if bt359.1 = bt361.1 then (if bt359.2 = bt361.2 then ((dancestudiolaw10_awake.f k).bind fun t365 => (some t365)) else (none)) else (none)) else (none)))))) = some r := h
 clear h
 replace H := Option.bind_eq_some_iff.mp H
 obtain ⟨⟨t359, t360⟩, A20, H⟩ := H
 replace H : ((dancestudioref10_Size.f k l0).bind fun bt361 => ((match_Check.f k l0).bind fun t363 => ((dancestudioref10_Check.f k l0).bind fun t364 => (if t363 = t364 then (if t359 = bt361.1 then (if t360 = bt361.2 then ((dancestudiolaw10_awake.f k).bind fun t365 => (some t365)) else (none)) else (none)) else (none))))) = some r := H
 have A2 := Aside0.mk A20
 clear A20
 replace H := Option.bind_eq_some_iff.mp H
 obtain ⟨⟨t361, t362⟩, A30, H⟩ := H
 replace H : ((match_Check.f k l0).bind fun t363 => ((dancestudioref10_Check.f k l0).bind fun t364 => (if t363 = t364 then (if t359 = t361 then (if t360 = t362 then ((dancestudiolaw10_awake.f k).bind fun t365 => (some t365)) else (none)) else (none)) else (none)))) = some r := H
 have A3 := Aside0.mk A30
 clear A30
 replace H := Option.bind_eq_some_iff.mp H
 obtain ⟨t363, A40, H⟩ := H
 replace H : ((dancestudioref10_Check.f k l0).bind fun t364 => (if t363 = t364 then (if t359 = t361 then (if t360 = t362 then ((dancestudiolaw10_awake.f k).bind fun t365 => (some t365)) else (none)) else (none)) else (none))) = some r := H
 have A4 := Aside0.mk A40
 clear A40
 replace H := Option.bind_eq_some_iff.mp H
 obtain ⟨t364, A50, H⟩ := H
 replace H : (if t363 = t364 then (if t359 = t361 then (if t360 = t362 then ((dancestudiolaw10_awake.f k).bind fun t365 => (some t365)) else (none)) else (none)) else (none)) = some r := H
 have A5 := Aside0.mk A50
 clear A50
 by_cases c6 : t363 = t364
 ·
  rw [if_pos c6] at H
  have c6b0 : (t363 == t364) = true := beq_iff_eq.mpr c6
  have c6b1 : (t363 != t364) = false := bne_eq_false_iff_eq.mpr c6
  clear c6
  by_cases c7 : t359 = t361
  ·
   rw [if_pos c7] at H
   have c7b0 : (t359 == t361) = true := beq_iff_eq.mpr c7
   have c7b1 : (t359 != t361) = false := bne_eq_false_iff_eq.mpr c7
   clear c7
   by_cases c8 : t360 = t362
   ·
    rw [if_pos c8] at H
    have c8b0 : (t360 == t362) = true := beq_iff_eq.mpr c8
    have c8b1 : (t360 != t362) = false := bne_eq_false_iff_eq.mpr c8
    clear c8
    replace H := Option.bind_eq_some_iff.mp H
    obtain ⟨t365, A90, H⟩ := H
    replace H : (some t365) = some r := H
    have A9 := Aside0.mk A90
    clear A90
    obtain rfl := Option.some.inj H
    go_enter Try.func3, Try.ntmps3
    go_wp2_with (first | ((with_reducible refine gate_callee (f := 11) rfl ?_); refine goesL_ (some 9) rfl rfl Try.func11 (by kernel_rfl) rfl #[.slice A0 l0.length c0] rfl (by (try simp only [List.map_toArray, List.map_cons, List.map_nil]); first | done | rfl | (simp only [List.length_drop, List.length_take]; rfl)) ?_; (with_reducible refine (match_Size.calls k _ _ l0 t359 t360 _ ?side1 ?side2 A2.out).mono ?_); (case side1 => repeat (first | exact HR0.out | (with_reducible refine Kd.C_alloc ?_ _) | (with_reducible refine Kd.C_drewN ?_ _) | (with_reducible refine Kd.C_drew ?_))); (case side2 => exact HC0.out); rintro e w10 ⟨rfl, hb⟩; refine ⟨_, rfl, ?_⟩; have n0_ := Aside0.mk (below_step (by repeat (first | (with_reducible first | exact HB.out | apply below_alloc | apply pw_below_drewN | apply below_drew1) | exact HB.out)) hb); clear HB; have HB := n0_; clear n0_; (try clear hb); (try clear hb2); (try clear hk); (try clear hi)) | ((with_reducible refine gate_callee (f := 12) rfl ?_); refine goesL_ (some 14) rfl rfl Try.func12 (by kernel_rfl) rfl #[.slice A0 l0.length c0] rfl (by (try simp only [List.map_toArray, List.map_cons, List.map_nil]); first | done | rfl | (simp only [List.length_drop, List.length_take]; rfl)) ?_; (with_reducible refine (dancestudioref10_Size.calls k _ _ l0 t361 t362 _ ?side1 ?side2 A3.out).mono ?_); (case side1 => repeat (first | exact (Kd.C_below HR0.out HB.out) | (with_reducible refine Kd.C_alloc ?_ _) | (with_reducible refine Kd.C_drewN ?_ _) | (with_reducible refine Kd.C_drew ?_))); (case side2 => exact HC0.out); rintro e w11 ⟨rfl, hb⟩; refine ⟨_, rfl, ?_⟩; have n0_ := Aside0.mk (below_step (by repeat (first | (with_reducible first | exact HB.out | apply below_alloc | apply pw_below_drewN | apply below_drew1) | exact HB.out)) hb); clear HB; have HB := n0_; clear n0_; (try clear hb); (try clear hb2); (try clear hk); (try clear hi)) | ((with_reducible refine gate_callee (f := 13) rfl ?_); refine goesL_ (some 18) rfl rfl Try.func13 (by kernel_rfl) rfl #[.slice A0 l0.length c0] rfl (by (try simp only [List.map_toArray, List.map_cons, List.map_nil]); first | done | rfl | (simp only [List.length_drop, List.length_take]; rfl)) ?_; (with_reducible refine (match_Check.calls k _ _ l0 t363 _ ?side1 ?side2 A4.out).mono ?_); (case side1 => repeat (first | exact (Kd.C_below HR0.out HB.out) | (with_reducible refine Kd.C_alloc ?_ _) | (with_reducible refine Kd.C_drewN ?_ _) | (with_reducible refine Kd.C_drew ?_))); (case side2 => exact HC0.out); rintro e w' ⟨rfl, ⟨nd, rfl⟩⟩; refine ⟨_, rfl, ?_⟩) | ((with_reducible refine gate_callee (f := 14) rfl ?_); refine goesL_ (some 20) rfl rfl Try.func14 (by kernel_rfl) rfl #[.slice A0 l0.length c0] rfl (by (try simp only [List.map_toArray, List.map_cons, List.map_nil]); first | done | rfl | (simp only [List.length_drop, List.length_take]; rfl)) ?_; (with_reducible refine (dancestudioref10_Check.calls k _ _ l0 t364 _ ?side1 ?side2 A5.out).mono ?_); (case side1 => repeat (first | exact (Kd.C_below HR0.out (by repeat (first | (with_reducible first | exact HB.out | apply below_alloc | apply pw_below_drewN | apply below_drew1) | exact HB.out))) | (with_reducible refine Kd.C_alloc ?_ _) | (with_reducible refine Kd.C_drewN ?_ _) | (with_reducible refine Kd.C_drew ?_))); (case side2 => exact HC0.out); rintro e w' ⟨rfl, ⟨nd, rfl⟩⟩; refine ⟨_, rfl, ?_⟩) | (go_at_call 15; (with_reducible refine (dancestudiolaw10_awake.calls k  t365 _ A9.out).mono ?_); rintro e w12 ⟨rfl, hb⟩; have n0_ := Aside0.mk (below_step (by repeat (first | (with_reducible first | exact HB.out | apply below_alloc | apply pw_below_drewN | apply below_drew1) | exact HB.out)) hb); clear HB; have HB := n0_; clear n0_; (try clear hb); (try clear hb2); (try clear hk); (try clear hi)))
    go_ret
    exact ⟨by first | rfl | (simp [errW_none, errW_some] <;> rfl) | (simp [*, errW_none, errW_some] <;> rfl), by repeat (first | (with_reducible first | exact HB.out | apply below_alloc | apply pw_below_drewN | apply below_drew1) | exact HB.out)⟩
   ·
    rw [if_neg c8] at H
    exact absurd H (by simp)
  ·
   rw [if_neg c7] at H
   exact absurd H (by simp)
 ·
  rw [if_neg c6] at H
  exact absurd H (by simp)
end Go.Proofs.Ytaacihkhckpecaa.PAll
