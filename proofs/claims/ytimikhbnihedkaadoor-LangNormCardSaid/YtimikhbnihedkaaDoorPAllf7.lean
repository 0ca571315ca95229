-- Written by wip/tools/handprint.py: walks of the functions that the law reaches; Lean checks them.
import Derived.Test.YtimikhbnihedkaaDoorMC0
import Derived.Test.YtimikhbnihedkaaDoorMC3
import Derived.Test.YtimikhbnihedkaaDoorMC1
import Derived.Test.YtimikhbnihedkaaDoorMC2
namespace Go.Proofs.YtimikhbnihedkaaDoor.PAll
open Go.RowKit Go.Proofs.YtimikhbnihedkaaDoorW.PrintWords Go.Proofs.YtimikhbnihedkaaDoorW.PrintLast Go.Proofs.YtimikhbnihedkaaDoorW.PrintMore
attribute [local go_sem] max2_int min2_int max_two min_two max_three min_three max_four min_four   -- for this text's walks alone
set_option linter.unusedVariables false
set_option linter.unusedSimpArgs false

/-! ### dancestudiolaw35_LangNorm: function 7 -/
mutual
def dancestudiolaw35_LangNorm.j0 : Nat → List (S43) → List ByteArray → List Int → Bool → Option (Bool)
 | 0, _, _, _, _ => none
 | k + 1, x0, x1, x2, x32 => if x32 = true then ((dancestudiolaw35_awake.f k).bind fun t784 => (some t784)) else ((lang_Norm.f k x0).bind fun bt785 => (if bt785.2 = 0 then ((lang_Norm.f k bt785.1).bind fun bt790 => ((lang_Length.f k x0 x1 x2).bind fun bt794 => ((lang_Length.f k bt785.1 x1 x2).bind fun bt796 => (if bt790.2 = 0 then ((dancestudioref35_Same.f k bt785.1 bt790.1).bind fun t798 => (if t798 = true then (if bt794.1 = bt796.1 then (dancestudiolaw35_LangNorm.j1 k x0 bt785.1 ((bt794.2 == 0) != (bt796.2 == 0))) else (dancestudiolaw35_LangNorm.j1 k x0 bt785.1 true)) else (dancestudiolaw35_LangNorm.j1 k x0 bt785.1 true))) else (dancestudiolaw35_LangNorm.j1 k x0 bt785.1 true))))) else (if (bt785.1.length : Int) = 0 then ((dancestudiolaw35_awake.f k).bind fun t789 => (some t789)) else (none))))
def dancestudiolaw35_LangNorm.j1 : Nat → List (S43) → List (S43) → Bool → Option (Bool)
 | 0, _, _, _ => none
 | k + 1, x0, x7, x85 => if x85 = true then (none) else ((lang_Names.f k x0).bind fun bt799 => ((lang_Names.f k x7).bind fun bt803 => (if bt799.2 = 0 then (if bt803.2 = 0 then (dancestudiolaw35_LangNorm.j2 k x7 bt799.1 bt803.1 ((bt799.1.length : Int) != (bt803.1.length : Int))) else (dancestudiolaw35_LangNorm.j2 k x7 bt799.1 bt803.1 true)) else (dancestudiolaw35_LangNorm.j2 k x7 bt799.1 bt803.1 true))))
def dancestudiolaw35_LangNorm.j2 : Nat → List (S43) → List ByteArray → List ByteArray → Bool → Option (Bool)
 | 0, _, _, _, _ => none
 | k + 1, x7, x14, x15, x108 => if x108 = true then (none) else (dancestudiolaw35_LangNorm.l0 k x7 x14 x15 0)
def dancestudiolaw35_LangNorm.l0 : Nat → List (S43) → List ByteArray → List ByteArray → Int → Option (Bool)
 | 0, _, _, _, _ => none
 | k + 1, x7, x14, x15, x16 => if x16 < (x14.length : Int) then (dancestudiolaw35_LangNorm.l1 k x7 x14 x15 x16 false 0) else (dancestudiolaw35_LangNorm.l2 k x7 0)
def dancestudiolaw35_LangNorm.l1 : Nat → List (S43) → List ByteArray → List ByteArray → Int → Bool → Int → Option (Bool)
 | 0, _, _, _, _, _, _ => none
 | k + 1, x7, x14, x15, x16, x17, x18 => if x18 < (x15.length : Int) then (if x17 = true then (dancestudiolaw35_LangNorm.l1 k x7 x14 x15 x16 true (wrap64 (x18 + 1))) else (if 0 ≤ x16 then (if x16 < (x14.length : Int) then (if 0 ≤ x18 then (dancestudiolaw35_LangNorm.l1 k x7 x14 x15 x16 ((rdOf ByteArray.empty x14 x16).toList == (rdOf ByteArray.empty x15 x18).toList) (wrap64 (x18 + 1))) else (none)) else (none)) else (none))) else (if x17 = true then (dancestudiolaw35_LangNorm.l0 k x7 x14 x15 (wrap64 (x16 + 1))) else (none))
def dancestudiolaw35_LangNorm.l2 : Nat → List (S43) → Int → Option (Bool)
 | 0, _, _ => none
 | k + 1, x7, x19 => if x19 < (x7.length : Int) then (if 0 ≤ x19 then (if ((rd_T43 x7 x19).f0) = 7 then (none) else (if ((rd_T43 x7 x19).f0) = 2 then (if ((rd_T43 x7 x19).f3) < 2 then (none) else (dancestudiolaw35_LangNorm.l2 k x7 (wrap64 (x19 + 1)))) else (dancestudiolaw35_LangNorm.l2 k x7 (wrap64 (x19 + 1))))) else (none)) else ((dancestudiolaw35_awake.f k).bind fun t812 => (some t812))
end
def dancestudiolaw35_LangNorm.f (k : Nat) (l0 : List (S43)) (l1 : List ByteArray) (l2 : List Int) : Option (Bool) := (dancestudiolaw35_short.f k l0).bind fun t783 => (if t783 = true then (if (l1.length : Int) > 20 then (dancestudiolaw35_LangNorm.j0 k l0 l1 l2 true) else (dancestudiolaw35_LangNorm.j0 k l0 l1 l2 (decide ((l2.length : Int) > 20)))) else (dancestudiolaw35_LangNorm.j0 k l0 l1 l2 true))
set_option maxHeartbeats 8000000 in
set_option maxRecDepth 100000 in
theorem dancestudiolaw35_LangNorm.calls (k : Nat) (A0 : Option Addr) (c0 : Nat) (l0 : List (S43)) (A1 : Option Addr) (c1 : Nat) (l1 : List ByteArray) (A2 : Option Addr) (c2 : Nat) (l2 : List Int) (r : Bool) (w : World) (hr0 : Kd.C k43 w A0 l0.length l0) (hc0 : l0.length ≤ c0) (hr1 : Kd.C Kd.string w A1 l1.length l1) (hc1 : l1.length ≤ c1) (hr2 : Kd.C (Kd.int .i64) w A2 l2.length l2) (hc2 : l2.length ≤ c2) (hmx : Mx w) (h : dancestudiolaw35_LangNorm.f k l0 l1 l2 = some r) :
  Calls Tryd.prog 7 #[.slice A0 l0.length c0, .slice A1 l1.length c1, .slice A2 l2.length c2] w fun e w' => e = .returned (.bool r) ∧ Below w.heap.size w w' := by
 have HMX_ := Aside0.mk hmx
 clear hmx
 have HR0 := Aside0.mk hr0
 have HC0 := Aside0.mk hc0
 clear hr0 hc0
 have HR1 := Aside0.mk hr1
 have HC1 := Aside0.mk hc1
 clear hr1 hc1
 have HR2 := Aside0.mk hr2
 have HC2 := Aside0.mk hc2
 clear hr2 hc2
 have HB := Aside0.mk (Below.refl w.heap.size w)
 have H := h
 unfold dancestudiolaw35_LangNorm.f at H
 clear h
 have HC4 := Aside0.mk H
 clear H
 go_enter Tryd.func7, Tryd.ntmps7
 go_upto_region 1 with (fail)
 repeat (go_quiet (fail); go_upto_region 1 with (fail))
 go_cut [32] (fun v32 wc => ∃ (kq : Nat) (x32_3 : Bool), v32 = .bool x32_3 ∧ Aside0 (dancestudiolaw35_LangNorm.j0 kq l0 l1 l2 x32_3 = some r) ∧ Aside0 (kq ≤ k) ∧ Aside0 (Below w.heap.size w wc))
 case first =>
  have H := HC4.out
  clear HC4
  replace H := Option.bind_eq_some_iff.mp H
  obtain ⟨t783, A50, H⟩ := H
  try dsimp only at H
  have A5 := Aside0.mk A50
  clear A50
  by_cases c6 : t783 = true
  rotate_left
  ·
   replace c6 := Bool.eq_false_iff.mpr c6
   subst c6
   rw [if_neg (show ¬ (false = true) by decide)] at H
   have H' := Aside0.mk H
   clear H
   go_wp2_with (first | (go_at_call 10; (with_reducible refine (dancestudiolaw35_short.calls k _ _ l0 false _ (Kd.C_below HR0.out HB.out) HC0.out A5.out).mono ?_); rintro e w' ⟨rfl, ⟨nd, rfl⟩⟩; (try first | exact ⟨rfl, _, World.drewN_drewN _ _ _⟩ | exact ⟨rfl, _, Eq.trans (World.drewN_drewN _ _ _) (congrArg (World.drewN _) (Nat.add_assoc _ _ _))⟩)))
   repeat (go_quiet (first | (go_at_call 10; (with_reducible refine (dancestudiolaw35_short.calls k _ _ l0 false _ (Kd.C_below HR0.out HB.out) HC0.out A5.out).mono ?_); rintro e w' ⟨rfl, ⟨nd, rfl⟩⟩; (try first | exact ⟨rfl, _, World.drewN_drewN _ _ _⟩ | exact ⟨rfl, _, Eq.trans (World.drewN_drewN _ _ _) (congrArg (World.drewN _) (Nat.add_assoc _ _ _))⟩))); try go_wp2_with (first | (go_at_call 10; (with_reducible refine (dancestudiolaw35_short.calls k _ _ l0 false _ (Kd.C_below HR0.out HB.out) HC0.out A5.out).mono ?_); rintro e w' ⟨rfl, ⟨nd, rfl⟩⟩; (try first | exact ⟨rfl, _, World.drewN_drewN _ _ _⟩ | exact ⟨rfl, _, Eq.trans (World.drewN_drewN _ _ _) (congrArg (World.drewN _) (Nat.add_assoc _ _ _))⟩))))
   go_meet
   case rel => exact ⟨_, (true), rfl, H', ⟨by first | omega | exact Nat.le_refl _⟩, ⟨hO HB⟩⟩
  subst c6
  rw [if_pos rfl] at H
  by_cases c7 : (l1.length : Int) > 20
  rotate_left
  ·
   rw [if_neg c7] at H
   have c7b0 := decide_eq_false c7
   have c7b1 : decide (20 < l1.length) = false := decide_eq_false (by omega)
   clear c7
   (first | rw [c7b0] | (simp only [i64_w, i32_w]; rw [c7b0]) | skip)
   have H' := Aside0.mk H
   clear H
   go_wp2_with (first | (go_at_call 10; (with_reducible refine (dancestudiolaw35_short.calls k _ _ l0 true _ (Kd.C_below HR0.out HB.out) HC0.out A5.out).mono ?_); rintro e w' ⟨rfl, ⟨nd, rfl⟩⟩; (try first | exact ⟨rfl, _, World.drewN_drewN _ _ _⟩ | exact ⟨rfl, _, Eq.trans (World.drewN_drewN _ _ _) (congrArg (World.drewN _) (Nat.add_assoc _ _ _))⟩)))
   repeat (go_quiet (first | (go_at_call 10; (with_reducible refine (dancestudiolaw35_short.calls k _ _ l0 true _ (Kd.C_below HR0.out HB.out) HC0.out A5.out).mono ?_); rintro e w' ⟨rfl, ⟨nd, rfl⟩⟩; (try first | exact ⟨rfl, _, World.drewN_drewN _ _ _⟩ | exact ⟨rfl, _, Eq.trans (World.drewN_drewN _ _ _) (congrArg (World.drewN _) (Nat.add_assoc _ _ _))⟩))); try go_wp2_with (first | (go_at_call 10; (with_reducible refine (dancestudiolaw35_short.calls k _ _ l0 true _ (Kd.C_below HR0.out HB.out) HC0.out A5.out).mono ?_); rintro e w' ⟨rfl, ⟨nd, rfl⟩⟩; (try first | exact ⟨rfl, _, World.drewN_drewN _ _ _⟩ | exact ⟨rfl, _, Eq.trans (World.drewN_drewN _ _ _) (congrArg (World.drewN _) (Nat.add_assoc _ _ _))⟩))))
   go_meet
   case rel => exact ⟨_, (decide ((l2.length : Int) > 20)), rfl, H', ⟨by first | omega | exact Nat.le_refl _⟩, ⟨hO HB⟩⟩
  rw [if_pos c7] at H
  have c7b0 := decide_eq_true c7
  have c7b1 : decide (20 < l1.length) = true := decide_eq_true (by omega)
  clear c7
  (first | rw [c7b0] | (simp only [i64_w, i32_w]; rw [c7b0]) | skip)
  have H' := Aside0.mk H
  clear H
  go_wp2_with (first | (go_at_call 10; (with_reducible refine (dancestudiolaw35_short.calls k _ _ l0 true _ (Kd.C_below HR0.out HB.out) HC0.out A5.out).mono ?_); rintro e w' ⟨rfl, ⟨nd, rfl⟩⟩; (try first | exact ⟨rfl, _, World.drewN_drewN _ _ _⟩ | exact ⟨rfl, _, Eq.trans (World.drewN_drewN _ _ _) (congrArg (World.drewN _) (Nat.add_assoc _ _ _))⟩)))
  repeat (go_quiet (first | (go_at_call 10; (with_reducible refine (dancestudiolaw35_short.calls k _ _ l0 true _ (Kd.C_below HR0.out HB.out) HC0.out A5.out).mono ?_); rintro e w' ⟨rfl, ⟨nd, rfl⟩⟩; (try first | exact ⟨rfl, _, World.drewN_drewN _ _ _⟩ | exact ⟨rfl, _, Eq.trans (World.drewN_drewN _ _ _) (congrArg (World.drewN _) (Nat.add_assoc _ _ _))⟩))); try go_wp2_with (first | (go_at_call 10; (with_reducible refine (dancestudiolaw35_short.calls k _ _ l0 true _ (Kd.C_below HR0.out HB.out) HC0.out A5.out).mono ?_); rintro e w' ⟨rfl, ⟨nd, rfl⟩⟩; (try first | exact ⟨rfl, _, World.drewN_drewN _ _ _⟩ | exact ⟨rfl, _, Eq.trans (World.drewN_drewN _ _ _) (congrArg (World.drewN _) (Nat.add_assoc _ _ _))⟩))))
  go_meet
  case rel => exact ⟨_, (true), rfl, H', ⟨by first | omega | exact Nat.le_refl _⟩, ⟨hO HB⟩⟩
 case rest =>
  clear HC4; try clear c1; try clear c2; try clear p2; try clear c6; try clear c7; try clear c7b0; try clear c7b1
  obtain ⟨kq, x32_3, rfl, HA, HJ3, HB⟩ := hcut
  cases kq with
  | zero => exact absurd HA.out (by simp [dancestudiolaw35_LangNorm.j0])
  | succ kj3 =>
   have H := HA.out
   clear HA
   simp only [dancestudiolaw35_LangNorm.j0] at H
   by_cases c8 : x32_3 = true
   ·
    subst c8
    rw [if_pos rfl] at H
    replace H := Option.bind_eq_some_iff.mp H
    obtain ⟨t784, A90, H⟩ := H
    try dsimp only at H
    have A9 := Aside0.mk A90
    clear A90
    obtain rfl := Option.some.inj H
    go_wp2_with (first | (go_at_call 11; (with_reducible refine (dancestudiolaw35_awake.calls kj3  t784 _ (Mx.below HMX_.out HB.out) A9.out).mono ?_); rintro e w10 ⟨rfl, hb⟩; replace HB := mSt HB hb; (try clear hb)))
    repeat (go_quiet (first | (go_at_call 11; (with_reducible refine (dancestudiolaw35_awake.calls kj3  t784 _ (Mx.below HMX_.out HB.out) A9.out).mono ?_); rintro e w10 ⟨rfl, hb⟩; replace HB := mSt HB hb; (try clear hb))); try go_wp2_with (first | (go_at_call 11; (with_reducible refine (dancestudiolaw35_awake.calls kj3  t784 _ (Mx.below HMX_.out HB.out) A9.out).mono ?_); rintro e w10 ⟨rfl, hb⟩; replace HB := mSt HB hb; (try clear hb))))
    go_ret
    exact ⟨rfl, HB.out⟩
   replace c8 := Bool.eq_false_iff.mpr c8
   subst c8
   rw [if_neg (show ¬ (false = true) by decide)] at H
   replace H := Option.bind_eq_some_iff.mp H
   obtain ⟨⟨t785, t788⟩, A110, H⟩ := H
   try dsimp only at H
   have A11 := Aside0.mk A110
   clear A110
   by_cases c12 : t788 = 0
   rotate_left
   ·
    rw [if_neg c12] at H
    have c12b0 := beq_eq_false_iff_ne.mpr c12
    have c12b1 := bne_iff_ne.mpr c12
    obtain ⟨c59, H⟩ : ((t785.length : Int) = 0) ∧ _ := mIf H
    have c59b0 := beq_iff_eq.mpr c59
    have c59b1 := bne_eq_false_iff_eq.mpr c59
    clear c59
    replace H := Option.bind_eq_some_iff.mp H
    obtain ⟨t789, A600, H⟩ := H
    try dsimp only at H
    have A60 := Aside0.mk A600
    clear A600
    obtain rfl := Option.some.inj H
    go_wp2_with (first | (go_at_call 22; (with_reducible refine (lang_Norm.calls kj3 _ _ l0 t785 t788 _ (Kd.C_below HR0.out HB.out) HC0.out (Mx.below HMX_.out HB.out) A11.out).mono ?_); rintro e w61 ⟨v786, rfl, ho0, hb⟩; have HO787 := Aside0.mk (Kd.V_lower (Kd.V_mono (ok' := fun k_ => True) ho0 (fun k_ hk_ => trivial)) (below_size HB.out)); replace HB := mSt HB hb; (try clear hb); (try clear ho0); obtain ⟨Ao62, co62, eo62⟩ := Kd.V_slice HO787.out; subst eo62) | (go_at_call 11; (with_reducible refine (dancestudiolaw35_awake.calls kj3  t789 _ (Mx.below HMX_.out HB.out) A60.out).mono ?_); rintro e w63 ⟨rfl, hb⟩; replace HO787 := Aside0.mk (Kd.V_below HO787.out hb); replace HB := mSt HB hb; (try clear hb)))
    repeat (go_quiet (first | (go_at_call 22; (with_reducible refine (lang_Norm.calls kj3 _ _ l0 t785 t788 _ (Kd.C_below HR0.out HB.out) HC0.out (Mx.below HMX_.out HB.out) A11.out).mono ?_); rintro e w61 ⟨v786, rfl, ho0, hb⟩; have HO787 := Aside0.mk (Kd.V_lower (Kd.V_mono (ok' := fun k_ => True) ho0 (fun k_ hk_ => trivial)) (below_size HB.out)); replace HB := mSt HB hb; (try clear hb); (try clear ho0); obtain ⟨Ao62, co62, eo62⟩ := Kd.V_slice HO787.out; subst eo62) | (go_at_call 11; (with_reducible refine (dancestudiolaw35_awake.calls kj3  t789 _ (Mx.below HMX_.out HB.out) A60.out).mono ?_); rintro e w63 ⟨rfl, hb⟩; replace HO787 := Aside0.mk (Kd.V_below HO787.out hb); replace HB := mSt HB hb; (try clear hb))); try go_wp2_with (first | (go_at_call 22; (with_reducible refine (lang_Norm.calls kj3 _ _ l0 t785 t788 _ (Kd.C_below HR0.out HB.out) HC0.out (Mx.below HMX_.out HB.out) A11.out).mono ?_); rintro e w61 ⟨v786, rfl, ho0, hb⟩; have HO787 := Aside0.mk (Kd.V_lower (Kd.V_mono (ok' := fun k_ => True) ho0 (fun k_ hk_ => trivial)) (below_size HB.out)); replace HB := mSt HB hb; (try clear hb); (try clear ho0); obtain ⟨Ao62, co62, eo62⟩ := Kd.V_slice HO787.out; subst eo62) | (go_at_call 11; (with_reducible refine (dancestudiolaw35_awake.calls kj3  t789 _ (Mx.below HMX_.out HB.out) A60.out).mono ?_); rintro e w63 ⟨rfl, hb⟩; replace HO787 := Aside0.mk (Kd.V_below HO787.out hb); replace HB := mSt HB hb; (try clear hb))))
    go_ret
    exact ⟨rfl, HB.out⟩
   rw [if_pos c12] at H
   have c12b0 := beq_iff_eq.mpr c12
   have c12b1 := bne_eq_false_iff_eq.mpr c12
   clear c12
   replace H := Option.bind_eq_some_iff.mp H
   obtain ⟨⟨t790, t793⟩, A130, H⟩ := H
   try dsimp only at H
   have A13 := Aside0.mk A130
   clear A130
   replace H := Option.bind_eq_some_iff.mp H
   obtain ⟨⟨t794, t795⟩, A140, H⟩ := H
   try dsimp only at H
   have A14 := Aside0.mk A140
   clear A140
   replace H := Option.bind_eq_some_iff.mp H
   obtain ⟨⟨t796, t797⟩, A150, H⟩ := H
   try dsimp only at H
   have A15 := Aside0.mk A150
   clear A150
   have HC16 := Aside0.mk H
   clear H
   go_upto_region 9 with (first | (go_at_call 22; (with_reducible refine (lang_Norm.calls kj3 _ _ l0 t785 t788 _ (Kd.C_below HR0.out HB.out) HC0.out (Mx.below HMX_.out HB.out) A11.out).mono ?_); rintro e w17 ⟨v786, rfl, ho0, hb⟩; have HO787 := Aside0.mk (Kd.V_lower (Kd.V_mono (ok' := fun k_ => True) ho0 (fun k_ hk_ => trivial)) (below_size HB.out)); replace HB := mSt HB hb; (try clear hb); (try clear ho0); obtain ⟨Ao18, co18, eo18⟩ := Kd.V_slice HO787.out; subst eo18) | (go_at_call 22; (with_reducible refine (lang_Norm.calls kj3 _ _ t785 t790 t793 _ ((Kd.V_reads' HO787.out).2.2) ((Kd.V_reads' HO787.out).2.1) (Mx.below HMX_.out HB.out) A13.out).mono ?_); rintro e w19 ⟨v791, rfl, ho0, hb⟩; replace HO787 := Aside0.mk (Kd.V_below HO787.out hb); have HO792 := Aside0.mk (Kd.V_lower (Kd.V_mono (ok' := fun k_ => True) ho0 (fun k_ hk_ => trivial)) (below_size HB.out)); replace HB := mSt HB hb; (try clear hb); (try clear ho0)) | (go_at_call 24; (with_reducible refine (lang_Length.calls kj3 _ _ l0 _ _ l1 _ _ l2 t794 t795 _ (Kd.C_below HR0.out HB.out) HC0.out (Kd.C_below HR1.out HB.out) HC1.out (Kd.C_below HR2.out HB.out) HC2.out (Mx.below HMX_.out HB.out) A14.out).mono ?_); rintro e w20 ⟨rfl, hb⟩; replace HO787 := Aside0.mk (Kd.V_below HO787.out hb); replace HO792 := Aside0.mk (Kd.V_below HO792.out hb); replace HB := mSt HB hb; (try clear hb)) | (go_at_call 24; (with_reducible refine (lang_Length.calls kj3 _ _ t785 _ _ l1 _ _ l2 t796 t797 _ ((Kd.V_reads' HO787.out).2.2) ((Kd.V_reads' HO787.out).2.1) (Kd.C_below HR1.out HB.out) HC1.out (Kd.C_below HR2.out HB.out) HC2.out (Mx.below HMX_.out HB.out) A15.out).mono ?_); rintro e w21 ⟨rfl, hb⟩; replace HO787 := Aside0.mk (Kd.V_below HO787.out hb); replace HO792 := Aside0.mk (Kd.V_below HO792.out hb); replace HB := mSt HB hb; (try clear hb)))
   repeat (go_quiet (first | (go_at_call 22; (with_reducible refine (lang_Norm.calls kj3 _ _ l0 t785 t788 _ (Kd.C_below HR0.out HB.out) HC0.out (Mx.below HMX_.out HB.out) A11.out).mono ?_); rintro e w17 ⟨v786, rfl, ho0, hb⟩; have HO787 := Aside0.mk (Kd.V_lower (Kd.V_mono (ok' := fun k_ => True) ho0 (fun k_ hk_ => trivial)) (below_size HB.out)); replace HB := mSt HB hb; (try clear hb); (try clear ho0); obtain ⟨Ao18, co18, eo18⟩ := Kd.V_slice HO787.out; subst eo18) | (go_at_call 22; (with_reducible refine (lang_Norm.calls kj3 _ _ t785 t790 t793 _ ((Kd.V_reads' HO787.out).2.2) ((Kd.V_reads' HO787.out).2.1) (Mx.below HMX_.out HB.out) A13.out).mono ?_); rintro e w19 ⟨v791, rfl, ho0, hb⟩; replace HO787 := Aside0.mk (Kd.V_below HO787.out hb); have HO792 := Aside0.mk (Kd.V_lower (Kd.V_mono (ok' := fun k_ => True) ho0 (fun k_ hk_ => trivial)) (below_size HB.out)); replace HB := mSt HB hb; (try clear hb); (try clear ho0)) | (go_at_call 24; (with_reducible refine (lang_Length.calls kj3 _ _ l0 _ _ l1 _ _ l2 t794 t795 _ (Kd.C_below HR0.out HB.out) HC0.out (Kd.C_below HR1.out HB.out) HC1.out (Kd.C_below HR2.out HB.out) HC2.out (Mx.below HMX_.out HB.out) A14.out).mono ?_); rintro e w20 ⟨rfl, hb⟩; replace HO787 := Aside0.mk (Kd.V_below HO787.out hb); replace HO792 := Aside0.mk (Kd.V_below HO792.out hb); replace HB := mSt HB hb; (try clear hb)) | (go_at_call 24; (with_reducible refine (lang_Length.calls kj3 _ _ t785 _ _ l1 _ _ l2 t796 t797 _ ((Kd.V_reads' HO787.out).2.2) ((Kd.V_reads' HO787.out).2.1) (Kd.C_below HR1.out HB.out) HC1.out (Kd.C_below HR2.out HB.out) HC2.out (Mx.below HMX_.out HB.out) A15.out).mono ?_); rintro e w21 ⟨rfl, hb⟩; replace HO787 := Aside0.mk (Kd.V_below HO787.out hb); replace HO792 := Aside0.mk (Kd.V_below HO792.out hb); replace HB := mSt HB hb; (try clear hb))); go_upto_region 9 with (first | (go_at_call 22; (with_reducible refine (lang_Norm.calls kj3 _ _ l0 t785 t788 _ (Kd.C_below HR0.out HB.out) HC0.out (Mx.below HMX_.out HB.out) A11.out).mono ?_); rintro e w17 ⟨v786, rfl, ho0, hb⟩; have HO787 := Aside0.mk (Kd.V_lower (Kd.V_mono (ok' := fun k_ => True) ho0 (fun k_ hk_ => trivial)) (below_size HB.out)); replace HB := mSt HB hb; (try clear hb); (try clear ho0); obtain ⟨Ao18, co18, eo18⟩ := Kd.V_slice HO787.out; subst eo18) | (go_at_call 22; (with_reducible refine (lang_Norm.calls kj3 _ _ t785 t790 t793 _ ((Kd.V_reads' HO787.out).2.2) ((Kd.V_reads' HO787.out).2.1) (Mx.below HMX_.out HB.out) A13.out).mono ?_); rintro e w19 ⟨v791, rfl, ho0, hb⟩; replace HO787 := Aside0.mk (Kd.V_below HO787.out hb); have HO792 := Aside0.mk (Kd.V_lower (Kd.V_mono (ok' := fun k_ => True) ho0 (fun k_ hk_ => trivial)) (below_size HB.out)); replace HB := mSt HB hb; (try clear hb); (try clear ho0)) | (go_at_call 24; (with_reducible refine (lang_Length.calls kj3 _ _ l0 _ _ l1 _ _ l2 t794 t795 _ (Kd.C_below HR0.out HB.out) HC0.out (Kd.C_below HR1.out HB.out) HC1.out (Kd.C_below HR2.out HB.out) HC2.out (Mx.below HMX_.out HB.out) A14.out).mono ?_); rintro e w20 ⟨rfl, hb⟩; replace HO787 := Aside0.mk (Kd.V_below HO787.out hb); replace HO792 := Aside0.mk (Kd.V_below HO792.out hb); replace HB := mSt HB hb; (try clear hb)) | (go_at_call 24; (with_reducible refine (lang_Length.calls kj3 _ _ t785 _ _ l1 _ _ l2 t796 t797 _ ((Kd.V_reads' HO787.out).2.2) ((Kd.V_reads' HO787.out).2.1) (Kd.C_below HR1.out HB.out) HC1.out (Kd.C_below HR2.out HB.out) HC2.out (Mx.below HMX_.out HB.out) A15.out).mono ?_); rintro e w21 ⟨rfl, hb⟩; replace HO787 := Aside0.mk (Kd.V_below HO787.out hb); replace HO792 := Aside0.mk (Kd.V_below HO792.out hb); replace HB := mSt HB hb; (try clear hb))))
   (try simp only [Act.put, List.setIfInBounds_toArray, List.set_cons_zero, List.set_cons_succ])
   go_cut [85] (fun v85 wc => ∃ (kq : Nat) (x85_15 : Bool), v85 = .bool x85_15 ∧ Aside0 (dancestudiolaw35_LangNorm.j1 kq l0 t785 x85_15 = some r) ∧ Aside0 (kq ≤ kj3) ∧ Aside0 (Kd.V k43 43 wc w.heap.size (fun _ => True) (.slice Ao18 t785.length co18) t785) ∧ Aside0 (Below w.heap.size w wc))
   case first =>
    have H := HC16.out
    clear HC16
    by_cases c22 : t793 = 0
    rotate_left
    ·
     rw [if_neg c22] at H
     have c22b0 := beq_eq_false_iff_ne.mpr c22
     have c22b1 := bne_iff_ne.mpr c22
     (first | rw [c22b0] | (simp only [i64_w, i32_w]; rw [c22b0]) | skip)
     have H' := Aside0.mk H
     clear H
     go_wp2
     repeat (go_quiet (fail); try go_wp2)
     go_meet
     case rel => exact ⟨_, (true), rfl, H', ⟨by have := HJ3.out; first | omega | exact Nat.le_refl _⟩, HO787, ⟨HB.out⟩⟩
    rw [if_pos c22] at H
    have c22b0 := beq_iff_eq.mpr c22
    have c22b1 := bne_eq_false_iff_eq.mpr c22
    clear c22
    (first | rw [c22b0] | (simp only [i64_w, i32_w]; rw [c22b0]) | skip)
    replace H := Option.bind_eq_some_iff.mp H
    obtain ⟨t798, A230, H⟩ := H
    try dsimp only at H
    have A23 := Aside0.mk A230
    clear A230
    by_cases c24 : t798 = true
    rotate_left
    ·
     replace c24 := Bool.eq_false_iff.mpr c24
     subst c24
     rw [if_neg (show ¬ (false = true) by decide)] at H
     have H' := Aside0.mk H
     clear H
     obtain ⟨Ao28, co28, eo28⟩ := Kd.V_slice HO792.out
     subst eo28
     go_wp2_with (first | (go_at_call 21; (with_reducible refine (dancestudioref35_Same.calls kj3 _ _ t785 _ _ t790 false _ ((Kd.V_reads' HO787.out).2.2) ((Kd.V_reads' HO787.out).2.1) ((Kd.V_reads' HO792.out).2.2) ((Kd.V_reads' HO792.out).2.1) A23.out).mono ?_); rintro e w' ⟨rfl, ⟨nd, rfl⟩⟩; (try first | exact ⟨rfl, _, World.drewN_drewN _ _ _⟩ | exact ⟨rfl, _, Eq.trans (World.drewN_drewN _ _ _) (congrArg (World.drewN _) (Nat.add_assoc _ _ _))⟩)))
     repeat (go_quiet (first | (go_at_call 21; (with_reducible refine (dancestudioref35_Same.calls kj3 _ _ t785 _ _ t790 false _ ((Kd.V_reads' HO787.out).2.2) ((Kd.V_reads' HO787.out).2.1) ((Kd.V_reads' HO792.out).2.2) ((Kd.V_reads' HO792.out).2.1) A23.out).mono ?_); rintro e w' ⟨rfl, ⟨nd, rfl⟩⟩; (try first | exact ⟨rfl, _, World.drewN_drewN _ _ _⟩ | exact ⟨rfl, _, Eq.trans (World.drewN_drewN _ _ _) (congrArg (World.drewN _) (Nat.add_assoc _ _ _))⟩))); try go_wp2_with (first | (go_at_call 21; (with_reducible refine (dancestudioref35_Same.calls kj3 _ _ t785 _ _ t790 false _ ((Kd.V_reads' HO787.out).2.2) ((Kd.V_reads' HO787.out).2.1) ((Kd.V_reads' HO792.out).2.2) ((Kd.V_reads' HO792.out).2.1) A23.out).mono ?_); rintro e w' ⟨rfl, ⟨nd, rfl⟩⟩; (try first | exact ⟨rfl, _, World.drewN_drewN _ _ _⟩ | exact ⟨rfl, _, Eq.trans (World.drewN_drewN _ _ _) (congrArg (World.drewN _) (Nat.add_assoc _ _ _))⟩))))
     go_meet
     case rel => exact ⟨_, (true), rfl, H', ⟨by have := HJ3.out; first | omega | exact Nat.le_refl _⟩, HO787, ⟨hO HB⟩⟩
    subst c24
    rw [if_pos rfl] at H
    by_cases c25 : t794 = t796
    rotate_left
    ·
     rw [if_neg c25] at H
     have c25b0 := beq_eq_false_iff_ne.mpr c25
     have c25b1 := bne_iff_ne.mpr c25
     have H' := Aside0.mk H
     clear H
     obtain ⟨Ao27, co27, eo27⟩ := Kd.V_slice HO792.out
     subst eo27
     go_wp2_with (first | (go_at_call 21; (with_reducible refine (dancestudioref35_Same.calls kj3 _ _ t785 _ _ t790 true _ ((Kd.V_reads' HO787.out).2.2) ((Kd.V_reads' HO787.out).2.1) ((Kd.V_reads' HO792.out).2.2) ((Kd.V_reads' HO792.out).2.1) A23.out).mono ?_); rintro e w' ⟨rfl, ⟨nd, rfl⟩⟩; (try first | exact ⟨rfl, _, World.drewN_drewN _ _ _⟩ | exact ⟨rfl, _, Eq.trans (World.drewN_drewN _ _ _) (congrArg (World.drewN _) (Nat.add_assoc _ _ _))⟩)))
     repeat (go_quiet (first | (go_at_call 21; (with_reducible refine (dancestudioref35_Same.calls kj3 _ _ t785 _ _ t790 true _ ((Kd.V_reads' HO787.out).2.2) ((Kd.V_reads' HO787.out).2.1) ((Kd.V_reads' HO792.out).2.2) ((Kd.V_reads' HO792.out).2.1) A23.out).mono ?_); rintro e w' ⟨rfl, ⟨nd, rfl⟩⟩; (try first | exact ⟨rfl, _, World.drewN_drewN _ _ _⟩ | exact ⟨rfl, _, Eq.trans (World.drewN_drewN _ _ _) (congrArg (World.drewN _) (Nat.add_assoc _ _ _))⟩))); try go_wp2_with (first | (go_at_call 21; (with_reducible refine (dancestudioref35_Same.calls kj3 _ _ t785 _ _ t790 true _ ((Kd.V_reads' HO787.out).2.2) ((Kd.V_reads' HO787.out).2.1) ((Kd.V_reads' HO792.out).2.2) ((Kd.V_reads' HO792.out).2.1) A23.out).mono ?_); rintro e w' ⟨rfl, ⟨nd, rfl⟩⟩; (try first | exact ⟨rfl, _, World.drewN_drewN _ _ _⟩ | exact ⟨rfl, _, Eq.trans (World.drewN_drewN _ _ _) (congrArg (World.drewN _) (Nat.add_assoc _ _ _))⟩))))
     go_meet
     case rel => exact ⟨_, (true), rfl, H', ⟨by have := HJ3.out; first | omega | exact Nat.le_refl _⟩, HO787, ⟨hO HB⟩⟩
    rw [if_pos c25] at H
    have c25b0 := beq_iff_eq.mpr c25
    have c25b1 := bne_eq_false_iff_eq.mpr c25
    clear c25
    have H' := Aside0.mk H
    clear H
    obtain ⟨Ao26, co26, eo26⟩ := Kd.V_slice HO792.out
    subst eo26
    go_wp2_with (first | (go_at_call 21; (with_reducible refine (dancestudioref35_Same.calls kj3 _ _ t785 _ _ t790 true _ ((Kd.V_reads' HO787.out).2.2) ((Kd.V_reads' HO787.out).2.1) ((Kd.V_reads' HO792.out).2.2) ((Kd.V_reads' HO792.out).2.1) A23.out).mono ?_); rintro e w' ⟨rfl, ⟨nd, rfl⟩⟩; (try first | exact ⟨rfl, _, World.drewN_drewN _ _ _⟩ | exact ⟨rfl, _, Eq.trans (World.drewN_drewN _ _ _) (congrArg (World.drewN _) (Nat.add_assoc _ _ _))⟩)))
    repeat (go_quiet (first | (go_at_call 21; (with_reducible refine (dancestudioref35_Same.calls kj3 _ _ t785 _ _ t790 true _ ((Kd.V_reads' HO787.out).2.2) ((Kd.V_reads' HO787.out).2.1) ((Kd.V_reads' HO792.out).2.2) ((Kd.V_reads' HO792.out).2.1) A23.out).mono ?_); rintro e w' ⟨rfl, ⟨nd, rfl⟩⟩; (try first | exact ⟨rfl, _, World.drewN_drewN _ _ _⟩ | exact ⟨rfl, _, Eq.trans (World.drewN_drewN _ _ _) (congrArg (World.drewN _) (Nat.add_assoc _ _ _))⟩))); try go_wp2_with (first | (go_at_call 21; (with_reducible refine (dancestudioref35_Same.calls kj3 _ _ t785 _ _ t790 true _ ((Kd.V_reads' HO787.out).2.2) ((Kd.V_reads' HO787.out).2.1) ((Kd.V_reads' HO792.out).2.2) ((Kd.V_reads' HO792.out).2.1) A23.out).mono ?_); rintro e w' ⟨rfl, ⟨nd, rfl⟩⟩; (try first | exact ⟨rfl, _, World.drewN_drewN _ _ _⟩ | exact ⟨rfl, _, Eq.trans (World.drewN_drewN _ _ _) (congrArg (World.drewN _) (Nat.add_assoc _ _ _))⟩))))
    go_meet
    case rel => exact ⟨_, (((t795 == 0) != (t797 == 0))), rfl, H', ⟨by have := HJ3.out; first | omega | exact Nat.le_refl _⟩, HO787, ⟨hO HB⟩⟩
   case rest =>
    clear HC16; try clear c1; try clear c2; try clear p2; try clear c6; try clear c7; try clear c7b0; try clear c7b1; try clear c8; try clear c12; try clear c12b0; try clear c12b1; try clear c22; try clear c22b0; try clear c22b1; try clear c24; try clear c25; try clear c25b0; try clear c25b1
    obtain ⟨kq, x85_15, rfl, HA, HJ15, HO_7, HB⟩ := hcut
    cases kq with
    | zero => exact absurd HA.out (by simp [dancestudiolaw35_LangNorm.j1])
    | succ kj15 =>
     have H := HA.out
     clear HA
     simp only [dancestudiolaw35_LangNorm.j1] at H
     by_cases c29 : x85_15 = true
     ·
      subst c29
      rw [if_pos rfl] at H
      exact absurd H (by simp)
     replace c29 := Bool.eq_false_iff.mpr c29
     subst c29
     rw [if_neg (show ¬ (false = true) by decide)] at H
     replace H := Option.bind_eq_some_iff.mp H
     obtain ⟨⟨t799, t800⟩, A300, H⟩ := H
     try dsimp only at H
     have A30 := Aside0.mk A300
     clear A300
     replace H := Option.bind_eq_some_iff.mp H
     obtain ⟨⟨t803, t804⟩, A310, H⟩ := H
     try dsimp only at H
     have A31 := Aside0.mk A310
     clear A310
     have HC32 := Aside0.mk H
     clear H
     go_upto_region 13 with (first | (go_at_call 14; (with_reducible refine (lang_Names.calls kj15 _ _ l0 t799 t800 _ (Kd.C_below HR0.out HB.out) HC0.out (Mx.below HMX_.out HB.out) A30.out).mono ?_); rintro e w33 ⟨v801, rfl, ho0, hb⟩; replace HO_7 := Aside0.mk (Kd.V_elder' HO_7.out (Kd.R_base ho0) hb); have HO802 := Aside0.mk (Kd.R_lower ho0 (below_size HB.out)); replace HB := mSt HB hb; (try clear hb); (try clear ho0)) | (go_at_call 14; (with_reducible refine (lang_Names.calls kj15 _ _ t785 t803 t804 _ ((Kd.V_reads' HO_7.out).2.2) ((Kd.V_reads' HO_7.out).2.1) (Mx.below HMX_.out HB.out) A31.out).mono ?_); rintro e w34 ⟨v805, rfl, ho0, hb⟩; replace HO_7 := Aside0.mk (Kd.V_elder' HO_7.out (Kd.R_base ho0) hb); have HO806 := Aside0.mk (Kd.R_lower (Kd.R_new' ho0 (Kd.R_lt HO802.out)) (below_size HB.out)); replace HO802 := Aside0.mk (Kd.R_elder' HO802.out (Kd.R_base ho0) hb); replace HB := mSt HB hb; (try clear hb); (try clear ho0)))
     repeat (go_quiet (first | (go_at_call 14; (with_reducible refine (lang_Names.calls kj15 _ _ l0 t799 t800 _ (Kd.C_below HR0.out HB.out) HC0.out (Mx.below HMX_.out HB.out) A30.out).mono ?_); rintro e w33 ⟨v801, rfl, ho0, hb⟩; replace HO_7 := Aside0.mk (Kd.V_elder' HO_7.out (Kd.R_base ho0) hb); have HO802 := Aside0.mk (Kd.R_lower ho0 (below_size HB.out)); replace HB := mSt HB hb; (try clear hb); (try clear ho0)) | (go_at_call 14; (with_reducible refine (lang_Names.calls kj15 _ _ t785 t803 t804 _ ((Kd.V_reads' HO_7.out).2.2) ((Kd.V_reads' HO_7.out).2.1) (Mx.below HMX_.out HB.out) A31.out).mono ?_); rintro e w34 ⟨v805, rfl, ho0, hb⟩; replace HO_7 := Aside0.mk (Kd.V_elder' HO_7.out (Kd.R_base ho0) hb); have HO806 := Aside0.mk (Kd.R_lower (Kd.R_new' ho0 (Kd.R_lt HO802.out)) (below_size HB.out)); replace HO802 := Aside0.mk (Kd.R_elder' HO802.out (Kd.R_base ho0) hb); replace HB := mSt HB hb; (try clear hb); (try clear ho0))); go_upto_region 13 with (first | (go_at_call 14; (with_reducible refine (lang_Names.calls kj15 _ _ l0 t799 t800 _ (Kd.C_below HR0.out HB.out) HC0.out (Mx.below HMX_.out HB.out) A30.out).mono ?_); rintro e w33 ⟨v801, rfl, ho0, hb⟩; replace HO_7 := Aside0.mk (Kd.V_elder' HO_7.out (Kd.R_base ho0) hb); have HO802 := Aside0.mk (Kd.R_lower ho0 (below_size HB.out)); replace HB := mSt HB hb; (try clear hb); (try clear ho0)) | (go_at_call 14; (with_reducible refine (lang_Names.calls kj15 _ _ t785 t803 t804 _ ((Kd.V_reads' HO_7.out).2.2) ((Kd.V_reads' HO_7.out).2.1) (Mx.below HMX_.out HB.out) A31.out).mono ?_); rintro e w34 ⟨v805, rfl, ho0, hb⟩; replace HO_7 := Aside0.mk (Kd.V_elder' HO_7.out (Kd.R_base ho0) hb); have HO806 := Aside0.mk (Kd.R_lower (Kd.R_new' ho0 (Kd.R_lt HO802.out)) (below_size HB.out)); replace HO802 := Aside0.mk (Kd.R_elder' HO802.out (Kd.R_base ho0) hb); replace HB := mSt HB hb; (try clear hb); (try clear ho0))))
     (try simp only [Act.put, List.setIfInBounds_toArray, List.set_cons_zero, List.set_cons_succ])
     go_cut [108] (fun v108 wc => ∃ (kq : Nat) (x108_31 : Bool), v108 = .bool x108_31 ∧ Aside0 (dancestudiolaw35_LangNorm.j2 kq t785 t799 t803 x108_31 = some r) ∧ Aside0 (kq ≤ kj15) ∧ Aside0 (Kd.V k43 43 wc w.heap.size (fun k_ => some k_ ≠ (v801 : Value).ownBlock ∧ some k_ ≠ (v805 : Value).ownBlock) (.slice Ao18 t785.length co18) t785) ∧ Aside0 (Kd.R Kd.string 9 wc w.heap.size (fun k_ => some k_ ≠ (v805 : Value).ownBlock) v801 t799) ∧ Aside0 (Kd.R Kd.string 9 wc w.heap.size (fun k_ => some k_ ≠ (v801 : Value).ownBlock) v805 t803) ∧ Aside0 (Below w.heap.size w wc))
     case first =>
      have H := HC32.out
      clear HC32
      by_cases c35 : t800 = 0
      rotate_left
      ·
       rw [if_neg c35] at H
       have c35b0 := beq_eq_false_iff_ne.mpr c35
       have c35b1 := bne_iff_ne.mpr c35
       (first | rw [c35b0] | (simp only [i64_w, i32_w]; rw [c35b0]) | skip)
       have H' := Aside0.mk H
       clear H
       go_wp2
       repeat (go_quiet (fail); try go_wp2)
       go_meet
       case rel => exact ⟨_, (true), rfl, H', ⟨by have := HJ3.out; have := HJ15.out; first | omega | exact Nat.le_refl _⟩, ⟨Kd.V_mono HO_7.out (fun _ hk => ⟨hk.1.2, hk.2⟩)⟩, ⟨Kd.R_mono HO802.out (fun _ hk => hk.2)⟩, ⟨Kd.R_mono HO806.out (fun _ hk => hk.2)⟩, ⟨HB.out⟩⟩
      rw [if_pos c35] at H
      have c35b0 := beq_iff_eq.mpr c35
      have c35b1 := bne_eq_false_iff_eq.mpr c35
      clear c35
      (first | rw [c35b0] | (simp only [i64_w, i32_w]; rw [c35b0]) | skip)
      by_cases c36 : t804 = 0
      rotate_left
      ·
       rw [if_neg c36] at H
       have c36b0 := beq_eq_false_iff_ne.mpr c36
       have c36b1 := bne_iff_ne.mpr c36
       have H' := Aside0.mk H
       clear H
       go_wp2
       repeat (go_quiet (fail); try go_wp2)
       go_meet
       case rel => exact ⟨_, (true), rfl, H', ⟨by have := HJ3.out; have := HJ15.out; first | omega | exact Nat.le_refl _⟩, ⟨Kd.V_mono HO_7.out (fun _ hk => ⟨hk.1.2, hk.2⟩)⟩, ⟨Kd.R_mono HO802.out (fun _ hk => hk.2)⟩, ⟨Kd.R_mono HO806.out (fun _ hk => hk.2)⟩, ⟨HB.out⟩⟩
      rw [if_pos c36] at H
      have c36b0 := beq_iff_eq.mpr c36
      have c36b1 := bne_eq_false_iff_eq.mpr c36
      clear c36
      have H' := Aside0.mk H
      clear H
      obtain ⟨Ao37, co37, eo37⟩ := Kd.R_slice HO802.out
      subst eo37
      obtain ⟨Ao38, co38, eo38⟩ := Kd.R_slice HO806.out
      subst eo38
      go_wp2
      repeat (go_quiet (fail); try go_wp2)
      go_meet
      case rel => exact ⟨_, (((t799.length : Int) != (t803.length : Int))), rfl, H', ⟨by have := HJ3.out; have := HJ15.out; first | omega | exact Nat.le_refl _⟩, ⟨Kd.V_mono HO_7.out (fun _ hk => ⟨hk.1.2, hk.2⟩)⟩, ⟨Kd.R_mono HO802.out (fun _ hk => hk.2)⟩, ⟨Kd.R_mono HO806.out (fun _ hk => hk.2)⟩, ⟨HB.out⟩⟩
     case rest =>
      clear HC32; try clear c1; try clear c2; try clear p2; try clear c3; try clear c6; try clear c7; try clear c7b0; try clear c7b1; try clear c8; try clear c12; try clear c12b0; try clear c12b1; try clear c22; try clear c22b0; try clear c22b1; try clear c24; try clear c25; try clear c25b0; try clear c25b1; try clear c29; try clear c35; try clear c35b0; try clear c35b1; try clear c36; try clear c36b0; try clear c36b1
      obtain ⟨kq, x108_31, rfl, HA, HJ31, HO_7, HO_14, HO_15, HB⟩ := hcut
      cases kq with
      | zero => exact absurd HA.out (by simp [dancestudiolaw35_LangNorm.j2])
      | succ kj31 =>
       have H := HA.out
       clear HA
       simp only [dancestudiolaw35_LangNorm.j2] at H
       by_cases c39 : x108_31 = true
       ·
        subst c39
        rw [if_pos rfl] at H
        exact absurd H (by simp)
       replace c39 := Bool.eq_false_iff.mpr c39
       subst c39
       rw [if_neg (show ¬ (false = true) by decide)] at H
       have H' := Aside0.mk H
       clear H
       go_wp2
       repeat (go_quiet (fail); try go_wp2)
       go_loopg [16] kj31 (fun kq v16 w' => ∃ (x16_4 : Int), v16 = .int .i64 x16_4 ∧ Aside0 (dancestudiolaw35_LangNorm.l0 kq t785 t799 t803 x16_4 = some r) ∧ Aside0 (kq ≤ kj31) ∧ Aside0 (Kd.V k43 43 w' w.heap.size (fun k_ => some k_ ≠ (v801 : Value).ownBlock ∧ some k_ ≠ (v805 : Value).ownBlock) (.slice Ao18 t785.length co18) t785) ∧ Aside0 (Kd.R Kd.string 9 w' w.heap.size (fun k_ => some k_ ≠ (v805 : Value).ownBlock) v801 t799) ∧ Aside0 (Kd.R Kd.string 9 w' w.heap.size (fun k_ => some k_ ≠ (v801 : Value).ownBlock) v805 t803) ∧ Aside0 (Below w.heap.size w w'))
       case atStart => exact ⟨(0), rfl, H', ⟨Nat.le_refl _⟩, HO_7, HO_14, HO_15, ⟨HB.out⟩⟩
       case round =>
        clear H'
        try clear c1; try clear c2; try clear p2; try clear c3; try clear c6; try clear c7; try clear c7b0; try clear c7b1; try clear c8; try clear c12; try clear c12b0; try clear c12b1; try clear c22; try clear c22b0; try clear c22b1; try clear c24; try clear c25; try clear c25b0; try clear c25b1; try clear c29; try clear c35; try clear c35b0; try clear c35b1; try clear c36; try clear c36b0; try clear c36b1; try clear c39
        obtain ⟨x16_4, rfl, HA, HK4, HO_7, HO_14, HO_15, HB⟩ := hrel
        cases gk with
        | zero => exact absurd HA.out (by simp [dancestudiolaw35_LangNorm.l0])
        | succ k4 =>
         have H := HA.out
         clear HA
         simp only [dancestudiolaw35_LangNorm.l0] at H
         by_cases c40 : x16_4 < (t799.length : Int)
         ·
          rw [if_pos c40] at H
          have c40b0 := decide_eq_true c40
          clear c40
          have H' := Aside0.mk H
          clear H
          obtain ⟨Ao41, co41, eo41⟩ := Kd.R_slice HO_14.out
          subst eo41
          go_wp2
          repeat (go_quiet (fail); try go_wp2)
          go_loopg [17, 18] k4 (fun kq v17 v18 w' => ∃ (x17_5 : Bool) (x18_5 : Int), v17 = .bool x17_5 ∧ v18 = .int .i64 x18_5 ∧ Aside0 (dancestudiolaw35_LangNorm.l1 kq t785 t799 t803 x16_4 x17_5 x18_5 = some r) ∧ Aside0 (kq ≤ k4) ∧ Aside0 (Kd.V k43 43 w' w.heap.size (fun k_ => some k_ ≠ ((.slice Ao41 t799.length co41) : Value).ownBlock ∧ some k_ ≠ (v805 : Value).ownBlock) (.slice Ao18 t785.length co18) t785) ∧ Aside0 (Kd.R Kd.string 9 w' w.heap.size (fun k_ => some k_ ≠ (v805 : Value).ownBlock) (.slice Ao41 t799.length co41) t799) ∧ Aside0 (Kd.R Kd.string 9 w' w.heap.size (fun k_ => some k_ ≠ ((.slice Ao41 t799.length co41) : Value).ownBlock) v805 t803) ∧ Aside0 (Below w.heap.size w w'))
          case atStart => exact ⟨(false), (0), rfl, rfl, H', ⟨Nat.le_refl _⟩, HO_7, HO_14, HO_15, ⟨HB.out⟩⟩
          case round =>
           clear H'
           clear c40b0
           obtain ⟨x17_5, x18_5, rfl, rfl, HA, HK5, HO_7, HO_14, HO_15, HB⟩ := hrel
           cases gk with
           | zero => exact absurd HA.out (by simp [dancestudiolaw35_LangNorm.l1])
           | succ k5 =>
            have H := HA.out
            clear HA
            simp only [dancestudiolaw35_LangNorm.l1] at H
            by_cases c42 : x18_5 < (t803.length : Int)
            rotate_left
            ·
             rw [if_neg c42] at H
             have c42b0 := decide_eq_false c42
             clear c42
             by_cases c49 : x17_5 = true
             rotate_left
             ·
              replace c49 := Bool.eq_false_iff.mpr c49
              subst c49
              rw [if_neg (show ¬ (false = true) by decide)] at H
              exact absurd H (by simp)
             subst c49
             rw [if_pos rfl] at H
             have H' := Aside0.mk H
             clear H
             obtain ⟨Ao50, co50, eo50⟩ := Kd.R_slice HO_15.out
             subst eo50
             go_wp2
             repeat (go_quiet (fail); try go_wp2)
             go_roundg k5
             case measure => have := HJ3.out; have := HJ15.out; have := HJ31.out; have := HK4.out; have := HK5.out; omega
             case rel => exact ⟨(wrap64 (x16_4 + 1)), rfl, H', ⟨by have := HJ3.out; have := HJ15.out; have := HJ31.out; have := HK4.out; have := HK5.out; omega⟩, HO_7, HO_14, HO_15, ⟨HB.out⟩⟩
            rw [if_pos c42] at H
            have c42b0 := decide_eq_true c42
            clear c42
            by_cases c43 : x17_5 = true
            ·
             subst c43
             rw [if_pos rfl] at H
             have H' := Aside0.mk H
             clear H
             obtain ⟨Ao44, co44, eo44⟩ := Kd.R_slice HO_15.out
             subst eo44
             go_wp2
             repeat (go_quiet (fail); try go_wp2)
             go_roundg k5
             case measure => have := HJ3.out; have := HJ15.out; have := HJ31.out; have := HK4.out; have := HK5.out; omega
             case rel => exact ⟨(true), (wrap64 (x18_5 + 1)), rfl, rfl, H', ⟨by have := HJ3.out; have := HJ15.out; have := HJ31.out; have := HK4.out; have := HK5.out; omega⟩, HO_7, HO_14, HO_15, ⟨hO HB⟩⟩
            replace c43 := Bool.eq_false_iff.mpr c43
            subst c43
            rw [if_neg (show ¬ (false = true) by decide)] at H
            obtain ⟨c45, H⟩ : (0 ≤ x16_4) ∧ _ := mIf H
            have c45b0 := decide_eq_true c45
            clear c45
            obtain ⟨c46, H⟩ : (x16_4 < (t799.length : Int)) ∧ _ := mIf H
            have c46b0 := decide_eq_true c46
            clear c46
            obtain ⟨c47, H⟩ : (0 ≤ x18_5) ∧ _ := mIf H
            have c47b0 := decide_eq_true c47
            clear c47
            have H' := Aside0.mk H
            clear H
            obtain ⟨Ao48, co48, eo48⟩ := Kd.R_slice HO_15.out
            subst eo48
            have p807 : 0 ≤ (x16_4 : Int) := of_decide_eq_true (by assumption)
            have q807 : x16_4 < (t799.length : Int) := of_decide_eq_true (by assumption)
            obtain ⟨ad807, e807, hx807_0⟩ := Kd.at_string (Kd.R_reads' HO_14.out).2.2 x16_4 p807 q807
            cases e807
            replace p807 := eq_true p807
            replace q807 := eq_true q807
            have p808 : 0 ≤ (x18_5 : Int) := of_decide_eq_true (by assumption)
            have q808 : x18_5 < (t803.length : Int) := of_decide_eq_true (by assumption)
            obtain ⟨ad808, e808, hx808_0⟩ := Kd.at_string (Kd.R_reads' HO_15.out).2.2 x18_5 p808 q808
            cases e808
            replace p808 := eq_true p808
            replace q808 := eq_true q808
            go_wp2
            repeat (go_quiet (fail); try go_wp2)
            go_roundg k5
            case measure => have := HJ3.out; have := HJ15.out; have := HJ31.out; have := HK4.out; have := HK5.out; omega
            case rel => exact ⟨(((rdOf ByteArray.empty t799 x16_4).toList == (rdOf ByteArray.empty t803 x18_5).toList)), (wrap64 (x18_5 + 1)), rfl, rfl, H', ⟨by have := HJ3.out; have := HJ15.out; have := HJ31.out; have := HK4.out; have := HK5.out; omega⟩, HO_7, HO_14, HO_15, ⟨hO HB⟩⟩
         rw [if_neg c40] at H
         have c40b0 := decide_eq_false c40
         clear c40
         have H' := Aside0.mk H
         clear H
         obtain ⟨Ao51, co51, eo51⟩ := Kd.R_slice HO_14.out
         subst eo51
         go_wp2
         repeat (go_quiet (fail); try go_wp2)
         go_loopg [19] k4 (fun kq v19 w' => ∃ (x19_5 : Int), v19 = .int .i64 x19_5 ∧ Aside0 (dancestudiolaw35_LangNorm.l2 kq t785 x19_5 = some r) ∧ Aside0 (kq ≤ k4) ∧ Aside0 (Kd.V k43 43 w' w.heap.size (fun _ => True) (.slice Ao18 t785.length co18) t785) ∧ Aside0 (Below w.heap.size w w'))
         case atStart => exact ⟨(0), rfl, H', ⟨Nat.le_refl _⟩, ⟨Kd.V_mono HO_7.out (fun _ hk => trivial)⟩, ⟨HB.out⟩⟩
         case round =>
          clear H'
          clear c40b0
          obtain ⟨x19_5, rfl, HA, HK5, HO_7, HB⟩ := hrel
          cases gk with
          | zero => exact absurd HA.out (by simp [dancestudiolaw35_LangNorm.l2])
          | succ k5 =>
           have H := HA.out
           clear HA
           simp only [dancestudiolaw35_LangNorm.l2] at H
           by_cases c52 : x19_5 < (t785.length : Int)
           rotate_left
           ·
            rw [if_neg c52] at H
            have c52b0 := decide_eq_false c52
            clear c52
            replace H := Option.bind_eq_some_iff.mp H
            obtain ⟨t812, A570, H⟩ := H
            try dsimp only at H
            have A57 := Aside0.mk A570
            clear A570
            obtain rfl := Option.some.inj H
            go_wp2_with (first | (go_at_call 11; (with_reducible refine (dancestudiolaw35_awake.calls k5  t812 _ (Mx.below HMX_.out HB.out) A57.out).mono ?_); rintro e w58 ⟨rfl, hb⟩; replace HO_7 := Aside0.mk (Kd.V_below HO_7.out hb); replace HB := mSt HB hb; (try clear hb)))
            repeat (go_quiet (first | (go_at_call 11; (with_reducible refine (dancestudiolaw35_awake.calls k5  t812 _ (Mx.below HMX_.out HB.out) A57.out).mono ?_); rintro e w58 ⟨rfl, hb⟩; replace HO_7 := Aside0.mk (Kd.V_below HO_7.out hb); replace HB := mSt HB hb; (try clear hb))); try go_wp2_with (first | (go_at_call 11; (with_reducible refine (dancestudiolaw35_awake.calls k5  t812 _ (Mx.below HMX_.out HB.out) A57.out).mono ?_); rintro e w58 ⟨rfl, hb⟩; replace HO_7 := Aside0.mk (Kd.V_below HO_7.out hb); replace HB := mSt HB hb; (try clear hb))))
            go_ret
            exact ⟨rfl, HB.out⟩
           rw [if_pos c52] at H
           have c52b0 := decide_eq_true c52
           clear c52
           obtain ⟨c53, H⟩ : (0 ≤ x19_5) ∧ _ := mIf H
           have c53b0 := decide_eq_true c53
           clear c53
           obtain ⟨c54, H⟩ : (¬ (((rd_T43 t785 x19_5).f0) = 7)) ∧ _ := mIfn H
           have c54b0 := beq_eq_false_iff_ne.mpr c54
           have c54b1 := bne_iff_ne.mpr c54
           by_cases c55 : ((rd_T43 t785 x19_5).f0) = 2
           rotate_left
           ·
            rw [if_neg c55] at H
            have c55b0 := beq_eq_false_iff_ne.mpr c55
            have c55b1 := bne_iff_ne.mpr c55
            have H' := Aside0.mk H
            clear H
            have p809 : 0 ≤ (x19_5 : Int) := of_decide_eq_true (by assumption)
            have q809 : x19_5 < (t785.length : Int) := of_decide_eq_true (by assumption)
            obtain ⟨ad809, e809, hx809_0, hx809_1, hx809_2, hx809_3⟩ := at_T43 (Kd.V_reads' HO_7.out).2.2 x19_5 p809 q809
            cases e809
            replace p809 := eq_true p809
            replace q809 := eq_true q809
            have p810 : 0 ≤ (x19_5 : Int) := of_decide_eq_true (by assumption)
            have q810 : x19_5 < (t785.length : Int) := of_decide_eq_true (by assumption)
            obtain ⟨ad810, e810, hx810_0, hx810_1, hx810_2, hx810_3⟩ := at_T43 (Kd.V_reads' HO_7.out).2.2 x19_5 p810 q810
            obtain rfl : ad809 = ad810 := (by injection e810)
            replace p810 := eq_true p810
            replace q810 := eq_true q810
            go_wp2
            repeat (go_quiet (fail); try go_wp2)
            go_roundg k5
            case measure => have := HJ3.out; have := HJ15.out; have := HJ31.out; have := HK4.out; have := HK5.out; omega
            case rel => exact ⟨(wrap64 (x19_5 + 1)), rfl, H', ⟨by have := HJ3.out; have := HJ15.out; have := HJ31.out; have := HK4.out; have := HK5.out; omega⟩, HO_7, ⟨HB.out⟩⟩
           rw [if_pos c55] at H
           have c55b0 := beq_iff_eq.mpr c55
           have c55b1 := bne_eq_false_iff_eq.mpr c55
           clear c55
           obtain ⟨c56, H⟩ : (¬ (((rd_T43 t785 x19_5).f3) < 2)) ∧ _ := mIfn H
           have c56b0 := decide_eq_false c56
           clear c56
           have H' := Aside0.mk H
           clear H
           have p809 : 0 ≤ (x19_5 : Int) := of_decide_eq_true (by assumption)
           have q809 : x19_5 < (t785.length : Int) := of_decide_eq_true (by assumption)
           obtain ⟨ad809, e809, hx809_0, hx809_1, hx809_2, hx809_3⟩ := at_T43 (Kd.V_reads' HO_7.out).2.2 x19_5 p809 q809
           cases e809
           replace p809 := eq_true p809
           replace q809 := eq_true q809
           have p810 : 0 ≤ (x19_5 : Int) := of_decide_eq_true (by assumption)
           have q810 : x19_5 < (t785.length : Int) := of_decide_eq_true (by assumption)
           obtain ⟨ad810, e810, hx810_0, hx810_1, hx810_2, hx810_3⟩ := at_T43 (Kd.V_reads' HO_7.out).2.2 x19_5 p810 q810
           obtain rfl : ad809 = ad810 := (by injection e810)
           replace p810 := eq_true p810
           replace q810 := eq_true q810
           have p811 : 0 ≤ (x19_5 : Int) := of_decide_eq_true (by assumption)
           have q811 : x19_5 < (t785.length : Int) := of_decide_eq_true (by assumption)
           obtain ⟨ad811, e811, hx811_0, hx811_1, hx811_2, hx811_3⟩ := at_T43 (Kd.V_reads' HO_7.out).2.2 x19_5 p811 q811
           obtain rfl : ad809 = ad811 := (by injection e811)
           replace p811 := eq_true p811
           replace q811 := eq_true q811
           go_wp2
           repeat (go_quiet (fail); try go_wp2)
           go_roundg k5
           case measure => have := HJ3.out; have := HJ15.out; have := HJ31.out; have := HK4.out; have := HK5.out; omega
           case rel => exact ⟨(wrap64 (x19_5 + 1)), rfl, H', ⟨by have := HJ3.out; have := HJ15.out; have := HJ31.out; have := HK4.out; have := HK5.out; omega⟩, HO_7, ⟨HB.out⟩⟩
end Go.Proofs.YtimikhbnihedkaaDoor.PAll
