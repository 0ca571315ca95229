-- PRINTED BY print.sh 35421559b90ae4d0a3588c463048766b98c2df88dd9212a6774a882060cdf62d: not written by this session
import Derived.Test.YtodjapnmobekjaaPNumMeansx0
import Derived.Test.YtodjapnmobekjaaPNumMeansx1
import Derived.Test.YtodjapnmobekjaaPNumMeansx2
namespace Go.Proofs.Ytodjapnmobekjaa.PNumMeans
open Go.RowKit Go.Proofs.YtodjapnmobekjaaW.PrintWords Go.Proofs.YtodjapnmobekjaaW.PrintLast Go.Proofs.YtodjapnmobekjaaW.PrintMore
attribute [local go_sem] max2_int min2_int max_two min_two max_three min_three max_four min_four   -- for this text's walks alone
set_option linter.unusedVariables false
set_option linter.unusedSimpArgs false

/-! ### dancestudiolaw01_awake: function 14 -/
mutual
def dancestudiolaw01_awake.j0 : Nat → Bool → Option (Bool)
  | 0, _ => none
  | k + 1, x26 => if x26 = true then (some false) else ((dancestudiolaw01_rounds.f k 2 5 2).bind fun t154 => (if t154 = true then ((dancestudiolaw01_rounds.f k 4 7 2).bind fun t155 => (if t155 = true then ((dancestudiolaw01_rounds.f k (-4) (-7) 2).bind fun t156 => (if t156 = true then ((dancestudiolaw01_rounds.f k (-4) 7 (-2)).bind fun t157 => (dancestudiolaw01_awake.j1 k (!t157))) else (dancestudiolaw01_awake.j1 k true))) else (dancestudiolaw01_awake.j1 k true))) else (dancestudiolaw01_awake.j1 k true)))
def dancestudiolaw01_awake.j1 : Nat → Bool → Option (Bool)
  | 0, _ => none
  | k + 1, x40 => if x40 = true then (some false) else ((num_Floor.f k (-7) 2).bind fun bt158 => ((num_Floor.f k 7 (-2)).bind fun bt161 => ((num_Root.f k 99).bind fun bt164 => ((num_Gcd.f k (-12) 18).bind fun bt166 => ((num_Round.f k 1 0).bind fun bt168 => (if bt158.1 = (-4) then (if bt158.2.1 = 1 then (if bt158.2.2 = 0 then (if bt161.2.2 = 1 then (if bt164.1 = 9 then (if bt164.2 = 0 then (if bt166.1 = 6 then (if bt166.2 = 0 then (dancestudiolaw01_awake.j2 k (bt168.2 != 11)) else (dancestudiolaw01_awake.j2 k true)) else (dancestudiolaw01_awake.j2 k true)) else (dancestudiolaw01_awake.j2 k true)) else (dancestudiolaw01_awake.j2 k true)) else (dancestudiolaw01_awake.j2 k true)) else (dancestudiolaw01_awake.j2 k true)) else (dancestudiolaw01_awake.j2 k true)) else (dancestudiolaw01_awake.j2 k true)))))))
def dancestudiolaw01_awake.j2 : Nat → Bool → Option (Bool)
  | 0, _ => none
  | k + 1, x96 => if x96 = true then (some false) else ((dancestudiolaw01_compares.f k 0 3 4 2 6).bind fun t170 => (if t170 = true then ((dancestudiolaw01_compares.f k (-1) (-1) 5 0 9).bind fun t171 => (if t171 = true then ((dancestudiolaw01_compares.f k 1 1125899906842624 1125899906842624 1125899906842624 1125899906842623).bind fun t172 => (some t172)) else (some false))) else (some false)))
end
def dancestudiolaw01_awake.f (k : Nat)  : Option (Bool) := (dancestudiolaw01_lerps.f 2 0 5 1 2).bind fun t150 => (if t150 = true then ((dancestudiolaw01_lerps.f 4 0 7 1 2).bind fun t151 => (if t151 = true then ((dancestudiolaw01_lerps.f 13 10 20 1 3).bind fun t152 => (if t152 = true then ((dancestudiolaw01_lerps.f (-2) (-5) 0 1 2).bind fun t153 => (dancestudiolaw01_awake.j0 k (!t153))) else (dancestudiolaw01_awake.j0 k true))) else (dancestudiolaw01_awake.j0 k true))) else (dancestudiolaw01_awake.j0 k true))
theorem dancestudiolaw01_awake.mono_l : ∀ k, (∀ y0, LeO (dancestudiolaw01_awake.j0 k y0) (dancestudiolaw01_awake.j0 (k + 1) y0)) ∧ (∀ y0, LeO (dancestudiolaw01_awake.j1 k y0) (dancestudiolaw01_awake.j1 (k + 1) y0)) ∧ (∀ y0, LeO (dancestudiolaw01_awake.j2 k y0) (dancestudiolaw01_awake.j2 (k + 1) y0))
  | 0 => ⟨fun _ r h => by simp [dancestudiolaw01_awake.j0] at h, fun _ r h => by simp [dancestudiolaw01_awake.j1] at h, fun _ r h => by simp [dancestudiolaw01_awake.j2] at h⟩
  | k + 1 => by
    obtain ⟨ih0, ih1, ih2⟩ := dancestudiolaw01_awake.mono_l k
    refine ⟨?_, ?_, ?_⟩
    · intro y0
      unfold dancestudiolaw01_awake.j0
      repeat' first
      | (with_reducible exact ih0 _)
      | (with_reducible exact ih1 _)
      | (with_reducible exact ih2 _)
      | (with_reducible exact dancestudiolaw01_compares.mono _ _ _ _ _ _)
      | (with_reducible exact dancestudiolaw01_rounds.mono _ _ _ _)
      | (with_reducible exact num_Floor.mono _ _ _)
      | (with_reducible exact num_Gcd.mono _ _ _)
      | (with_reducible exact num_Root.mono _ _)
      | (with_reducible exact num_Round.mono _ _ _)
      | (with_reducible exact LeO.refl _)
      | (with_reducible exact LeO.none _)
      | (with_reducible refine LeO.ite ?_ ?_)
      | (with_reducible refine LeO.bind ?_ (fun _ => ?_))
      | exact ih0 _
      | exact ih1 _
      | exact ih2 _
      | exact dancestudiolaw01_compares.mono _ _ _ _ _ _
      | exact dancestudiolaw01_rounds.mono _ _ _ _
      | exact num_Floor.mono _ _ _
      | exact num_Gcd.mono _ _ _
      | exact num_Root.mono _ _
      | exact num_Round.mono _ _ _
      | exact LeO.none _
      | refine LeO.ite ?_ ?_
      | refine LeO.bind ?_ (fun _ => ?_)
    · intro y0
      unfold dancestudiolaw01_awake.j1
      repeat' first
      | (with_reducible exact ih0 _)
      | (with_reducible exact ih1 _)
      | (with_reducible exact ih2 _)
      | (with_reducible exact dancestudiolaw01_compares.mono _ _ _ _ _ _)
      | (with_reducible exact dancestudiolaw01_rounds.mono _ _ _ _)
      | (with_reducible exact num_Floor.mono _ _ _)
      | (with_reducible exact num_Gcd.mono _ _ _)
      | (with_reducible exact num_Root.mono _ _)
      | (with_reducible exact num_Round.mono _ _ _)
      | (with_reducible exact LeO.refl _)
      | (with_reducible exact LeO.none _)
      | (with_reducible refine LeO.ite ?_ ?_)
      | (with_reducible refine LeO.bind ?_ (fun _ => ?_))
      | exact ih0 _
      | exact ih1 _
      | exact ih2 _
      | exact dancestudiolaw01_compares.mono _ _ _ _ _ _
      | exact dancestudiolaw01_rounds.mono _ _ _ _
      | exact num_Floor.mono _ _ _
      | exact num_Gcd.mono _ _ _
      | exact num_Root.mono _ _
      | exact num_Round.mono _ _ _
      | exact LeO.none _
      | refine LeO.ite ?_ ?_
      | refine LeO.bind ?_ (fun _ => ?_)
    · intro y0
      unfold dancestudiolaw01_awake.j2
      repeat' first
      | (with_reducible exact ih0 _)
      | (with_reducible exact ih1 _)
      | (with_reducible exact ih2 _)
      | (with_reducible exact dancestudiolaw01_compares.mono _ _ _ _ _ _)
      | (with_reducible exact dancestudiolaw01_rounds.mono _ _ _ _)
      | (with_reducible exact num_Floor.mono _ _ _)
      | (with_reducible exact num_Gcd.mono _ _ _)
      | (with_reducible exact num_Root.mono _ _)
      | (with_reducible exact num_Round.mono _ _ _)
      | (with_reducible exact LeO.refl _)
      | (with_reducible exact LeO.none _)
      | (with_reducible refine LeO.ite ?_ ?_)
      | (with_reducible refine LeO.bind ?_ (fun _ => ?_))
      | exact ih0 _
      | exact ih1 _
      | exact ih2 _
      | exact dancestudiolaw01_compares.mono _ _ _ _ _ _
      | exact dancestudiolaw01_rounds.mono _ _ _ _
      | exact num_Floor.mono _ _ _
      | exact num_Gcd.mono _ _ _
      | exact num_Root.mono _ _
      | exact num_Round.mono _ _ _
      | exact LeO.none _
      | refine LeO.ite ?_ ?_
      | refine LeO.bind ?_ (fun _ => ?_)
theorem dancestudiolaw01_awake.mono : ∀ k, LeO (dancestudiolaw01_awake.f k ) (dancestudiolaw01_awake.f (k + 1) ) := by
  intro  k
  obtain ⟨ih0, ih1, ih2⟩ := dancestudiolaw01_awake.mono_l k
  unfold dancestudiolaw01_awake.f
  repeat' first
      | (with_reducible exact ih0 _)
      | (with_reducible exact ih1 _)
      | (with_reducible exact ih2 _)
      | (with_reducible exact dancestudiolaw01_compares.mono _ _ _ _ _ _)
      | (with_reducible exact dancestudiolaw01_rounds.mono _ _ _ _)
      | (with_reducible exact num_Floor.mono _ _ _)
      | (with_reducible exact num_Gcd.mono _ _ _)
      | (with_reducible exact num_Root.mono _ _)
      | (with_reducible exact num_Round.mono _ _ _)
      | (with_reducible exact LeO.refl _)
      | (with_reducible exact LeO.none _)
      | (with_reducible refine LeO.ite ?_ ?_)
      | (with_reducible refine LeO.bind ?_ (fun _ => ?_))
      | exact ih0 _
      | exact ih1 _
      | exact ih2 _
      | exact dancestudiolaw01_compares.mono _ _ _ _ _ _
      | exact dancestudiolaw01_rounds.mono _ _ _ _
      | exact num_Floor.mono _ _ _
      | exact num_Gcd.mono _ _ _
      | exact num_Root.mono _ _
      | exact num_Round.mono _ _ _
      | exact LeO.none _
      | refine LeO.ite ?_ ?_
      | refine LeO.bind ?_ (fun _ => ?_)
set_option maxHeartbeats 8000000 in
set_option maxRecDepth 100000 in
theorem dancestudiolaw01_awake.calls (k : Nat)  (r : Bool) (w : World) (h : dancestudiolaw01_awake.f k  = some r) :
    Calls Try.prog 14 #[] w fun e w' => e = .returned (.bool r) ∧ Below w.heap.size w w' := by
  have HB := Aside0.mk (Below.refl w.heap.size w)
  have H : ((dancestudiolaw01_lerps.f 2 0 5 1 2).bind fun t150 => (if t150 = true then ((dancestudiolaw01_lerps.f 4 0 7 1 2).bind fun t151 => (if t151 = true then ((dancestudiolaw01_lerps.f 13 10 20 1 3).bind fun t152 => (if t152 = true then ((dancestudiolaw01_lerps.f (-2) (-5) 0 1 2).bind fun t153 => (dancestudiolaw01_awake.j0 k (!t153))) else (dancestudiolaw01_awake.j0 k true))) else (dancestudiolaw01_awake.j0 k true))) else (dancestudiolaw01_awake.j0 k true))) = some r := h
  clear h
  have HC1 := Aside0.mk H
  clear H
  go_enter Try.func14, Try.ntmps14
  go_upto_region 1 with (fail)
  go_cut [26] (fun v26 wc => ∃ (kq : Nat) (x26_0 : Bool), v26 = .bool x26_0 ∧ Aside0 (dancestudiolaw01_awake.j0 kq x26_0 = some r) ∧ Aside0 (kq ≤ k) ∧ Aside0 (Below w.heap.size w wc))
  case first =>
    have H := HC1.out
    clear HC1
    replace H := Option.bind_eq_some_iff.mp H
    obtain ⟨t150, A20, H⟩ := H
    replace H : (if t150 = true then ((dancestudiolaw01_lerps.f 4 0 7 1 2).bind fun t151 => (if t151 = true then ((dancestudiolaw01_lerps.f 13 10 20 1 3).bind fun t152 => (if t152 = true then ((dancestudiolaw01_lerps.f (-2) (-5) 0 1 2).bind fun t153 => (dancestudiolaw01_awake.j0 k (!t153))) else (dancestudiolaw01_awake.j0 k true))) else (dancestudiolaw01_awake.j0 k true))) else (dancestudiolaw01_awake.j0 k true)) = some r := H
    have A2 := Aside0.mk A20
    clear A20
    by_cases c3 : t150 = true
    · subst c3
      have H1 : ((dancestudiolaw01_lerps.f 4 0 7 1 2).bind fun t151 => (if t151 = true then ((dancestudiolaw01_lerps.f 13 10 20 1 3).bind fun t152 => (if t152 = true then ((dancestudiolaw01_lerps.f (-2) (-5) 0 1 2).bind fun t153 => (dancestudiolaw01_awake.j0 k (!t153))) else (dancestudiolaw01_awake.j0 k true))) else (dancestudiolaw01_awake.j0 k true))) = some r := by rw [if_pos rfl] at H; exact H
      clear H
      have H := H1
      clear H1
      replace H := Option.bind_eq_some_iff.mp H
      obtain ⟨t151, A40, H⟩ := H
      replace H : (if t151 = true then ((dancestudiolaw01_lerps.f 13 10 20 1 3).bind fun t152 => (if t152 = true then ((dancestudiolaw01_lerps.f (-2) (-5) 0 1 2).bind fun t153 => (dancestudiolaw01_awake.j0 k (!t153))) else (dancestudiolaw01_awake.j0 k true))) else (dancestudiolaw01_awake.j0 k true)) = some r := H
      have A4 := Aside0.mk A40
      clear A40
      by_cases c5 : t151 = true
      · subst c5
        have H1 : ((dancestudiolaw01_lerps.f 13 10 20 1 3).bind fun t152 => (if t152 = true then ((dancestudiolaw01_lerps.f (-2) (-5) 0 1 2).bind fun t153 => (dancestudiolaw01_awake.j0 k (!t153))) else (dancestudiolaw01_awake.j0 k true))) = some r := by rw [if_pos rfl] at H; exact H
        clear H
        have H := H1
        clear H1
        replace H := Option.bind_eq_some_iff.mp H
        obtain ⟨t152, A60, H⟩ := H
        replace H : (if t152 = true then ((dancestudiolaw01_lerps.f (-2) (-5) 0 1 2).bind fun t153 => (dancestudiolaw01_awake.j0 k (!t153))) else (dancestudiolaw01_awake.j0 k true)) = some r := H
        have A6 := Aside0.mk A60
        clear A60
        by_cases c7 : t152 = true
        · subst c7
          have H1 : ((dancestudiolaw01_lerps.f (-2) (-5) 0 1 2).bind fun t153 => (dancestudiolaw01_awake.j0 k (!t153))) = some r := by rw [if_pos rfl] at H; exact H
          clear H
          have H := H1
          clear H1
          replace H := Option.bind_eq_some_iff.mp H
          obtain ⟨t153, A80, H⟩ := H
          replace H : (dancestudiolaw01_awake.j0 k (!t153)) = some r := H
          have A8 := Aside0.mk A80
          clear A80
          have H' := Aside0.mk H
          clear H
          go_wp2_with (first | ((with_reducible refine gate_callee (f := 16) rfl ?_); refine goesL_ (some 13) rfl rfl Try.func16 (by kernel_rfl) rfl #[.int .i64 2, .int .i64 0, .int .i64 5, .int .i64 1, .int .i64 2] rfl (by (try simp only [List.map_toArray, List.map_cons, List.map_nil]); first | done | rfl | (simp only [List.length_drop, List.length_take]; rfl)) ?_; (with_reducible refine (dancestudiolaw01_lerps.calls 2 0 5 1 2 true _ A2.out).mono ?_); rintro e w' ⟨rfl, ⟨nd, rfl⟩⟩; refine ⟨_, rfl, ?_⟩) | (go_at_call 16; (with_reducible refine (dancestudiolaw01_lerps.calls 4 0 7 1 2 true _ A4.out).mono ?_); rintro e w' ⟨rfl, ⟨nd, rfl⟩⟩) | (go_at_call 16; (with_reducible refine (dancestudiolaw01_lerps.calls 13 10 20 1 3 true _ A6.out).mono ?_); rintro e w' ⟨rfl, ⟨nd, rfl⟩⟩) | (go_at_call 16; (with_reducible refine (dancestudiolaw01_lerps.calls (-2) (-5) 0 1 2 t153 _ A8.out).mono ?_); rintro e w' ⟨rfl, ⟨nd, rfl⟩⟩))
          go_meet
          case rel => exact ⟨_, (!t153), (by first | rfl | (simp; done) | (simp [*]; done)), H', ⟨by first | omega | exact Nat.le_refl _⟩, ⟨by repeat (first | (with_reducible first | exact HB.out | apply below_alloc | apply pw_below_drewN | apply below_drew1) | exact HB.out)⟩⟩
        · replace c7 := Bool.eq_false_iff.mpr c7
          subst c7
          have H1 : (dancestudiolaw01_awake.j0 k true) = some r := by rw [if_neg (show ¬ (false = true) by decide)] at H; exact H
          clear H
          have H := H1
          clear H1
          have H' := Aside0.mk H
          clear H
          go_wp2_with (first | ((with_reducible refine gate_callee (f := 16) rfl ?_); refine goesL_ (some 13) rfl rfl Try.func16 (by kernel_rfl) rfl #[.int .i64 2, .int .i64 0, .int .i64 5, .int .i64 1, .int .i64 2] rfl (by (try simp only [List.map_toArray, List.map_cons, List.map_nil]); first | done | rfl | (simp only [List.length_drop, List.length_take]; rfl)) ?_; (with_reducible refine (dancestudiolaw01_lerps.calls 2 0 5 1 2 true _ A2.out).mono ?_); rintro e w' ⟨rfl, ⟨nd, rfl⟩⟩; refine ⟨_, rfl, ?_⟩) | (go_at_call 16; (with_reducible refine (dancestudiolaw01_lerps.calls 4 0 7 1 2 true _ A4.out).mono ?_); rintro e w' ⟨rfl, ⟨nd, rfl⟩⟩) | (go_at_call 16; (with_reducible refine (dancestudiolaw01_lerps.calls 13 10 20 1 3 false _ A6.out).mono ?_); rintro e w' ⟨rfl, ⟨nd, rfl⟩⟩))
          go_meet
          case rel => exact ⟨_, (true), (by first | rfl | (simp; done) | (simp [*]; done)), H', ⟨by first | omega | exact Nat.le_refl _⟩, ⟨by repeat (first | (with_reducible first | exact HB.out | apply below_alloc | apply pw_below_drewN | apply below_drew1) | exact HB.out)⟩⟩
      · replace c5 := Bool.eq_false_iff.mpr c5
        subst c5
        have H1 : (dancestudiolaw01_awake.j0 k true) = some r := by rw [if_neg (show ¬ (false = true) by decide)] at H; exact H
        clear H
        have H := H1
        clear H1
        have H' := Aside0.mk H
        clear H
        go_wp2_with (first | ((with_reducible refine gate_callee (f := 16) rfl ?_); refine goesL_ (some 13) rfl rfl Try.func16 (by kernel_rfl) rfl #[.int .i64 2, .int .i64 0, .int .i64 5, .int .i64 1, .int .i64 2] rfl (by (try simp only [List.map_toArray, List.map_cons, List.map_nil]); first | done | rfl | (simp only [List.length_drop, List.length_take]; rfl)) ?_; (with_reducible refine (dancestudiolaw01_lerps.calls 2 0 5 1 2 true _ A2.out).mono ?_); rintro e w' ⟨rfl, ⟨nd, rfl⟩⟩; refine ⟨_, rfl, ?_⟩) | (go_at_call 16; (with_reducible refine (dancestudiolaw01_lerps.calls 4 0 7 1 2 false _ A4.out).mono ?_); rintro e w' ⟨rfl, ⟨nd, rfl⟩⟩))
        go_meet
        case rel => exact ⟨_, (true), (by first | rfl | (simp; done) | (simp [*]; done)), H', ⟨by first | omega | exact Nat.le_refl _⟩, ⟨by repeat (first | (with_reducible first | exact HB.out | apply below_alloc | apply pw_below_drewN | apply below_drew1) | exact HB.out)⟩⟩
    · replace c3 := Bool.eq_false_iff.mpr c3
      subst c3
      have H1 : (dancestudiolaw01_awake.j0 k true) = some r := by rw [if_neg (show ¬ (false = true) by decide)] at H; exact H
      clear H
      have H := H1
      clear H1
      have H' := Aside0.mk H
      clear H
      go_wp2_with (first | ((with_reducible refine gate_callee (f := 16) rfl ?_); refine goesL_ (some 13) rfl rfl Try.func16 (by kernel_rfl) rfl #[.int .i64 2, .int .i64 0, .int .i64 5, .int .i64 1, .int .i64 2] rfl (by (try simp only [List.map_toArray, List.map_cons, List.map_nil]); first | done | rfl | (simp only [List.length_drop, List.length_take]; rfl)) ?_; (with_reducible refine (dancestudiolaw01_lerps.calls 2 0 5 1 2 false _ A2.out).mono ?_); rintro e w' ⟨rfl, ⟨nd, rfl⟩⟩; refine ⟨_, rfl, ?_⟩))
      go_meet
      case rel => exact ⟨_, (true), (by first | rfl | (simp; done) | (simp [*]; done)), H', ⟨by first | omega | exact Nat.le_refl _⟩, ⟨by repeat (first | (with_reducible first | exact HB.out | apply below_alloc | apply pw_below_drewN | apply below_drew1) | exact HB.out)⟩⟩
  case rest =>
    clear HC1
    try clear c1
    try clear p2
    try clear c3
    try clear c5
    try clear c7
    obtain ⟨kq, x26_0, rfl, HA, HJ0, HB⟩ := hcut
    cases kq with
    | zero => exact absurd HA.out (by simp [dancestudiolaw01_awake.j0])
    | succ kj0 =>
      have H := HA.out
      clear HA
      simp only [dancestudiolaw01_awake.j0] at H
      by_cases c9 : x26_0 = true
      · subst c9
        have H1 : (some false) = some r := by rw [if_pos rfl] at H; exact H
        clear H
        have H := H1
        clear H1
        obtain rfl := Option.some.inj H
        go_wp2
        go_ret
        exact ⟨by first | rfl | (simp [errW_none, errW_some] <;> rfl) | (simp [*, errW_none, errW_some] <;> rfl), by repeat (first | (with_reducible first | exact HB.out | apply below_alloc | apply pw_below_drewN | apply below_drew1) | exact HB.out)⟩
      · replace c9 := Bool.eq_false_iff.mpr c9
        subst c9
        have H1 : ((dancestudiolaw01_rounds.f kj0 2 5 2).bind fun t154 => (if t154 = true then ((dancestudiolaw01_rounds.f kj0 4 7 2).bind fun t155 => (if t155 = true then ((dancestudiolaw01_rounds.f kj0 (-4) (-7) 2).bind fun t156 => (if t156 = true then ((dancestudiolaw01_rounds.f kj0 (-4) 7 (-2)).bind fun t157 => (dancestudiolaw01_awake.j1 kj0 (!t157))) else (dancestudiolaw01_awake.j1 kj0 true))) else (dancestudiolaw01_awake.j1 kj0 true))) else (dancestudiolaw01_awake.j1 kj0 true))) = some r := by rw [if_neg (show ¬ (false = true) by decide)] at H; exact H
        clear H
        have H := H1
        clear H1
        have HC10 := Aside0.mk H
        clear H
        go_upto_region 3 with (fail)
        go_cut [40] (fun v40 wc => ∃ (kq : Nat) (x40_9 : Bool), v40 = .bool x40_9 ∧ Aside0 (dancestudiolaw01_awake.j1 kq x40_9 = some r) ∧ Aside0 (kq ≤ kj0) ∧ Aside0 (Below w.heap.size w wc))
        case first =>
          have H := HC10.out
          clear HC10
          replace H := Option.bind_eq_some_iff.mp H
          obtain ⟨t154, A110, H⟩ := H
          replace H : (if t154 = true then ((dancestudiolaw01_rounds.f kj0 4 7 2).bind fun t155 => (if t155 = true then ((dancestudiolaw01_rounds.f kj0 (-4) (-7) 2).bind fun t156 => (if t156 = true then ((dancestudiolaw01_rounds.f kj0 (-4) 7 (-2)).bind fun t157 => (dancestudiolaw01_awake.j1 kj0 (!t157))) else (dancestudiolaw01_awake.j1 kj0 true))) else (dancestudiolaw01_awake.j1 kj0 true))) else (dancestudiolaw01_awake.j1 kj0 true)) = some r := H
          have A11 := Aside0.mk A110
          clear A110
          by_cases c12 : t154 = true
          · subst c12
            have H1 : ((dancestudiolaw01_rounds.f kj0 4 7 2).bind fun t155 => (if t155 = true then ((dancestudiolaw01_rounds.f kj0 (-4) (-7) 2).bind fun t156 => (if t156 = true then ((dancestudiolaw01_rounds.f kj0 (-4) 7 (-2)).bind fun t157 => (dancestudiolaw01_awake.j1 kj0 (!t157))) else (dancestudiolaw01_awake.j1 kj0 true))) else (dancestudiolaw01_awake.j1 kj0 true))) = some r := by rw [if_pos rfl] at H; exact H
            clear H
            have H := H1
            clear H1
            replace H := Option.bind_eq_some_iff.mp H
            obtain ⟨t155, A130, H⟩ := H
            replace H : (if t155 = true then ((dancestudiolaw01_rounds.f kj0 (-4) (-7) 2).bind fun t156 => (if t156 = true then ((dancestudiolaw01_rounds.f kj0 (-4) 7 (-2)).bind fun t157 => (dancestudiolaw01_awake.j1 kj0 (!t157))) else (dancestudiolaw01_awake.j1 kj0 true))) else (dancestudiolaw01_awake.j1 kj0 true)) = some r := H
            have A13 := Aside0.mk A130
            clear A130
            by_cases c14 : t155 = true
            · subst c14
              have H1 : ((dancestudiolaw01_rounds.f kj0 (-4) (-7) 2).bind fun t156 => (if t156 = true then ((dancestudiolaw01_rounds.f kj0 (-4) 7 (-2)).bind fun t157 => (dancestudiolaw01_awake.j1 kj0 (!t157))) else (dancestudiolaw01_awake.j1 kj0 true))) = some r := by rw [if_pos rfl] at H; exact H
              clear H
              have H := H1
              clear H1
              replace H := Option.bind_eq_some_iff.mp H
              obtain ⟨t156, A150, H⟩ := H
              replace H : (if t156 = true then ((dancestudiolaw01_rounds.f kj0 (-4) 7 (-2)).bind fun t157 => (dancestudiolaw01_awake.j1 kj0 (!t157))) else (dancestudiolaw01_awake.j1 kj0 true)) = some r := H
              have A15 := Aside0.mk A150
              clear A150
              by_cases c16 : t156 = true
              · subst c16
                have H1 : ((dancestudiolaw01_rounds.f kj0 (-4) 7 (-2)).bind fun t157 => (dancestudiolaw01_awake.j1 kj0 (!t157))) = some r := by rw [if_pos rfl] at H; exact H
                clear H
                have H := H1
                clear H1
                replace H := Option.bind_eq_some_iff.mp H
                obtain ⟨t157, A170, H⟩ := H
                replace H : (dancestudiolaw01_awake.j1 kj0 (!t157)) = some r := H
                have A17 := Aside0.mk A170
                clear A170
                have H' := Aside0.mk H
                clear H
                go_wp2_with (first | ((with_reducible refine gate_callee (f := 21) rfl ?_); refine goesL_ (some 27) rfl rfl Try.func21 (by kernel_rfl) rfl #[.int .i64 2, .int .i64 5, .int .i64 2] rfl (by (try simp only [List.map_toArray, List.map_cons, List.map_nil]); first | done | rfl | (simp only [List.length_drop, List.length_take]; rfl)) ?_; (with_reducible refine (dancestudiolaw01_rounds.calls kj0 2 5 2 true _ A11.out).mono ?_); rintro e w18 ⟨rfl, hb⟩; refine ⟨_, rfl, ?_⟩; have n0_ := Aside0.mk (below_step (by repeat (first | (with_reducible first | exact HB.out | apply below_alloc | apply pw_below_drewN | apply below_drew1) | exact HB.out)) hb); clear HB; have HB := n0_; clear n0_; (try clear hb); (try clear hb2); (try clear hk); (try clear hi)) | (go_at_call 21; (with_reducible refine (dancestudiolaw01_rounds.calls kj0 4 7 2 true _ A13.out).mono ?_); rintro e w19 ⟨rfl, hb⟩; have n0_ := Aside0.mk (below_step (by repeat (first | (with_reducible first | exact HB.out | apply below_alloc | apply pw_below_drewN | apply below_drew1) | exact HB.out)) hb); clear HB; have HB := n0_; clear n0_; (try clear hb); (try clear hb2); (try clear hk); (try clear hi)) | (go_at_call 21; (with_reducible refine (dancestudiolaw01_rounds.calls kj0 (-4) (-7) 2 true _ A15.out).mono ?_); rintro e w20 ⟨rfl, hb⟩; have n0_ := Aside0.mk (below_step (by repeat (first | (with_reducible first | exact HB.out | apply below_alloc | apply pw_below_drewN | apply below_drew1) | exact HB.out)) hb); clear HB; have HB := n0_; clear n0_; (try clear hb); (try clear hb2); (try clear hk); (try clear hi)) | (go_at_call 21; (with_reducible refine (dancestudiolaw01_rounds.calls kj0 (-4) 7 (-2) t157 _ A17.out).mono ?_); rintro e w21 ⟨rfl, hb⟩; have n0_ := Aside0.mk (below_step (by repeat (first | (with_reducible first | exact HB.out | apply below_alloc | apply pw_below_drewN | apply below_drew1) | exact HB.out)) hb); clear HB; have HB := n0_; clear n0_; (try clear hb); (try clear hb2); (try clear hk); (try clear hi)))
                go_meet
                case rel => exact ⟨_, (!t157), (by first | rfl | (simp; done) | (simp [*]; done)), H', ⟨by have := HJ0.out; first | omega | exact Nat.le_refl _⟩, ⟨by repeat (first | (with_reducible first | exact HB.out | apply below_alloc | apply pw_below_drewN | apply below_drew1) | exact HB.out)⟩⟩
              · replace c16 := Bool.eq_false_iff.mpr c16
                subst c16
                have H1 : (dancestudiolaw01_awake.j1 kj0 true) = some r := by rw [if_neg (show ¬ (false = true) by decide)] at H; exact H
                clear H
                have H := H1
                clear H1
                have H' := Aside0.mk H
                clear H
                go_wp2_with (first | ((with_reducible refine gate_callee (f := 21) rfl ?_); refine goesL_ (some 27) rfl rfl Try.func21 (by kernel_rfl) rfl #[.int .i64 2, .int .i64 5, .int .i64 2] rfl (by (try simp only [List.map_toArray, List.map_cons, List.map_nil]); first | done | rfl | (simp only [List.length_drop, List.length_take]; rfl)) ?_; (with_reducible refine (dancestudiolaw01_rounds.calls kj0 2 5 2 true _ A11.out).mono ?_); rintro e w22 ⟨rfl, hb⟩; refine ⟨_, rfl, ?_⟩; have n0_ := Aside0.mk (below_step (by repeat (first | (with_reducible first | exact HB.out | apply below_alloc | apply pw_below_drewN | apply below_drew1) | exact HB.out)) hb); clear HB; have HB := n0_; clear n0_; (try clear hb); (try clear hb2); (try clear hk); (try clear hi)) | (go_at_call 21; (with_reducible refine (dancestudiolaw01_rounds.calls kj0 4 7 2 true _ A13.out).mono ?_); rintro e w23 ⟨rfl, hb⟩; have n0_ := Aside0.mk (below_step (by repeat (first | (with_reducible first | exact HB.out | apply below_alloc | apply pw_below_drewN | apply below_drew1) | exact HB.out)) hb); clear HB; have HB := n0_; clear n0_; (try clear hb); (try clear hb2); (try clear hk); (try clear hi)) | (go_at_call 21; (with_reducible refine (dancestudiolaw01_rounds.calls kj0 (-4) (-7) 2 false _ A15.out).mono ?_); rintro e w24 ⟨rfl, hb⟩; have n0_ := Aside0.mk (below_step (by repeat (first | (with_reducible first | exact HB.out | apply below_alloc | apply pw_below_drewN | apply below_drew1) | exact HB.out)) hb); clear HB; have HB := n0_; clear n0_; (try clear hb); (try clear hb2); (try clear hk); (try clear hi)))
                go_meet
                case rel => exact ⟨_, (true), (by first | rfl | (simp; done) | (simp [*]; done)), H', ⟨by have := HJ0.out; first | omega | exact Nat.le_refl _⟩, ⟨by repeat (first | (with_reducible first | exact HB.out | apply below_alloc | apply pw_below_drewN | apply below_drew1) | exact HB.out)⟩⟩
            · replace c14 := Bool.eq_false_iff.mpr c14
              subst c14
              have H1 : (dancestudiolaw01_awake.j1 kj0 true) = some r := by rw [if_neg (show ¬ (false = true) by decide)] at H; exact H
              clear H
              have H := H1
              clear H1
              have H' := Aside0.mk H
              clear H
              go_wp2_with (first | ((with_reducible refine gate_callee (f := 21) rfl ?_); refine goesL_ (some 27) rfl rfl Try.func21 (by kernel_rfl) rfl #[.int .i64 2, .int .i64 5, .int .i64 2] rfl (by (try simp only [List.map_toArray, List.map_cons, List.map_nil]); first | done | rfl | (simp only [List.length_drop, List.length_take]; rfl)) ?_; (with_reducible refine (dancestudiolaw01_rounds.calls kj0 2 5 2 true _ A11.out).mono ?_); rintro e w25 ⟨rfl, hb⟩; refine ⟨_, rfl, ?_⟩; have n0_ := Aside0.mk (below_step (by repeat (first | (with_reducible first | exact HB.out | apply below_alloc | apply pw_below_drewN | apply below_drew1) | exact HB.out)) hb); clear HB; have HB := n0_; clear n0_; (try clear hb); (try clear hb2); (try clear hk); (try clear hi)) | (go_at_call 21; (with_reducible refine (dancestudiolaw01_rounds.calls kj0 4 7 2 false _ A13.out).mono ?_); rintro e w26 ⟨rfl, hb⟩; have n0_ := Aside0.mk (below_step (by repeat (first | (with_reducible first | exact HB.out | apply below_alloc | apply pw_below_drewN | apply below_drew1) | exact HB.out)) hb); clear HB; have HB := n0_; clear n0_; (try clear hb); (try clear hb2); (try clear hk); (try clear hi)))
              go_meet
              case rel => exact ⟨_, (true), (by first | rfl | (simp; done) | (simp [*]; done)), H', ⟨by have := HJ0.out; first | omega | exact Nat.le_refl _⟩, ⟨by repeat (first | (with_reducible first | exact HB.out | apply below_alloc | apply pw_below_drewN | apply below_drew1) | exact HB.out)⟩⟩
          · replace c12 := Bool.eq_false_iff.mpr c12
            subst c12
            have H1 : (dancestudiolaw01_awake.j1 kj0 true) = some r := by rw [if_neg (show ¬ (false = true) by decide)] at H; exact H
            clear H
            have H := H1
            clear H1
            have H' := Aside0.mk H
            clear H
            go_wp2_with (first | ((with_reducible refine gate_callee (f := 21) rfl ?_); refine goesL_ (some 27) rfl rfl Try.func21 (by kernel_rfl) rfl #[.int .i64 2, .int .i64 5, .int .i64 2] rfl (by (try simp only [List.map_toArray, List.map_cons, List.map_nil]); first | done | rfl | (simp only [List.length_drop, List.length_take]; rfl)) ?_; (with_reducible refine (dancestudiolaw01_rounds.calls kj0 2 5 2 false _ A11.out).mono ?_); rintro e w27 ⟨rfl, hb⟩; refine ⟨_, rfl, ?_⟩; have n0_ := Aside0.mk (below_step (by repeat (first | (with_reducible first | exact HB.out | apply below_alloc | apply pw_below_drewN | apply below_drew1) | exact HB.out)) hb); clear HB; have HB := n0_; clear n0_; (try clear hb); (try clear hb2); (try clear hk); (try clear hi)))
            go_meet
            case rel => exact ⟨_, (true), (by first | rfl | (simp; done) | (simp [*]; done)), H', ⟨by have := HJ0.out; first | omega | exact Nat.le_refl _⟩, ⟨by repeat (first | (with_reducible first | exact HB.out | apply below_alloc | apply pw_below_drewN | apply below_drew1) | exact HB.out)⟩⟩
        case rest =>
          clear HC10
          try clear c1
          try clear c2
          try clear p2
          try clear c3
          try clear c5
          try clear c7
          try clear c9
          try clear c12
          try clear c14
          try clear c16
          try clear c21
          try clear p2
          obtain ⟨kq, x40_9, rfl, HA, HJ9, HB⟩ := hcut
          cases kq with
          | zero => exact absurd HA.out (by simp [dancestudiolaw01_awake.j1])
          | succ kj9 =>
            have H := HA.out
            clear HA
            simp only [dancestudiolaw01_awake.j1] at H
            by_cases c28 : x40_9 = true
            · subst c28
              have H1 : (some false) = some r := by rw [if_pos rfl] at H; exact H
              clear H
              have H := H1
              clear H1
              obtain rfl := Option.some.inj H
              go_wp2
              go_ret
              exact ⟨by first | rfl | (simp [errW_none, errW_some] <;> rfl) | (simp [*, errW_none, errW_some] <;> rfl), by repeat (first | (with_reducible first | exact HB.out | apply below_alloc | apply pw_below_drewN | apply below_drew1) | exact HB.out)⟩
            · replace c28 := Bool.eq_false_iff.mpr c28
              subst c28
              have H1 : ((num_Floor.f kj9 (-7) 2).bind fun bt158 => ((num_Floor.f kj9 7 (-2)).bind fun bt161 => ((num_Root.f kj9 99).bind fun bt164 => ((num_Gcd.f kj9 (-12) 18).bind fun bt166 => ((num_Round.f kj9 1 0).bind fun bt168 => (if bt158.1 = (-4) then (if bt158.2.1 = 1 then (if bt158.2.2 = 0 then (if bt161.2.2 = 1 then (if bt164.1 = 9 then (if bt164.2 = 0 then (if bt166.1 = 6 then (if bt166.2 = 0 then (dancestudiolaw01_awake.j2 kj9 (bt168.2 != 11)) else (dancestudiolaw01_awake.j2 kj9 true)) else (dancestudiolaw01_awake.j2 kj9 true)) else (dancestudiolaw01_awake.j2 kj9 true)) else (dancestudiolaw01_awake.j2 kj9 true)) else (dancestudiolaw01_awake.j2 kj9 true)) else (dancestudiolaw01_awake.j2 kj9 true)) else (dancestudiolaw01_awake.j2 kj9 true)) else (dancestudiolaw01_awake.j2 kj9 true))))))) = some r := by rw [if_neg (show ¬ (false = true) by decide)] at H; exact H
              clear H
              have H := H1
              clear H1
              replace H := Option.bind_eq_some_iff.mp H
              obtain ⟨⟨t158, t159, t160⟩, A290, H⟩ := H
              replace H : ((num_Floor.f kj9 7 (-2)).bind fun bt161 => ((num_Root.f kj9 99).bind fun bt164 => ((num_Gcd.f kj9 (-12) 18).bind fun bt166 => ((num_Round.f kj9 1 0).bind fun bt168 => (if t158 = (-4) then (if t159 = 1 then (if t160 = 0 then (if bt161.2.2 = 1 then (if bt164.1 = 9 then (if bt164.2 = 0 then (if bt166.1 = 6 then (if bt166.2 = 0 then (dancestudiolaw01_awake.j2 kj9 (bt168.2 != 11)) else (dancestudiolaw01_awake.j2 kj9 true)) else (dancestudiolaw01_awake.j2 kj9 true)) else (dancestudiolaw01_awake.j2 kj9 true)) else (dancestudiolaw01_awake.j2 kj9 true)) else (dancestudiolaw01_awake.j2 kj9 true)) else (dancestudiolaw01_awake.j2 kj9 true)) else (dancestudiolaw01_awake.j2 kj9 true)) else (dancestudiolaw01_awake.j2 kj9 true)))))) = some r := H
              have A29 := Aside0.mk A290
              clear A290
              replace H := Option.bind_eq_some_iff.mp H
              obtain ⟨⟨t161, t162, t163⟩, A300, H⟩ := H
              replace H : ((num_Root.f kj9 99).bind fun bt164 => ((num_Gcd.f kj9 (-12) 18).bind fun bt166 => ((num_Round.f kj9 1 0).bind fun bt168 => (if t158 = (-4) then (if t159 = 1 then (if t160 = 0 then (if t163 = 1 then (if bt164.1 = 9 then (if bt164.2 = 0 then (if bt166.1 = 6 then (if bt166.2 = 0 then (dancestudiolaw01_awake.j2 kj9 (bt168.2 != 11)) else (dancestudiolaw01_awake.j2 kj9 true)) else (dancestudiolaw01_awake.j2 kj9 true)) else (dancestudiolaw01_awake.j2 kj9 true)) else (dancestudiolaw01_awake.j2 kj9 true)) else (dancestudiolaw01_awake.j2 kj9 true)) else (dancestudiolaw01_awake.j2 kj9 true)) else (dancestudiolaw01_awake.j2 kj9 true)) else (dancestudiolaw01_awake.j2 kj9 true))))) = some r := H
              have A30 := Aside0.mk A300
              clear A300
              replace H := Option.bind_eq_some_iff.mp H
              obtain ⟨⟨t164, t165⟩, A310, H⟩ := H
              replace H : ((num_Gcd.f kj9 (-12) 18).bind fun bt166 => ((num_Round.f kj9 1 0).bind fun bt168 => (if t158 = (-4) then (if t159 = 1 then (if t160 = 0 then (if t163 = 1 then (if t164 = 9 then (if t165 = 0 then (if bt166.1 = 6 then (if bt166.2 = 0 then (dancestudiolaw01_awake.j2 kj9 (bt168.2 != 11)) else (dancestudiolaw01_awake.j2 kj9 true)) else (dancestudiolaw01_awake.j2 kj9 true)) else (dancestudiolaw01_awake.j2 kj9 true)) else (dancestudiolaw01_awake.j2 kj9 true)) else (dancestudiolaw01_awake.j2 kj9 true)) else (dancestudiolaw01_awake.j2 kj9 true)) else (dancestudiolaw01_awake.j2 kj9 true)) else (dancestudiolaw01_awake.j2 kj9 true)))) = some r := H
              have A31 := Aside0.mk A310
              clear A310
              replace H := Option.bind_eq_some_iff.mp H
              obtain ⟨⟨t166, t167⟩, A320, H⟩ := H
              replace H : ((num_Round.f kj9 1 0).bind fun bt168 => (if t158 = (-4) then (if t159 = 1 then (if t160 = 0 then (if t163 = 1 then (if t164 = 9 then (if t165 = 0 then (if t166 = 6 then (if t167 = 0 then (dancestudiolaw01_awake.j2 kj9 (bt168.2 != 11)) else (dancestudiolaw01_awake.j2 kj9 true)) else (dancestudiolaw01_awake.j2 kj9 true)) else (dancestudiolaw01_awake.j2 kj9 true)) else (dancestudiolaw01_awake.j2 kj9 true)) else (dancestudiolaw01_awake.j2 kj9 true)) else (dancestudiolaw01_awake.j2 kj9 true)) else (dancestudiolaw01_awake.j2 kj9 true)) else (dancestudiolaw01_awake.j2 kj9 true))) = some r := H
              have A32 := Aside0.mk A320
              clear A320
              replace H := Option.bind_eq_some_iff.mp H
              obtain ⟨⟨t168, t169⟩, A330, H⟩ := H
              replace H : (if t158 = (-4) then (if t159 = 1 then (if t160 = 0 then (if t163 = 1 then (if t164 = 9 then (if t165 = 0 then (if t166 = 6 then (if t167 = 0 then (dancestudiolaw01_awake.j2 kj9 (t169 != 11)) else (dancestudiolaw01_awake.j2 kj9 true)) else (dancestudiolaw01_awake.j2 kj9 true)) else (dancestudiolaw01_awake.j2 kj9 true)) else (dancestudiolaw01_awake.j2 kj9 true)) else (dancestudiolaw01_awake.j2 kj9 true)) else (dancestudiolaw01_awake.j2 kj9 true)) else (dancestudiolaw01_awake.j2 kj9 true)) else (dancestudiolaw01_awake.j2 kj9 true)) = some r := H
              have A33 := Aside0.mk A330
              clear A330
              have HC34 := Aside0.mk H
              clear H
              go_upto_region 10 with (first | ((with_reducible refine gate_callee (f := 19) rfl ?_); refine goesL_ (some 42) rfl rfl Try.func19 (by kernel_rfl) rfl #[.int .i64 (-7), .int .i64 2] rfl (by (try simp only [List.map_toArray, List.map_cons, List.map_nil]); first | done | rfl | (simp only [List.length_drop, List.length_take]; rfl)) ?_; (with_reducible refine (num_Floor.calls kj9 (-7) 2 t158 t159 t160 _ A29.out).mono ?_); rintro e w35 ⟨rfl, hb⟩; refine ⟨_, rfl, ?_⟩; have n0_ := Aside0.mk (below_step (by repeat (first | (with_reducible first | exact HB.out | apply below_alloc | apply pw_below_drewN | apply below_drew1) | exact HB.out)) hb); clear HB; have HB := n0_; clear n0_; (try clear hb); (try clear hb2); (try clear hk); (try clear hi)) | ((with_reducible refine gate_callee (f := 19) rfl ?_); refine goesL_ (some 47) rfl rfl Try.func19 (by kernel_rfl) rfl #[.int .i64 7, .int .i64 (-2)] rfl (by (try simp only [List.map_toArray, List.map_cons, List.map_nil]); first | done | rfl | (simp only [List.length_drop, List.length_take]; rfl)) ?_; (with_reducible refine (num_Floor.calls kj9 7 (-2) t161 t162 t163 _ A30.out).mono ?_); rintro e w36 ⟨rfl, hb⟩; refine ⟨_, rfl, ?_⟩; have n0_ := Aside0.mk (below_step (by repeat (first | (with_reducible first | exact HB.out | apply below_alloc | apply pw_below_drewN | apply below_drew1) | exact HB.out)) hb); clear HB; have HB := n0_; clear n0_; (try clear hb); (try clear hb2); (try clear hk); (try clear hi)) | ((with_reducible refine gate_callee (f := 22) rfl ?_); refine goesL_ (some 52) rfl rfl Try.func22 (by kernel_rfl) rfl #[.int .i64 99] rfl (by (try simp only [List.map_toArray, List.map_cons, List.map_nil]); first | done | rfl | (simp only [List.length_drop, List.length_take]; rfl)) ?_; (with_reducible refine (num_Root.calls kj9 99 t164 t165 _ A31.out).mono ?_); rintro e w' ⟨rfl, ⟨nd, rfl⟩⟩; refine ⟨_, rfl, ?_⟩) | ((with_reducible refine gate_callee (f := 23) rfl ?_); refine goesL_ (some 56) rfl rfl Try.func23 (by kernel_rfl) rfl #[.int .i64 (-12), .int .i64 18] rfl (by (try simp only [List.map_toArray, List.map_cons, List.map_nil]); first | done | rfl | (simp only [List.length_drop, List.length_take]; rfl)) ?_; (with_reducible refine (num_Gcd.calls kj9 (-12) 18 t166 t167 _ A32.out).mono ?_); rintro e w37 ⟨rfl, hb⟩; refine ⟨_, rfl, ?_⟩; have n0_ := Aside0.mk (below_step (by repeat (first | (with_reducible first | exact HB.out | apply below_alloc | apply pw_below_drewN | apply below_drew1) | exact HB.out)) hb); clear HB; have HB := n0_; clear n0_; (try clear hb); (try clear hb2); (try clear hk); (try clear hi)) | ((with_reducible refine gate_callee (f := 17) rfl ?_); refine goesL_ (some 60) rfl rfl Try.func17 (by kernel_rfl) rfl #[.int .i64 1, .int .i64 0] rfl (by (try simp only [List.map_toArray, List.map_cons, List.map_nil]); first | done | rfl | (simp only [List.length_drop, List.length_take]; rfl)) ?_; (with_reducible refine (num_Round.calls kj9 1 0 t168 t169 _ A33.out).mono ?_); rintro e w38 ⟨rfl, hb⟩; refine ⟨_, rfl, ?_⟩; have n0_ := Aside0.mk (below_step (by repeat (first | (with_reducible first | exact HB.out | apply below_alloc | apply pw_below_drewN | apply below_drew1) | exact HB.out)) hb); clear HB; have HB := n0_; clear n0_; (try clear hb); (try clear hb2); (try clear hk); (try clear hi)))
              (try simp only [Act.put, List.setIfInBounds_toArray, List.set_cons_zero, List.set_cons_succ])
              go_cut [96] (fun v96 wc => ∃ (kq : Nat) (x96_33 : Bool), v96 = .bool x96_33 ∧ Aside0 (dancestudiolaw01_awake.j2 kq x96_33 = some r) ∧ Aside0 (kq ≤ kj9) ∧ Aside0 (Below w.heap.size w wc))
              case first =>
                have H := HC34.out
                clear HC34
                by_cases c39 : t158 = (-4)
                · rw [if_pos c39] at H
                  have c39b0 : (t158 == (-4)) = true := beq_iff_eq.mpr c39
                  have c39b1 : (t158 != (-4)) = false := bne_eq_false_iff_eq.mpr c39
                  clear c39
                  (first | rw [c39b0] | (simp only [i64_w, i32_w]; rw [c39b0]) | skip)
                  by_cases c40 : t159 = 1
                  · rw [if_pos c40] at H
                    have c40b0 : (t159 == 1) = true := beq_iff_eq.mpr c40
                    have c40b1 : (t159 != 1) = false := bne_eq_false_iff_eq.mpr c40
                    clear c40
                    by_cases c41 : t160 = 0
                    · rw [if_pos c41] at H
                      have c41b0 : (t160 == 0) = true := beq_iff_eq.mpr c41
                      have c41b1 : (t160 != 0) = false := bne_eq_false_iff_eq.mpr c41
                      clear c41
                      by_cases c42 : t163 = 1
                      · rw [if_pos c42] at H
                        have c42b0 : (t163 == 1) = true := beq_iff_eq.mpr c42
                        have c42b1 : (t163 != 1) = false := bne_eq_false_iff_eq.mpr c42
                        clear c42
                        by_cases c43 : t164 = 9
                        · rw [if_pos c43] at H
                          have c43b0 : (t164 == 9) = true := beq_iff_eq.mpr c43
                          have c43b1 : (t164 != 9) = false := bne_eq_false_iff_eq.mpr c43
                          clear c43
                          by_cases c44 : t165 = 0
                          · rw [if_pos c44] at H
                            have c44b0 : (t165 == 0) = true := beq_iff_eq.mpr c44
                            have c44b1 : (t165 != 0) = false := bne_eq_false_iff_eq.mpr c44
                            clear c44
                            by_cases c45 : t166 = 6
                            · rw [if_pos c45] at H
                              have c45b0 : (t166 == 6) = true := beq_iff_eq.mpr c45
                              have c45b1 : (t166 != 6) = false := bne_eq_false_iff_eq.mpr c45
                              clear c45
                              by_cases c46 : t167 = 0
                              · rw [if_pos c46] at H
                                have c46b0 : (t167 == 0) = true := beq_iff_eq.mpr c46
                                have c46b1 : (t167 != 0) = false := bne_eq_false_iff_eq.mpr c46
                                clear c46
                                have H' := Aside0.mk H
                                clear H
                                go_wp2
                                go_meet
                                case rel => exact ⟨_, ((t169 != 11)), (by first | rfl | (simp; done) | (simp [*]; done)), H', ⟨by have := HJ0.out; have := HJ9.out; first | omega | exact Nat.le_refl _⟩, ⟨by repeat (first | (with_reducible first | exact HB.out | apply below_alloc | apply pw_below_drewN | apply below_drew1) | exact HB.out)⟩⟩
                              · rw [if_neg c46] at H
                                have c46b0 : (t167 == 0) = false := beq_eq_false_iff_ne.mpr c46
                                have c46b1 : (t167 != 0) = true := bne_iff_ne.mpr c46
                                have H' := Aside0.mk H
                                clear H
                                go_wp2
                                go_meet
                                case rel => exact ⟨_, (true), (by first | rfl | (simp; done) | (simp [*]; done)), H', ⟨by have := HJ0.out; have := HJ9.out; first | omega | exact Nat.le_refl _⟩, ⟨by repeat (first | (with_reducible first | exact HB.out | apply below_alloc | apply pw_below_drewN | apply below_drew1) | exact HB.out)⟩⟩
                            · rw [if_neg c45] at H
                              have c45b0 : (t166 == 6) = false := beq_eq_false_iff_ne.mpr c45
                              have c45b1 : (t166 != 6) = true := bne_iff_ne.mpr c45
                              have H' := Aside0.mk H
                              clear H
                              go_wp2
                              go_meet
                              case rel => exact ⟨_, (true), (by first | rfl | (simp; done) | (simp [*]; done)), H', ⟨by have := HJ0.out; have := HJ9.out; first | omega | exact Nat.le_refl _⟩, ⟨by repeat (first | (with_reducible first | exact HB.out | apply below_alloc | apply pw_below_drewN | apply below_drew1) | exact HB.out)⟩⟩
                          · rw [if_neg c44] at H
                            have c44b0 : (t165 == 0) = false := beq_eq_false_iff_ne.mpr c44
                            have c44b1 : (t165 != 0) = true := bne_iff_ne.mpr c44
                            have H' := Aside0.mk H
                            clear H
                            go_wp2
                            go_meet
                            case rel => exact ⟨_, (true), (by first | rfl | (simp; done) | (simp [*]; done)), H', ⟨by have := HJ0.out; have := HJ9.out; first | omega | exact Nat.le_refl _⟩, ⟨by repeat (first | (with_reducible first | exact HB.out | apply below_alloc | apply pw_below_drewN | apply below_drew1) | exact HB.out)⟩⟩
                        · rw [if_neg c43] at H
                          have c43b0 : (t164 == 9) = false := beq_eq_false_iff_ne.mpr c43
                          have c43b1 : (t164 != 9) = true := bne_iff_ne.mpr c43
                          have H' := Aside0.mk H
                          clear H
                          go_wp2
                          go_meet
                          case rel => exact ⟨_, (true), (by first | rfl | (simp; done) | (simp [*]; done)), H', ⟨by have := HJ0.out; have := HJ9.out; first | omega | exact Nat.le_refl _⟩, ⟨by repeat (first | (with_reducible first | exact HB.out | apply below_alloc | apply pw_below_drewN | apply below_drew1) | exact HB.out)⟩⟩
                      · rw [if_neg c42] at H
                        have c42b0 : (t163 == 1) = false := beq_eq_false_iff_ne.mpr c42
                        have c42b1 : (t163 != 1) = true := bne_iff_ne.mpr c42
                        have H' := Aside0.mk H
                        clear H
                        go_wp2
                        go_meet
                        case rel => exact ⟨_, (true), (by first | rfl | (simp; done) | (simp [*]; done)), H', ⟨by have := HJ0.out; have := HJ9.out; first | omega | exact Nat.le_refl _⟩, ⟨by repeat (first | (with_reducible first | exact HB.out | apply below_alloc | apply pw_below_drewN | apply below_drew1) | exact HB.out)⟩⟩
                    · rw [if_neg c41] at H
                      have c41b0 : (t160 == 0) = false := beq_eq_false_iff_ne.mpr c41
                      have c41b1 : (t160 != 0) = true := bne_iff_ne.mpr c41
                      have H' := Aside0.mk H
                      clear H
                      go_wp2
                      go_meet
                      case rel => exact ⟨_, (true), (by first | rfl | (simp; done) | (simp [*]; done)), H', ⟨by have := HJ0.out; have := HJ9.out; first | omega | exact Nat.le_refl _⟩, ⟨by repeat (first | (with_reducible first | exact HB.out | apply below_alloc | apply pw_below_drewN | apply below_drew1) | exact HB.out)⟩⟩
                  · rw [if_neg c40] at H
                    have c40b0 : (t159 == 1) = false := beq_eq_false_iff_ne.mpr c40
                    have c40b1 : (t159 != 1) = true := bne_iff_ne.mpr c40
                    have H' := Aside0.mk H
                    clear H
                    go_wp2
                    go_meet
                    case rel => exact ⟨_, (true), (by first | rfl | (simp; done) | (simp [*]; done)), H', ⟨by have := HJ0.out; have := HJ9.out; first | omega | exact Nat.le_refl _⟩, ⟨by repeat (first | (with_reducible first | exact HB.out | apply below_alloc | apply pw_below_drewN | apply below_drew1) | exact HB.out)⟩⟩
                · rw [if_neg c39] at H
                  have c39b0 : (t158 == (-4)) = false := beq_eq_false_iff_ne.mpr c39
                  have c39b1 : (t158 != (-4)) = true := bne_iff_ne.mpr c39
                  (first | rw [c39b0] | (simp only [i64_w, i32_w]; rw [c39b0]) | skip)
                  have H' := Aside0.mk H
                  clear H
                  go_wp2
                  go_meet
                  case rel => exact ⟨_, (true), (by first | rfl | (simp; done) | (simp [*]; done)), H', ⟨by have := HJ0.out; have := HJ9.out; first | omega | exact Nat.le_refl _⟩, ⟨by repeat (first | (with_reducible first | exact HB.out | apply below_alloc | apply pw_below_drewN | apply below_drew1) | exact HB.out)⟩⟩
              case rest =>
                clear HC34
                try clear c1
                try clear c2
                try clear p2
                try clear c3
                try clear c4
                try clear c5
                try clear c7
                try clear c9
                try clear c12
                try clear c14
                try clear c16
                try clear c17
                try clear c19
                try clear c21
                try clear c22
                try clear c23
                try clear c28
                try clear c39
                try clear c39b0
                try clear c39b1
                try clear c40
                try clear c40b0
                try clear c40b1
                try clear c41
                try clear c41b0
                try clear c41b1
                try clear c42
                try clear c42b0
                try clear c42b1
                try clear c43
                try clear c43b0
                try clear c43b1
                try clear c44
                try clear c44b0
                try clear c44b1
                try clear c45
                try clear c45b0
                try clear c45b1
                try clear c46
                try clear c46b0
                try clear c46b1
                try clear p2
                obtain ⟨kq, x96_33, rfl, HA, HJ33, HB⟩ := hcut
                cases kq with
                | zero => exact absurd HA.out (by simp [dancestudiolaw01_awake.j2])
                | succ kj33 =>
                  have H := HA.out
                  clear HA
                  simp only [dancestudiolaw01_awake.j2] at H
                  by_cases c47 : x96_33 = true
                  · subst c47
                    have H1 : (some false) = some r := by rw [if_pos rfl] at H; exact H
                    clear H
                    have H := H1
                    clear H1
                    obtain rfl := Option.some.inj H
                    go_wp2
                    go_ret
                    exact ⟨by first | rfl | (simp [errW_none, errW_some] <;> rfl) | (simp [*, errW_none, errW_some] <;> rfl), by repeat (first | (with_reducible first | exact HB.out | apply below_alloc | apply pw_below_drewN | apply below_drew1) | exact HB.out)⟩
                  · replace c47 := Bool.eq_false_iff.mpr c47
                    subst c47
                    have H1 : ((dancestudiolaw01_compares.f kj33 0 3 4 2 6).bind fun t170 => (if t170 = true then ((dancestudiolaw01_compares.f kj33 (-1) (-1) 5 0 9).bind fun t171 => (if t171 = true then ((dancestudiolaw01_compares.f kj33 1 1125899906842624 1125899906842624 1125899906842624 1125899906842623).bind fun t172 => (some t172)) else (some false))) else (some false))) = some r := by rw [if_neg (show ¬ (false = true) by decide)] at H; exact H
                    clear H
                    have H := H1
                    clear H1
                    replace H := Option.bind_eq_some_iff.mp H
                    obtain ⟨t170, A480, H⟩ := H
                    replace H : (if t170 = true then ((dancestudiolaw01_compares.f kj33 (-1) (-1) 5 0 9).bind fun t171 => (if t171 = true then ((dancestudiolaw01_compares.f kj33 1 1125899906842624 1125899906842624 1125899906842624 1125899906842623).bind fun t172 => (some t172)) else (some false))) else (some false)) = some r := H
                    have A48 := Aside0.mk A480
                    clear A480
                    by_cases c49 : t170 = true
                    · subst c49
                      have H1 : ((dancestudiolaw01_compares.f kj33 (-1) (-1) 5 0 9).bind fun t171 => (if t171 = true then ((dancestudiolaw01_compares.f kj33 1 1125899906842624 1125899906842624 1125899906842624 1125899906842623).bind fun t172 => (some t172)) else (some false))) = some r := by rw [if_pos rfl] at H; exact H
                      clear H
                      have H := H1
                      clear H1
                      replace H := Option.bind_eq_some_iff.mp H
                      obtain ⟨t171, A500, H⟩ := H
                      replace H : (if t171 = true then ((dancestudiolaw01_compares.f kj33 1 1125899906842624 1125899906842624 1125899906842624 1125899906842623).bind fun t172 => (some t172)) else (some false)) = some r := H
                      have A50 := Aside0.mk A500
                      clear A500
                      by_cases c51 : t171 = true
                      · subst c51
                        have H1 : ((dancestudiolaw01_compares.f kj33 1 1125899906842624 1125899906842624 1125899906842624 1125899906842623).bind fun t172 => (some t172)) = some r := by rw [if_pos rfl] at H; exact H
                        clear H
                        have H := H1
                        clear H1
                        replace H := Option.bind_eq_some_iff.mp H
                        obtain ⟨t172, A520, H⟩ := H
                        replace H : (some t172) = some r := H
                        have A52 := Aside0.mk A520
                        clear A520
                        obtain rfl := Option.some.inj H
                        go_wp2_with (first | ((with_reducible refine gate_callee (f := 27) rfl ?_); refine goesL_ (some 97) rfl rfl Try.func27 (by kernel_rfl) rfl #[.int .i64 0, .int .i64 3, .int .i64 4, .int .i64 2, .int .i64 6] rfl (by (try simp only [List.map_toArray, List.map_cons, List.map_nil]); first | done | rfl | (simp only [List.length_drop, List.length_take]; rfl)) ?_; (with_reducible refine (dancestudiolaw01_compares.calls kj33 0 3 4 2 6 true _ A48.out).mono ?_); rintro e w53 ⟨rfl, hb⟩; refine ⟨_, rfl, ?_⟩; have n0_ := Aside0.mk (below_step (by repeat (first | (with_reducible first | exact HB.out | apply below_alloc | apply pw_below_drewN | apply below_drew1) | exact HB.out)) hb); clear HB; have HB := n0_; clear n0_; (try clear hb); (try clear hb2); (try clear hk); (try clear hi)) | (go_at_call 27; (with_reducible refine (dancestudiolaw01_compares.calls kj33 (-1) (-1) 5 0 9 true _ A50.out).mono ?_); rintro e w54 ⟨rfl, hb⟩; have n0_ := Aside0.mk (below_step (by repeat (first | (with_reducible first | exact HB.out | apply below_alloc | apply pw_below_drewN | apply below_drew1) | exact HB.out)) hb); clear HB; have HB := n0_; clear n0_; (try clear hb); (try clear hb2); (try clear hk); (try clear hi)) | (go_at_call 27; (with_reducible refine (dancestudiolaw01_compares.calls kj33 1 1125899906842624 1125899906842624 1125899906842624 1125899906842623 t172 _ A52.out).mono ?_); rintro e w55 ⟨rfl, hb⟩; have n0_ := Aside0.mk (below_step (by repeat (first | (with_reducible first | exact HB.out | apply below_alloc | apply pw_below_drewN | apply below_drew1) | exact HB.out)) hb); clear HB; have HB := n0_; clear n0_; (try clear hb); (try clear hb2); (try clear hk); (try clear hi)))
                        go_ret
                        exact ⟨by first | rfl | (simp [errW_none, errW_some] <;> rfl) | (simp [*, errW_none, errW_some] <;> rfl), by repeat (first | (with_reducible first | exact HB.out | apply below_alloc | apply pw_below_drewN | apply below_drew1) | exact HB.out)⟩
                      · replace c51 := Bool.eq_false_iff.mpr c51
                        subst c51
                        have H1 : (some false) = some r := by rw [if_neg (show ¬ (false = true) by decide)] at H; exact H
                        clear H
                        have H := H1
                        clear H1
                        obtain rfl := Option.some.inj H
                        go_wp2_with (first | ((with_reducible refine gate_callee (f := 27) rfl ?_); refine goesL_ (some 97) rfl rfl Try.func27 (by kernel_rfl) rfl #[.int .i64 0, .int .i64 3, .int .i64 4, .int .i64 2, .int .i64 6] rfl (by (try simp only [List.map_toArray, List.map_cons, List.map_nil]); first | done | rfl | (simp only [List.length_drop, List.length_take]; rfl)) ?_; (with_reducible refine (dancestudiolaw01_compares.calls kj33 0 3 4 2 6 true _ A48.out).mono ?_); rintro e w56 ⟨rfl, hb⟩; refine ⟨_, rfl, ?_⟩; have n0_ := Aside0.mk (below_step (by repeat (first | (with_reducible first | exact HB.out | apply below_alloc | apply pw_below_drewN | apply below_drew1) | exact HB.out)) hb); clear HB; have HB := n0_; clear n0_; (try clear hb); (try clear hb2); (try clear hk); (try clear hi)) | (go_at_call 27; (with_reducible refine (dancestudiolaw01_compares.calls kj33 (-1) (-1) 5 0 9 false _ A50.out).mono ?_); rintro e w57 ⟨rfl, hb⟩; have n0_ := Aside0.mk (below_step (by repeat (first | (with_reducible first | exact HB.out | apply below_alloc | apply pw_below_drewN | apply below_drew1) | exact HB.out)) hb); clear HB; have HB := n0_; clear n0_; (try clear hb); (try clear hb2); (try clear hk); (try clear hi)))
                        go_ret
                        exact ⟨by first | rfl | (simp [errW_none, errW_some] <;> rfl) | (simp [*, errW_none, errW_some] <;> rfl), by repeat (first | (with_reducible first | exact HB.out | apply below_alloc | apply pw_below_drewN | apply below_drew1) | exact HB.out)⟩
                    · replace c49 := Bool.eq_false_iff.mpr c49
                      subst c49
                      have H1 : (some false) = some r := by rw [if_neg (show ¬ (false = true) by decide)] at H; exact H
                      clear H
                      have H := H1
                      clear H1
                      obtain rfl := Option.some.inj H
                      go_wp2_with (first | ((with_reducible refine gate_callee (f := 27) rfl ?_); refine goesL_ (some 97) rfl rfl Try.func27 (by kernel_rfl) rfl #[.int .i64 0, .int .i64 3, .int .i64 4, .int .i64 2, .int .i64 6] rfl (by (try simp only [List.map_toArray, List.map_cons, List.map_nil]); first | done | rfl | (simp only [List.length_drop, List.length_take]; rfl)) ?_; (with_reducible refine (dancestudiolaw01_compares.calls kj33 0 3 4 2 6 false _ A48.out).mono ?_); rintro e w58 ⟨rfl, hb⟩; refine ⟨_, rfl, ?_⟩; have n0_ := Aside0.mk (below_step (by repeat (first | (with_reducible first | exact HB.out | apply below_alloc | apply pw_below_drewN | apply below_drew1) | exact HB.out)) hb); clear HB; have HB := n0_; clear n0_; (try clear hb); (try clear hb2); (try clear hk); (try clear hi)))
                      go_ret
                      exact ⟨by first | rfl | (simp [errW_none, errW_some] <;> rfl) | (simp [*, errW_none, errW_some] <;> rfl), by repeat (first | (with_reducible first | exact HB.out | apply below_alloc | apply pw_below_drewN | apply below_drew1) | exact HB.out)⟩

/-! ### dancestudiolaw01_NumMeans: function 3 -/
def dancestudiolaw01_NumMeans.f (k : Nat) (a0_0 : Int) (a0_1 : Int) (a0_2 : Int) (a0_3 : Int) : Option (Bool) := (num_Lerp.f a0_0 a0_1 a0_2 a0_3).bind fun bt174 => ((dancestudioref01_Lerp.f a0_0 a0_1 a0_2 a0_3).bind fun bt176 => (if bt174.1 = bt176.1 then (if bt174.2 = bt176.2 then ((dancestudiolaw01_awake.f k).bind fun t178 => (some t178)) else (some false)) else (some false)))
theorem dancestudiolaw01_NumMeans.mono : ∀ a0 a1 a2 a3 k, LeO (dancestudiolaw01_NumMeans.f k a0 a1 a2 a3) (dancestudiolaw01_NumMeans.f (k + 1) a0 a1 a2 a3) := by
  intro a0 a1 a2 a3 k
  unfold dancestudiolaw01_NumMeans.f
  repeat' first
      | (with_reducible exact dancestudiolaw01_awake.mono _)
      | (with_reducible exact LeO.refl _)
      | (with_reducible exact LeO.none _)
      | (with_reducible refine LeO.ite ?_ ?_)
      | (with_reducible refine LeO.bind ?_ (fun _ => ?_))
      | exact dancestudiolaw01_awake.mono _
      | exact LeO.none _
      | refine LeO.ite ?_ ?_
      | refine LeO.bind ?_ (fun _ => ?_)
set_option maxHeartbeats 8000000 in
set_option maxRecDepth 100000 in
theorem dancestudiolaw01_NumMeans.calls (k : Nat) (a0_0 : Int) (a0_1 : Int) (a0_2 : Int) (a0_3 : Int) (r : Bool) (w : World) (h : dancestudiolaw01_NumMeans.f k a0_0 a0_1 a0_2 a0_3 = some r) :
    Calls Try.prog 3 #[.agg #[.int .i64 a0_0, .int .i64 a0_1, .int .i64 a0_2, .int .i64 a0_3]] w fun e w' => e = .returned (.bool r) ∧ Below w.heap.size w w' := by
  have hu23 := Try.underlying23
  have HB := Aside0.mk (Below.refl w.heap.size w)
  have H : ((num_Lerp.f a0_0 a0_1 a0_2 a0_3).bind fun bt174 => ((dancestudioref01_Lerp.f a0_0 a0_1 a0_2 a0_3).bind fun bt176 => (if bt174.1 = bt176.1 then (if bt174.2 = bt176.2 then ((dancestudiolaw01_awake.f k).bind fun t178 => (some t178)) else (some false)) else (some false)))) = some r := h
  clear h
  replace H := Option.bind_eq_some_iff.mp H
  obtain ⟨⟨t174, t175⟩, A20, H⟩ := H
  replace H : ((dancestudioref01_Lerp.f a0_0 a0_1 a0_2 a0_3).bind fun bt176 => (if t174 = bt176.1 then (if t175 = bt176.2 then ((dancestudiolaw01_awake.f k).bind fun t178 => (some t178)) else (some false)) else (some false))) = some r := H
  have A2 := Aside0.mk A20
  clear A20
  replace H := Option.bind_eq_some_iff.mp H
  obtain ⟨⟨t176, t177⟩, A30, H⟩ := H
  replace H : (if t174 = t176 then (if t175 = t177 then ((dancestudiolaw01_awake.f k).bind fun t178 => (some t178)) else (some false)) else (some false)) = some r := H
  have A3 := Aside0.mk A30
  clear A30
  by_cases c4 : t174 = t176
  · rw [if_pos c4] at H
    have c4b0 : (t174 == t176) = true := beq_iff_eq.mpr c4
    have c4b1 : (t174 != t176) = false := bne_eq_false_iff_eq.mpr c4
    clear c4
    by_cases c5 : t175 = t177
    · rw [if_pos c5] at H
      have c5b0 : (t175 == t177) = true := beq_iff_eq.mpr c5
      have c5b1 : (t175 != t177) = false := bne_eq_false_iff_eq.mpr c5
      clear c5
      replace H := Option.bind_eq_some_iff.mp H
      obtain ⟨t178, A60, H⟩ := H
      replace H : (some t178) = some r := H
      have A6 := Aside0.mk A60
      clear A60
      obtain rfl := Option.some.inj H
      go_enter Try.func3, Try.ntmps3
      go_wp2_with (first | ((with_reducible refine gate_dst (N := 1) rfl ?_); refine box_event ?hg (N := 1) ?hd (cs := #[.int .i64 a0_0, .int .i64 a0_1, .int .i64 a0_2, .int .i64 a0_3]) (t := 23) ?hr ?_; (case hd => rfl); (case hg => rfl); (case hr => first | (go_simp; done) | (go_simp; rfl)); intro gb173 hg w7 hbox hb; have n0_ := Aside0.mk (below_step (by repeat (first | (with_reducible first | exact HB.out | apply below_alloc | apply pw_below_drewN | apply below_drew1) | exact HB.out)) hb); have n1_ := Aside0.mk (hbox); have n2_ := Aside0.mk ((by rw [hg]; exact (below_size (by repeat (first | (with_reducible first | exact HB.out | apply below_alloc | apply pw_below_drewN | apply below_drew1) | exact HB.out))) : w.heap.size ≤ gb173)); have n3_ := Aside0.mk ((by rw [hg]; exact (below_size (by repeat (first | (with_reducible first | exact HB.out | apply below_alloc | apply pw_below_drewN | apply below_drew1) | exact HB.out))) : w.heap.size ≤ gb173)); clear HB; have HB := n0_; have BK173 := n1_; have GW173 := n2_; have GE173 := n3_; clear n0_ n1_ n2_ n3_; clear hb hbox hg; have hcz8_0 : w7.cell? ⟨gb173, 0, none⟩ = some (.int .i64 a0_0) := (blk_cell BK173.out 0).trans rfl; have hcz8_1 : w7.cell? ⟨gb173, 1, none⟩ = some (.int .i64 a0_1) := (blk_cell BK173.out 1).trans rfl; have hcz8_2 : w7.cell? ⟨gb173, 2, none⟩ = some (.int .i64 a0_2) := (blk_cell BK173.out 2).trans rfl; have hcz8_3 : w7.cell? ⟨gb173, 3, none⟩ = some (.int .i64 a0_3) := (blk_cell BK173.out 3).trans rfl; have hfz8_0 := blk_frozen BK173.out 0; have hfz8_1 := blk_frozen BK173.out 1; have hfz8_2 := blk_frozen BK173.out 2; have hfz8_3 := blk_frozen BK173.out 3) | ((with_reducible refine gate_callee (f := 12) rfl ?_); refine goesL_ (some 16) rfl rfl Try.func12 (by kernel_rfl) rfl #[.int .i64 a0_0, .int .i64 a0_1, .int .i64 a0_2, .int .i64 a0_3] rfl (by (try simp only [List.map_toArray, List.map_cons, List.map_nil]); first | done | rfl | (simp only [List.length_drop, List.length_take]; rfl)) ?_; (with_reducible refine (num_Lerp.calls a0_0 a0_1 a0_2 a0_3 t174 t175 _ A2.out).mono ?_); rintro e w' ⟨rfl, ⟨nd, rfl⟩⟩; refine ⟨_, rfl, ?_⟩) | ((with_reducible refine gate_callee (f := 13) rfl ?_); refine goesL_ (some 28) rfl rfl Try.func13 (by kernel_rfl) rfl #[.int .i64 a0_0, .int .i64 a0_1, .int .i64 a0_2, .int .i64 a0_3] rfl (by (try simp only [List.map_toArray, List.map_cons, List.map_nil]); first | done | rfl | (simp only [List.length_drop, List.length_take]; rfl)) ?_; (with_reducible refine (dancestudioref01_Lerp.calls a0_0 a0_1 a0_2 a0_3 t176 t177 _ A3.out).mono ?_); rintro e w' ⟨rfl, ⟨nd, rfl⟩⟩; refine ⟨_, rfl, ?_⟩) | (go_at_call 14; (with_reducible refine (dancestudiolaw01_awake.calls k  t178 _ A6.out).mono ?_); rintro e w9 ⟨rfl, hb⟩; have n0_ := Aside0.mk (blk_below (g := gb173) (o := .cells #[.int .i64 a0_0, .int .i64 a0_1, .int .i64 a0_2, .int .i64 a0_3] 23 (0, 0)) (by (with_reducible repeat (first | refine blk_drewN ?_ _ | refine blk_drew ?_ | refine blk_alloc ?_ _)); exact BK173.out) hb); have n1_ := Aside0.mk (below_step (by repeat (first | (with_reducible first | exact HB.out | apply below_alloc | apply pw_below_drewN | apply below_drew1 | refine below_set ?_ GE173.out) | exact HB.out)) hb); clear BK173; clear HB; have BK173 := n0_; have HB := n1_; clear n0_ n1_; (try clear hb); (try clear hb2); (try clear hk); (try clear hi)))
      go_ret
      exact ⟨by first | rfl | (simp [errW_none, errW_some] <;> rfl) | (simp [*, errW_none, errW_some] <;> rfl), by repeat (first | (with_reducible first | exact HB.out | apply below_alloc | apply pw_below_drewN | apply below_drew1 | refine below_set ?_ GE173.out) | exact HB.out)⟩
    · rw [if_neg c5] at H
      have c5b0 : (t175 == t177) = false := beq_eq_false_iff_ne.mpr c5
      have c5b1 : (t175 != t177) = true := bne_iff_ne.mpr c5
      obtain rfl := Option.some.inj H
      go_enter Try.func3, Try.ntmps3
      go_wp2_with (first | ((with_reducible refine gate_dst (N := 1) rfl ?_); refine box_event ?hg (N := 1) ?hd (cs := #[.int .i64 a0_0, .int .i64 a0_1, .int .i64 a0_2, .int .i64 a0_3]) (t := 23) ?hr ?_; (case hd => rfl); (case hg => rfl); (case hr => first | (go_simp; done) | (go_simp; rfl)); intro gb173 hg w10 hbox hb; have n0_ := Aside0.mk (below_step (by repeat (first | (with_reducible first | exact HB.out | apply below_alloc | apply pw_below_drewN | apply below_drew1) | exact HB.out)) hb); have n1_ := Aside0.mk (hbox); have n2_ := Aside0.mk ((by rw [hg]; exact (below_size (by repeat (first | (with_reducible first | exact HB.out | apply below_alloc | apply pw_below_drewN | apply below_drew1) | exact HB.out))) : w.heap.size ≤ gb173)); have n3_ := Aside0.mk ((by rw [hg]; exact (below_size (by repeat (first | (with_reducible first | exact HB.out | apply below_alloc | apply pw_below_drewN | apply below_drew1) | exact HB.out))) : w.heap.size ≤ gb173)); clear HB; have HB := n0_; have BK173 := n1_; have GW173 := n2_; have GE173 := n3_; clear n0_ n1_ n2_ n3_; clear hb hbox hg; have hcz11_0 : w10.cell? ⟨gb173, 0, none⟩ = some (.int .i64 a0_0) := (blk_cell BK173.out 0).trans rfl; have hcz11_1 : w10.cell? ⟨gb173, 1, none⟩ = some (.int .i64 a0_1) := (blk_cell BK173.out 1).trans rfl; have hcz11_2 : w10.cell? ⟨gb173, 2, none⟩ = some (.int .i64 a0_2) := (blk_cell BK173.out 2).trans rfl; have hcz11_3 : w10.cell? ⟨gb173, 3, none⟩ = some (.int .i64 a0_3) := (blk_cell BK173.out 3).trans rfl; have hfz11_0 := blk_frozen BK173.out 0; have hfz11_1 := blk_frozen BK173.out 1; have hfz11_2 := blk_frozen BK173.out 2; have hfz11_3 := blk_frozen BK173.out 3) | ((with_reducible refine gate_callee (f := 12) rfl ?_); refine goesL_ (some 16) rfl rfl Try.func12 (by kernel_rfl) rfl #[.int .i64 a0_0, .int .i64 a0_1, .int .i64 a0_2, .int .i64 a0_3] rfl (by (try simp only [List.map_toArray, List.map_cons, List.map_nil]); first | done | rfl | (simp only [List.length_drop, List.length_take]; rfl)) ?_; (with_reducible refine (num_Lerp.calls a0_0 a0_1 a0_2 a0_3 t174 t175 _ A2.out).mono ?_); rintro e w' ⟨rfl, ⟨nd, rfl⟩⟩; refine ⟨_, rfl, ?_⟩) | ((with_reducible refine gate_callee (f := 13) rfl ?_); refine goesL_ (some 28) rfl rfl Try.func13 (by kernel_rfl) rfl #[.int .i64 a0_0, .int .i64 a0_1, .int .i64 a0_2, .int .i64 a0_3] rfl (by (try simp only [List.map_toArray, List.map_cons, List.map_nil]); first | done | rfl | (simp only [List.length_drop, List.length_take]; rfl)) ?_; (with_reducible refine (dancestudioref01_Lerp.calls a0_0 a0_1 a0_2 a0_3 t176 t177 _ A3.out).mono ?_); rintro e w' ⟨rfl, ⟨nd, rfl⟩⟩; refine ⟨_, rfl, ?_⟩))
      go_ret
      exact ⟨by first | rfl | (simp [errW_none, errW_some] <;> rfl) | (simp [*, errW_none, errW_some] <;> rfl), by repeat (first | (with_reducible first | exact HB.out | apply below_alloc | apply pw_below_drewN | apply below_drew1 | refine below_set ?_ GE173.out) | exact HB.out)⟩
  · rw [if_neg c4] at H
    have c4b0 : (t174 == t176) = false := beq_eq_false_iff_ne.mpr c4
    have c4b1 : (t174 != t176) = true := bne_iff_ne.mpr c4
    obtain rfl := Option.some.inj H
    go_enter Try.func3, Try.ntmps3
    go_wp2_with (first | ((with_reducible refine gate_dst (N := 1) rfl ?_); refine box_event ?hg (N := 1) ?hd (cs := #[.int .i64 a0_0, .int .i64 a0_1, .int .i64 a0_2, .int .i64 a0_3]) (t := 23) ?hr ?_; (case hd => rfl); (case hg => rfl); (case hr => first | (go_simp; done) | (go_simp; rfl)); intro gb173 hg w12 hbox hb; have n0_ := Aside0.mk (below_step (by repeat (first | (with_reducible first | exact HB.out | apply below_alloc | apply pw_below_drewN | apply below_drew1) | exact HB.out)) hb); have n1_ := Aside0.mk (hbox); have n2_ := Aside0.mk ((by rw [hg]; exact (below_size (by repeat (first | (with_reducible first | exact HB.out | apply below_alloc | apply pw_below_drewN | apply below_drew1) | exact HB.out))) : w.heap.size ≤ gb173)); have n3_ := Aside0.mk ((by rw [hg]; exact (below_size (by repeat (first | (with_reducible first | exact HB.out | apply below_alloc | apply pw_below_drewN | apply below_drew1) | exact HB.out))) : w.heap.size ≤ gb173)); clear HB; have HB := n0_; have BK173 := n1_; have GW173 := n2_; have GE173 := n3_; clear n0_ n1_ n2_ n3_; clear hb hbox hg; have hcz13_0 : w12.cell? ⟨gb173, 0, none⟩ = some (.int .i64 a0_0) := (blk_cell BK173.out 0).trans rfl; have hcz13_1 : w12.cell? ⟨gb173, 1, none⟩ = some (.int .i64 a0_1) := (blk_cell BK173.out 1).trans rfl; have hcz13_2 : w12.cell? ⟨gb173, 2, none⟩ = some (.int .i64 a0_2) := (blk_cell BK173.out 2).trans rfl; have hcz13_3 : w12.cell? ⟨gb173, 3, none⟩ = some (.int .i64 a0_3) := (blk_cell BK173.out 3).trans rfl; have hfz13_0 := blk_frozen BK173.out 0; have hfz13_1 := blk_frozen BK173.out 1; have hfz13_2 := blk_frozen BK173.out 2; have hfz13_3 := blk_frozen BK173.out 3) | ((with_reducible refine gate_callee (f := 12) rfl ?_); refine goesL_ (some 16) rfl rfl Try.func12 (by kernel_rfl) rfl #[.int .i64 a0_0, .int .i64 a0_1, .int .i64 a0_2, .int .i64 a0_3] rfl (by (try simp only [List.map_toArray, List.map_cons, List.map_nil]); first | done | rfl | (simp only [List.length_drop, List.length_take]; rfl)) ?_; (with_reducible refine (num_Lerp.calls a0_0 a0_1 a0_2 a0_3 t174 t175 _ A2.out).mono ?_); rintro e w' ⟨rfl, ⟨nd, rfl⟩⟩; refine ⟨_, rfl, ?_⟩) | ((with_reducible refine gate_callee (f := 13) rfl ?_); refine goesL_ (some 28) rfl rfl Try.func13 (by kernel_rfl) rfl #[.int .i64 a0_0, .int .i64 a0_1, .int .i64 a0_2, .int .i64 a0_3] rfl (by (try simp only [List.map_toArray, List.map_cons, List.map_nil]); first | done | rfl | (simp only [List.length_drop, List.length_take]; rfl)) ?_; (with_reducible refine (dancestudioref01_Lerp.calls a0_0 a0_1 a0_2 a0_3 t176 t177 _ A3.out).mono ?_); rintro e w' ⟨rfl, ⟨nd, rfl⟩⟩; refine ⟨_, rfl, ?_⟩))
    go_ret
    exact ⟨by first | rfl | (simp [errW_none, errW_some] <;> rfl) | (simp [*, errW_none, errW_some] <;> rfl), by repeat (first | (with_reducible first | exact HB.out | apply below_alloc | apply pw_below_drewN | apply below_drew1 | refine below_set ?_ GE173.out) | exact HB.out)⟩

end Go.Proofs.Ytodjapnmobekjaa.PNumMeans
