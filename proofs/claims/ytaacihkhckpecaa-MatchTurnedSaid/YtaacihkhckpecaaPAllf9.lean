-- Written by wip/tools/handprint.py: walks of the functions that the law reaches; Lean checks them.
import Derived.Test.YtaacihkhckpecaaPAllx0
import Derived.Test.YtaacihkhckpecaaPAllf11
import Derived.Test.YtaacihkhckpecaaPAllf15
namespace Go.Proofs.Ytaacihkhckpecaa.PAll
open Go.RowKit Go.Proofs.YtaacihkhckpecaaW.PrintWords Go.Proofs.YtaacihkhckpecaaW.PrintLast Go.Proofs.YtaacihkhckpecaaW.PrintMore
attribute [local go_sem] max2_int min2_int max_two min_two max_three min_three max_four min_four   -- for this text's walks alone
set_option linter.unusedVariables false
set_option linter.unusedSimpArgs false

/-! ### dancestudiolaw10_MatchTurned: function 9 -/
mutual
def dancestudiolaw10_MatchTurned.j0 : Nat → List (List Bool) → Int → Int → Bool → Option (Bool)
 | 0, _, _, _, _ => none
 | k + 1, x0, x3, x4, x33 => if x33 = true then (if x4 = 0 then (if x3 = 0 then (if (x0.length : Int) = 0 then ((dancestudiolaw10_awake.f k).bind fun t501 => (some t501)) else (none)) else (none)) else ((dancestudiolaw10_awake.f k).bind fun t502 => (some t502))) else (dancestudiolaw10_MatchTurned.l0 k x0 x3 (([] : List (List Bool))) 0)
def dancestudiolaw10_MatchTurned.l0 : Nat → List (List Bool) → Int → List (List Bool) → Int → Option (Bool)
 | 0, _, _, _, _ => none
 | k + 1, x0, x3, x5, x6 => if 0 < (x0.length : Int) then (if x6 < ((rd_L1 x0 0).length : Int) then (dancestudiolaw10_MatchTurned.l1 k x0 x3 x5 x6 (([] : List Bool)) 0) else ((match_Size.f k x5).bind fun bt507 => (if bt507.2 = 0 then (if bt507.1 = x3 then ((dancestudiolaw10_awake.f k).bind fun t509 => (some t509)) else (none)) else (none)))) else (none)
def dancestudiolaw10_MatchTurned.l1 : Nat → List (List Bool) → Int → List (List Bool) → Int → List Bool → Int → Option (Bool)
 | 0, _, _, _, _, _, _ => none
 | k + 1, x0, x3, x5, x6, x7, x8 => if x8 < (x0.length : Int) then (if 0 ≤ x8 then (if x6 ≥ ((rd_L1 x0 x8).length : Int) then (none) else (if 0 ≤ x6 then (if x6 < ((rd_L1 x0 x8).length : Int) then (if x7.length < 140737488355328 then (dancestudiolaw10_MatchTurned.l1 k x0 x3 x5 x6 (x7 ++ [rdOf false (rd_L1 x0 x8) x6]) (wrap64 (x8 + 1))) else (none)) else (none)) else (none))) else (none)) else (if x5.length < 5864062014805 then (dancestudiolaw10_MatchTurned.l0 k x0 x3 (x5 ++ [x7]) (wrap64 (x6 + 1))) else (none))
end
def dancestudiolaw10_MatchTurned.f (k : Nat) (l0 : List (List Bool)) : Option (Bool) := (match_Size.f k l0).bind fun bt498 => (if bt498.2 = 0 then (if (l0.length : Int) = 0 then (dancestudiolaw10_MatchTurned.j0 k l0 bt498.1 bt498.2 true) else (if (l0.length : Int) > 24 then (dancestudiolaw10_MatchTurned.j0 k l0 bt498.1 bt498.2 true) else (if 0 < (l0.length : Int) then (dancestudiolaw10_MatchTurned.j0 k l0 bt498.1 bt498.2 (decide (((rd_L1 l0 0).length : Int) > 24))) else (none)))) else (dancestudiolaw10_MatchTurned.j0 k l0 bt498.1 bt498.2 true))
theorem dancestudiolaw10_MatchTurned.mono_l : ∀ k, (∀ y0 y1 y2 y3, LeO (dancestudiolaw10_MatchTurned.j0 k y0 y1 y2 y3) (dancestudiolaw10_MatchTurned.j0 (k + 1) y0 y1 y2 y3)) ∧ (∀ y0 y1 y2 y3, LeO (dancestudiolaw10_MatchTurned.l0 k y0 y1 y2 y3) (dancestudiolaw10_MatchTurned.l0 (k + 1) y0 y1 y2 y3)) ∧ (∀ y0 y1 y2 y3 y4 y5, LeO (dancestudiolaw10_MatchTurned.l1 k y0 y1 y2 y3 y4 y5) (dancestudiolaw10_MatchTurned.l1 (k + 1) y0 y1 y2 y3 y4 y5))
 | 0 => ⟨fun _ _ _ _ r h => by simp [dancestudiolaw10_MatchTurned.j0] at h, fun _ _ _ _ r h => by simp [dancestudiolaw10_MatchTurned.l0] at h, fun _ _ _ _ _ _ r h => by simp [dancestudiolaw10_MatchTurned.l1] at h⟩
 | k + 1 => by
  obtain ⟨ih0, ih1, ih2⟩ := dancestudiolaw10_MatchTurned.mono_l k
  refine ⟨?_, ?_, ?_⟩
  ·
   intro y0 y1 y2 y3
   unfold dancestudiolaw10_MatchTurned.j0
   repeat' first
   | (with_reducible exact ih0 _ _ _ _)
   | (with_reducible exact ih1 _ _ _ _)
   | (with_reducible exact ih2 _ _ _ _ _ _)
   | (with_reducible exact dancestudiolaw10_awake.mono _)
   | (with_reducible exact match_Size.mono _ _)
   | (with_reducible exact LeO.refl _)
   | (with_reducible exact LeO.none _)
   | (with_reducible refine LeO.ite ?_ ?_)
   | (with_reducible refine LeO.bind ?_ (fun _ => ?_))
   | exact ih0 _ _ _ _
   | exact ih1 _ _ _ _
   | exact ih2 _ _ _ _ _ _
   | exact dancestudiolaw10_awake.mono _
   | exact match_Size.mono _ _
   | exact LeO.none _
   | refine LeO.ite ?_ ?_
   | refine LeO.bind ?_ (fun _ => ?_)
  ·
   intro y0 y1 y2 y3
   unfold dancestudiolaw10_MatchTurned.l0
   repeat' first
   | (with_reducible exact ih0 _ _ _ _)
   | (with_reducible exact ih1 _ _ _ _)
   | (with_reducible exact ih2 _ _ _ _ _ _)
   | (with_reducible exact dancestudiolaw10_awake.mono _)
   | (with_reducible exact match_Size.mono _ _)
   | (with_reducible exact LeO.refl _)
   | (with_reducible exact LeO.none _)
   | (with_reducible refine LeO.ite ?_ ?_)
   | (with_reducible refine LeO.bind ?_ (fun _ => ?_))
   | exact ih0 _ _ _ _
   | exact ih1 _ _ _ _
   | exact ih2 _ _ _ _ _ _
   | exact dancestudiolaw10_awake.mono _
   | exact match_Size.mono _ _
   | exact LeO.none _
   | refine LeO.ite ?_ ?_
   | refine LeO.bind ?_ (fun _ => ?_)
  ·
   intro y0 y1 y2 y3 y4 y5
   unfold dancestudiolaw10_MatchTurned.l1
   repeat' first
   | (with_reducible exact ih0 _ _ _ _)
   | (with_reducible exact ih1 _ _ _ _)
   | (with_reducible exact ih2 _ _ _ _ _ _)
   | (with_reducible exact dancestudiolaw10_awake.mono _)
   | (with_reducible exact match_Size.mono _ _)
   | (with_reducible exact LeO.refl _)
   | (with_reducible exact LeO.none _)
   | (with_reducible refine LeO.ite ?_ ?_)
   | (with_reducible refine LeO.bind ?_ (fun _ => ?_))
   | exact ih0 _ _ _ _
   | exact ih1 _ _ _ _
   | exact ih2 _ _ _ _ _ _
   | exact dancestudiolaw10_awake.mono _
   | exact match_Size.mono _ _
   | exact LeO.none _
   | refine LeO.ite ?_ ?_
   | refine LeO.bind ?_ (fun _ => ?_)
theorem dancestudiolaw10_MatchTurned.mono : ∀ a0 k, LeO (dancestudiolaw10_MatchTurned.f k a0) (dancestudiolaw10_MatchTurned.f (k + 1) a0) := by
 intro a0 k
 obtain ⟨ih0, ih1, ih2⟩ := dancestudiolaw10_MatchTurned.mono_l k
 unfold dancestudiolaw10_MatchTurned.f
 repeat' first
   | (with_reducible exact ih0 _ _ _ _)
   | (with_reducible exact ih1 _ _ _ _)
   | (with_reducible exact ih2 _ _ _ _ _ _)
   | (with_reducible exact dancestudiolaw10_awake.mono _)
   | (with_reducible exact match_Size.mono _ _)
   | (with_reducible exact LeO.refl _)
   | (with_reducible exact LeO.none _)
   | (with_reducible refine LeO.ite ?_ ?_)
   | (with_reducible refine LeO.bind ?_ (fun _ => ?_))
   | exact ih0 _ _ _ _
   | exact ih1 _ _ _ _
   | exact ih2 _ _ _ _ _ _
   | exact dancestudiolaw10_awake.mono _
   | exact match_Size.mono _ _
   | exact LeO.none _
   | refine LeO.ite ?_ ?_
   | refine LeO.bind ?_ (fun _ => ?_)
set_option maxHeartbeats 8000000 in
set_option maxRecDepth 100000 in
theorem dancestudiolaw10_MatchTurned.calls (k : Nat) (A0 : Option Addr) (c0 : Nat) (l0 : List (List Bool)) (r : Bool) (w : World) (hr0 : Kd.C (Kd.slice 4 Kd.bool) w A0 l0.length l0) (hc0 : l0.length ≤ c0) (h : dancestudiolaw10_MatchTurned.f k l0 = some r) :
  Calls Try.prog 9 #[.slice A0 l0.length c0] w fun e w' => e = .returned (.bool r) ∧ Below w.heap.size w w' := by
 have HR0 := Aside0.mk hr0
 have HC0 := Aside0.mk hc0
 clear hr0 hc0
 have HB := Aside0.mk (Below.refl w.heap.size w)
 have H : ((match_Size.f k l0).bind fun bt498 => (if bt498.2 = 0 then (if (l0.length : Int) = 0 then (dancestudiolaw10_MatchTurned.j0 k l0 bt498.1 bt498.2 true) else (if (l0.length : Int) > 24 then (dancestudiolaw10_MatchTurned.j0 k l0 bt498.1 bt498.2 true) else (if 0 < (l0.length : Int) then (dancestudiolaw10_MatchTurned.j0 k l0 bt498.1 bt498.2 (decide (((rd_L1 l0 0).length : Int) > 24))) else (none)))) else (dancestudiolaw10_MatchTurned.j0 k l0 bt498.1 bt498.2 true))) = some r := h
 clear h
 replace H := Option.bind_eq_some_iff.mp H
 obtain ⟨⟨t498, t499⟩, A20, H⟩ := H
 replace H : (if t499 = 0 then (if (l0.length : Int) = 0 then (dancestudiolaw10_MatchTurned.j0 k l0 t498 t499 true) else (if (l0.length : Int) > 24 then (dancestudiolaw10_MatchTurned.j0 k l0 t498 t499 true) else (if 0 < (l0.length : Int) then (dancestudiolaw10_MatchTurned.j0 k l0 t498 t499 (decide (((rd_L1 l0 0).length : Int) > 24))) else (none)))) else (dancestudiolaw10_MatchTurned.j0 k l0 t498 t499 true)) = some r := H
 have A2 := Aside0.mk A20
 clear A20
 have HC3 := Aside0.mk H
 clear H
 go_enter Try.func9, Try.ntmps9
 go_upto_region 2 with (first | ((with_reducible refine gate_callee (f := 11) rfl ?_); refine goesL_ (some 12) rfl rfl Try.func11 (by kernel_rfl) rfl #[.slice A0 l0.length c0] rfl (by (try simp only [List.map_toArray, List.map_cons, List.map_nil]); first | done | rfl | (simp only [List.length_drop, List.length_take]; rfl)) ?_; (with_reducible refine (match_Size.calls k _ _ l0 t498 t499 _ ?side1 ?side2 A2.out).mono ?_); (case side1 => repeat (first | exact HR0.out | (with_reducible refine Kd.C_alloc ?_ _) | (with_reducible refine Kd.C_drewN ?_ _) | (with_reducible refine Kd.C_drew ?_))); (case side2 => exact HC0.out); rintro e w4 ⟨rfl, hb⟩; refine ⟨_, rfl, ?_⟩; have n0_ := Aside0.mk (below_step (by repeat (first | (with_reducible first | exact HB.out | apply below_alloc | apply pw_below_drewN | apply below_drew1) | exact HB.out)) hb); clear HB; have HB := n0_; clear n0_; (try clear hb); (try clear hb2); (try clear hk); (try clear hi)))
 (try simp only [Act.put, List.setIfInBounds_toArray, List.set_cons_zero, List.set_cons_succ])
 go_cut [33] (fun v33 wc => ∃ (kq : Nat) (x33_2 : Bool), v33 = .bool x33_2 ∧ Aside0 (dancestudiolaw10_MatchTurned.j0 kq l0 t498 t499 x33_2 = some r) ∧ Aside0 (kq ≤ k) ∧ Aside0 (Below w.heap.size w wc))
 case first =>
  have H := HC3.out
  clear HC3
  by_cases c5 : t499 = 0
  ·
   rw [if_pos c5] at H
   have c5b0 : (t499 == 0) = true := beq_iff_eq.mpr c5
   have c5b1 : (t499 != 0) = false := bne_eq_false_iff_eq.mpr c5
   clear c5
   (first | rw [c5b0] | (simp only [i64_w, i32_w]; rw [c5b0]) | skip)
   by_cases c6 : (l0.length : Int) = 0
   ·
    rw [if_pos c6] at H
    have c6b0 : ((l0.length : Int) == 0) = true := beq_iff_eq.mpr c6
    have c6b1 : ((l0.length : Int) != 0) = false := bne_eq_false_iff_eq.mpr c6
    clear c6
    have H' := Aside0.mk H
    clear H
    go_wp2
    go_meet
    case rel => exact ⟨_, (true), (by first | rfl | (simp; done) | (simp [*]; done)), H', ⟨by first | omega | exact Nat.le_refl _⟩, ⟨by repeat (first | (with_reducible first | exact HB.out | apply below_alloc | apply pw_below_drewN | apply below_drew1) | exact HB.out)⟩⟩
   ·
    rw [if_neg c6] at H
    have c6b0 : ((l0.length : Int) == 0) = false := beq_eq_false_iff_ne.mpr c6
    have c6b1 : ((l0.length : Int) != 0) = true := bne_iff_ne.mpr c6
    have c6b2 : ¬ (l0 = []) := fun h_ => c6 (by rw [h_]; rfl)
    by_cases c7 : (l0.length : Int) > 24
    ·
     rw [if_pos c7] at H
     have c7b0 : decide (24 < (l0.length : Int)) = true := decide_eq_true c7
     have c7b1 : decide (24 < l0.length) = true := decide_eq_true (by omega)
     clear c7
     have H' := Aside0.mk H
     clear H
     go_wp2
     go_meet
     case rel => exact ⟨_, (true), (by first | rfl | (simp; done) | (simp [*]; done)), H', ⟨by first | omega | exact Nat.le_refl _⟩, ⟨by repeat (first | (with_reducible first | exact HB.out | apply below_alloc | apply pw_below_drewN | apply below_drew1) | exact HB.out)⟩⟩
    ·
     rw [if_neg c7] at H
     have c7b0 : decide (24 < (l0.length : Int)) = false := decide_eq_false c7
     have c7b1 : decide (24 < l0.length) = false := decide_eq_false (by omega)
     clear c7
     by_cases c8 : 0 < (l0.length : Int)
     ·
      rw [if_pos c8] at H
      have c8b0 : decide (0 < (l0.length : Int)) = true := decide_eq_true c8
      have c8b1 : decide (0 < l0.length) = true := decide_eq_true (by omega)
      clear c8
      have H' := Aside0.mk H
      clear H
      have p500 : 0 ≤ (0 : Int) := (by omega)
      have q500 : 0 < (l0.length : Int) := of_decide_eq_true (by first | (with_reducible assumption) | assumption)
      obtain ⟨ad500, A500_0, c500_0, e500, hx500_0, hl500_0, hi500_0⟩ := at_L1 HR0.out 0 p500 q500
      cases e500
      have qi500 : (0 < l0.length) = True := eq_true (by omega)
      (try rw [show ((0 : Int)).toNat = 0 from rfl] at hx500_0)
      (try rw [Addr.add_zero'] at hx500_0)
      replace hx500_0 := (HB.out.cell (World.block_lt_of_cell? w _ hx500_0)).trans hx500_0
      have HR500_0 := Aside0.mk hi500_0
      have HC500_0 := Aside0.mk hl500_0
      clear hi500_0 hl500_0
      replace p500 := eq_true p500
      replace q500 := eq_true q500
      go_wp2
      go_meet
      case rel => exact ⟨_, (decide (((rd_L1 l0 0).length : Int) > 24)), (by first | rfl | (simp; done) | (simp [*]; done)), H', ⟨by first | omega | exact Nat.le_refl _⟩, ⟨by repeat (first | (with_reducible first | exact HB.out | apply below_alloc | apply pw_below_drewN | apply below_drew1) | exact HB.out)⟩⟩
     ·
      rw [if_neg c8] at H
      exact absurd H (by simp)
  ·
   rw [if_neg c5] at H
   have c5b0 : (t499 == 0) = false := beq_eq_false_iff_ne.mpr c5
   have c5b1 : (t499 != 0) = true := bne_iff_ne.mpr c5
   (first | rw [c5b0] | (simp only [i64_w, i32_w]; rw [c5b0]) | skip)
   have H' := Aside0.mk H
   clear H
   go_wp2
   go_meet
   case rel => exact ⟨_, (true), (by first | rfl | (simp; done) | (simp [*]; done)), H', ⟨by first | omega | exact Nat.le_refl _⟩, ⟨by repeat (first | (with_reducible first | exact HB.out | apply below_alloc | apply pw_below_drewN | apply below_drew1) | exact HB.out)⟩⟩
 case rest =>
  clear HC3
  try clear c1
  try clear p2
  try clear c5
  try clear c5b0
  try clear c5b1
  try clear p5
  try clear q5
  try clear hx5
  try clear qi5
  try clear c6
  try clear c6b0
  try clear c6b1
  try clear c6b2
  try clear c7
  try clear c7b0
  try clear c7b1
  try clear c8
  try clear c8b0
  try clear c8b1
  try clear hx500_0
  try clear p500
  try clear q500
  obtain ⟨kq, x33_2, rfl, HA, HJ2, HB⟩ := hcut
  cases kq with
  | zero => exact absurd HA.out (by simp [dancestudiolaw10_MatchTurned.j0])
  | succ kj2 =>
   have H := HA.out
   clear HA
   simp only [dancestudiolaw10_MatchTurned.j0] at H
   by_cases c9 : x33_2 = true
   ·
    subst c9
    have H1 : (if t499 = 0 then (if t498 = 0 then (if (l0.length : Int) = 0 then ((dancestudiolaw10_awake.f kj2).bind fun t501 => (some t501)) else (none)) else (none)) else ((dancestudiolaw10_awake.f kj2).bind fun t502 => (some t502))) = some r := by rw [if_pos rfl] at H; exact H
    clear H
    have H := H1
    clear H1
    by_cases c10 : t499 = 0
    ·
     rw [if_pos c10] at H
     have c10b0 : (t499 == 0) = true := beq_iff_eq.mpr c10
     have c10b1 : (t499 != 0) = false := bne_eq_false_iff_eq.mpr c10
     clear c10
     by_cases c11 : t498 = 0
     ·
      rw [if_pos c11] at H
      have c11b0 : (t498 == 0) = true := beq_iff_eq.mpr c11
      have c11b1 : (t498 != 0) = false := bne_eq_false_iff_eq.mpr c11
      clear c11
      by_cases c12 : (l0.length : Int) = 0
      ·
       rw [if_pos c12] at H
       have c12b0 : ((l0.length : Int) == 0) = true := beq_iff_eq.mpr c12
       have c12b1 : ((l0.length : Int) != 0) = false := bne_eq_false_iff_eq.mpr c12
       clear c12
       replace H := Option.bind_eq_some_iff.mp H
       obtain ⟨t501, A130, H⟩ := H
       replace H : (some t501) = some r := H
       have A13 := Aside0.mk A130
       clear A130
       obtain rfl := Option.some.inj H
       go_wp2_with (first | (go_at_call 15; (with_reducible refine (dancestudiolaw10_awake.calls kj2  t501 _ A13.out).mono ?_); rintro e w14 ⟨rfl, hb⟩; have n0_ := Aside0.mk (below_step (by repeat (first | (with_reducible first | exact HB.out | apply below_alloc | apply pw_below_drewN | apply below_drew1) | exact HB.out)) hb); clear HB; have HB := n0_; clear n0_; (try clear hb); (try clear hb2); (try clear hk); (try clear hi)))
       go_ret
       exact ⟨by first | rfl | (simp [errW_none, errW_some] <;> rfl) | (simp [*, errW_none, errW_some] <;> rfl), by repeat (first | (with_reducible first | exact HB.out | apply below_alloc | apply pw_below_drewN | apply below_drew1) | exact HB.out)⟩
      ·
       rw [if_neg c12] at H
       exact absurd H (by simp)
     ·
      rw [if_neg c11] at H
      exact absurd H (by simp)
    ·
     rw [if_neg c10] at H
     have c10b0 : (t499 == 0) = false := beq_eq_false_iff_ne.mpr c10
     have c10b1 : (t499 != 0) = true := bne_iff_ne.mpr c10
     replace H := Option.bind_eq_some_iff.mp H
     obtain ⟨t502, A150, H⟩ := H
     replace H : (some t502) = some r := H
     have A15 := Aside0.mk A150
     clear A150
     obtain rfl := Option.some.inj H
     go_wp2_with (first | (go_at_call 15; (with_reducible refine (dancestudiolaw10_awake.calls kj2  t502 _ A15.out).mono ?_); rintro e w16 ⟨rfl, hb⟩; have n0_ := Aside0.mk (below_step (by repeat (first | (with_reducible first | exact HB.out | apply below_alloc | apply pw_below_drewN | apply below_drew1) | exact HB.out)) hb); clear HB; have HB := n0_; clear n0_; (try clear hb); (try clear hb2); (try clear hk); (try clear hi)))
     go_ret
     exact ⟨by first | rfl | (simp [errW_none, errW_some] <;> rfl) | (simp [*, errW_none, errW_some] <;> rfl), by repeat (first | (with_reducible first | exact HB.out | apply below_alloc | apply pw_below_drewN | apply below_drew1) | exact HB.out)⟩
   ·
    replace c9 := Bool.eq_false_iff.mpr c9
    subst c9
    have H1 : (dancestudiolaw10_MatchTurned.l0 kj2 l0 t498 (([] : List (List Bool))) 0) = some r := by rw [if_neg (show ¬ (false = true) by decide)] at H; exact H
    clear H
    have H := H1
    clear H1
    obtain ⟨y503, hy503⟩ : ∃ y_ : List (List Bool), y_ = (([] : List (List Bool))) := ⟨_, rfl⟩
    replace H : (dancestudiolaw10_MatchTurned.l0 kj2 l0 t498 y503 0) = some r := by first | (rw [hy503]; with_reducible exact H) | (have H2_ := (Option.bind_some _ _).symm.trans H; rw [hy503]; with_reducible exact H2_) | (have H2_ := (Option.bind_some _ _).symm.trans H; with_reducible exact H2_) | with_reducible exact H | (rw [hy503]; exact H) | exact H
    have Ny503 := Aside0.mk hy503
    clear hy503
    have H' := Aside0.mk H
    clear H
    go_wp2_with (first | ((with_reducible refine gate_dst (N := 48) rfl ?_); (try (refine gate_guard (by rfl) ?_; dsimp only)); refine Kd.S_lit (Kd.slice 4 Kd.bool) _ 38 ?hg (N := 48) ?hd (xs := ([] : List (List Bool))) (inner := []) (ok := fun _ => True) (okp := fun _ => True) ?hr ?hp (fun _ hk => hk) trivial (Below.refl _ _) (Nat.le_refl _) (by simp) ?_; (case hd => rfl); (case hg => rfl); (case hr => first | (go_simp; done) | (go_simp; rfl)); (case hp => exact (Reps.none _ _)); intro v504 w17 ho18 hb hg_ hnew_; clear hg_ hnew_; (first | rw [← Ny503.out] at ho18 | (simp only [Int.reduceToNat] at ho18; rw [← Ny503.out] at ho18)); have n0_ := Aside0.mk (Kd.S_lower ho18 (below_size (by repeat (first | (with_reducible first | exact HB.out | apply below_alloc | apply pw_below_drewN | apply below_drew1) | exact HB.out)))); have n1_ := Aside0.mk (below_step (by repeat (first | (with_reducible first | exact HB.out | apply below_alloc | apply pw_below_drewN | apply below_drew1) | exact HB.out)) hb); clear HB; have HO505 := n0_; have HB := n1_; clear n0_ n1_; clear hb ho18))
    go_loopg [5, 6] kj2 (fun kq v5 v6 w' => ∃ (x5_2 : List (List Bool)) (x6_2 : Int), v6 = .int .i64 x6_2 ∧ Aside0 (dancestudiolaw10_MatchTurned.l0 kq l0 t498 x5_2 x6_2 = some r) ∧ Aside0 (kq ≤ kj2) ∧ Aside0 (Kd.S (Kd.slice 4 Kd.bool) 38 w' w.heap.size (fun _ => True) v5 x5_2) ∧ Aside0 (Below w.heap.size w w'))
    case atStart => exact ⟨(y503), (0), (by first | rfl | (simp; done) | (simp [*]; done)), H', ⟨Nat.le_refl _⟩, ⟨by (with_reducible repeat (first | apply Kd.S_alloc | apply Kd.S_drewN | apply Kd.S_drew)); exact HO505.out⟩, ⟨by repeat (first | (with_reducible first | exact HB.out | apply below_alloc | apply pw_below_drewN | apply below_drew1) | exact HB.out)⟩⟩
    case round =>
     clear H'
     try clear c1
     try clear p2
     try clear c5
     try clear c5b0
     try clear c5b1
     try clear p5
     try clear q5
     try clear hx5
     try clear qi5
     try clear c6
     try clear c6b0
     try clear c6b1
     try clear c6b2
     try clear c7
     try clear c7b0
     try clear c7b1
     try clear c8
     try clear c8b0
     try clear c8b1
     try clear c9
     try clear c10
     try clear c10b0
     try clear c10b1
     try clear c11
     try clear c11b0
     try clear c11b1
     try clear c12
     try clear c12b0
     try clear c12b1
     try clear hx500_0
     try clear p2
     try clear p5
     try clear p500
     try clear q5
     try clear q500
     obtain ⟨x5_2, x6_2, rfl, HA, HK2, HO_5, HB⟩ := hrel
     cases gk with
     | zero => exact absurd HA.out (by simp [dancestudiolaw10_MatchTurned.l0])
     | succ k2 =>
      have H := HA.out
      clear HA
      simp only [dancestudiolaw10_MatchTurned.l0] at H
      by_cases c19 : 0 < (l0.length : Int)
      ·
       rw [if_pos c19] at H
       have c19b0 : decide (0 < (l0.length : Int)) = true := decide_eq_true c19
       have c19b1 : decide (0 < l0.length) = true := decide_eq_true (by omega)
       clear c19
       by_cases c20 : x6_2 < ((rd_L1 l0 0).length : Int)
       ·
        rw [if_pos c20] at H
        have c20b0 : decide (x6_2 < ((rd_L1 l0 0).length : Int)) = true := decide_eq_true c20
        clear c20
        obtain ⟨y510, hy510⟩ : ∃ y_ : List Bool, y_ = (([] : List Bool)) := ⟨_, rfl⟩
        replace H : (dancestudiolaw10_MatchTurned.l1 k2 l0 t498 x5_2 x6_2 y510 0) = some r := by first | (rw [hy510]; with_reducible exact H) | (have H2_ := (Option.bind_some _ _).symm.trans H; rw [hy510]; with_reducible exact H2_) | (have H2_ := (Option.bind_some _ _).symm.trans H; with_reducible exact H2_) | with_reducible exact H | (rw [hy510]; exact H) | exact H
        have Ny510 := Aside0.mk hy510
        clear hy510
        have H' := Aside0.mk H
        clear H
        have p506 : 0 ≤ (0 : Int) := (by omega)
        have q506 : 0 < (l0.length : Int) := of_decide_eq_true (by first | (with_reducible assumption) | assumption)
        obtain ⟨ad506, A506_0, c506_0, e506, hx506_0, hl506_0, hi506_0⟩ := at_L1 HR0.out 0 p506 q506
        cases e506
        have qi506 : (0 < l0.length) = True := eq_true (by omega)
        (try rw [show ((0 : Int)).toNat = 0 from rfl] at hx506_0)
        (try rw [Addr.add_zero'] at hx506_0)
        replace hx506_0 := (HB.out.cell (World.block_lt_of_cell? w _ hx506_0)).trans hx506_0
        have HR506_0 := Aside0.mk hi506_0
        have HC506_0 := Aside0.mk hl506_0
        clear hi506_0 hl506_0
        replace p506 := eq_true p506
        replace q506 := eq_true q506
        go_wp2_with (first | ((with_reducible refine gate_dst (N := 57) rfl ?_); (try (refine gate_guard (by rfl) ?_; dsimp only)); refine Kd.R_lit Kd.bool _ 4 ?hg (N := 57) ?hd (xs := ([] : List Bool)) (inner := []) (ok := fun _ => True) (okp := fun _ => True) ?hr ?hp (fun _ hk => hk) trivial (Below.refl _ _) (Nat.le_refl _) (by simp) ?_; (case hd => rfl); (case hg => rfl); (case hr => first | (go_simp; done) | (go_simp; rfl)); (case hp => exact (Reps.none _ _)); intro v511 w21 ho22 hb hg_ hnew_; clear hg_ hnew_; (first | rw [← Ny510.out] at ho22 | (simp only [Int.reduceToNat] at ho22; rw [← Ny510.out] at ho22)); have n0_ := Aside0.mk (Kd.S_elder' (by (with_reducible repeat (first | apply Kd.S_alloc | apply Kd.S_drewN | apply Kd.S_drew)); exact HO_5.out) (Kd.R_base ho22) hb); have n1_ := Aside0.mk (Kd.R_lower ho22 (below_size (by repeat (first | (with_reducible first | exact HB.out | apply below_alloc | apply pw_below_drewN | apply below_drew1) | exact HB.out)))); have n2_ := Aside0.mk (below_step (by repeat (first | (with_reducible first | exact HB.out | apply below_alloc | apply pw_below_drewN | apply below_drew1) | exact HB.out)) hb); clear HO_5; clear HB; have HO_5 := n0_; have HO512 := n1_; have HB := n2_; clear n0_ n1_ n2_; clear hb ho22))
        go_loopg [7, 8] k2 (fun kq v7 v8 w' => ∃ (x7_3 : List Bool) (x8_3 : Int), v8 = .int .i64 x8_3 ∧ Aside0 (dancestudiolaw10_MatchTurned.l1 kq l0 t498 x5_2 x6_2 x7_3 x8_3 = some r) ∧ Aside0 (kq ≤ k2) ∧ Aside0 (Kd.S (Kd.slice 4 Kd.bool) 38 w' w.heap.size (fun k_ => some k_ ≠ (v7 : Value).ownBlock) u5 x5_2) ∧ Aside0 (Kd.R Kd.bool 4 w' w.heap.size (fun _ => True) v7 x7_3) ∧ Aside0 (Below w.heap.size w w'))
        case atStart => exact ⟨(y510), (0), (by first | rfl | (simp; done) | (simp [*]; done)), H', ⟨Nat.le_refl _⟩, ⟨by (with_reducible repeat (first | apply Kd.S_alloc | apply Kd.S_drewN | apply Kd.S_drew)); exact Kd.S_mono HO_5.out (fun _ hk => hk.2)⟩, ⟨by (with_reducible repeat (first | apply Kd.R_alloc | apply Kd.R_drewN | apply Kd.R_drew)); exact HO512.out⟩, ⟨by repeat (first | (with_reducible first | exact HB.out | apply below_alloc | apply pw_below_drewN | apply below_drew1) | exact HB.out)⟩⟩
        case round =>
         clear H'
         try clear c1
         try clear c2
         try clear p2
         try clear c5
         try clear c5b0
         try clear c5b1
         try clear p5
         try clear q5
         try clear hx5
         try clear qi5
         try clear c6
         try clear c6b0
         try clear c6b1
         try clear c6b2
         try clear c7
         try clear c7b0
         try clear c7b1
         try clear c8
         try clear c8b0
         try clear c8b1
         try clear c9
         try clear c10
         try clear c10b0
         try clear c10b1
         try clear c11
         try clear c11b0
         try clear c11b1
         try clear c12
         try clear c12b0
         try clear c12b1
         try clear c19
         try clear c19b0
         try clear c19b1
         try clear c20
         try clear c20b0
         try clear hx500_0
         try clear hx506_0
         try clear p2
         try clear p5
         try clear p500
         try clear p506
         try clear q5
         try clear q500
         try clear q506
         obtain ⟨x7_3, x8_3, rfl, HA, HK3, HO_5, HO_7, HB⟩ := hrel
         cases gk with
         | zero => exact absurd HA.out (by simp [dancestudiolaw10_MatchTurned.l1])
         | succ k3 =>
          have H := HA.out
          clear HA
          simp only [dancestudiolaw10_MatchTurned.l1] at H
          by_cases c23 : x8_3 < (l0.length : Int)
          ·
           rw [if_pos c23] at H
           have c23b0 : decide (x8_3 < (l0.length : Int)) = true := decide_eq_true c23
           clear c23
           by_cases c24 : 0 ≤ x8_3
           ·
            rw [if_pos c24] at H
            have c24b0 : decide (0 ≤ x8_3) = true := decide_eq_true c24
            clear c24
            by_cases c25 : x6_2 ≥ ((rd_L1 l0 x8_3).length : Int)
            ·
             rw [if_pos c25] at H
             exact absurd H (by simp)
            ·
             rw [if_neg c25] at H
             have c25b0 : decide (((rd_L1 l0 x8_3).length : Int) ≤ x6_2) = false := decide_eq_false c25
             clear c25
             by_cases c26 : 0 ≤ x6_2
             ·
              rw [if_pos c26] at H
              have c26b0 : decide (0 ≤ x6_2) = true := decide_eq_true c26
              clear c26
              by_cases c27 : x6_2 < ((rd_L1 l0 x8_3).length : Int)
              ·
               rw [if_pos c27] at H
               have c27b0 : decide (x6_2 < ((rd_L1 l0 x8_3).length : Int)) = true := decide_eq_true c27
               clear c27
               by_cases c28 : x7_3.length < 140737488355328
               ·
                rw [if_pos c28] at H
                have LMc28 := Aside0.mk c28
                clear c28
                obtain ⟨y516, hy516⟩ : ∃ y_ : List Bool, y_ = (x7_3 ++ [rdOf false (rd_L1 l0 x8_3) x6_2]) := ⟨_, rfl⟩
                replace H : (dancestudiolaw10_MatchTurned.l1 k3 l0 t498 x5_2 x6_2 y516 (wrap64 (x8_3 + 1))) = some r := by first | (rw [hy516]; with_reducible exact H) | (have H2_ := (Option.bind_some _ _).symm.trans H; rw [hy516]; with_reducible exact H2_) | (have H2_ := (Option.bind_some _ _).symm.trans H; with_reducible exact H2_) | with_reducible exact H | (rw [hy516]; exact H) | exact H
                have Ny516 := Aside0.mk hy516
                clear hy516
                have H' := Aside0.mk H
                clear H
                have p513 : 0 ≤ (x8_3 : Int) := of_decide_eq_true (by first | (with_reducible assumption) | assumption)
                have q513 : x8_3 < (l0.length : Int) := of_decide_eq_true (by first | (with_reducible assumption) | assumption)
                obtain ⟨ad513, A513_0, c513_0, e513, hx513_0, hl513_0, hi513_0⟩ := at_L1 HR0.out x8_3 p513 q513
                obtain rfl : ad506 = ad513 := (by injection e513)
                replace hx513_0 := (HB.out.cell (World.block_lt_of_cell? w _ hx513_0)).trans hx513_0
                have HR513_0 := Aside0.mk hi513_0
                have HC513_0 := Aside0.mk hl513_0
                clear hi513_0 hl513_0
                replace p513 := eq_true p513
                replace q513 := eq_true q513
                have p514 : 0 ≤ (x8_3 : Int) := of_decide_eq_true (by first | (with_reducible assumption) | assumption)
                have q514 : x8_3 < (l0.length : Int) := of_decide_eq_true (by first | (with_reducible assumption) | assumption)
                obtain ⟨ad514, A514_0, c514_0, e514, hx514_0, hl514_0, hi514_0⟩ := at_L1 HR0.out x8_3 p514 q514
                obtain rfl : ad506 = ad514 := (by injection e514)
                replace hx514_0 := (HB.out.cell (World.block_lt_of_cell? w _ hx514_0)).trans hx514_0
                have HR514_0 := Aside0.mk hi514_0
                have HC514_0 := Aside0.mk hl514_0
                clear hi514_0 hl514_0
                replace p514 := eq_true p514
                replace q514 := eq_true q514
                have ea_ := Option.some.inj (hx513_0.symm.trans hx514_0)
                injection ea_ with ea_ en_ ec_
                subst ea_
                subst ec_
                clear en_
                have p515 : 0 ≤ (x6_2 : Int) := of_decide_eq_true (by first | (with_reducible assumption) | assumption)
                have q515 : x6_2 < ((rd_L1 l0 x8_3).length : Int) := of_decide_eq_true (by first | (with_reducible assumption) | assumption)
                obtain ⟨ad515, e515, hx515_0⟩ := Kd.at_bool HR514_0.out x6_2 p515 q515
                cases e515
                replace hx515_0 := (HB.out.cell (World.block_lt_of_cell? w _ hx515_0)).trans hx515_0
                replace p515 := eq_true p515
                replace q515 := eq_true q515
                go_wp2_with (first | ((with_reducible refine gate_builtin (b := .append) (xs := #[.tmp 71, .tmp 79]) rfl ?_); (try (refine gate_guard (by rfl) ?_; dsimp only)); at_builtin; refine Kd.R_append Kd.bool (w0 := w) w.heap.size rfl (.tmp 71) (.tmp 79) 38 4 (.bool false) 1 rfl Try.underlying38 info4 rfl (by decide) (by omega) u7 x7_3 (rdOf false (rd_L1 l0 x8_3) x6_2) [.bool (rdOf false (rd_L1 l0 x8_3) x6_2)] (fun _ => True) (fun _ => False) rfl rfl ?aP (fun _ hk => hk.elim) ?aF ?aO ?aB ?aS ?aL ?_; (case aP => exact rfl); (case aB => exact (by repeat (first | (with_reducible first | exact HB.out | apply below_alloc | apply pw_below_drewN | apply below_drew1) | exact HB.out))); (case aF => exact (fun _ _ => trivial)); (case aO => exact (by (with_reducible repeat (first | apply Kd.R_alloc | apply Kd.R_drewN | apply Kd.R_drew)); exact HO_7.out)); (case aS => exact (below_size (by repeat (first | (with_reducible first | exact HB.out | apply below_alloc | apply pw_below_drewN | apply below_drew1) | exact HB.out)))); (case aL => have := LMc28.out; omega); intro v517 w29 ho hb hg hat; rw [← Ny516.out] at ho; have n0_ := Aside0.mk (Kd.S_after (ok := (fun _ => True)) (by (with_reducible repeat (first | apply Kd.S_alloc | apply Kd.S_drewN | apply Kd.S_drew)); exact Kd.S_mono HO_5.out (fun _ hk => ⟨trivial, hk⟩)) hg hat); have n1_ := Aside0.mk (hb); have n2_ := Aside0.mk (ho); clear HO_5; clear HB; clear HO_7; have HO_5 := n0_; have HB := n1_; have HO518 := n2_; clear n0_ n1_ n2_; clear ho hb hg hat))
                go_roundg k3
                case measure => have := HJ2.out; have := HK2.out; have := HK3.out; omega
                case rel => exact ⟨(y516), (wrap64 (x8_3 + 1)), (by first | rfl | (simp; done) | (simp [*]; done)), H', ⟨by have := HJ2.out; have := HK2.out; have := HK3.out; omega⟩, ⟨by (with_reducible repeat (first | apply Kd.S_alloc | apply Kd.S_drewN | apply Kd.S_drew)); exact Kd.S_mono HO_5.out (fun _ hk => hk.2)⟩, ⟨by (with_reducible repeat (first | apply Kd.R_alloc | apply Kd.R_drewN | apply Kd.R_drew)); exact HO518.out⟩, ⟨by repeat (first | (with_reducible first | exact HB.out | apply below_alloc | apply pw_below_drewN | apply below_drew1) | exact HB.out)⟩⟩
               ·
                rw [if_neg c28] at H
                exact absurd H (by simp)
              ·
               rw [if_neg c27] at H
               exact absurd H (by simp)
             ·
              rw [if_neg c26] at H
              exact absurd H (by simp)
           ·
            rw [if_neg c24] at H
            exact absurd H (by simp)
          ·
           rw [if_neg c23] at H
           have c23b0 : decide (x8_3 < (l0.length : Int)) = false := decide_eq_false c23
           clear c23
           by_cases c30 : x5_2.length < 5864062014805
           ·
            rw [if_pos c30] at H
            have LMc30 := Aside0.mk c30
            clear c30
            obtain ⟨y519, hy519⟩ : ∃ y_ : List (List Bool), y_ = (x5_2 ++ [x7_3]) := ⟨_, rfl⟩
            replace H : (dancestudiolaw10_MatchTurned.l0 k3 l0 t498 y519 (wrap64 (x6_2 + 1))) = some r := by first | (rw [hy519]; with_reducible exact H) | (have H2_ := (Option.bind_some _ _).symm.trans H; rw [hy519]; with_reducible exact H2_) | (have H2_ := (Option.bind_some _ _).symm.trans H; with_reducible exact H2_) | with_reducible exact H | (rw [hy519]; exact H) | exact H
            have Ny519 := Aside0.mk hy519
            clear hy519
            have H' := Aside0.mk H
            clear H
            obtain ⟨Ao32, co32, eo32⟩ := Kd.R_slice HO_7.out
            subst eo32
            go_wp2_with (first | ((with_reducible refine gate_builtin (b := .append) (xs := #[.tmp 81, .tmp 83]) rfl ?_); (try (refine gate_guard (by rfl) ?_; dsimp only)); at_builtin; refine Kd.S_append (Kd.slice 4 Kd.bool) (w0 := w) w.heap.size rfl (.tmp 81) (.tmp 83) 22 38 (.slice none 0 0) 24 rfl Try.underlying22 info38 rfl (by decide) (by omega) u5 x5_2 x7_3 [.slice Ao32 x7_3.length co32] (fun _ => True) (fun k_ => some k_ = (.slice Ao32 x7_3.length co32 : Value).ownBlock) rfl rfl ?aP (fun k_ hk_ => ((Kd.R_mono (ok' := fun k_ => ((fun _ => True)) k_ ∧ some k_ ≠ (u5 : Value).ownBlock) (Kd.R_apart' (HO_7.out) (Kd.S_typed HO_5.out) (by decide)) (fun k_ hk => ⟨trivial, hk.2⟩))).1 k_ hk_.symm) ?aF ?aO ?aB ?aS ?aL ?_; (case aP => exact Kd.M_row (Kd.R_mono (Kd.R_tight rfl (Kd.R_mono (ok' := fun k_ => ((fun _ => True)) k_ ∧ some k_ ≠ (u5 : Value).ownBlock) (Kd.R_apart' (HO_7.out) (Kd.S_typed HO_5.out) (by decide)) (fun k_ hk => ⟨trivial, hk.2⟩))) (fun _ h_ => h_))); (case aB => exact (by repeat (first | (with_reducible first | exact HB.out | apply below_alloc | apply pw_below_drewN | apply below_drew1) | exact HB.out))); (case aF => exact (fun _ _ => trivial)); (case aO => exact (by (with_reducible repeat (first | apply Kd.S_alloc | apply Kd.S_drewN | apply Kd.S_drew)); exact Kd.S_mono HO_5.out (fun k_ hk => ⟨trivial, fun e_ => hk e_⟩))); (case aS => exact (below_size (by repeat (first | (with_reducible first | exact HB.out | apply below_alloc | apply pw_below_drewN | apply below_drew1) | exact HB.out)))); (case aL => have := LMc30.out; omega); intro v520 w31 ho hb hg hat; rw [← Ny519.out] at ho; have n0_ := Aside0.mk (hb); have n1_ := Aside0.mk (ho); clear HB; clear HO_5; clear HO_7; have HB := n0_; have HO521 := n1_; clear n0_ n1_; clear ho hb hg hat))
            go_roundg k3
            case measure => have := HJ2.out; have := HK2.out; have := HK3.out; omega
            case rel => exact ⟨(y519), (wrap64 (x6_2 + 1)), (by first | rfl | (simp; done) | (simp [*]; done)), H', ⟨by have := HJ2.out; have := HK2.out; have := HK3.out; omega⟩, ⟨by (with_reducible repeat (first | apply Kd.S_alloc | apply Kd.S_drewN | apply Kd.S_drew)); exact HO521.out⟩, ⟨by repeat (first | (with_reducible first | exact HB.out | apply below_alloc | apply pw_below_drewN | apply below_drew1) | exact HB.out)⟩⟩
           ·
            rw [if_neg c30] at H
            exact absurd H (by simp)
       ·
        rw [if_neg c20] at H
        have c20b0 : decide (x6_2 < ((rd_L1 l0 0).length : Int)) = false := decide_eq_false c20
        clear c20
        replace H := Option.bind_eq_some_iff.mp H
        obtain ⟨⟨t507, t508⟩, A330, H⟩ := H
        replace H : (if t508 = 0 then (if t507 = t498 then ((dancestudiolaw10_awake.f k2).bind fun t509 => (some t509)) else (none)) else (none)) = some r := H
        have A33 := Aside0.mk A330
        clear A330
        by_cases c34 : t508 = 0
        ·
         rw [if_pos c34] at H
         have c34b0 : (t508 == 0) = true := beq_iff_eq.mpr c34
         have c34b1 : (t508 != 0) = false := bne_eq_false_iff_eq.mpr c34
         clear c34
         by_cases c35 : t507 = t498
         ·
          rw [if_pos c35] at H
          have c35b0 : (t507 == t498) = true := beq_iff_eq.mpr c35
          have c35b1 : (t507 != t498) = false := bne_eq_false_iff_eq.mpr c35
          clear c35
          replace H := Option.bind_eq_some_iff.mp H
          obtain ⟨t509, A360, H⟩ := H
          replace H : (some t509) = some r := H
          have A36 := Aside0.mk A360
          clear A360
          obtain rfl := Option.some.inj H
          have p506 : 0 ≤ (0 : Int) := (by omega)
          have q506 : 0 < (l0.length : Int) := of_decide_eq_true (by first | (with_reducible assumption) | assumption)
          obtain ⟨ad506, A506_0, c506_0, e506, hx506_0, hl506_0, hi506_0⟩ := at_L1 HR0.out 0 p506 q506
          cases e506
          have qi506 : (0 < l0.length) = True := eq_true (by omega)
          (try rw [show ((0 : Int)).toNat = 0 from rfl] at hx506_0)
          (try rw [Addr.add_zero'] at hx506_0)
          replace hx506_0 := (HB.out.cell (World.block_lt_of_cell? w _ hx506_0)).trans hx506_0
          have HR506_0 := Aside0.mk hi506_0
          have HC506_0 := Aside0.mk hl506_0
          clear hi506_0 hl506_0
          replace p506 := eq_true p506
          replace q506 := eq_true q506
          obtain ⟨Ao37, co37, eo37⟩ := Kd.S_slice HO_5.out
          subst eo37
          go_wp2_with (first | ((with_reducible refine gate_callee (f := 11) rfl ?_); refine goesL_ (some 87) rfl rfl Try.func11 (by kernel_rfl) rfl #[.slice Ao37 x5_2.length co37] rfl (by (try simp only [List.map_toArray, List.map_cons, List.map_nil]); first | done | rfl | (simp only [List.length_drop, List.length_take]; rfl)) ?_; (with_reducible refine (match_Size.calls k2 _ _ x5_2 t507 t508 _ ?side1 ?side2 A33.out).mono ?_); (case side1 => repeat (first | exact (Kd.S_reads' HO_5.out).2.2 | (with_reducible refine Kd.C_alloc ?_ _) | (with_reducible refine Kd.C_drewN ?_ _) | (with_reducible refine Kd.C_drew ?_))); (case side2 => exact (Kd.S_reads' HO_5.out).2.1); rintro e w38 ⟨rfl, hb⟩; refine ⟨_, rfl, ?_⟩; have n0_ := Aside0.mk (Kd.S_below (by (with_reducible repeat (first | apply Kd.S_alloc | apply Kd.S_drewN | apply Kd.S_drew)); exact HO_5.out) hb); have n1_ := Aside0.mk (below_step (by repeat (first | (with_reducible first | exact HB.out | apply below_alloc | apply pw_below_drewN | apply below_drew1) | exact HB.out)) hb); clear HO_5; clear HB; have HO_5 := n0_; have HB := n1_; clear n0_ n1_; (try clear hb); (try clear hb2); (try clear hk); (try clear hi)) | (go_at_call 15; (with_reducible refine (dancestudiolaw10_awake.calls k2  t509 _ A36.out).mono ?_); rintro e w39 ⟨rfl, hb⟩; have n0_ := Aside0.mk (Kd.S_below (by (with_reducible repeat (first | apply Kd.S_alloc | apply Kd.S_drewN | apply Kd.S_drew)); exact HO_5.out) hb); have n1_ := Aside0.mk (below_step (by repeat (first | (with_reducible first | exact HB.out | apply below_alloc | apply pw_below_drewN | apply below_drew1) | exact HB.out)) hb); clear HO_5; clear HB; have HO_5 := n0_; have HB := n1_; clear n0_ n1_; (try clear hb); (try clear hb2); (try clear hk); (try clear hi)))
          go_ret
          exact ⟨by first | rfl | (simp [errW_none, errW_some] <;> rfl) | (simp [*, errW_none, errW_some] <;> rfl), by repeat (first | (with_reducible first | exact HB.out | apply below_alloc | apply pw_below_drewN | apply below_drew1) | exact HB.out)⟩
         ·
          rw [if_neg c35] at H
          exact absurd H (by simp)
        ·
         rw [if_neg c34] at H
         exact absurd H (by simp)
      ·
       rw [if_neg c19] at H
       exact absurd H (by simp)
end Go.Proofs.Ytaacihkhckpecaa.PAll
