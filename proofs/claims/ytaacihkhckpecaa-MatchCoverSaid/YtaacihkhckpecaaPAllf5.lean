-- Written by wip/tools/handprint.py: walks of the functions that the law reaches; Lean checks them.
import Derived.Test.YtaacihkhckpecaaPAllx0
import Derived.Test.YtaacihkhckpecaaPAllf11
import Derived.Test.YtaacihkhckpecaaPAllf13
import Derived.Test.YtaacihkhckpecaaPAllf15
import Derived.Test.YtaacihkhckpecaaPAllf16
import Derived.Test.YtaacihkhckpecaaPAllf19
import Derived.Test.YtaacihkhckpecaaPAllf20
import Derived.Test.YtaacihkhckpecaaPAllf21
import Derived.Test.YtaacihkhckpecaaPAllf22
import Derived.Test.YtaacihkhckpecaaPAllf23
namespace Go.Proofs.Ytaacihkhckpecaa.PAll
open Go.RowKit Go.Proofs.YtaacihkhckpecaaW.PrintWords Go.Proofs.YtaacihkhckpecaaW.PrintLast Go.Proofs.YtaacihkhckpecaaW.PrintMore
attribute [local go_sem] max2_int min2_int max_two min_two max_three min_three max_four min_four   -- for this text's walks alone
set_option linter.unusedVariables false
set_option linter.unusedSimpArgs false

/-! ### dancestudiolaw10_MatchCover: function 5 -/
mutual
def dancestudiolaw10_MatchCover.j0 : Nat → List (List Bool) → Int → List Int → List Int → List Int → Bool → Option (Bool)
 | 0, _, _, _, _, _, _ => none
 | k + 1, x0, x3, x5, x7, x8, x82 => if x82 = true then (none) else (if (x5.length : Int) = (x0.length : Int) then ((match_Valid.f k x0 x5).bind fun t426 => (if t426 = true then ((dancestudiolaw10_size.f k x5).bind fun t427 => (if t427 = x3 then (if (wrap64 ((x7.length : Int) + (x8.length : Int))) = x3 then ((dancestudiolaw10_ascends.f k x7 (x0.length : Int)).bind fun t428 => (dancestudiolaw10_MatchCover.j1 k x0 x7 x8 (!t428))) else (dancestudiolaw10_MatchCover.j1 k x0 x7 x8 true)) else (dancestudiolaw10_MatchCover.j1 k x0 x7 x8 true))) else (dancestudiolaw10_MatchCover.j1 k x0 x7 x8 true))) else (dancestudiolaw10_MatchCover.j1 k x0 x7 x8 true))
def dancestudiolaw10_MatchCover.j1 : Nat → List (List Bool) → List Int → List Int → Bool → Option (Bool)
 | 0, _, _, _, _ => none
 | k + 1, x0, x7, x8, x115 => if x115 = true then (none) else (dancestudiolaw10_MatchCover.l0 k x0 x7 x8 0)
def dancestudiolaw10_MatchCover.l0 : Nat → List (List Bool) → List Int → List Int → Int → Option (Bool)
 | 0, _, _, _, _ => none
 | k + 1, x0, x7, x8, x11 => if x11 < (x0.length : Int) then (if 0 ≤ x11 then ((dancestudiolaw10_ascends.f k x8 ((rd_L1 x0 x11).length : Int)).bind fun t431 => (if t431 = true then (dancestudiolaw10_MatchCover.l1 k x0 x7 x8 x11 0) else (none))) else (none)) else ((dancestudiolaw10_awake.f k).bind fun t429 => (some t429))
def dancestudiolaw10_MatchCover.l1 : Nat → List (List Bool) → List Int → List Int → Int → Int → Option (Bool)
 | 0, _, _, _, _, _ => none
 | k + 1, x0, x7, x8, x11, x12 => if 0 ≤ x11 then (if x11 < (x0.length : Int) then (if x12 < ((rd_L1 x0 x11).length : Int) then (if 0 ≤ x12 then (if rdOf false (rd_L1 x0 x11) x12 = true then ((dancestudiolaw10_has.f k x7 x11).bind fun t435 => (if t435 = true then (dancestudiolaw10_MatchCover.l1 k x0 x7 x8 x11 (wrap64 (x12 + 1))) else ((dancestudiolaw10_has.f k x8 x12).bind fun t436 => (if t436 = true then (dancestudiolaw10_MatchCover.l1 k x0 x7 x8 x11 (wrap64 (x12 + 1))) else (none))))) else (dancestudiolaw10_MatchCover.l1 k x0 x7 x8 x11 (wrap64 (x12 + 1)))) else (none)) else (dancestudiolaw10_MatchCover.l0 k x0 x7 x8 (wrap64 (x11 + 1)))) else (none)) else (none)
end
def dancestudiolaw10_MatchCover.f (k : Nat) (l0 : List (List Bool)) : Option (Bool) := (match_Size.f k l0).bind fun bt411 => ((match_Match.f k l0).bind fun bt413 => ((match_Cover.f k l0).bind fun bt417 => ((match_Check.f k l0).bind fun t424 => (if t424 = 0 then (if bt411.2 = 0 then (if bt413.2 = 0 then (if bt417.2.2 = 0 then (dancestudiolaw10_MatchCover.j0 k l0 bt411.1 bt413.1 bt417.1 bt417.2.1 (decide ((l0.length : Int) > 24))) else (dancestudiolaw10_MatchCover.j0 k l0 bt411.1 bt413.1 bt417.1 bt417.2.1 true)) else (dancestudiolaw10_MatchCover.j0 k l0 bt411.1 bt413.1 bt417.1 bt417.2.1 true)) else (dancestudiolaw10_MatchCover.j0 k l0 bt411.1 bt413.1 bt417.1 bt417.2.1 true)) else (if bt411.1 = 0 then (if (bt413.1.length : Int) = 0 then (if (bt417.1.length : Int) = 0 then (if (bt417.2.1.length : Int) = 0 then (if bt411.2 = t424 then (if bt413.2 = t424 then (if bt417.2.2 = t424 then ((dancestudiolaw10_awake.f k).bind fun t425 => (some t425)) else (none)) else (none)) else (none)) else (none)) else (none)) else (none)) else (none))))))
theorem dancestudiolaw10_MatchCover.mono_l : ∀ k, (∀ y0 y1 y2 y3 y4 y5, LeO (dancestudiolaw10_MatchCover.j0 k y0 y1 y2 y3 y4 y5) (dancestudiolaw10_MatchCover.j0 (k + 1) y0 y1 y2 y3 y4 y5)) ∧ (∀ y0 y1 y2 y3, LeO (dancestudiolaw10_MatchCover.j1 k y0 y1 y2 y3) (dancestudiolaw10_MatchCover.j1 (k + 1) y0 y1 y2 y3)) ∧ (∀ y0 y1 y2 y3, LeO (dancestudiolaw10_MatchCover.l0 k y0 y1 y2 y3) (dancestudiolaw10_MatchCover.l0 (k + 1) y0 y1 y2 y3)) ∧ (∀ y0 y1 y2 y3 y4, LeO (dancestudiolaw10_MatchCover.l1 k y0 y1 y2 y3 y4) (dancestudiolaw10_MatchCover.l1 (k + 1) y0 y1 y2 y3 y4))
 | 0 => ⟨fun _ _ _ _ _ _ r h => by simp [dancestudiolaw10_MatchCover.j0] at h, fun _ _ _ _ r h => by simp [dancestudiolaw10_MatchCover.j1] at h, fun _ _ _ _ r h => by simp [dancestudiolaw10_MatchCover.l0] at h, fun _ _ _ _ _ r h => by simp [dancestudiolaw10_MatchCover.l1] at h⟩
 | k + 1 => by
  obtain ⟨ih0, ih1, ih2, ih3⟩ := dancestudiolaw10_MatchCover.mono_l k
  refine ⟨?_, ?_, ?_, ?_⟩
  ·
   intro y0 y1 y2 y3 y4 y5
   unfold dancestudiolaw10_MatchCover.j0
   repeat' first
   | (with_reducible exact ih0 _ _ _ _ _ _)
   | (with_reducible exact ih1 _ _ _ _)
   | (with_reducible exact ih2 _ _ _ _)
   | (with_reducible exact ih3 _ _ _ _ _)
   | (with_reducible exact dancestudiolaw10_ascends.mono _ _ _)
   | (with_reducible exact dancestudiolaw10_awake.mono _)
   | (with_reducible exact dancestudiolaw10_has.mono _ _ _)
   | (with_reducible exact dancestudiolaw10_size.mono _ _)
   | (with_reducible exact match_Check.mono _ _)
   | (with_reducible exact match_Cover.mono _ _)
   | (with_reducible exact match_Match.mono _ _)
   | (with_reducible exact match_Size.mono _ _)
   | (with_reducible exact match_Valid.mono _ _ _)
   | (with_reducible exact LeO.refl _)
   | (with_reducible exact LeO.none _)
   | (with_reducible refine LeO.ite ?_ ?_)
   | (with_reducible refine LeO.bind ?_ (fun _ => ?_))
   | exact ih0 _ _ _ _ _ _
   | exact ih1 _ _ _ _
   | exact ih2 _ _ _ _
   | exact ih3 _ _ _ _ _
   | exact dancestudiolaw10_ascends.mono _ _ _
   | exact dancestudiolaw10_awake.mono _
   | exact dancestudiolaw10_has.mono _ _ _
   | exact dancestudiolaw10_size.mono _ _
   | exact match_Check.mono _ _
   | exact match_Cover.mono _ _
   | exact match_Match.mono _ _
   | exact match_Size.mono _ _
   | exact match_Valid.mono _ _ _
   | exact LeO.none _
   | refine LeO.ite ?_ ?_
   | refine LeO.bind ?_ (fun _ => ?_)
  ·
   intro y0 y1 y2 y3
   unfold dancestudiolaw10_MatchCover.j1
   repeat' first
   | (with_reducible exact ih0 _ _ _ _ _ _)
   | (with_reducible exact ih1 _ _ _ _)
   | (with_reducible exact ih2 _ _ _ _)
   | (with_reducible exact ih3 _ _ _ _ _)
   | (with_reducible exact dancestudiolaw10_ascends.mono _ _ _)
   | (with_reducible exact dancestudiolaw10_awake.mono _)
   | (with_reducible exact dancestudiolaw10_has.mono _ _ _)
   | (with_reducible exact dancestudiolaw10_size.mono _ _)
   | (with_reducible exact match_Check.mono _ _)
   | (with_reducible exact match_Cover.mono _ _)
   | (with_reducible exact match_Match.mono _ _)
   | (with_reducible exact match_Size.mono _ _)
   | (with_reducible exact match_Valid.mono _ _ _)
   | (with_reducible exact LeO.refl _)
   | (with_reducible exact LeO.none _)
   | (with_reducible refine LeO.ite ?_ ?_)
   | (with_reducible refine LeO.bind ?_ (fun _ => ?_))
   | exact ih0 _ _ _ _ _ _
   | exact ih1 _ _ _ _
   | exact ih2 _ _ _ _
   | exact ih3 _ _ _ _ _
   | exact dancestudiolaw10_ascends.mono _ _ _
   | exact dancestudiolaw10_awake.mono _
   | exact dancestudiolaw10_has.mono _ _ _
   | exact dancestudiolaw10_size.mono _ _
   | exact match_Check.mono _ _
   | exact match_Cover.mono _ _
   | exact match_Match.mono _ _
   | exact match_Size.mono _ _
   | exact match_Valid.mono _ _ _
   | exact LeO.none _
   | refine LeO.ite ?_ ?_
   | refine LeO.bind ?_ (fun _ => ?_)
  ·
   intro y0 y1 y2 y3
   unfold dancestudiolaw10_MatchCover.l0
   repeat' first
   | (with_reducible exact ih0 _ _ _ _ _ _)
   | (with_reducible exact ih1 _ _ _ _)
   | (with_reducible exact ih2 _ _ _ _)
   | (with_reducible exact ih3 _ _ _ _ _)
   | (with_reducible exact dancestudiolaw10_ascends.mono _ _ _)
   | (with_reducible exact dancestudiolaw10_awake.mono _)
   | (with_reducible exact dancestudiolaw10_has.mono _ _ _)
   | (with_reducible exact dancestudiolaw10_size.mono _ _)
   | (with_reducible exact match_Check.mono _ _)
   | (with_reducible exact match_Cover.mono _ _)
   | (with_reducible exact match_Match.mono _ _)
   | (with_reducible exact match_Size.mono _ _)
   | (with_reducible exact match_Valid.mono _ _ _)
   | (with_reducible exact LeO.refl _)
   | (with_reducible exact LeO.none _)
   | (with_reducible refine LeO.ite ?_ ?_)
   | (with_reducible refine LeO.bind ?_ (fun _ => ?_))
   | exact ih0 _ _ _ _ _ _
   | exact ih1 _ _ _ _
   | exact ih2 _ _ _ _
   | exact ih3 _ _ _ _ _
   | exact dancestudiolaw10_ascends.mono _ _ _
   | exact dancestudiolaw10_awake.mono _
   | exact dancestudiolaw10_has.mono _ _ _
   | exact dancestudiolaw10_size.mono _ _
   | exact match_Check.mono _ _
   | exact match_Cover.mono _ _
   | exact match_Match.mono _ _
   | exact match_Size.mono _ _
   | exact match_Valid.mono _ _ _
   | exact LeO.none _
   | refine LeO.ite ?_ ?_
   | refine LeO.bind ?_ (fun _ => ?_)
  ·
   intro y0 y1 y2 y3 y4
   unfold dancestudiolaw10_MatchCover.l1
   repeat' first
   | (with_reducible exact ih0 _ _ _ _ _ _)
   | (with_reducible exact ih1 _ _ _ _)
   | (with_reducible exact ih2 _ _ _ _)
   | (with_reducible exact ih3 _ _ _ _ _)
   | (with_reducible exact dancestudiolaw10_ascends.mono _ _ _)
   | (with_reducible exact dancestudiolaw10_awake.mono _)
   | (with_reducible exact dancestudiolaw10_has.mono _ _ _)
   | (with_reducible exact dancestudiolaw10_size.mono _ _)
   | (with_reducible exact match_Check.mono _ _)
   | (with_reducible exact match_Cover.mono _ _)
   | (with_reducible exact match_Match.mono _ _)
   | (with_reducible exact match_Size.mono _ _)
   | (with_reducible exact match_Valid.mono _ _ _)
   | (with_reducible exact LeO.refl _)
   | (with_reducible exact LeO.none _)
   | (with_reducible refine LeO.ite ?_ ?_)
   | (with_reducible refine LeO.bind ?_ (fun _ => ?_))
   | exact ih0 _ _ _ _ _ _
   | exact ih1 _ _ _ _
   | exact ih2 _ _ _ _
   | exact ih3 _ _ _ _ _
   | exact dancestudiolaw10_ascends.mono _ _ _
   | exact dancestudiolaw10_awake.mono _
   | exact dancestudiolaw10_has.mono _ _ _
   | exact dancestudiolaw10_size.mono _ _
   | exact match_Check.mono _ _
   | exact match_Cover.mono _ _
   | exact match_Match.mono _ _
   | exact match_Size.mono _ _
   | exact match_Valid.mono _ _ _
   | exact LeO.none _
   | refine LeO.ite ?_ ?_
   | refine LeO.bind ?_ (fun _ => ?_)
theorem dancestudiolaw10_MatchCover.mono : ∀ a0 k, LeO (dancestudiolaw10_MatchCover.f k a0) (dancestudiolaw10_MatchCover.f (k + 1) a0) := by
 intro a0 k
 obtain ⟨ih0, ih1, ih2, ih3⟩ := dancestudiolaw10_MatchCover.mono_l k
 unfold dancestudiolaw10_MatchCover.f
 repeat' first
   | (with_reducible exact ih0 _ _ _ _ _ _)
   | (with_reducible exact ih1 _ _ _ _)
   | (with_reducible exact ih2 _ _ _ _)
   | (with_reducible exact ih3 _ _ _ _ _)
   | (with_reducible exact dancestudiolaw10_ascends.mono _ _ _)
   | (with_reducible exact dancestudiolaw10_awake.mono _)
   | (with_reducible exact dancestudiolaw10_has.mono _ _ _)
   | (with_reducible exact dancestudiolaw10_size.mono _ _)
   | (with_reducible exact match_Check.mono _ _)
   | (with_reducible exact match_Cover.mono _ _)
   | (with_reducible exact match_Match.mono _ _)
   | (with_reducible exact match_Size.mono _ _)
   | (with_reducible exact match_Valid.mono _ _ _)
   | (with_reducible exact LeO.refl _)
   | (with_reducible exact LeO.none _)
   | (with_reducible refine LeO.ite ?_ ?_)
   | (with_reducible refine LeO.bind ?_ (fun _ => ?_))
   | exact ih0 _ _ _ _ _ _
   | exact ih1 _ _ _ _
   | exact ih2 _ _ _ _
   | exact ih3 _ _ _ _ _
   | exact dancestudiolaw10_ascends.mono _ _ _
   | exact dancestudiolaw10_awake.mono _
   | exact dancestudiolaw10_has.mono _ _ _
   | exact dancestudiolaw10_size.mono _ _
   | exact match_Check.mono _ _
   | exact match_Cover.mono _ _
   | exact match_Match.mono _ _
   | exact match_Size.mono _ _
   | exact match_Valid.mono _ _ _
   | exact LeO.none _
   | refine LeO.ite ?_ ?_
   | refine LeO.bind ?_ (fun _ => ?_)
set_option maxHeartbeats 8000000 in
set_option maxRecDepth 100000 in
theorem dancestudiolaw10_MatchCover.calls (k : Nat) (A0 : Option Addr) (c0 : Nat) (l0 : List (List Bool)) (r : Bool) (w : World) (hr0 : Kd.C (Kd.slice 4 Kd.bool) w A0 l0.length l0) (hc0 : l0.length ≤ c0) (h : dancestudiolaw10_MatchCover.f k l0 = some r) :
  Calls Try.prog 5 #[.slice A0 l0.length c0] w fun e w' => e = .returned (.bool r) ∧ Below w.heap.size w w' := by
 have HR0 := Aside0.mk hr0
 have HC0 := Aside0.mk hc0
 clear hr0 hc0
 have HB := Aside0.mk (Below.refl w.heap.size w)
 have H : ((match_Size.f k l0).bind fun bt411 => ((match_Match.f k l0).bind fun bt413 => ((match_Cover.f k l0).bind fun bt417 => ((match_Check.f k l0).bind fun t424 => (if t424 = 0 then (if bt411.2 = 0 then (if bt413.2 = 0 then (if bt417.2.2 = 0 then (dancestudiolaw10_MatchCover.j0 k l0 bt411.1 bt413.1 bt417.1 bt417.2.1 (decide ((l0.length : Int) > 24))) else (dancestudiolaw10_MatchCover.j0 k l0 bt411.1 bt413.1 bt417.1 bt417.2.1 true)) else (dancestudiolaw10_MatchCover.j0 k l0 bt411.1 bt413.1 bt417.1 bt417.2.1 true)) else (dancestudiolaw10_MatchCover.j0 k l0 bt411.1 bt413.1 bt417.1 bt417.2.1 true)) else (if bt411.1 = 0 then (if (bt413.1.length : Int) = 0 then (if (bt417.1.length : Int) = 0 then (if (bt417.2.1.length : Int) = 0 then (if bt411.2 = t424 then (if bt413.2 = t424 then (if bt417.2.2 = t424 then ((dancestudiolaw10_awake.f k).bind fun t425 => (some t425)) else (none)) else (none)) else (none)) else (none)) else (none)) else (none)) else (none))))))) = some r := h
 clear h
 replace H := Option.bind_eq_some_iff.mp H
 obtain ⟨⟨t411, t412⟩, A20, H⟩ := H
 replace H : ((match_Match.f k l0).bind fun bt413 => ((match_Cover.f k l0).bind fun bt417 => ((match_Check.f k l0).bind fun t424 => (if t424 = 0 then (if t412 = 0 then (if bt413.2 = 0 then (if bt417.2.2 = 0 then (dancestudiolaw10_MatchCover.j0 k l0 t411 bt413.1 bt417.1 bt417.2.1 (decide ((l0.length : Int) > 24))) else (dancestudiolaw10_MatchCover.j0 k l0 t411 bt413.1 bt417.1 bt417.2.1 true)) else (dancestudiolaw10_MatchCover.j0 k l0 t411 bt413.1 bt417.1 bt417.2.1 true)) else (dancestudiolaw10_MatchCover.j0 k l0 t411 bt413.1 bt417.1 bt417.2.1 true)) else (if t411 = 0 then (if (bt413.1.length : Int) = 0 then (if (bt417.1.length : Int) = 0 then (if (bt417.2.1.length : Int) = 0 then (if t412 = t424 then (if bt413.2 = t424 then (if bt417.2.2 = t424 then ((dancestudiolaw10_awake.f k).bind fun t425 => (some t425)) else (none)) else (none)) else (none)) else (none)) else (none)) else (none)) else (none)))))) = some r := H
 have A2 := Aside0.mk A20
 clear A20
 replace H := Option.bind_eq_some_iff.mp H
 obtain ⟨⟨t413, t414⟩, A30, H⟩ := H
 replace H : ((match_Cover.f k l0).bind fun bt417 => ((match_Check.f k l0).bind fun t424 => (if t424 = 0 then (if t412 = 0 then (if t414 = 0 then (if bt417.2.2 = 0 then (dancestudiolaw10_MatchCover.j0 k l0 t411 t413 bt417.1 bt417.2.1 (decide ((l0.length : Int) > 24))) else (dancestudiolaw10_MatchCover.j0 k l0 t411 t413 bt417.1 bt417.2.1 true)) else (dancestudiolaw10_MatchCover.j0 k l0 t411 t413 bt417.1 bt417.2.1 true)) else (dancestudiolaw10_MatchCover.j0 k l0 t411 t413 bt417.1 bt417.2.1 true)) else (if t411 = 0 then (if (t413.length : Int) = 0 then (if (bt417.1.length : Int) = 0 then (if (bt417.2.1.length : Int) = 0 then (if t412 = t424 then (if t414 = t424 then (if bt417.2.2 = t424 then ((dancestudiolaw10_awake.f k).bind fun t425 => (some t425)) else (none)) else (none)) else (none)) else (none)) else (none)) else (none)) else (none))))) = some r := H
 have A3 := Aside0.mk A30
 clear A30
 replace H := Option.bind_eq_some_iff.mp H
 obtain ⟨⟨t417, t418, t419⟩, A40, H⟩ := H
 replace H : ((match_Check.f k l0).bind fun t424 => (if t424 = 0 then (if t412 = 0 then (if t414 = 0 then (if t419 = 0 then (dancestudiolaw10_MatchCover.j0 k l0 t411 t413 t417 t418 (decide ((l0.length : Int) > 24))) else (dancestudiolaw10_MatchCover.j0 k l0 t411 t413 t417 t418 true)) else (dancestudiolaw10_MatchCover.j0 k l0 t411 t413 t417 t418 true)) else (dancestudiolaw10_MatchCover.j0 k l0 t411 t413 t417 t418 true)) else (if t411 = 0 then (if (t413.length : Int) = 0 then (if (t417.length : Int) = 0 then (if (t418.length : Int) = 0 then (if t412 = t424 then (if t414 = t424 then (if t419 = t424 then ((dancestudiolaw10_awake.f k).bind fun t425 => (some t425)) else (none)) else (none)) else (none)) else (none)) else (none)) else (none)) else (none)))) = some r := H
 have A4 := Aside0.mk A40
 clear A40
 replace H := Option.bind_eq_some_iff.mp H
 obtain ⟨t424, A50, H⟩ := H
 replace H : (if t424 = 0 then (if t412 = 0 then (if t414 = 0 then (if t419 = 0 then (dancestudiolaw10_MatchCover.j0 k l0 t411 t413 t417 t418 (decide ((l0.length : Int) > 24))) else (dancestudiolaw10_MatchCover.j0 k l0 t411 t413 t417 t418 true)) else (dancestudiolaw10_MatchCover.j0 k l0 t411 t413 t417 t418 true)) else (dancestudiolaw10_MatchCover.j0 k l0 t411 t413 t417 t418 true)) else (if t411 = 0 then (if (t413.length : Int) = 0 then (if (t417.length : Int) = 0 then (if (t418.length : Int) = 0 then (if t412 = t424 then (if t414 = t424 then (if t419 = t424 then ((dancestudiolaw10_awake.f k).bind fun t425 => (some t425)) else (none)) else (none)) else (none)) else (none)) else (none)) else (none)) else (none))) = some r := H
 have A5 := Aside0.mk A50
 clear A50
 by_cases c6 : t424 = 0
 ·
  rw [if_pos c6] at H
  have c6b0 : (t424 == 0) = true := beq_iff_eq.mpr c6
  have c6b1 : (t424 != 0) = false := bne_eq_false_iff_eq.mpr c6
  clear c6
  have HC7 := Aside0.mk H
  clear H
  go_enter Try.func5, Try.ntmps5
  go_upto_region 7 with (first | ((with_reducible refine gate_callee (f := 11) rfl ?_); refine goesL_ (some 15) rfl rfl Try.func11 (by kernel_rfl) rfl #[.slice A0 l0.length c0] rfl (by (try simp only [List.map_toArray, List.map_cons, List.map_nil]); first | done | rfl | (simp only [List.length_drop, List.length_take]; rfl)) ?_; (with_reducible refine (match_Size.calls k _ _ l0 t411 t412 _ ?side1 ?side2 A2.out).mono ?_); (case side1 => repeat (first | exact HR0.out | (with_reducible refine Kd.C_alloc ?_ _) | (with_reducible refine Kd.C_drewN ?_ _) | (with_reducible refine Kd.C_drew ?_))); (case side2 => exact HC0.out); rintro e w8 ⟨rfl, hb⟩; refine ⟨_, rfl, ?_⟩; have n0_ := Aside0.mk (below_step (by repeat (first | (with_reducible first | exact HB.out | apply below_alloc | apply pw_below_drewN | apply below_drew1) | exact HB.out)) hb); clear HB; have HB := n0_; clear n0_; (try clear hb); (try clear hb2); (try clear hk); (try clear hi)) | ((with_reducible refine gate_callee (f := 16) rfl ?_); refine goesL_ (some 20) rfl rfl Try.func16 (by kernel_rfl) rfl #[.slice A0 l0.length c0] rfl (by (try simp only [List.map_toArray, List.map_cons, List.map_nil]); first | done | rfl | (simp only [List.length_drop, List.length_take]; rfl)) ?_; (with_reducible refine (match_Match.calls k _ _ l0 t413 t414 _ ?side1 ?side2 A3.out).mono ?_); (case side1 => repeat (first | exact (Kd.C_below HR0.out HB.out) | (with_reducible refine Kd.C_alloc ?_ _) | (with_reducible refine Kd.C_drewN ?_ _) | (with_reducible refine Kd.C_drew ?_))); (case side2 => exact HC0.out); rintro e w9 ⟨v415, rfl, ho0, hb⟩; refine ⟨_, rfl, ?_⟩; have n0_ := Aside0.mk (Kd.R_lower ho0 (below_size (by repeat (first | (with_reducible first | exact HB.out | apply below_alloc | apply pw_below_drewN | apply below_drew1) | exact HB.out)))); have n1_ := Aside0.mk (below_step (by repeat (first | (with_reducible first | exact HB.out | apply below_alloc | apply pw_below_drewN | apply below_drew1) | exact HB.out)) hb); clear HB; have HO416 := n0_; have HB := n1_; clear n0_ n1_; (try clear hb); (try clear hb2); (try clear hk); (try clear hi); (try clear ho0)) | ((with_reducible refine gate_callee (f := 19) rfl ?_); refine goesL_ (some 25) rfl rfl Try.func19 (by kernel_rfl) rfl #[.slice A0 l0.length c0] rfl (by (try simp only [List.map_toArray, List.map_cons, List.map_nil]); first | done | rfl | (simp only [List.length_drop, List.length_take]; rfl)) ?_; (with_reducible refine (match_Cover.calls k _ _ l0 t417 t418 t419 _ ?side1 ?side2 A4.out).mono ?_); (case side1 => repeat (first | exact (Kd.C_below HR0.out HB.out) | (with_reducible refine Kd.C_alloc ?_ _) | (with_reducible refine Kd.C_drewN ?_ _) | (with_reducible refine Kd.C_drew ?_))); (case side2 => exact HC0.out); rintro e w10 ⟨v420, v422, rfl, ho0, ho1, hb⟩; refine ⟨_, rfl, ?_⟩; have n0_ := Aside0.mk (Kd.R_mono (Kd.R_told (Kd.R_told (Kd.R_old (by (with_reducible repeat (first | apply Kd.R_alloc | apply Kd.R_drewN | apply Kd.R_drew)); exact HO416.out) hb) (Kd.R_base ho0)) (Kd.R_base ho1)) (fun _ h_ => h_.1)); have n1_ := Aside0.mk (Kd.R_lower (Kd.R_new' ho0 (Kd.R_lt (by (with_reducible repeat (first | apply Kd.R_alloc | apply Kd.R_drewN | apply Kd.R_drew)); exact HO416.out))) (below_size (by repeat (first | (with_reducible first | exact HB.out | apply below_alloc | apply pw_below_drewN | apply below_drew1) | exact HB.out)))); have n2_ := Aside0.mk (Kd.R_lower (Kd.R_new' ho1 (Kd.R_lt (by (with_reducible repeat (first | apply Kd.R_alloc | apply Kd.R_drewN | apply Kd.R_drew)); exact HO416.out))) (below_size (by repeat (first | (with_reducible first | exact HB.out | apply below_alloc | apply pw_below_drewN | apply below_drew1) | exact HB.out)))); have n3_ := Aside0.mk (below_step (by repeat (first | (with_reducible first | exact HB.out | apply below_alloc | apply pw_below_drewN | apply below_drew1) | exact HB.out)) hb); clear HO416; clear HB; have HO416 := n0_; have HO421 := n1_; have HO423 := n2_; have HB := n3_; clear n0_ n1_ n2_ n3_; (try clear hb); (try clear hb2); (try clear hk); (try clear hi); (try clear ho0); (try clear ho1)) | ((with_reducible refine gate_callee (f := 13) rfl ?_); refine goesL_ (some 30) rfl rfl Try.func13 (by kernel_rfl) rfl #[.slice A0 l0.length c0] rfl (by (try simp only [List.map_toArray, List.map_cons, List.map_nil]); first | done | rfl | (simp only [List.length_drop, List.length_take]; rfl)) ?_; (with_reducible refine (match_Check.calls k _ _ l0 t424 _ ?side1 ?side2 A5.out).mono ?_); (case side1 => repeat (first | exact (Kd.C_below HR0.out HB.out) | (with_reducible refine Kd.C_alloc ?_ _) | (with_reducible refine Kd.C_drewN ?_ _) | (with_reducible refine Kd.C_drew ?_))); (case side2 => exact HC0.out); rintro e w' ⟨rfl, ⟨nd, rfl⟩⟩; refine ⟨_, rfl, ?_⟩))
  (try simp only [Act.put, List.setIfInBounds_toArray, List.set_cons_zero, List.set_cons_succ])
  go_cut [82] (fun v82 wc => ∃ (kq : Nat) (x82_6 : Bool), v82 = .bool x82_6 ∧ Aside0 (dancestudiolaw10_MatchCover.j0 kq l0 t411 t413 t417 t418 x82_6 = some r) ∧ Aside0 (kq ≤ k) ∧ Aside0 (Kd.R (Kd.int .i64) 3 wc w.heap.size (fun k_ => some k_ ≠ (v420 : Value).ownBlock ∧ some k_ ≠ (v422 : Value).ownBlock) v415 t413) ∧ Aside0 (Kd.R (Kd.int .i64) 3 wc w.heap.size (fun k_ => some k_ ≠ (v415 : Value).ownBlock ∧ some k_ ≠ (v422 : Value).ownBlock) v420 t417) ∧ Aside0 (Kd.R (Kd.int .i64) 3 wc w.heap.size (fun k_ => some k_ ≠ (v415 : Value).ownBlock ∧ some k_ ≠ (v420 : Value).ownBlock) v422 t418) ∧ Aside0 (Below w.heap.size w wc))
  case first =>
   have H := HC7.out
   clear HC7
   by_cases c11 : t412 = 0
   ·
    rw [if_pos c11] at H
    have c11b0 : (t412 == 0) = true := beq_iff_eq.mpr c11
    have c11b1 : (t412 != 0) = false := bne_eq_false_iff_eq.mpr c11
    clear c11
    (first | rw [c11b0] | (simp only [i64_w, i32_w]; rw [c11b0]) | skip)
    by_cases c12 : t414 = 0
    ·
     rw [if_pos c12] at H
     have c12b0 : (t414 == 0) = true := beq_iff_eq.mpr c12
     have c12b1 : (t414 != 0) = false := bne_eq_false_iff_eq.mpr c12
     clear c12
     by_cases c13 : t419 = 0
     ·
      rw [if_pos c13] at H
      have c13b0 : (t419 == 0) = true := beq_iff_eq.mpr c13
      have c13b1 : (t419 != 0) = false := bne_eq_false_iff_eq.mpr c13
      clear c13
      have H' := Aside0.mk H
      clear H
      go_wp2
      go_meet
      case rel => exact ⟨_, (decide ((l0.length : Int) > 24)), (by first | rfl | (simp; done) | (simp [*]; done)), H', ⟨by first | omega | exact Nat.le_refl _⟩, ⟨by (with_reducible repeat (first | apply Kd.R_alloc | apply Kd.R_drewN | apply Kd.R_drew)); exact Kd.R_mono HO416.out (fun _ hk => ⟨hk.1.2, hk.2⟩)⟩, ⟨by (with_reducible repeat (first | apply Kd.R_alloc | apply Kd.R_drewN | apply Kd.R_drew)); exact Kd.R_mono HO421.out (fun _ hk => ⟨hk.2, hk.1⟩)⟩, ⟨by (with_reducible repeat (first | apply Kd.R_alloc | apply Kd.R_drewN | apply Kd.R_drew)); exact Kd.R_mono HO423.out (fun _ hk => ⟨hk.2, hk.1⟩)⟩, ⟨by repeat (first | (with_reducible first | exact HB.out | apply below_alloc | apply pw_below_drewN | apply below_drew1) | exact HB.out)⟩⟩
     ·
      rw [if_neg c13] at H
      have c13b0 : (t419 == 0) = false := beq_eq_false_iff_ne.mpr c13
      have c13b1 : (t419 != 0) = true := bne_iff_ne.mpr c13
      have H' := Aside0.mk H
      clear H
      go_wp2
      go_meet
      case rel => exact ⟨_, (true), (by first | rfl | (simp; done) | (simp [*]; done)), H', ⟨by first | omega | exact Nat.le_refl _⟩, ⟨by (with_reducible repeat (first | apply Kd.R_alloc | apply Kd.R_drewN | apply Kd.R_drew)); exact Kd.R_mono HO416.out (fun _ hk => ⟨hk.1.2, hk.2⟩)⟩, ⟨by (with_reducible repeat (first | apply Kd.R_alloc | apply Kd.R_drewN | apply Kd.R_drew)); exact Kd.R_mono HO421.out (fun _ hk => ⟨hk.2, hk.1⟩)⟩, ⟨by (with_reducible repeat (first | apply Kd.R_alloc | apply Kd.R_drewN | apply Kd.R_drew)); exact Kd.R_mono HO423.out (fun _ hk => ⟨hk.2, hk.1⟩)⟩, ⟨by repeat (first | (with_reducible first | exact HB.out | apply below_alloc | apply pw_below_drewN | apply below_drew1) | exact HB.out)⟩⟩
    ·
     rw [if_neg c12] at H
     have c12b0 : (t414 == 0) = false := beq_eq_false_iff_ne.mpr c12
     have c12b1 : (t414 != 0) = true := bne_iff_ne.mpr c12
     have H' := Aside0.mk H
     clear H
     go_wp2
     go_meet
     case rel => exact ⟨_, (true), (by first | rfl | (simp; done) | (simp [*]; done)), H', ⟨by first | omega | exact Nat.le_refl _⟩, ⟨by (with_reducible repeat (first | apply Kd.R_alloc | apply Kd.R_drewN | apply Kd.R_drew)); exact Kd.R_mono HO416.out (fun _ hk => ⟨hk.1.2, hk.2⟩)⟩, ⟨by (with_reducible repeat (first | apply Kd.R_alloc | apply Kd.R_drewN | apply Kd.R_drew)); exact Kd.R_mono HO421.out (fun _ hk => ⟨hk.2, hk.1⟩)⟩, ⟨by (with_reducible repeat (first | apply Kd.R_alloc | apply Kd.R_drewN | apply Kd.R_drew)); exact Kd.R_mono HO423.out (fun _ hk => ⟨hk.2, hk.1⟩)⟩, ⟨by repeat (first | (with_reducible first | exact HB.out | apply below_alloc | apply pw_below_drewN | apply below_drew1) | exact HB.out)⟩⟩
   ·
    rw [if_neg c11] at H
    have c11b0 : (t412 == 0) = false := beq_eq_false_iff_ne.mpr c11
    have c11b1 : (t412 != 0) = true := bne_iff_ne.mpr c11
    (first | rw [c11b0] | (simp only [i64_w, i32_w]; rw [c11b0]) | skip)
    have H' := Aside0.mk H
    clear H
    go_wp2
    go_meet
    case rel => exact ⟨_, (true), (by first | rfl | (simp; done) | (simp [*]; done)), H', ⟨by first | omega | exact Nat.le_refl _⟩, ⟨by (with_reducible repeat (first | apply Kd.R_alloc | apply Kd.R_drewN | apply Kd.R_drew)); exact Kd.R_mono HO416.out (fun _ hk => ⟨hk.1.2, hk.2⟩)⟩, ⟨by (with_reducible repeat (first | apply Kd.R_alloc | apply Kd.R_drewN | apply Kd.R_drew)); exact Kd.R_mono HO421.out (fun _ hk => ⟨hk.2, hk.1⟩)⟩, ⟨by (with_reducible repeat (first | apply Kd.R_alloc | apply Kd.R_drewN | apply Kd.R_drew)); exact Kd.R_mono HO423.out (fun _ hk => ⟨hk.2, hk.1⟩)⟩, ⟨by repeat (first | (with_reducible first | exact HB.out | apply below_alloc | apply pw_below_drewN | apply below_drew1) | exact HB.out)⟩⟩
  case rest =>
   clear HC7
   try clear c1
   try clear p2
   try clear c5
   try clear c6
   try clear c6b0
   try clear c6b1
   try clear c11
   try clear c11b0
   try clear c11b1
   try clear c12
   try clear c12b0
   try clear c12b1
   try clear c13
   try clear c13b0
   try clear c13b1
   obtain ⟨kq, x82_6, rfl, HA, HJ6, HO_5, HO_7, HO_8, HB⟩ := hcut
   cases kq with
   | zero => exact absurd HA.out (by simp [dancestudiolaw10_MatchCover.j0])
   | succ kj6 =>
    have H := HA.out
    clear HA
    simp only [dancestudiolaw10_MatchCover.j0] at H
    by_cases c14 : x82_6 = true
    ·
     subst c14
     have H1 : (none) = some r := by rw [if_pos rfl] at H; exact H
     clear H
     have H := H1
     clear H1
     exact absurd H (by simp)
    ·
     replace c14 := Bool.eq_false_iff.mpr c14
     subst c14
     have H1 : (if (t413.length : Int) = (l0.length : Int) then ((match_Valid.f kj6 l0 t413).bind fun t426 => (if t426 = true then ((dancestudiolaw10_size.f kj6 t413).bind fun t427 => (if t427 = t411 then (if (wrap64 ((t417.length : Int) + (t418.length : Int))) = t411 then ((dancestudiolaw10_ascends.f kj6 t417 (l0.length : Int)).bind fun t428 => (dancestudiolaw10_MatchCover.j1 kj6 l0 t417 t418 (!t428))) else (dancestudiolaw10_MatchCover.j1 kj6 l0 t417 t418 true)) else (dancestudiolaw10_MatchCover.j1 kj6 l0 t417 t418 true))) else (dancestudiolaw10_MatchCover.j1 kj6 l0 t417 t418 true))) else (dancestudiolaw10_MatchCover.j1 kj6 l0 t417 t418 true)) = some r := by rw [if_neg (show ¬ (false = true) by decide)] at H; exact H
     clear H
     have H := H1
     clear H1
     have HC15 := Aside0.mk H
     clear H
     go_upto_region 9 with (fail)
     go_cut [115] (fun v115 wc => ∃ (kq : Nat) (x115_14 : Bool), v115 = .bool x115_14 ∧ Aside0 (dancestudiolaw10_MatchCover.j1 kq l0 t417 t418 x115_14 = some r) ∧ Aside0 (kq ≤ kj6) ∧ Aside0 (Kd.R (Kd.int .i64) 3 wc w.heap.size (fun k_ => some k_ ≠ (v422 : Value).ownBlock) v420 t417) ∧ Aside0 (Kd.R (Kd.int .i64) 3 wc w.heap.size (fun k_ => some k_ ≠ (v420 : Value).ownBlock) v422 t418) ∧ Aside0 (Below w.heap.size w wc))
     case first =>
      have H := HC15.out
      clear HC15
      by_cases c16 : (t413.length : Int) = (l0.length : Int)
      ·
       rw [if_pos c16] at H
       have c16b0 : ((t413.length : Int) == (l0.length : Int)) = true := beq_iff_eq.mpr c16
       have c16b1 : ((t413.length : Int) != (l0.length : Int)) = false := bne_eq_false_iff_eq.mpr c16
       have c16b2 : (t413.length == l0.length) = true := by first | simpa using c16 | (simp at c16 ⊢; omega)
       clear c16
       (first | rw [c16b0] | (simp only [i64_w, i32_w]; rw [c16b0]) | skip)
       replace H := Option.bind_eq_some_iff.mp H
       obtain ⟨t426, A170, H⟩ := H
       replace H : (if t426 = true then ((dancestudiolaw10_size.f kj6 t413).bind fun t427 => (if t427 = t411 then (if (wrap64 ((t417.length : Int) + (t418.length : Int))) = t411 then ((dancestudiolaw10_ascends.f kj6 t417 (l0.length : Int)).bind fun t428 => (dancestudiolaw10_MatchCover.j1 kj6 l0 t417 t418 (!t428))) else (dancestudiolaw10_MatchCover.j1 kj6 l0 t417 t418 true)) else (dancestudiolaw10_MatchCover.j1 kj6 l0 t417 t418 true))) else (dancestudiolaw10_MatchCover.j1 kj6 l0 t417 t418 true)) = some r := H
       have A17 := Aside0.mk A170
       clear A170
       by_cases c18 : t426 = true
       ·
        subst c18
        have H1 : ((dancestudiolaw10_size.f kj6 t413).bind fun t427 => (if t427 = t411 then (if (wrap64 ((t417.length : Int) + (t418.length : Int))) = t411 then ((dancestudiolaw10_ascends.f kj6 t417 (l0.length : Int)).bind fun t428 => (dancestudiolaw10_MatchCover.j1 kj6 l0 t417 t418 (!t428))) else (dancestudiolaw10_MatchCover.j1 kj6 l0 t417 t418 true)) else (dancestudiolaw10_MatchCover.j1 kj6 l0 t417 t418 true))) = some r := by rw [if_pos rfl] at H; exact H
        clear H
        have H := H1
        clear H1
        replace H := Option.bind_eq_some_iff.mp H
        obtain ⟨t427, A190, H⟩ := H
        replace H : (if t427 = t411 then (if (wrap64 ((t417.length : Int) + (t418.length : Int))) = t411 then ((dancestudiolaw10_ascends.f kj6 t417 (l0.length : Int)).bind fun t428 => (dancestudiolaw10_MatchCover.j1 kj6 l0 t417 t418 (!t428))) else (dancestudiolaw10_MatchCover.j1 kj6 l0 t417 t418 true)) else (dancestudiolaw10_MatchCover.j1 kj6 l0 t417 t418 true)) = some r := H
        have A19 := Aside0.mk A190
        clear A190
        by_cases c20 : t427 = t411
        ·
         rw [if_pos c20] at H
         have c20b0 : (t427 == t411) = true := beq_iff_eq.mpr c20
         have c20b1 : (t427 != t411) = false := bne_eq_false_iff_eq.mpr c20
         clear c20
         by_cases c21 : (wrap64 ((t417.length : Int) + (t418.length : Int))) = t411
         ·
          rw [if_pos c21] at H
          have c21b0 : ((wrap64 ((t417.length : Int) + (t418.length : Int))) == t411) = true := beq_iff_eq.mpr c21
          have c21b1 : ((wrap64 ((t417.length : Int) + (t418.length : Int))) != t411) = false := bne_eq_false_iff_eq.mpr c21
          clear c21
          replace H := Option.bind_eq_some_iff.mp H
          obtain ⟨t428, A220, H⟩ := H
          replace H : (dancestudiolaw10_MatchCover.j1 kj6 l0 t417 t418 (!t428)) = some r := H
          have A22 := Aside0.mk A220
          clear A220
          have H' := Aside0.mk H
          clear H
          obtain ⟨Ao23, co23, eo23⟩ := Kd.R_slice HO_5.out
          subst eo23
          go_wp2_with (first | (go_at_call 20; (with_reducible refine (match_Valid.calls kj6 _ _ l0 _ _ t413 true _ ?side1 ?side2 ?side3 ?side4 A17.out).mono ?_); (case side1 => repeat (first | exact (Kd.C_below HR0.out HB.out) | (with_reducible refine Kd.C_alloc ?_ _) | (with_reducible refine Kd.C_drewN ?_ _) | (with_reducible refine Kd.C_drew ?_))); (case side2 => exact HC0.out); (case side3 => repeat (first | exact (Kd.R_reads' HO_5.out).2.2 | (with_reducible refine Kd.C_alloc ?_ _) | (with_reducible refine Kd.C_drewN ?_ _) | (with_reducible refine Kd.C_drew ?_))); (case side4 => exact (Kd.R_reads' HO_5.out).2.1); rintro e w24 ⟨rfl, hb⟩; have n0_ := Aside0.mk (Kd.R_below (by (with_reducible repeat (first | apply Kd.R_alloc | apply Kd.R_drewN | apply Kd.R_drew)); exact HO_5.out) hb); have n1_ := Aside0.mk (Kd.R_below (by (with_reducible repeat (first | apply Kd.R_alloc | apply Kd.R_drewN | apply Kd.R_drew)); exact HO_7.out) hb); have n2_ := Aside0.mk (Kd.R_below (by (with_reducible repeat (first | apply Kd.R_alloc | apply Kd.R_drewN | apply Kd.R_drew)); exact HO_8.out) hb); have n3_ := Aside0.mk (below_step (by repeat (first | (with_reducible first | exact HB.out | apply below_alloc | apply pw_below_drewN | apply below_drew1) | exact HB.out)) hb); clear HO_5; clear HO_7; clear HO_8; clear HB; have HO_5 := n0_; have HO_7 := n1_; have HO_8 := n2_; have HB := n3_; clear n0_ n1_ n2_ n3_; (try clear hb); (try clear hb2); (try clear hk); (try clear hi)) | (go_at_call 21; (with_reducible refine (dancestudiolaw10_size.calls kj6 _ _ t413 t427 _ ?side1 ?side2 A19.out).mono ?_); (case side1 => repeat (first | exact (Kd.R_reads' HO_5.out).2.2 | (with_reducible refine Kd.C_alloc ?_ _) | (with_reducible refine Kd.C_drewN ?_ _) | (with_reducible refine Kd.C_drew ?_))); (case side2 => exact (Kd.R_reads' HO_5.out).2.1); rintro e w' ⟨rfl, ⟨nd, rfl⟩⟩; obtain ⟨Ao25, co25, eo25⟩ := Kd.R_slice HO_7.out; subst eo25; obtain ⟨Ao26, co26, eo26⟩ := Kd.R_slice HO_8.out; subst eo26) | (go_at_call 22; (with_reducible refine (dancestudiolaw10_ascends.calls kj6 _ _ t417 (l0.length : Int) t428 _ ?side1 ?side2 A22.out).mono ?_); (case side1 => repeat (first | exact (Kd.R_reads' HO_7.out).2.2 | (with_reducible refine Kd.C_alloc ?_ _) | (with_reducible refine Kd.C_drewN ?_ _) | (with_reducible refine Kd.C_drew ?_))); (case side2 => exact (Kd.R_reads' HO_7.out).2.1); rintro e w' ⟨rfl, ⟨nd, rfl⟩⟩))
          go_meet
          case rel => exact ⟨_, (!t428), (by first | rfl | (simp; done) | (simp [*]; done)), H', ⟨by have := HJ6.out; first | omega | exact Nat.le_refl _⟩, ⟨by (with_reducible repeat (first | apply Kd.R_alloc | apply Kd.R_drewN | apply Kd.R_drew)); exact Kd.R_mono HO_7.out (fun _ hk => hk.2)⟩, ⟨by (with_reducible repeat (first | apply Kd.R_alloc | apply Kd.R_drewN | apply Kd.R_drew)); exact Kd.R_mono HO_8.out (fun _ hk => hk.2)⟩, ⟨by repeat (first | (with_reducible first | exact HB.out | apply below_alloc | apply pw_below_drewN | apply below_drew1) | exact HB.out)⟩⟩
         ·
          rw [if_neg c21] at H
          have c21b0 : ((wrap64 ((t417.length : Int) + (t418.length : Int))) == t411) = false := beq_eq_false_iff_ne.mpr c21
          have c21b1 : ((wrap64 ((t417.length : Int) + (t418.length : Int))) != t411) = true := bne_iff_ne.mpr c21
          have H' := Aside0.mk H
          clear H
          obtain ⟨Ao27, co27, eo27⟩ := Kd.R_slice HO_5.out
          subst eo27
          go_wp2_with (first | (go_at_call 20; (with_reducible refine (match_Valid.calls kj6 _ _ l0 _ _ t413 true _ ?side1 ?side2 ?side3 ?side4 A17.out).mono ?_); (case side1 => repeat (first | exact (Kd.C_below HR0.out HB.out) | (with_reducible refine Kd.C_alloc ?_ _) | (with_reducible refine Kd.C_drewN ?_ _) | (with_reducible refine Kd.C_drew ?_))); (case side2 => exact HC0.out); (case side3 => repeat (first | exact (Kd.R_reads' HO_5.out).2.2 | (with_reducible refine Kd.C_alloc ?_ _) | (with_reducible refine Kd.C_drewN ?_ _) | (with_reducible refine Kd.C_drew ?_))); (case side4 => exact (Kd.R_reads' HO_5.out).2.1); rintro e w28 ⟨rfl, hb⟩; have n0_ := Aside0.mk (Kd.R_below (by (with_reducible repeat (first | apply Kd.R_alloc | apply Kd.R_drewN | apply Kd.R_drew)); exact HO_5.out) hb); have n1_ := Aside0.mk (Kd.R_below (by (with_reducible repeat (first | apply Kd.R_alloc | apply Kd.R_drewN | apply Kd.R_drew)); exact HO_7.out) hb); have n2_ := Aside0.mk (Kd.R_below (by (with_reducible repeat (first | apply Kd.R_alloc | apply Kd.R_drewN | apply Kd.R_drew)); exact HO_8.out) hb); have n3_ := Aside0.mk (below_step (by repeat (first | (with_reducible first | exact HB.out | apply below_alloc | apply pw_below_drewN | apply below_drew1) | exact HB.out)) hb); clear HO_5; clear HO_7; clear HO_8; clear HB; have HO_5 := n0_; have HO_7 := n1_; have HO_8 := n2_; have HB := n3_; clear n0_ n1_ n2_ n3_; (try clear hb); (try clear hb2); (try clear hk); (try clear hi)) | (go_at_call 21; (with_reducible refine (dancestudiolaw10_size.calls kj6 _ _ t413 t427 _ ?side1 ?side2 A19.out).mono ?_); (case side1 => repeat (first | exact (Kd.R_reads' HO_5.out).2.2 | (with_reducible refine Kd.C_alloc ?_ _) | (with_reducible refine Kd.C_drewN ?_ _) | (with_reducible refine Kd.C_drew ?_))); (case side2 => exact (Kd.R_reads' HO_5.out).2.1); rintro e w' ⟨rfl, ⟨nd, rfl⟩⟩; obtain ⟨Ao29, co29, eo29⟩ := Kd.R_slice HO_7.out; subst eo29; obtain ⟨Ao30, co30, eo30⟩ := Kd.R_slice HO_8.out; subst eo30))
          go_meet
          case rel => exact ⟨_, (true), (by first | rfl | (simp; done) | (simp [*]; done)), H', ⟨by have := HJ6.out; first | omega | exact Nat.le_refl _⟩, ⟨by (with_reducible repeat (first | apply Kd.R_alloc | apply Kd.R_drewN | apply Kd.R_drew)); exact Kd.R_mono HO_7.out (fun _ hk => hk.2)⟩, ⟨by (with_reducible repeat (first | apply Kd.R_alloc | apply Kd.R_drewN | apply Kd.R_drew)); exact Kd.R_mono HO_8.out (fun _ hk => hk.2)⟩, ⟨by repeat (first | (with_reducible first | exact HB.out | apply below_alloc | apply pw_below_drewN | apply below_drew1) | exact HB.out)⟩⟩
        ·
         rw [if_neg c20] at H
         have c20b0 : (t427 == t411) = false := beq_eq_false_iff_ne.mpr c20
         have c20b1 : (t427 != t411) = true := bne_iff_ne.mpr c20
         have H' := Aside0.mk H
         clear H
         obtain ⟨Ao31, co31, eo31⟩ := Kd.R_slice HO_5.out
         subst eo31
         go_wp2_with (first | (go_at_call 20; (with_reducible refine (match_Valid.calls kj6 _ _ l0 _ _ t413 true _ ?side1 ?side2 ?side3 ?side4 A17.out).mono ?_); (case side1 => repeat (first | exact (Kd.C_below HR0.out HB.out) | (with_reducible refine Kd.C_alloc ?_ _) | (with_reducible refine Kd.C_drewN ?_ _) | (with_reducible refine Kd.C_drew ?_))); (case side2 => exact HC0.out); (case side3 => repeat (first | exact (Kd.R_reads' HO_5.out).2.2 | (with_reducible refine Kd.C_alloc ?_ _) | (with_reducible refine Kd.C_drewN ?_ _) | (with_reducible refine Kd.C_drew ?_))); (case side4 => exact (Kd.R_reads' HO_5.out).2.1); rintro e w32 ⟨rfl, hb⟩; have n0_ := Aside0.mk (Kd.R_below (by (with_reducible repeat (first | apply Kd.R_alloc | apply Kd.R_drewN | apply Kd.R_drew)); exact HO_5.out) hb); have n1_ := Aside0.mk (Kd.R_below (by (with_reducible repeat (first | apply Kd.R_alloc | apply Kd.R_drewN | apply Kd.R_drew)); exact HO_7.out) hb); have n2_ := Aside0.mk (Kd.R_below (by (with_reducible repeat (first | apply Kd.R_alloc | apply Kd.R_drewN | apply Kd.R_drew)); exact HO_8.out) hb); have n3_ := Aside0.mk (below_step (by repeat (first | (with_reducible first | exact HB.out | apply below_alloc | apply pw_below_drewN | apply below_drew1) | exact HB.out)) hb); clear HO_5; clear HO_7; clear HO_8; clear HB; have HO_5 := n0_; have HO_7 := n1_; have HO_8 := n2_; have HB := n3_; clear n0_ n1_ n2_ n3_; (try clear hb); (try clear hb2); (try clear hk); (try clear hi)) | (go_at_call 21; (with_reducible refine (dancestudiolaw10_size.calls kj6 _ _ t413 t427 _ ?side1 ?side2 A19.out).mono ?_); (case side1 => repeat (first | exact (Kd.R_reads' HO_5.out).2.2 | (with_reducible refine Kd.C_alloc ?_ _) | (with_reducible refine Kd.C_drewN ?_ _) | (with_reducible refine Kd.C_drew ?_))); (case side2 => exact (Kd.R_reads' HO_5.out).2.1); rintro e w' ⟨rfl, ⟨nd, rfl⟩⟩))
         go_meet
         case rel => exact ⟨_, (true), (by first | rfl | (simp; done) | (simp [*]; done)), H', ⟨by have := HJ6.out; first | omega | exact Nat.le_refl _⟩, ⟨by (with_reducible repeat (first | apply Kd.R_alloc | apply Kd.R_drewN | apply Kd.R_drew)); exact Kd.R_mono HO_7.out (fun _ hk => hk.2)⟩, ⟨by (with_reducible repeat (first | apply Kd.R_alloc | apply Kd.R_drewN | apply Kd.R_drew)); exact Kd.R_mono HO_8.out (fun _ hk => hk.2)⟩, ⟨by repeat (first | (with_reducible first | exact HB.out | apply below_alloc | apply pw_below_drewN | apply below_drew1) | exact HB.out)⟩⟩
       ·
        replace c18 := Bool.eq_false_iff.mpr c18
        subst c18
        have H1 : (dancestudiolaw10_MatchCover.j1 kj6 l0 t417 t418 true) = some r := by rw [if_neg (show ¬ (false = true) by decide)] at H; exact H
        clear H
        have H := H1
        clear H1
        have H' := Aside0.mk H
        clear H
        obtain ⟨Ao33, co33, eo33⟩ := Kd.R_slice HO_5.out
        subst eo33
        go_wp2_with (first | (go_at_call 20; (with_reducible refine (match_Valid.calls kj6 _ _ l0 _ _ t413 false _ ?side1 ?side2 ?side3 ?side4 A17.out).mono ?_); (case side1 => repeat (first | exact (Kd.C_below HR0.out HB.out) | (with_reducible refine Kd.C_alloc ?_ _) | (with_reducible refine Kd.C_drewN ?_ _) | (with_reducible refine Kd.C_drew ?_))); (case side2 => exact HC0.out); (case side3 => repeat (first | exact (Kd.R_reads' HO_5.out).2.2 | (with_reducible refine Kd.C_alloc ?_ _) | (with_reducible refine Kd.C_drewN ?_ _) | (with_reducible refine Kd.C_drew ?_))); (case side4 => exact (Kd.R_reads' HO_5.out).2.1); rintro e w34 ⟨rfl, hb⟩; have n0_ := Aside0.mk (Kd.R_below (by (with_reducible repeat (first | apply Kd.R_alloc | apply Kd.R_drewN | apply Kd.R_drew)); exact HO_5.out) hb); have n1_ := Aside0.mk (Kd.R_below (by (with_reducible repeat (first | apply Kd.R_alloc | apply Kd.R_drewN | apply Kd.R_drew)); exact HO_7.out) hb); have n2_ := Aside0.mk (Kd.R_below (by (with_reducible repeat (first | apply Kd.R_alloc | apply Kd.R_drewN | apply Kd.R_drew)); exact HO_8.out) hb); have n3_ := Aside0.mk (below_step (by repeat (first | (with_reducible first | exact HB.out | apply below_alloc | apply pw_below_drewN | apply below_drew1) | exact HB.out)) hb); clear HO_5; clear HO_7; clear HO_8; clear HB; have HO_5 := n0_; have HO_7 := n1_; have HO_8 := n2_; have HB := n3_; clear n0_ n1_ n2_ n3_; (try clear hb); (try clear hb2); (try clear hk); (try clear hi)))
        go_meet
        case rel => exact ⟨_, (true), (by first | rfl | (simp; done) | (simp [*]; done)), H', ⟨by have := HJ6.out; first | omega | exact Nat.le_refl _⟩, ⟨by (with_reducible repeat (first | apply Kd.R_alloc | apply Kd.R_drewN | apply Kd.R_drew)); exact Kd.R_mono HO_7.out (fun _ hk => hk.2)⟩, ⟨by (with_reducible repeat (first | apply Kd.R_alloc | apply Kd.R_drewN | apply Kd.R_drew)); exact Kd.R_mono HO_8.out (fun _ hk => hk.2)⟩, ⟨by repeat (first | (with_reducible first | exact HB.out | apply below_alloc | apply pw_below_drewN | apply below_drew1) | exact HB.out)⟩⟩
      ·
       rw [if_neg c16] at H
       have c16b0 : ((t413.length : Int) == (l0.length : Int)) = false := beq_eq_false_iff_ne.mpr c16
       have c16b1 : ((t413.length : Int) != (l0.length : Int)) = true := bne_iff_ne.mpr c16
       have c16b2 : (t413.length == l0.length) = false := by first | simpa using c16 | (simp at c16 ⊢; omega)
       (first | rw [c16b0] | (simp only [i64_w, i32_w]; rw [c16b0]) | skip)
       have H' := Aside0.mk H
       clear H
       obtain ⟨Ao35, co35, eo35⟩ := Kd.R_slice HO_5.out
       subst eo35
       go_wp2
       go_meet
       case rel => exact ⟨_, (true), (by first | rfl | (simp; done) | (simp [*]; done)), H', ⟨by have := HJ6.out; first | omega | exact Nat.le_refl _⟩, ⟨by (with_reducible repeat (first | apply Kd.R_alloc | apply Kd.R_drewN | apply Kd.R_drew)); exact Kd.R_mono HO_7.out (fun _ hk => hk.2)⟩, ⟨by (with_reducible repeat (first | apply Kd.R_alloc | apply Kd.R_drewN | apply Kd.R_drew)); exact Kd.R_mono HO_8.out (fun _ hk => hk.2)⟩, ⟨by repeat (first | (with_reducible first | exact HB.out | apply below_alloc | apply pw_below_drewN | apply below_drew1) | exact HB.out)⟩⟩
     case rest =>
      clear HC15
      try clear c1
      try clear c2
      try clear p2
      try clear c5
      try clear c6
      try clear c6b0
      try clear c6b1
      try clear p6
      try clear c11
      try clear c11b0
      try clear c11b1
      try clear c12
      try clear c12b0
      try clear c12b1
      try clear c13
      try clear c13b0
      try clear c13b1
      try clear c14
      try clear c16
      try clear c16b0
      try clear c16b1
      try clear c16b2
      try clear c18
      try clear c19
      try clear c20
      try clear c20b0
      try clear c20b1
      try clear c21
      try clear c21b0
      try clear c21b1
      try clear p2
      obtain ⟨kq, x115_14, rfl, HA, HJ14, HO_7, HO_8, HB⟩ := hcut
      cases kq with
      | zero => exact absurd HA.out (by simp [dancestudiolaw10_MatchCover.j1])
      | succ kj14 =>
       have H := HA.out
       clear HA
       simp only [dancestudiolaw10_MatchCover.j1] at H
       by_cases c36 : x115_14 = true
       ·
        subst c36
        have H1 : (none) = some r := by rw [if_pos rfl] at H; exact H
        clear H
        have H := H1
        clear H1
        exact absurd H (by simp)
       ·
        replace c36 := Bool.eq_false_iff.mpr c36
        subst c36
        have H1 : (dancestudiolaw10_MatchCover.l0 kj14 l0 t417 t418 0) = some r := by rw [if_neg (show ¬ (false = true) by decide)] at H; exact H
        clear H
        have H := H1
        clear H1
        have H' := Aside0.mk H
        clear H
        go_wp2
        go_loopg [11] kj14 (fun kq v11 w' => ∃ (x11_3 : Int), v11 = .int .i64 x11_3 ∧ Aside0 (dancestudiolaw10_MatchCover.l0 kq l0 t417 t418 x11_3 = some r) ∧ Aside0 (kq ≤ kj14) ∧ Aside0 (Kd.R (Kd.int .i64) 3 w' w.heap.size (fun k_ => some k_ ≠ (v422 : Value).ownBlock) v420 t417) ∧ Aside0 (Kd.R (Kd.int .i64) 3 w' w.heap.size (fun k_ => some k_ ≠ (v420 : Value).ownBlock) v422 t418) ∧ Aside0 (Below w.heap.size w w'))
        case atStart => exact ⟨(0), (by first | rfl | (simp; done) | (simp [*]; done)), H', ⟨Nat.le_refl _⟩, ⟨by (with_reducible repeat (first | apply Kd.R_alloc | apply Kd.R_drewN | apply Kd.R_drew)); exact HO_7.out⟩, ⟨by (with_reducible repeat (first | apply Kd.R_alloc | apply Kd.R_drewN | apply Kd.R_drew)); exact HO_8.out⟩, ⟨by repeat (first | (with_reducible first | exact HB.out | apply below_alloc | apply pw_below_drewN | apply below_drew1) | exact HB.out)⟩⟩
        case round =>
         clear H'
         try clear c1
         try clear c2
         try clear p2
         try clear c3
         try clear c5
         try clear c6
         try clear c6b0
         try clear c6b1
         try clear p6
         try clear c11
         try clear c11b0
         try clear c11b1
         try clear c12
         try clear c12b0
         try clear c12b1
         try clear c13
         try clear c13b0
         try clear c13b1
         try clear c14
         try clear c16
         try clear c16b0
         try clear c16b1
         try clear c16b2
         try clear c18
         try clear c19
         try clear c20
         try clear c20b0
         try clear c20b1
         try clear c21
         try clear c21b0
         try clear c21b1
         try clear c36
         try clear p2
         try clear p6
         obtain ⟨x11_3, rfl, HA, HK3, HO_7, HO_8, HB⟩ := hrel
         cases gk with
         | zero => exact absurd HA.out (by simp [dancestudiolaw10_MatchCover.l0])
         | succ k3 =>
          have H := HA.out
          clear HA
          simp only [dancestudiolaw10_MatchCover.l0] at H
          by_cases c37 : x11_3 < (l0.length : Int)
          ·
           rw [if_pos c37] at H
           have c37b0 : decide (x11_3 < (l0.length : Int)) = true := decide_eq_true c37
           clear c37
           by_cases c38 : 0 ≤ x11_3
           ·
            rw [if_pos c38] at H
            have c38b0 : decide (0 ≤ x11_3) = true := decide_eq_true c38
            clear c38
            replace H := Option.bind_eq_some_iff.mp H
            obtain ⟨t431, A390, H⟩ := H
            replace H : (if t431 = true then (dancestudiolaw10_MatchCover.l1 k3 l0 t417 t418 x11_3 0) else (none)) = some r := H
            have A39 := Aside0.mk A390
            clear A390
            by_cases c40 : t431 = true
            ·
             subst c40
             have H1 : (dancestudiolaw10_MatchCover.l1 k3 l0 t417 t418 x11_3 0) = some r := by rw [if_pos rfl] at H; exact H
             clear H
             have H := H1
             clear H1
             have H' := Aside0.mk H
             clear H
             have p430 : 0 ≤ (x11_3 : Int) := of_decide_eq_true (by first | (with_reducible assumption) | assumption)
             have q430 : x11_3 < (l0.length : Int) := of_decide_eq_true (by first | (with_reducible assumption) | assumption)
             obtain ⟨ad430, A430_0, c430_0, e430, hx430_0, hl430_0, hi430_0⟩ := at_L1 HR0.out x11_3 p430 q430
             cases e430
             replace hx430_0 := (HB.out.cell (World.block_lt_of_cell? w _ hx430_0)).trans hx430_0
             have HR430_0 := Aside0.mk hi430_0
             have HC430_0 := Aside0.mk hl430_0
             clear hi430_0 hl430_0
             replace p430 := eq_true p430
             replace q430 := eq_true q430
             obtain ⟨Ao41, co41, eo41⟩ := Kd.R_slice HO_8.out
             subst eo41
             go_wp2_with (first | ((with_reducible refine gate_callee (f := 22) rfl ?_); refine goesL_ (some 128) rfl rfl Try.func22 (by kernel_rfl) rfl #[.slice Ao41 t418.length co41, .int .i64 ((rd_L1 l0 x11_3).length : Int)] rfl (by (try simp only [List.map_toArray, List.map_cons, List.map_nil]); first | done | rfl | (simp only [List.length_drop, List.length_take]; rfl)) ?_; (with_reducible refine (dancestudiolaw10_ascends.calls k3 _ _ t418 ((rd_L1 l0 x11_3).length : Int) true _ ?side1 ?side2 A39.out).mono ?_); (case side1 => repeat (first | exact (Kd.R_reads' HO_8.out).2.2 | (with_reducible refine Kd.C_alloc ?_ _) | (with_reducible refine Kd.C_drewN ?_ _) | (with_reducible refine Kd.C_drew ?_))); (case side2 => exact (Kd.R_reads' HO_8.out).2.1); rintro e w' ⟨rfl, ⟨nd, rfl⟩⟩; refine ⟨_, rfl, ?_⟩))
             go_loopg [12] k3 (fun kq v12 w' => ∃ (x12_4 : Int), v12 = .int .i64 x12_4 ∧ Aside0 (dancestudiolaw10_MatchCover.l1 kq l0 t417 t418 x11_3 x12_4 = some r) ∧ Aside0 (kq ≤ k3) ∧ Aside0 (Kd.R (Kd.int .i64) 3 w' w.heap.size (fun k_ => some k_ ≠ ((.slice Ao41 t418.length co41) : Value).ownBlock) v420 t417) ∧ Aside0 (Kd.R (Kd.int .i64) 3 w' w.heap.size (fun k_ => some k_ ≠ (v420 : Value).ownBlock) (.slice Ao41 t418.length co41) t418) ∧ Aside0 (Below w.heap.size w w'))
             case atStart => exact ⟨(0), (by first | rfl | (simp; done) | (simp [*]; done)), H', ⟨Nat.le_refl _⟩, ⟨by (with_reducible repeat (first | apply Kd.R_alloc | apply Kd.R_drewN | apply Kd.R_drew)); exact HO_7.out⟩, ⟨by (with_reducible repeat (first | apply Kd.R_alloc | apply Kd.R_drewN | apply Kd.R_drew)); exact HO_8.out⟩, ⟨by repeat (first | (with_reducible first | exact HB.out | apply below_alloc | apply pw_below_drewN | apply below_drew1) | exact HB.out)⟩⟩
             case round =>
              clear H'
              try clear c1
              try clear c2
              try clear p2
              try clear c3
              try clear c4
              try clear p4
              try clear q4
              try clear hx4
              try clear c5
              try clear c6
              try clear c6b0
              try clear c6b1
              try clear p6
              try clear c11
              try clear c11b0
              try clear c11b1
              try clear c12
              try clear c12b0
              try clear c12b1
              try clear c13
              try clear c13b0
              try clear c13b1
              try clear c14
              try clear c16
              try clear c16b0
              try clear c16b1
              try clear c16b2
              try clear c18
              try clear c19
              try clear c20
              try clear c20b0
              try clear c20b1
              try clear c21
              try clear c21b0
              try clear c21b1
              try clear c22
              try clear c36
              try clear c37
              try clear c37b0
              try clear c38
              try clear c38b0
              try clear c40
              try clear hx430_0
              try clear p2
              try clear p430
              try clear p6
              try clear q430
              obtain ⟨x12_4, rfl, HA, HK4, HO_7, HO_8, HB⟩ := hrel
              cases gk with
              | zero => exact absurd HA.out (by simp [dancestudiolaw10_MatchCover.l1])
              | succ k4 =>
               have H := HA.out
               clear HA
               simp only [dancestudiolaw10_MatchCover.l1] at H
               by_cases c42 : 0 ≤ x11_3
               ·
                rw [if_pos c42] at H
                have c42b0 : decide (0 ≤ x11_3) = true := decide_eq_true c42
                clear c42
                by_cases c43 : x11_3 < (l0.length : Int)
                ·
                 rw [if_pos c43] at H
                 have c43b0 : decide (x11_3 < (l0.length : Int)) = true := decide_eq_true c43
                 clear c43
                 by_cases c44 : x12_4 < ((rd_L1 l0 x11_3).length : Int)
                 ·
                  rw [if_pos c44] at H
                  have c44b0 : decide (x12_4 < ((rd_L1 l0 x11_3).length : Int)) = true := decide_eq_true c44
                  clear c44
                  by_cases c45 : 0 ≤ x12_4
                  ·
                   rw [if_pos c45] at H
                   have c45b0 : decide (0 ≤ x12_4) = true := decide_eq_true c45
                   clear c45
                   obtain ⟨bq46, hbq46⟩ : ∃ b_ : Bool, b_ = (rdOf false (rd_L1 l0 x11_3) x12_4) := ⟨_, rfl⟩
                   replace H : (if bq46 = true then ((dancestudiolaw10_has.f k4 t417 x11_3).bind fun t435 => (if t435 = true then (dancestudiolaw10_MatchCover.l1 k4 l0 t417 t418 x11_3 (wrap64 (x12_4 + 1))) else ((dancestudiolaw10_has.f k4 t418 x12_4).bind fun t436 => (if t436 = true then (dancestudiolaw10_MatchCover.l1 k4 l0 t417 t418 x11_3 (wrap64 (x12_4 + 1))) else (none))))) else (dancestudiolaw10_MatchCover.l1 k4 l0 t417 t418 x11_3 (wrap64 (x12_4 + 1)))) = some r := by rw [← hbq46] at H; exact H
                   have Nbq46 := Aside0.mk hbq46
                   clear hbq46
                   by_cases c47 : bq46 = true
                   ·
                    subst c47
                    have H1 : ((dancestudiolaw10_has.f k4 t417 x11_3).bind fun t435 => (if t435 = true then (dancestudiolaw10_MatchCover.l1 k4 l0 t417 t418 x11_3 (wrap64 (x12_4 + 1))) else ((dancestudiolaw10_has.f k4 t418 x12_4).bind fun t436 => (if t436 = true then (dancestudiolaw10_MatchCover.l1 k4 l0 t417 t418 x11_3 (wrap64 (x12_4 + 1))) else (none))))) = some r := by rw [if_pos rfl] at H; exact H
                    clear H
                    have H := H1
                    clear H1
                    replace H := Option.bind_eq_some_iff.mp H
                    obtain ⟨t435, A480, H⟩ := H
                    replace H : (if t435 = true then (dancestudiolaw10_MatchCover.l1 k4 l0 t417 t418 x11_3 (wrap64 (x12_4 + 1))) else ((dancestudiolaw10_has.f k4 t418 x12_4).bind fun t436 => (if t436 = true then (dancestudiolaw10_MatchCover.l1 k4 l0 t417 t418 x11_3 (wrap64 (x12_4 + 1))) else (none)))) = some r := H
                    have A48 := Aside0.mk A480
                    clear A480
                    by_cases c49 : t435 = true
                    ·
                     subst c49
                     have H1 : (dancestudiolaw10_MatchCover.l1 k4 l0 t417 t418 x11_3 (wrap64 (x12_4 + 1))) = some r := by rw [if_pos rfl] at H; exact H
                     clear H
                     have H := H1
                     clear H1
                     have H' := Aside0.mk H
                     clear H
                     have p432 : 0 ≤ (x11_3 : Int) := of_decide_eq_true (by first | (with_reducible assumption) | assumption)
                     have q432 : x11_3 < (l0.length : Int) := of_decide_eq_true (by first | (with_reducible assumption) | assumption)
                     obtain ⟨ad432, A432_0, c432_0, e432, hx432_0, hl432_0, hi432_0⟩ := at_L1 HR0.out x11_3 p432 q432
                     obtain rfl : ad430 = ad432 := (by injection e432)
                     replace hx432_0 := (HB.out.cell (World.block_lt_of_cell? w _ hx432_0)).trans hx432_0
                     have HR432_0 := Aside0.mk hi432_0
                     have HC432_0 := Aside0.mk hl432_0
                     clear hi432_0 hl432_0
                     replace p432 := eq_true p432
                     replace q432 := eq_true q432
                     have p433 : 0 ≤ (x11_3 : Int) := of_decide_eq_true (by first | (with_reducible assumption) | assumption)
                     have q433 : x11_3 < (l0.length : Int) := of_decide_eq_true (by first | (with_reducible assumption) | assumption)
                     obtain ⟨ad433, A433_0, c433_0, e433, hx433_0, hl433_0, hi433_0⟩ := at_L1 HR0.out x11_3 p433 q433
                     obtain rfl : ad430 = ad433 := (by injection e433)
                     replace hx433_0 := (HB.out.cell (World.block_lt_of_cell? w _ hx433_0)).trans hx433_0
                     have HR433_0 := Aside0.mk hi433_0
                     have HC433_0 := Aside0.mk hl433_0
                     clear hi433_0 hl433_0
                     replace p433 := eq_true p433
                     replace q433 := eq_true q433
                     have ea_ := Option.some.inj (hx432_0.symm.trans hx433_0)
                     injection ea_ with ea_ en_ ec_
                     subst ea_
                     subst ec_
                     clear en_
                     have p434 : 0 ≤ (x12_4 : Int) := of_decide_eq_true (by first | (with_reducible assumption) | assumption)
                     have q434 : x12_4 < ((rd_L1 l0 x11_3).length : Int) := of_decide_eq_true (by first | (with_reducible assumption) | assumption)
                     obtain ⟨ad434, e434, hx434_0⟩ := Kd.at_bool HR433_0.out x12_4 p434 q434
                     (try rw [← Nbq46.out] at hx434_0)
                     cases e434
                     replace hx434_0 := (HB.out.cell (World.block_lt_of_cell? w _ hx434_0)).trans hx434_0
                     replace p434 := eq_true p434
                     replace q434 := eq_true q434
                     obtain ⟨Ao50, co50, eo50⟩ := Kd.R_slice HO_7.out
                     subst eo50
                     go_wp2_with (first | (go_at_call 23; (with_reducible refine (dancestudiolaw10_has.calls k4 _ _ t417 x11_3 true _ ?side1 ?side2 A48.out).mono ?_); (case side1 => repeat (first | exact (Kd.R_reads' HO_7.out).2.2 | (with_reducible refine Kd.C_alloc ?_ _) | (with_reducible refine Kd.C_drewN ?_ _) | (with_reducible refine Kd.C_drew ?_))); (case side2 => exact (Kd.R_reads' HO_7.out).2.1); rintro e w' ⟨rfl, ⟨nd, rfl⟩⟩))
                     go_roundg k4
                     case measure => have := HJ6.out; have := HJ14.out; have := HK3.out; have := HK4.out; omega
                     case rel => exact ⟨(wrap64 (x12_4 + 1)), (by first | rfl | (simp; done) | (simp [*]; done)), H', ⟨by have := HJ6.out; have := HJ14.out; have := HK3.out; have := HK4.out; omega⟩, ⟨by (with_reducible repeat (first | apply Kd.R_alloc | apply Kd.R_drewN | apply Kd.R_drew)); exact HO_7.out⟩, ⟨by (with_reducible repeat (first | apply Kd.R_alloc | apply Kd.R_drewN | apply Kd.R_drew)); exact HO_8.out⟩, ⟨by repeat (first | (with_reducible first | exact HB.out | apply below_alloc | apply pw_below_drewN | apply below_drew1) | exact HB.out)⟩⟩
                    ·
                     replace c49 := Bool.eq_false_iff.mpr c49
                     subst c49
                     have H1 : ((dancestudiolaw10_has.f k4 t418 x12_4).bind fun t436 => (if t436 = true then (dancestudiolaw10_MatchCover.l1 k4 l0 t417 t418 x11_3 (wrap64 (x12_4 + 1))) else (none))) = some r := by rw [if_neg (show ¬ (false = true) by decide)] at H; exact H
                     clear H
                     have H := H1
                     clear H1
                     replace H := Option.bind_eq_some_iff.mp H
                     obtain ⟨t436, A510, H⟩ := H
                     replace H : (if t436 = true then (dancestudiolaw10_MatchCover.l1 k4 l0 t417 t418 x11_3 (wrap64 (x12_4 + 1))) else (none)) = some r := H
                     have A51 := Aside0.mk A510
                     clear A510
                     by_cases c52 : t436 = true
                     ·
                      subst c52
                      have H1 : (dancestudiolaw10_MatchCover.l1 k4 l0 t417 t418 x11_3 (wrap64 (x12_4 + 1))) = some r := by rw [if_pos rfl] at H; exact H
                      clear H
                      have H := H1
                      clear H1
                      have H' := Aside0.mk H
                      clear H
                      have p432 : 0 ≤ (x11_3 : Int) := of_decide_eq_true (by first | (with_reducible assumption) | assumption)
                      have q432 : x11_3 < (l0.length : Int) := of_decide_eq_true (by first | (with_reducible assumption) | assumption)
                      obtain ⟨ad432, A432_0, c432_0, e432, hx432_0, hl432_0, hi432_0⟩ := at_L1 HR0.out x11_3 p432 q432
                      obtain rfl : ad430 = ad432 := (by injection e432)
                      replace hx432_0 := (HB.out.cell (World.block_lt_of_cell? w _ hx432_0)).trans hx432_0
                      have HR432_0 := Aside0.mk hi432_0
                      have HC432_0 := Aside0.mk hl432_0
                      clear hi432_0 hl432_0
                      replace p432 := eq_true p432
                      replace q432 := eq_true q432
                      have p433 : 0 ≤ (x11_3 : Int) := of_decide_eq_true (by first | (with_reducible assumption) | assumption)
                      have q433 : x11_3 < (l0.length : Int) := of_decide_eq_true (by first | (with_reducible assumption) | assumption)
                      obtain ⟨ad433, A433_0, c433_0, e433, hx433_0, hl433_0, hi433_0⟩ := at_L1 HR0.out x11_3 p433 q433
                      obtain rfl : ad430 = ad433 := (by injection e433)
                      replace hx433_0 := (HB.out.cell (World.block_lt_of_cell? w _ hx433_0)).trans hx433_0
                      have HR433_0 := Aside0.mk hi433_0
                      have HC433_0 := Aside0.mk hl433_0
                      clear hi433_0 hl433_0
                      replace p433 := eq_true p433
                      replace q433 := eq_true q433
                      have ea_ := Option.some.inj (hx432_0.symm.trans hx433_0)
                      injection ea_ with ea_ en_ ec_
                      subst ea_
                      subst ec_
                      clear en_
                      have p434 : 0 ≤ (x12_4 : Int) := of_decide_eq_true (by first | (with_reducible assumption) | assumption)
                      have q434 : x12_4 < ((rd_L1 l0 x11_3).length : Int) := of_decide_eq_true (by first | (with_reducible assumption) | assumption)
                      obtain ⟨ad434, e434, hx434_0⟩ := Kd.at_bool HR433_0.out x12_4 p434 q434
                      (try rw [← Nbq46.out] at hx434_0)
                      cases e434
                      replace hx434_0 := (HB.out.cell (World.block_lt_of_cell? w _ hx434_0)).trans hx434_0
                      replace p434 := eq_true p434
                      replace q434 := eq_true q434
                      obtain ⟨Ao53, co53, eo53⟩ := Kd.R_slice HO_7.out
                      subst eo53
                      go_wp2_with (first | (go_at_call 23; (with_reducible refine (dancestudiolaw10_has.calls k4 _ _ t417 x11_3 false _ ?side1 ?side2 A48.out).mono ?_); (case side1 => repeat (first | exact (Kd.R_reads' HO_7.out).2.2 | (with_reducible refine Kd.C_alloc ?_ _) | (with_reducible refine Kd.C_drewN ?_ _) | (with_reducible refine Kd.C_drew ?_))); (case side2 => exact (Kd.R_reads' HO_7.out).2.1); rintro e w' ⟨rfl, ⟨nd, rfl⟩⟩) | (go_at_call 23; (with_reducible refine (dancestudiolaw10_has.calls k4 _ _ t418 x12_4 true _ ?side1 ?side2 A51.out).mono ?_); (case side1 => repeat (first | exact (Kd.R_reads' HO_8.out).2.2 | (with_reducible refine Kd.C_alloc ?_ _) | (with_reducible refine Kd.C_drewN ?_ _) | (with_reducible refine Kd.C_drew ?_))); (case side2 => exact (Kd.R_reads' HO_8.out).2.1); rintro e w' ⟨rfl, ⟨nd, rfl⟩⟩))
                      go_roundg k4
                      case measure => have := HJ6.out; have := HJ14.out; have := HK3.out; have := HK4.out; omega
                      case rel => exact ⟨(wrap64 (x12_4 + 1)), (by first | rfl | (simp; done) | (simp [*]; done)), H', ⟨by have := HJ6.out; have := HJ14.out; have := HK3.out; have := HK4.out; omega⟩, ⟨by (with_reducible repeat (first | apply Kd.R_alloc | apply Kd.R_drewN | apply Kd.R_drew)); exact HO_7.out⟩, ⟨by (with_reducible repeat (first | apply Kd.R_alloc | apply Kd.R_drewN | apply Kd.R_drew)); exact HO_8.out⟩, ⟨by repeat (first | (with_reducible first | exact HB.out | apply below_alloc | apply pw_below_drewN | apply below_drew1) | exact HB.out)⟩⟩
                     ·
                      replace c52 := Bool.eq_false_iff.mpr c52
                      subst c52
                      have H1 : (none) = some r := by rw [if_neg (show ¬ (false = true) by decide)] at H; exact H
                      clear H
                      have H := H1
                      clear H1
                      exact absurd H (by simp)
                   ·
                    replace c47 := Bool.eq_false_iff.mpr c47
                    subst c47
                    have H1 : (dancestudiolaw10_MatchCover.l1 k4 l0 t417 t418 x11_3 (wrap64 (x12_4 + 1))) = some r := by rw [if_neg (show ¬ (false = true) by decide)] at H; exact H
                    clear H
                    have H := H1
                    clear H1
                    have H' := Aside0.mk H
                    clear H
                    have p432 : 0 ≤ (x11_3 : Int) := of_decide_eq_true (by first | (with_reducible assumption) | assumption)
                    have q432 : x11_3 < (l0.length : Int) := of_decide_eq_true (by first | (with_reducible assumption) | assumption)
                    obtain ⟨ad432, A432_0, c432_0, e432, hx432_0, hl432_0, hi432_0⟩ := at_L1 HR0.out x11_3 p432 q432
                    obtain rfl : ad430 = ad432 := (by injection e432)
                    replace hx432_0 := (HB.out.cell (World.block_lt_of_cell? w _ hx432_0)).trans hx432_0
                    have HR432_0 := Aside0.mk hi432_0
                    have HC432_0 := Aside0.mk hl432_0
                    clear hi432_0 hl432_0
                    replace p432 := eq_true p432
                    replace q432 := eq_true q432
                    have p433 : 0 ≤ (x11_3 : Int) := of_decide_eq_true (by first | (with_reducible assumption) | assumption)
                    have q433 : x11_3 < (l0.length : Int) := of_decide_eq_true (by first | (with_reducible assumption) | assumption)
                    obtain ⟨ad433, A433_0, c433_0, e433, hx433_0, hl433_0, hi433_0⟩ := at_L1 HR0.out x11_3 p433 q433
                    obtain rfl : ad430 = ad433 := (by injection e433)
                    replace hx433_0 := (HB.out.cell (World.block_lt_of_cell? w _ hx433_0)).trans hx433_0
                    have HR433_0 := Aside0.mk hi433_0
                    have HC433_0 := Aside0.mk hl433_0
                    clear hi433_0 hl433_0
                    replace p433 := eq_true p433
                    replace q433 := eq_true q433
                    have ea_ := Option.some.inj (hx432_0.symm.trans hx433_0)
                    injection ea_ with ea_ en_ ec_
                    subst ea_
                    subst ec_
                    clear en_
                    have p434 : 0 ≤ (x12_4 : Int) := of_decide_eq_true (by first | (with_reducible assumption) | assumption)
                    have q434 : x12_4 < ((rd_L1 l0 x11_3).length : Int) := of_decide_eq_true (by first | (with_reducible assumption) | assumption)
                    obtain ⟨ad434, e434, hx434_0⟩ := Kd.at_bool HR433_0.out x12_4 p434 q434
                    (try rw [← Nbq46.out] at hx434_0)
                    cases e434
                    replace hx434_0 := (HB.out.cell (World.block_lt_of_cell? w _ hx434_0)).trans hx434_0
                    replace p434 := eq_true p434
                    replace q434 := eq_true q434
                    go_wp2
                    go_roundg k4
                    case measure => have := HJ6.out; have := HJ14.out; have := HK3.out; have := HK4.out; omega
                    case rel => exact ⟨(wrap64 (x12_4 + 1)), (by first | rfl | (simp; done) | (simp [*]; done)), H', ⟨by have := HJ6.out; have := HJ14.out; have := HK3.out; have := HK4.out; omega⟩, ⟨by (with_reducible repeat (first | apply Kd.R_alloc | apply Kd.R_drewN | apply Kd.R_drew)); exact HO_7.out⟩, ⟨by (with_reducible repeat (first | apply Kd.R_alloc | apply Kd.R_drewN | apply Kd.R_drew)); exact HO_8.out⟩, ⟨by repeat (first | (with_reducible first | exact HB.out | apply below_alloc | apply pw_below_drewN | apply below_drew1) | exact HB.out)⟩⟩
                  ·
                   rw [if_neg c45] at H
                   exact absurd H (by simp)
                 ·
                  rw [if_neg c44] at H
                  have c44b0 : decide (x12_4 < ((rd_L1 l0 x11_3).length : Int)) = false := decide_eq_false c44
                  clear c44
                  have H' := Aside0.mk H
                  clear H
                  have p432 : 0 ≤ (x11_3 : Int) := of_decide_eq_true (by first | (with_reducible assumption) | assumption)
                  have q432 : x11_3 < (l0.length : Int) := of_decide_eq_true (by first | (with_reducible assumption) | assumption)
                  obtain ⟨ad432, A432_0, c432_0, e432, hx432_0, hl432_0, hi432_0⟩ := at_L1 HR0.out x11_3 p432 q432
                  obtain rfl : ad430 = ad432 := (by injection e432)
                  replace hx432_0 := (HB.out.cell (World.block_lt_of_cell? w _ hx432_0)).trans hx432_0
                  have HR432_0 := Aside0.mk hi432_0
                  have HC432_0 := Aside0.mk hl432_0
                  clear hi432_0 hl432_0
                  replace p432 := eq_true p432
                  replace q432 := eq_true q432
                  go_wp2
                  go_roundg k4
                  case measure => have := HJ6.out; have := HJ14.out; have := HK3.out; have := HK4.out; omega
                  case rel => exact ⟨(wrap64 (x11_3 + 1)), (by first | rfl | (simp; done) | (simp [*]; done)), H', ⟨by have := HJ6.out; have := HJ14.out; have := HK3.out; have := HK4.out; omega⟩, ⟨by (with_reducible repeat (first | apply Kd.R_alloc | apply Kd.R_drewN | apply Kd.R_drew)); exact HO_7.out⟩, ⟨by (with_reducible repeat (first | apply Kd.R_alloc | apply Kd.R_drewN | apply Kd.R_drew)); exact HO_8.out⟩, ⟨by repeat (first | (with_reducible first | exact HB.out | apply below_alloc | apply pw_below_drewN | apply below_drew1) | exact HB.out)⟩⟩
                ·
                 rw [if_neg c43] at H
                 exact absurd H (by simp)
               ·
                rw [if_neg c42] at H
                exact absurd H (by simp)
            ·
             replace c40 := Bool.eq_false_iff.mpr c40
             subst c40
             have H1 : (none) = some r := by rw [if_neg (show ¬ (false = true) by decide)] at H; exact H
             clear H
             have H := H1
             clear H1
             exact absurd H (by simp)
           ·
            rw [if_neg c38] at H
            exact absurd H (by simp)
          ·
           rw [if_neg c37] at H
           have c37b0 : decide (x11_3 < (l0.length : Int)) = false := decide_eq_false c37
           clear c37
           replace H := Option.bind_eq_some_iff.mp H
           obtain ⟨t429, A540, H⟩ := H
           replace H : (some t429) = some r := H
           have A54 := Aside0.mk A540
           clear A540
           obtain rfl := Option.some.inj H
           go_wp2_with (first | ((with_reducible refine gate_callee (f := 15) rfl ?_); refine goesL_ (some 158) rfl rfl Try.func15 (by kernel_rfl) rfl #[] rfl (by (try simp only [List.map_toArray, List.map_cons, List.map_nil]); first | done | rfl | (simp only [List.length_drop, List.length_take]; rfl)) ?_; (with_reducible refine (dancestudiolaw10_awake.calls k3  t429 _ A54.out).mono ?_); rintro e w55 ⟨rfl, hb⟩; refine ⟨_, rfl, ?_⟩; have n0_ := Aside0.mk (Kd.R_below (by (with_reducible repeat (first | apply Kd.R_alloc | apply Kd.R_drewN | apply Kd.R_drew)); exact HO_7.out) hb); have n1_ := Aside0.mk (Kd.R_below (by (with_reducible repeat (first | apply Kd.R_alloc | apply Kd.R_drewN | apply Kd.R_drew)); exact HO_8.out) hb); have n2_ := Aside0.mk (below_step (by repeat (first | (with_reducible first | exact HB.out | apply below_alloc | apply pw_below_drewN | apply below_drew1) | exact HB.out)) hb); clear HO_7; clear HO_8; clear HB; have HO_7 := n0_; have HO_8 := n1_; have HB := n2_; clear n0_ n1_ n2_; (try clear hb); (try clear hb2); (try clear hk); (try clear hi)))
           go_ret
           exact ⟨by first | rfl | (simp [errW_none, errW_some] <;> rfl) | (simp [*, errW_none, errW_some] <;> rfl), by repeat (first | (with_reducible first | exact HB.out | apply below_alloc | apply pw_below_drewN | apply below_drew1) | exact HB.out)⟩
 ·
  rw [if_neg c6] at H
  have c6b0 : (t424 == 0) = false := beq_eq_false_iff_ne.mpr c6
  have c6b1 : (t424 != 0) = true := bne_iff_ne.mpr c6
  by_cases c56 : t411 = 0
  ·
   rw [if_pos c56] at H
   have c56b0 : (t411 == 0) = true := beq_iff_eq.mpr c56
   have c56b1 : (t411 != 0) = false := bne_eq_false_iff_eq.mpr c56
   clear c56
   by_cases c57 : (t413.length : Int) = 0
   ·
    rw [if_pos c57] at H
    have c57b0 : ((t413.length : Int) == 0) = true := beq_iff_eq.mpr c57
    have c57b1 : ((t413.length : Int) != 0) = false := bne_eq_false_iff_eq.mpr c57
    clear c57
    by_cases c58 : (t417.length : Int) = 0
    ·
     rw [if_pos c58] at H
     have c58b0 : ((t417.length : Int) == 0) = true := beq_iff_eq.mpr c58
     have c58b1 : ((t417.length : Int) != 0) = false := bne_eq_false_iff_eq.mpr c58
     clear c58
     by_cases c59 : (t418.length : Int) = 0
     ·
      rw [if_pos c59] at H
      have c59b0 : ((t418.length : Int) == 0) = true := beq_iff_eq.mpr c59
      have c59b1 : ((t418.length : Int) != 0) = false := bne_eq_false_iff_eq.mpr c59
      clear c59
      by_cases c60 : t412 = t424
      ·
       rw [if_pos c60] at H
       have c60b0 : (t412 == t424) = true := beq_iff_eq.mpr c60
       have c60b1 : (t412 != t424) = false := bne_eq_false_iff_eq.mpr c60
       clear c60
       by_cases c61 : t414 = t424
       ·
        rw [if_pos c61] at H
        have c61b0 : (t414 == t424) = true := beq_iff_eq.mpr c61
        have c61b1 : (t414 != t424) = false := bne_eq_false_iff_eq.mpr c61
        clear c61
        by_cases c62 : t419 = t424
        ·
         rw [if_pos c62] at H
         have c62b0 : (t419 == t424) = true := beq_iff_eq.mpr c62
         have c62b1 : (t419 != t424) = false := bne_eq_false_iff_eq.mpr c62
         clear c62
         replace H := Option.bind_eq_some_iff.mp H
         obtain ⟨t425, A630, H⟩ := H
         replace H : (some t425) = some r := H
         have A63 := Aside0.mk A630
         clear A630
         obtain rfl := Option.some.inj H
         go_enter Try.func5, Try.ntmps5
         go_wp2_with (first | ((with_reducible refine gate_callee (f := 11) rfl ?_); refine goesL_ (some 15) rfl rfl Try.func11 (by kernel_rfl) rfl #[.slice A0 l0.length c0] rfl (by (try simp only [List.map_toArray, List.map_cons, List.map_nil]); first | done | rfl | (simp only [List.length_drop, List.length_take]; rfl)) ?_; (with_reducible refine (match_Size.calls k _ _ l0 t411 t412 _ ?side1 ?side2 A2.out).mono ?_); (case side1 => repeat (first | exact HR0.out | (with_reducible refine Kd.C_alloc ?_ _) | (with_reducible refine Kd.C_drewN ?_ _) | (with_reducible refine Kd.C_drew ?_))); (case side2 => exact HC0.out); rintro e w64 ⟨rfl, hb⟩; refine ⟨_, rfl, ?_⟩; have n0_ := Aside0.mk (below_step (by repeat (first | (with_reducible first | exact HB.out | apply below_alloc | apply pw_below_drewN | apply below_drew1) | exact HB.out)) hb); clear HB; have HB := n0_; clear n0_; (try clear hb); (try clear hb2); (try clear hk); (try clear hi)) | ((with_reducible refine gate_callee (f := 16) rfl ?_); refine goesL_ (some 20) rfl rfl Try.func16 (by kernel_rfl) rfl #[.slice A0 l0.length c0] rfl (by (try simp only [List.map_toArray, List.map_cons, List.map_nil]); first | done | rfl | (simp only [List.length_drop, List.length_take]; rfl)) ?_; (with_reducible refine (match_Match.calls k _ _ l0 t413 t414 _ ?side1 ?side2 A3.out).mono ?_); (case side1 => repeat (first | exact (Kd.C_below HR0.out HB.out) | (with_reducible refine Kd.C_alloc ?_ _) | (with_reducible refine Kd.C_drewN ?_ _) | (with_reducible refine Kd.C_drew ?_))); (case side2 => exact HC0.out); rintro e w65 ⟨v415, rfl, ho0, hb⟩; refine ⟨_, rfl, ?_⟩; have n0_ := Aside0.mk (Kd.R_lower ho0 (below_size (by repeat (first | (with_reducible first | exact HB.out | apply below_alloc | apply pw_below_drewN | apply below_drew1) | exact HB.out)))); have n1_ := Aside0.mk (below_step (by repeat (first | (with_reducible first | exact HB.out | apply below_alloc | apply pw_below_drewN | apply below_drew1) | exact HB.out)) hb); clear HB; have HO416 := n0_; have HB := n1_; clear n0_ n1_; (try clear hb); (try clear hb2); (try clear hk); (try clear hi); (try clear ho0)) | ((with_reducible refine gate_callee (f := 19) rfl ?_); refine goesL_ (some 25) rfl rfl Try.func19 (by kernel_rfl) rfl #[.slice A0 l0.length c0] rfl (by (try simp only [List.map_toArray, List.map_cons, List.map_nil]); first | done | rfl | (simp only [List.length_drop, List.length_take]; rfl)) ?_; (with_reducible refine (match_Cover.calls k _ _ l0 t417 t418 t419 _ ?side1 ?side2 A4.out).mono ?_); (case side1 => repeat (first | exact (Kd.C_below HR0.out HB.out) | (with_reducible refine Kd.C_alloc ?_ _) | (with_reducible refine Kd.C_drewN ?_ _) | (with_reducible refine Kd.C_drew ?_))); (case side2 => exact HC0.out); rintro e w66 ⟨v420, v422, rfl, ho0, ho1, hb⟩; refine ⟨_, rfl, ?_⟩; have n0_ := Aside0.mk (Kd.R_mono (Kd.R_told (Kd.R_told (Kd.R_old (by (with_reducible repeat (first | apply Kd.R_alloc | apply Kd.R_drewN | apply Kd.R_drew)); exact HO416.out) hb) (Kd.R_base ho0)) (Kd.R_base ho1)) (fun _ h_ => h_.1)); have n1_ := Aside0.mk (Kd.R_lower (Kd.R_new' ho0 (Kd.R_lt (by (with_reducible repeat (first | apply Kd.R_alloc | apply Kd.R_drewN | apply Kd.R_drew)); exact HO416.out))) (below_size (by repeat (first | (with_reducible first | exact HB.out | apply below_alloc | apply pw_below_drewN | apply below_drew1) | exact HB.out)))); have n2_ := Aside0.mk (Kd.R_lower (Kd.R_new' ho1 (Kd.R_lt (by (with_reducible repeat (first | apply Kd.R_alloc | apply Kd.R_drewN | apply Kd.R_drew)); exact HO416.out))) (below_size (by repeat (first | (with_reducible first | exact HB.out | apply below_alloc | apply pw_below_drewN | apply below_drew1) | exact HB.out)))); have n3_ := Aside0.mk (below_step (by repeat (first | (with_reducible first | exact HB.out | apply below_alloc | apply pw_below_drewN | apply below_drew1) | exact HB.out)) hb); clear HO416; clear HB; have HO416 := n0_; have HO421 := n1_; have HO423 := n2_; have HB := n3_; clear n0_ n1_ n2_ n3_; (try clear hb); (try clear hb2); (try clear hk); (try clear hi); (try clear ho0); (try clear ho1)) | ((with_reducible refine gate_callee (f := 13) rfl ?_); refine goesL_ (some 30) rfl rfl Try.func13 (by kernel_rfl) rfl #[.slice A0 l0.length c0] rfl (by (try simp only [List.map_toArray, List.map_cons, List.map_nil]); first | done | rfl | (simp only [List.length_drop, List.length_take]; rfl)) ?_; (with_reducible refine (match_Check.calls k _ _ l0 t424 _ ?side1 ?side2 A5.out).mono ?_); (case side1 => repeat (first | exact (Kd.C_below HR0.out HB.out) | (with_reducible refine Kd.C_alloc ?_ _) | (with_reducible refine Kd.C_drewN ?_ _) | (with_reducible refine Kd.C_drew ?_))); (case side2 => exact HC0.out); rintro e w' ⟨rfl, ⟨nd, rfl⟩⟩; refine ⟨_, rfl, ?_⟩; obtain ⟨Ao67, co67, eo67⟩ := Kd.R_slice HO416.out; subst eo67; obtain ⟨Ao68, co68, eo68⟩ := Kd.R_slice HO421.out; subst eo68; obtain ⟨Ao69, co69, eo69⟩ := Kd.R_slice HO423.out; subst eo69) | (go_at_call 15; (with_reducible refine (dancestudiolaw10_awake.calls k  t425 _ A63.out).mono ?_); rintro e w70 ⟨rfl, hb⟩; have n0_ := Aside0.mk (Kd.R_below (by (with_reducible repeat (first | apply Kd.R_alloc | apply Kd.R_drewN | apply Kd.R_drew)); exact HO416.out) hb); have n1_ := Aside0.mk (Kd.R_below (by (with_reducible repeat (first | apply Kd.R_alloc | apply Kd.R_drewN | apply Kd.R_drew)); exact HO421.out) hb); have n2_ := Aside0.mk (Kd.R_below (by (with_reducible repeat (first | apply Kd.R_alloc | apply Kd.R_drewN | apply Kd.R_drew)); exact HO423.out) hb); have n3_ := Aside0.mk (below_step (by repeat (first | (with_reducible first | exact HB.out | apply below_alloc | apply pw_below_drewN | apply below_drew1) | exact HB.out)) hb); clear HO416; clear HO421; clear HO423; clear HB; have HO416 := n0_; have HO421 := n1_; have HO423 := n2_; have HB := n3_; clear n0_ n1_ n2_ n3_; (try clear hb); (try clear hb2); (try clear hk); (try clear hi)))
         go_ret
         exact ⟨by first | rfl | (simp [errW_none, errW_some] <;> rfl) | (simp [*, errW_none, errW_some] <;> rfl), by repeat (first | (with_reducible first | exact HB.out | apply below_alloc | apply pw_below_drewN | apply below_drew1) | exact HB.out)⟩
        ·
         rw [if_neg c62] at H
         exact absurd H (by simp)
       ·
        rw [if_neg c61] at H
        exact absurd H (by simp)
      ·
       rw [if_neg c60] at H
       exact absurd H (by simp)
     ·
      rw [if_neg c59] at H
      exact absurd H (by simp)
    ·
     rw [if_neg c58] at H
     exact absurd H (by simp)
   ·
    rw [if_neg c57] at H
    exact absurd H (by simp)
  ·
   rw [if_neg c56] at H
   exact absurd H (by simp)
end Go.Proofs.Ytaacihkhckpecaa.PAll
