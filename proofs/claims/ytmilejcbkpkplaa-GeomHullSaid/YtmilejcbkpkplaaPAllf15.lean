-- Written by wip/tools/handprint.py: walks of the functions that the law reaches; Lean checks them.
import Derived.Test.YtmilejcbkpkplaaPAllx0
import Derived.Test.YtmilejcbkpkplaaPAllf11
import Derived.Test.YtmilejcbkpkplaaPAllf13
import Derived.Test.YtmilejcbkpkplaaPAllf16
import Derived.Test.YtmilejcbkpkplaaPAllf18
import Derived.Test.YtmilejcbkpkplaaPAllf20
import Derived.Test.YtmilejcbkpkplaaPAllf22
import Derived.Test.YtmilejcbkpkplaaPAllf23
import Derived.Test.YtmilejcbkpkplaaPAllf35
namespace Go.Proofs.Ytmilejcbkpkplaa.PAll
open Go.RowKit Go.Proofs.YtmilejcbkpkplaaW.PrintWords Go.Proofs.YtmilejcbkpkplaaW.PrintLast Go.Proofs.YtmilejcbkpkplaaW.PrintMore
attribute [local go_sem] max2_int min2_int max_two min_two max_three min_three max_four min_four   -- for this text's walks alone
set_option linter.unusedVariables false
set_option linter.unusedSimpArgs false

/-! ### dancestudiolaw03_awake: function 15 -/
mutual
def dancestudiolaw03_awake.j0 : Nat → Bool → Int → Int → Int → Int → Option (Bool)
 | 0, _, _, _, _, _ => none
 | k + 1, x47, x282000, x282001, x283000, x283001 => if x47 = true then (none) else ((geom_Near.f k 0 5 x282000 x282001 x283000 x283001 5).bind fun bt287 => ((geom_Near.f k 0 5 x282000 x282001 x283000 x283001 4).bind fun bt289 => ((geom_Near.f k 13 4 x282000 x282001 x283000 x283001 5).bind fun bt291 => ((geom_Near.f k 13 4 x282000 x282001 x283000 x283001 4).bind fun bt293 => (if bt287.2 = 0 then (if bt289.2 = 0 then (if bt291.2 = 0 then (if bt293.2 = 0 then (if bt287.1 = true then (if bt289.1 = true then (dancestudiolaw03_awake.j1 k true) else (if bt291.1 = true then (dancestudiolaw03_awake.j1 k bt293.1) else (dancestudiolaw03_awake.j1 k true))) else (dancestudiolaw03_awake.j1 k true)) else (dancestudiolaw03_awake.j1 k true)) else (dancestudiolaw03_awake.j1 k true)) else (dancestudiolaw03_awake.j1 k true)) else (dancestudiolaw03_awake.j1 k true))))))
def dancestudiolaw03_awake.j1 : Nat → Bool → Option (Bool)
 | 0, _ => none
 | k + 1, x103 => if x103 = true then (none) else ((dancestudiolaw03_disc.f 0 0 0 1000).bind fun bt295 => ((dancestudiolaw03_disc.f 600 1000 600 0).bind fun bt300 => ((geom_Touch.f k bt295.1 bt295.2.1 bt295.2.2.1 bt295.2.2.2.1 bt295.2.2.2.2 bt300.1 bt300.2.1 bt300.2.2.1 bt300.2.2.2.1 bt300.2.2.2.2).bind fun bt305 => ((dancestudiolaw03_disc.f 0 0 0 1000).bind fun bt307 => ((dancestudiolaw03_disc.f 599 1000 599 0).bind fun bt312 => ((geom_Touch.f k bt307.1 bt307.2.1 bt307.2.2.1 bt307.2.2.2.1 bt307.2.2.2.2 bt312.1 bt312.2.1 bt312.2.2.1 bt312.2.2.2.1 bt312.2.2.2.2).bind fun bt317 => (if bt305.2 = 0 then (if bt317.2 = 0 then (if bt305.1 = true then (dancestudiolaw03_awake.j2 k true) else (dancestudiolaw03_awake.j2 k (!bt317.1))) else (dancestudiolaw03_awake.j2 k true)) else (dancestudiolaw03_awake.j2 k true))))))))
def dancestudiolaw03_awake.j2 : Nat → Bool → Option (Bool)
 | 0, _ => none
 | k + 1, x128 => if x128 = true then (none) else ((some (([(⟨0, 0⟩ : S23), (⟨2, 0⟩ : S23), (⟨1, 1⟩ : S23), (⟨2, 2⟩ : S23), (⟨0, 2⟩ : S23), (⟨1, 0⟩ : S23)] : List (S23)) : List (S23))).bind fun y319 => ((geom_Hull.f k y319).bind fun bt322 => ((geom_Inside.f k 1 0 y319).bind fun bt326 => ((geom_Inside.f k 3 1 y319).bind fun bt328 => (if bt322.2 = 0 then (if bt326.2 = 0 then (if bt328.2 = 0 then (if bt326.1 = true then (if bt328.1 = true then (none) else ((dancestudioref03_Same.f k bt322.1 (([(⟨0, 0⟩ : S23), (⟨2, 0⟩ : S23), (⟨2, 2⟩ : S23), (⟨0, 2⟩ : S23)] : List (S23)))).bind fun t333 => (some t333))) else (none)) else (none)) else (none)) else (none))))))
end
def dancestudiolaw03_awake.f (k : Nat)  : Option (Bool) := (geom_Dist2.f k 0 0 3 4).bind fun bt283 => ((geom_Cross.f k 0 0 1 0 0 1).bind fun bt285 => (if bt283.2 = 0 then (if bt285.2 = 0 then (if bt283.1 = 25 then (dancestudiolaw03_awake.j0 k (bt285.1 != 1) (-10) 0 10 0) else (dancestudiolaw03_awake.j0 k true (-10) 0 10 0)) else (dancestudiolaw03_awake.j0 k true (-10) 0 10 0)) else (dancestudiolaw03_awake.j0 k true (-10) 0 10 0)))
theorem dancestudiolaw03_awake.mono_l : ∀ k, (∀ y0 y1 y2 y3 y4, LeO (dancestudiolaw03_awake.j0 k y0 y1 y2 y3 y4) (dancestudiolaw03_awake.j0 (k + 1) y0 y1 y2 y3 y4)) ∧ (∀ y0, LeO (dancestudiolaw03_awake.j1 k y0) (dancestudiolaw03_awake.j1 (k + 1) y0)) ∧ (∀ y0, LeO (dancestudiolaw03_awake.j2 k y0) (dancestudiolaw03_awake.j2 (k + 1) y0))
 | 0 => ⟨fun _ _ _ _ _ r h => by simp [dancestudiolaw03_awake.j0] at h, fun _ r h => by simp [dancestudiolaw03_awake.j1] at h, fun _ r h => by simp [dancestudiolaw03_awake.j2] at h⟩
 | k + 1 => by
  obtain ⟨ih0, ih1, ih2⟩ := dancestudiolaw03_awake.mono_l k
  refine ⟨?_, ?_, ?_⟩
  ·
   intro y0 y1 y2 y3 y4
   unfold dancestudiolaw03_awake.j0
   repeat' first
   | (with_reducible exact ih0 _ _ _ _ _)
   | (with_reducible exact ih1 _)
   | (with_reducible exact ih2 _)
   | (with_reducible exact dancestudioref03_Same.mono _ _ _)
   | (with_reducible exact geom_Cross.mono _ _ _ _ _ _ _)
   | (with_reducible exact geom_Dist2.mono _ _ _ _ _)
   | (with_reducible exact geom_Hull.mono _ _)
   | (with_reducible exact geom_Inside.mono _ _ _ _)
   | (with_reducible exact geom_Near.mono _ _ _ _ _ _ _ _)
   | (with_reducible exact geom_Touch.mono _ _ _ _ _ _ _ _ _ _ _)
   | (with_reducible exact LeO.refl _)
   | (with_reducible exact LeO.none _)
   | (with_reducible refine LeO.ite ?_ ?_)
   | (with_reducible refine LeO.bind ?_ (fun _ => ?_))
   | exact ih0 _ _ _ _ _
   | exact ih1 _
   | exact ih2 _
   | exact dancestudioref03_Same.mono _ _ _
   | exact geom_Cross.mono _ _ _ _ _ _ _
   | exact geom_Dist2.mono _ _ _ _ _
   | exact geom_Hull.mono _ _
   | exact geom_Inside.mono _ _ _ _
   | exact geom_Near.mono _ _ _ _ _ _ _ _
   | exact geom_Touch.mono _ _ _ _ _ _ _ _ _ _ _
   | exact LeO.none _
   | refine LeO.ite ?_ ?_
   | refine LeO.bind ?_ (fun _ => ?_)
  ·
   intro y0
   unfold dancestudiolaw03_awake.j1
   repeat' first
   | (with_reducible exact ih0 _ _ _ _ _)
   | (with_reducible exact ih1 _)
   | (with_reducible exact ih2 _)
   | (with_reducible exact dancestudioref03_Same.mono _ _ _)
   | (with_reducible exact geom_Cross.mono _ _ _ _ _ _ _)
   | (with_reducible exact geom_Dist2.mono _ _ _ _ _)
   | (with_reducible exact geom_Hull.mono _ _)
   | (with_reducible exact geom_Inside.mono _ _ _ _)
   | (with_reducible exact geom_Near.mono _ _ _ _ _ _ _ _)
   | (with_reducible exact geom_Touch.mono _ _ _ _ _ _ _ _ _ _ _)
   | (with_reducible exact LeO.refl _)
   | (with_reducible exact LeO.none _)
   | (with_reducible refine LeO.ite ?_ ?_)
   | (with_reducible refine LeO.bind ?_ (fun _ => ?_))
   | exact ih0 _ _ _ _ _
   | exact ih1 _
   | exact ih2 _
   | exact dancestudioref03_Same.mono _ _ _
   | exact geom_Cross.mono _ _ _ _ _ _ _
   | exact geom_Dist2.mono _ _ _ _ _
   | exact geom_Hull.mono _ _
   | exact geom_Inside.mono _ _ _ _
   | exact geom_Near.mono _ _ _ _ _ _ _ _
   | exact geom_Touch.mono _ _ _ _ _ _ _ _ _ _ _
   | exact LeO.none _
   | refine LeO.ite ?_ ?_
   | refine LeO.bind ?_ (fun _ => ?_)
  ·
   intro y0
   unfold dancestudiolaw03_awake.j2
   repeat' first
   | (with_reducible exact ih0 _ _ _ _ _)
   | (with_reducible exact ih1 _)
   | (with_reducible exact ih2 _)
   | (with_reducible exact dancestudioref03_Same.mono _ _ _)
   | (with_reducible exact geom_Cross.mono _ _ _ _ _ _ _)
   | (with_reducible exact geom_Dist2.mono _ _ _ _ _)
   | (with_reducible exact geom_Hull.mono _ _)
   | (with_reducible exact geom_Inside.mono _ _ _ _)
   | (with_reducible exact geom_Near.mono _ _ _ _ _ _ _ _)
   | (with_reducible exact geom_Touch.mono _ _ _ _ _ _ _ _ _ _ _)
   | (with_reducible exact LeO.refl _)
   | (with_reducible exact LeO.none _)
   | (with_reducible refine LeO.ite ?_ ?_)
   | (with_reducible refine LeO.bind ?_ (fun _ => ?_))
   | exact ih0 _ _ _ _ _
   | exact ih1 _
   | exact ih2 _
   | exact dancestudioref03_Same.mono _ _ _
   | exact geom_Cross.mono _ _ _ _ _ _ _
   | exact geom_Dist2.mono _ _ _ _ _
   | exact geom_Hull.mono _ _
   | exact geom_Inside.mono _ _ _ _
   | exact geom_Near.mono _ _ _ _ _ _ _ _
   | exact geom_Touch.mono _ _ _ _ _ _ _ _ _ _ _
   | exact LeO.none _
   | refine LeO.ite ?_ ?_
   | refine LeO.bind ?_ (fun _ => ?_)
theorem dancestudiolaw03_awake.mono : ∀ k, LeO (dancestudiolaw03_awake.f k ) (dancestudiolaw03_awake.f (k + 1) ) := by
 intro  k
 obtain ⟨ih0, ih1, ih2⟩ := dancestudiolaw03_awake.mono_l k
 unfold dancestudiolaw03_awake.f
 repeat' first
   | (with_reducible exact ih0 _ _ _ _ _)
   | (with_reducible exact ih1 _)
   | (with_reducible exact ih2 _)
   | (with_reducible exact dancestudioref03_Same.mono _ _ _)
   | (with_reducible exact geom_Cross.mono _ _ _ _ _ _ _)
   | (with_reducible exact geom_Dist2.mono _ _ _ _ _)
   | (with_reducible exact geom_Hull.mono _ _)
   | (with_reducible exact geom_Inside.mono _ _ _ _)
   | (with_reducible exact geom_Near.mono _ _ _ _ _ _ _ _)
   | (with_reducible exact geom_Touch.mono _ _ _ _ _ _ _ _ _ _ _)
   | (with_reducible exact LeO.refl _)
   | (with_reducible exact LeO.none _)
   | (with_reducible refine LeO.ite ?_ ?_)
   | (with_reducible refine LeO.bind ?_ (fun _ => ?_))
   | exact ih0 _ _ _ _ _
   | exact ih1 _
   | exact ih2 _
   | exact dancestudioref03_Same.mono _ _ _
   | exact geom_Cross.mono _ _ _ _ _ _ _
   | exact geom_Dist2.mono _ _ _ _ _
   | exact geom_Hull.mono _ _
   | exact geom_Inside.mono _ _ _ _
   | exact geom_Near.mono _ _ _ _ _ _ _ _
   | exact geom_Touch.mono _ _ _ _ _ _ _ _ _ _ _
   | exact LeO.none _
   | refine LeO.ite ?_ ?_
   | refine LeO.bind ?_ (fun _ => ?_)
set_option maxHeartbeats 8000000 in
set_option maxRecDepth 100000 in
theorem dancestudiolaw03_awake.calls (k : Nat)  (r : Bool) (w : World) (h : dancestudiolaw03_awake.f k  = some r) :
  Calls Try.prog 15 #[] w fun e w' => e = .returned (.bool r) ∧ Below w.heap.size w w' := by
 have hu23 := Try.underlying23
 have HB := Aside0.mk (Below.refl w.heap.size w)
 have H : ((geom_Dist2.f k 0 0 3 4).bind fun bt283 => ((geom_Cross.f k 0 0 1 0 0 1).bind fun bt285 => (if bt283.2 = 0 then (if bt285.2 = 0 then (if bt283.1 = 25 then (dancestudiolaw03_awake.j0 k (bt285.1 != 1) (-10) 0 10 0) else (dancestudiolaw03_awake.j0 k true (-10) 0 10 0)) else (dancestudiolaw03_awake.j0 k true (-10) 0 10 0)) else (dancestudiolaw03_awake.j0 k true (-10) 0 10 0)))) = some r := h
 clear h
 replace H := Option.bind_eq_some_iff.mp H
 obtain ⟨⟨t283, t284⟩, A10, H⟩ := H
 replace H : ((geom_Cross.f k 0 0 1 0 0 1).bind fun bt285 => (if t284 = 0 then (if bt285.2 = 0 then (if t283 = 25 then (dancestudiolaw03_awake.j0 k (bt285.1 != 1) (-10) 0 10 0) else (dancestudiolaw03_awake.j0 k true (-10) 0 10 0)) else (dancestudiolaw03_awake.j0 k true (-10) 0 10 0)) else (dancestudiolaw03_awake.j0 k true (-10) 0 10 0))) = some r := H
 have A1 := Aside0.mk A10
 clear A10
 replace H := Option.bind_eq_some_iff.mp H
 obtain ⟨⟨t285, t286⟩, A20, H⟩ := H
 replace H : (if t284 = 0 then (if t286 = 0 then (if t283 = 25 then (dancestudiolaw03_awake.j0 k (t285 != 1) (-10) 0 10 0) else (dancestudiolaw03_awake.j0 k true (-10) 0 10 0)) else (dancestudiolaw03_awake.j0 k true (-10) 0 10 0)) else (dancestudiolaw03_awake.j0 k true (-10) 0 10 0)) = some r := H
 have A2 := Aside0.mk A20
 clear A20
 have HC3 := Aside0.mk H
 clear H
 go_enter Try.func15, Try.ntmps15
 go_upto_region 4 with (first | ((with_reducible refine gate_dst (N := 1) rfl ?_); (try (refine gate_guard (by rfl) ?_; dsimp only)); refine box_event ?hg (N := 1) ?hd (cs := #[.int .i64 0, .int .i64 0]) (t := 23) ?hr ?_; (case hd => rfl); (case hg => rfl); (case hr => first | (go_simp; done) | (go_simp; rfl)); intro gb281 hg w4 hbox hb; have n0_ := Aside0.mk (below_step (by repeat (first | (with_reducible first | exact HB.out | apply below_alloc | apply pw_below_drewN | apply below_drew1) | exact HB.out)) hb); have n1_ := Aside0.mk (hbox); have n2_ := Aside0.mk ((by rw [hg]; exact (below_size (by repeat (first | (with_reducible first | exact HB.out | apply below_alloc | apply pw_below_drewN | apply below_drew1) | exact HB.out))) : w.heap.size ≤ gb281)); have n3_ := Aside0.mk ((by rw [hg]; exact (below_size (by repeat (first | (with_reducible first | exact HB.out | apply below_alloc | apply pw_below_drewN | apply below_drew1) | exact HB.out))) : w.heap.size ≤ gb281)); clear HB; have HB := n0_; have BK281 := n1_; have GW281 := n2_; have GE281 := n3_; clear n0_ n1_ n2_ n3_; clear hb hbox hg) | ((with_reducible refine gate_dst (N := 2) rfl ?_); (try (refine gate_guard (by rfl) ?_; dsimp only)); refine box_event ?hg (N := 2) ?hd (cs := #[.int .i64 0, .int .i64 0]) (t := 23) ?hr ?_; (case hd => rfl); (case hg => rfl); (case hr => first | (go_simp; done) | (go_simp; rfl)); intro gb282 hg w5 hbox hb; have n0_ := Aside0.mk (blk_below (g := gb281) (o := .cells #[.int .i64 0, .int .i64 0] 23 (0, 0)) (by (with_reducible repeat (first | refine blk_drewN ?_ _ | refine blk_drew ?_ | refine blk_alloc ?_ _)); exact BK281.out) hb); have n1_ := Aside0.mk (below_step (by repeat (first | (with_reducible first | exact HB.out | apply below_alloc | apply pw_below_drewN | apply below_drew1 | refine below_set ?_ GE281.out) | exact HB.out)) hb); have n2_ := Aside0.mk (hbox); have n3_ := Aside0.mk ((by rw [hg]; exact (below_size (by repeat (first | (with_reducible first | exact HB.out | apply below_alloc | apply pw_below_drewN | apply below_drew1 | refine below_set ?_ GE281.out) | exact HB.out))) : w.heap.size ≤ gb282)); have n4_ := Aside0.mk ((by rw [hg]; exact (below_size (by repeat (first | (with_reducible first | exact HB.out | apply below_alloc | apply pw_below_drewN | apply below_drew1 | refine below_set ?_ GE281.out) | exact HB.out))) : w.heap.size ≤ gb282)); have n5_ := Aside0.mk ((by rw [hg]; exact Nat.ne_of_lt (blk_lt (g := gb281) (o := .cells #[.int .i64 0, .int .i64 0] 23 (0, 0)) (by (with_reducible repeat (first | refine blk_drewN ?_ _ | refine blk_drew ?_ | refine blk_alloc ?_ _)); exact BK281.out)) : gb281 ≠ gb282)); have n6_ := Aside0.mk ((by rw [hg]; exact Nat.ne_of_gt (blk_lt (g := gb281) (o := .cells #[.int .i64 0, .int .i64 0] 23 (0, 0)) (by (with_reducible repeat (first | refine blk_drewN ?_ _ | refine blk_drew ?_ | refine blk_alloc ?_ _)); exact BK281.out)) : gb282 ≠ gb281)); clear BK281; clear HB; have BK281 := n0_; have HB := n1_; have BK282 := n2_; have GW282 := n3_; have GE282 := n4_; have NB281_282 := n5_; have NB282_281 := n6_; clear n0_ n1_ n2_ n3_ n4_ n5_ n6_; clear hb hbox hg; have hnb6 := NB281_282.out; have hnc6 := NB282_281.out; have hcz7_0 : w5.cell? ⟨gb281, 0, none⟩ = some (.int .i64 0) := (blk_cell BK281.out 0).trans rfl; have hcz7_1 : w5.cell? ⟨gb281, 1, none⟩ = some (.int .i64 0) := (blk_cell BK281.out 1).trans rfl; have hfz7_0 := blk_frozen BK281.out 0; have hfz7_1 := blk_frozen BK281.out 1; have hcz8_0 : w5.cell? ⟨gb282, 0, none⟩ = some (.int .i64 0) := (blk_cell BK282.out 0).trans rfl; have hcz8_1 : w5.cell? ⟨gb282, 1, none⟩ = some (.int .i64 0) := (blk_cell BK282.out 1).trans rfl; have hfz8_0 := blk_frozen BK282.out 0; have hfz8_1 := blk_frozen BK282.out 1) | ((with_reducible refine gate_callee (f := 11) rfl ?_); refine goesL_ (some 24) rfl rfl Try.func11 (by kernel_rfl) rfl #[.agg #[.int .i64 0, .int .i64 0], .agg #[.int .i64 3, .int .i64 4]] rfl (by (try simp only [List.map_toArray, List.map_cons, List.map_nil]); first | done | rfl | (simp only [List.length_drop, List.length_take]; rfl)) ?_; (with_reducible refine (geom_Dist2.calls k 0 0 3 4 t283 t284 _ A1.out).mono ?_); rintro e w9 ⟨rfl, hb⟩; refine ⟨_, rfl, ?_⟩; have n0_ := Aside0.mk (blk_below (g := gb281) (o := .cells #[.int .i64 (-10), .int .i64 0] 23 (0, 0)) (by (with_reducible repeat (first | refine blk_drewN ?_ _ | refine blk_drew ?_ | refine blk_alloc ?_ _)); refine blk_far ?_ NB281_282.out _; (with_reducible repeat (first | refine blk_drewN ?_ _ | refine blk_drew ?_ | refine blk_alloc ?_ _)); refine blk_far ?_ NB281_282.out _; (with_reducible repeat (first | refine blk_drewN ?_ _ | refine blk_drew ?_ | refine blk_alloc ?_ _)); refine blk_put (cs := #[.int .i64 (-10), .int .i64 0]) ?_ 1 _ rfl; (with_reducible repeat (first | refine blk_drewN ?_ _ | refine blk_drew ?_ | refine blk_alloc ?_ _)); refine blk_put (cs := #[.int .i64 0, .int .i64 0]) ?_ 0 _ rfl; (with_reducible repeat (first | refine blk_drewN ?_ _ | refine blk_drew ?_ | refine blk_alloc ?_ _)); exact BK281.out) hb); have n1_ := Aside0.mk (blk_below (g := gb282) (o := .cells #[.int .i64 10, .int .i64 0] 23 (0, 0)) (by (with_reducible repeat (first | refine blk_drewN ?_ _ | refine blk_drew ?_ | refine blk_alloc ?_ _)); refine blk_put (cs := #[.int .i64 10, .int .i64 0]) ?_ 1 _ rfl; (with_reducible repeat (first | refine blk_drewN ?_ _ | refine blk_drew ?_ | refine blk_alloc ?_ _)); refine blk_put (cs := #[.int .i64 0, .int .i64 0]) ?_ 0 _ rfl; (with_reducible repeat (first | refine blk_drewN ?_ _ | refine blk_drew ?_ | refine blk_alloc ?_ _)); refine blk_far ?_ NB282_281.out _; (with_reducible repeat (first | refine blk_drewN ?_ _ | refine blk_drew ?_ | refine blk_alloc ?_ _)); refine blk_far ?_ NB282_281.out _; (with_reducible repeat (first | refine blk_drewN ?_ _ | refine blk_drew ?_ | refine blk_alloc ?_ _)); exact BK282.out) hb); have n2_ := Aside0.mk (below_step (by repeat (first | (with_reducible first | exact HB.out | apply below_alloc | apply pw_below_drewN | apply below_drew1 | refine below_set ?_ GE281.out | refine below_set ?_ GE282.out) | exact HB.out)) hb); clear BK281; clear BK282; clear HB; have BK281 := n0_; have BK282 := n1_; have HB := n2_; clear n0_ n1_ n2_; (try clear hb); (try clear hb2); (try clear hk); (try clear hi)) | ((with_reducible refine gate_callee (f := 13) rfl ?_); refine goesL_ (some 31) rfl rfl Try.func13 (by kernel_rfl) rfl #[.agg #[.int .i64 0, .int .i64 0], .agg #[.int .i64 1, .int .i64 0], .agg #[.int .i64 0, .int .i64 1]] rfl (by (try simp only [List.map_toArray, List.map_cons, List.map_nil]); first | done | rfl | (simp only [List.length_drop, List.length_take]; rfl)) ?_; (with_reducible refine (geom_Cross.calls k 0 0 1 0 0 1 t285 t286 _ A2.out).mono ?_); rintro e w10 ⟨rfl, hb⟩; refine ⟨_, rfl, ?_⟩; have n0_ := Aside0.mk (blk_below (g := gb281) (o := .cells #[.int .i64 (-10), .int .i64 0] 23 (0, 0)) (by (with_reducible repeat (first | refine blk_drewN ?_ _ | refine blk_drew ?_ | refine blk_alloc ?_ _)); exact BK281.out) hb); have n1_ := Aside0.mk (blk_below (g := gb282) (o := .cells #[.int .i64 10, .int .i64 0] 23 (0, 0)) (by (with_reducible repeat (first | refine blk_drewN ?_ _ | refine blk_drew ?_ | refine blk_alloc ?_ _)); exact BK282.out) hb); have n2_ := Aside0.mk (below_step (by repeat (first | (with_reducible first | exact HB.out | apply below_alloc | apply pw_below_drewN | apply below_drew1 | refine below_set ?_ GE281.out | refine below_set ?_ GE282.out) | exact HB.out)) hb); clear BK281; clear BK282; clear HB; have BK281 := n0_; have BK282 := n1_; have HB := n2_; clear n0_ n1_ n2_; (try clear hb); (try clear hb2); (try clear hk); (try clear hi)))
 (try simp only [Act.put, List.setIfInBounds_toArray, List.set_cons_zero, List.set_cons_succ])
 go_cut [47] (fun v47 wc => ∃ (kq : Nat) (x47_2 : Bool), v47 = .bool x47_2 ∧ Aside0 (dancestudiolaw03_awake.j0 kq x47_2 (-10) 0 10 0 = some r) ∧ Aside0 (kq ≤ k) ∧ Aside0 (wc.heap[gb281]? = some (.cells #[.int .i64 (-10), .int .i64 0] 23 (0, 0))) ∧ Aside0 (wc.heap[gb282]? = some (.cells #[.int .i64 10, .int .i64 0] 23 (0, 0))) ∧ Aside0 (Below w.heap.size w wc))
 case first =>
  have H := HC3.out
  clear HC3
  by_cases c11 : t284 = 0
  ·
   rw [if_pos c11] at H
   have c11b0 : (t284 == 0) = true := beq_iff_eq.mpr c11
   have c11b1 : (t284 != 0) = false := bne_eq_false_iff_eq.mpr c11
   clear c11
   (first | rw [c11b0] | (simp only [i64_w, i32_w]; rw [c11b0]) | skip)
   by_cases c12 : t286 = 0
   ·
    rw [if_pos c12] at H
    have c12b0 : (t286 == 0) = true := beq_iff_eq.mpr c12
    have c12b1 : (t286 != 0) = false := bne_eq_false_iff_eq.mpr c12
    clear c12
    by_cases c13 : t283 = 25
    ·
     rw [if_pos c13] at H
     have c13b0 : (t283 == 25) = true := beq_iff_eq.mpr c13
     have c13b1 : (t283 != 25) = false := bne_eq_false_iff_eq.mpr c13
     clear c13
     have H' := Aside0.mk H
     clear H
     go_wp2
     go_meet
     case rel => exact ⟨_, ((t285 != 1)), (by first | rfl | (simp; done) | (simp [*]; done)), H', ⟨by first | omega | exact Nat.le_refl _⟩, ⟨by (with_reducible repeat (first | refine blk_drewN ?_ _ | refine blk_drew ?_ | refine blk_alloc ?_ _)); exact BK281.out⟩, ⟨by (with_reducible repeat (first | refine blk_drewN ?_ _ | refine blk_drew ?_ | refine blk_alloc ?_ _)); exact BK282.out⟩, ⟨by repeat (first | (with_reducible first | exact HB.out | apply below_alloc | apply pw_below_drewN | apply below_drew1 | refine below_set ?_ GE281.out | refine below_set ?_ GE282.out) | exact HB.out)⟩⟩
    ·
     rw [if_neg c13] at H
     have c13b0 : (t283 == 25) = false := beq_eq_false_iff_ne.mpr c13
     have c13b1 : (t283 != 25) = true := bne_iff_ne.mpr c13
     have H' := Aside0.mk H
     clear H
     go_wp2
     go_meet
     case rel => exact ⟨_, (true), (by first | rfl | (simp; done) | (simp [*]; done)), H', ⟨by first | omega | exact Nat.le_refl _⟩, ⟨by (with_reducible repeat (first | refine blk_drewN ?_ _ | refine blk_drew ?_ | refine blk_alloc ?_ _)); exact BK281.out⟩, ⟨by (with_reducible repeat (first | refine blk_drewN ?_ _ | refine blk_drew ?_ | refine blk_alloc ?_ _)); exact BK282.out⟩, ⟨by repeat (first | (with_reducible first | exact HB.out | apply below_alloc | apply pw_below_drewN | apply below_drew1 | refine below_set ?_ GE281.out | refine below_set ?_ GE282.out) | exact HB.out)⟩⟩
   ·
    rw [if_neg c12] at H
    have c12b0 : (t286 == 0) = false := beq_eq_false_iff_ne.mpr c12
    have c12b1 : (t286 != 0) = true := bne_iff_ne.mpr c12
    have H' := Aside0.mk H
    clear H
    go_wp2
    go_meet
    case rel => exact ⟨_, (true), (by first | rfl | (simp; done) | (simp [*]; done)), H', ⟨by first | omega | exact Nat.le_refl _⟩, ⟨by (with_reducible repeat (first | refine blk_drewN ?_ _ | refine blk_drew ?_ | refine blk_alloc ?_ _)); exact BK281.out⟩, ⟨by (with_reducible repeat (first | refine blk_drewN ?_ _ | refine blk_drew ?_ | refine blk_alloc ?_ _)); exact BK282.out⟩, ⟨by repeat (first | (with_reducible first | exact HB.out | apply below_alloc | apply pw_below_drewN | apply below_drew1 | refine below_set ?_ GE281.out | refine below_set ?_ GE282.out) | exact HB.out)⟩⟩
  ·
   rw [if_neg c11] at H
   have c11b0 : (t284 == 0) = false := beq_eq_false_iff_ne.mpr c11
   have c11b1 : (t284 != 0) = true := bne_iff_ne.mpr c11
   (first | rw [c11b0] | (simp only [i64_w, i32_w]; rw [c11b0]) | skip)
   have H' := Aside0.mk H
   clear H
   go_wp2
   go_meet
   case rel => exact ⟨_, (true), (by first | rfl | (simp; done) | (simp [*]; done)), H', ⟨by first | omega | exact Nat.le_refl _⟩, ⟨by (with_reducible repeat (first | refine blk_drewN ?_ _ | refine blk_drew ?_ | refine blk_alloc ?_ _)); exact BK281.out⟩, ⟨by (with_reducible repeat (first | refine blk_drewN ?_ _ | refine blk_drew ?_ | refine blk_alloc ?_ _)); exact BK282.out⟩, ⟨by repeat (first | (with_reducible first | exact HB.out | apply below_alloc | apply pw_below_drewN | apply below_drew1 | refine below_set ?_ GE281.out | refine below_set ?_ GE282.out) | exact HB.out)⟩⟩
 case rest =>
  clear HC3
  try clear c1
  try clear p2
  try clear c6
  try clear c11
  try clear c11b0
  try clear c11b1
  try clear c12
  try clear c12b0
  try clear c12b1
  try clear c13
  try clear c13b0
  try clear c13b1
  try clear hcz7_0
  try clear hcz7_1
  try clear hcz8_0
  try clear hcz8_1
  try clear hfz7_0
  try clear hfz7_1
  try clear hfz8_0
  try clear hfz8_1
  obtain ⟨kq, x47_2, rfl, HA, HJ2, BK281, BK282, HB⟩ := hcut
  cases kq with
  | zero => exact absurd HA.out (by simp [dancestudiolaw03_awake.j0])
  | succ kj2 =>
   have H := HA.out
   clear HA
   simp only [dancestudiolaw03_awake.j0] at H
   by_cases c14 : x47_2 = true
   ·
    subst c14
    have H1 : (none) = some r := by rw [if_pos rfl] at H; exact H
    clear H
    have H := H1
    clear H1
    exact absurd H (by simp)
   ·
    replace c14 := Bool.eq_false_iff.mpr c14
    subst c14
    have H1 : ((geom_Near.f kj2 0 5 (-10) 0 10 0 5).bind fun bt287 => ((geom_Near.f kj2 0 5 (-10) 0 10 0 4).bind fun bt289 => ((geom_Near.f kj2 13 4 (-10) 0 10 0 5).bind fun bt291 => ((geom_Near.f kj2 13 4 (-10) 0 10 0 4).bind fun bt293 => (if bt287.2 = 0 then (if bt289.2 = 0 then (if bt291.2 = 0 then (if bt293.2 = 0 then (if bt287.1 = true then (if bt289.1 = true then (dancestudiolaw03_awake.j1 kj2 true) else (if bt291.1 = true then (dancestudiolaw03_awake.j1 kj2 bt293.1) else (dancestudiolaw03_awake.j1 kj2 true))) else (dancestudiolaw03_awake.j1 kj2 true)) else (dancestudiolaw03_awake.j1 kj2 true)) else (dancestudiolaw03_awake.j1 kj2 true)) else (dancestudiolaw03_awake.j1 kj2 true)) else (dancestudiolaw03_awake.j1 kj2 true)))))) = some r := by rw [if_neg (show ¬ (false = true) by decide)] at H; exact H
    clear H
    have H := H1
    clear H1
    replace H := Option.bind_eq_some_iff.mp H
    obtain ⟨⟨t287, t288⟩, A150, H⟩ := H
    replace H : ((geom_Near.f kj2 0 5 (-10) 0 10 0 4).bind fun bt289 => ((geom_Near.f kj2 13 4 (-10) 0 10 0 5).bind fun bt291 => ((geom_Near.f kj2 13 4 (-10) 0 10 0 4).bind fun bt293 => (if t288 = 0 then (if bt289.2 = 0 then (if bt291.2 = 0 then (if bt293.2 = 0 then (if t287 = true then (if bt289.1 = true then (dancestudiolaw03_awake.j1 kj2 true) else (if bt291.1 = true then (dancestudiolaw03_awake.j1 kj2 bt293.1) else (dancestudiolaw03_awake.j1 kj2 true))) else (dancestudiolaw03_awake.j1 kj2 true)) else (dancestudiolaw03_awake.j1 kj2 true)) else (dancestudiolaw03_awake.j1 kj2 true)) else (dancestudiolaw03_awake.j1 kj2 true)) else (dancestudiolaw03_awake.j1 kj2 true))))) = some r := H
    have A15 := Aside0.mk A150
    clear A150
    replace H := Option.bind_eq_some_iff.mp H
    obtain ⟨⟨t289, t290⟩, A160, H⟩ := H
    replace H : ((geom_Near.f kj2 13 4 (-10) 0 10 0 5).bind fun bt291 => ((geom_Near.f kj2 13 4 (-10) 0 10 0 4).bind fun bt293 => (if t288 = 0 then (if t290 = 0 then (if bt291.2 = 0 then (if bt293.2 = 0 then (if t287 = true then (if t289 = true then (dancestudiolaw03_awake.j1 kj2 true) else (if bt291.1 = true then (dancestudiolaw03_awake.j1 kj2 bt293.1) else (dancestudiolaw03_awake.j1 kj2 true))) else (dancestudiolaw03_awake.j1 kj2 true)) else (dancestudiolaw03_awake.j1 kj2 true)) else (dancestudiolaw03_awake.j1 kj2 true)) else (dancestudiolaw03_awake.j1 kj2 true)) else (dancestudiolaw03_awake.j1 kj2 true)))) = some r := H
    have A16 := Aside0.mk A160
    clear A160
    replace H := Option.bind_eq_some_iff.mp H
    obtain ⟨⟨t291, t292⟩, A170, H⟩ := H
    replace H : ((geom_Near.f kj2 13 4 (-10) 0 10 0 4).bind fun bt293 => (if t288 = 0 then (if t290 = 0 then (if t292 = 0 then (if bt293.2 = 0 then (if t287 = true then (if t289 = true then (dancestudiolaw03_awake.j1 kj2 true) else (if t291 = true then (dancestudiolaw03_awake.j1 kj2 bt293.1) else (dancestudiolaw03_awake.j1 kj2 true))) else (dancestudiolaw03_awake.j1 kj2 true)) else (dancestudiolaw03_awake.j1 kj2 true)) else (dancestudiolaw03_awake.j1 kj2 true)) else (dancestudiolaw03_awake.j1 kj2 true)) else (dancestudiolaw03_awake.j1 kj2 true))) = some r := H
    have A17 := Aside0.mk A170
    clear A170
    replace H := Option.bind_eq_some_iff.mp H
    obtain ⟨⟨t293, t294⟩, A180, H⟩ := H
    replace H : (if t288 = 0 then (if t290 = 0 then (if t292 = 0 then (if t294 = 0 then (if t287 = true then (if t289 = true then (dancestudiolaw03_awake.j1 kj2 true) else (if t291 = true then (dancestudiolaw03_awake.j1 kj2 t293) else (dancestudiolaw03_awake.j1 kj2 true))) else (dancestudiolaw03_awake.j1 kj2 true)) else (dancestudiolaw03_awake.j1 kj2 true)) else (dancestudiolaw03_awake.j1 kj2 true)) else (dancestudiolaw03_awake.j1 kj2 true)) else (dancestudiolaw03_awake.j1 kj2 true)) = some r := H
    have A18 := Aside0.mk A180
    clear A180
    have HC19 := Aside0.mk H
    clear H
    have hnb20 := NB281_282.out
    have hnc20 := NB282_281.out
    have hcz21_0 : wc.cell? ⟨gb281, 0, none⟩ = some (.int .i64 (-10)) := (blk_cell BK281.out 0).trans rfl
    have hcz21_1 : wc.cell? ⟨gb281, 1, none⟩ = some (.int .i64 0) := (blk_cell BK281.out 1).trans rfl
    have hfz21_0 := blk_frozen BK281.out 0
    have hfz21_1 := blk_frozen BK281.out 1
    have hcz22_0 : wc.cell? ⟨gb282, 0, none⟩ = some (.int .i64 10) := (blk_cell BK282.out 0).trans rfl
    have hcz22_1 : wc.cell? ⟨gb282, 1, none⟩ = some (.int .i64 0) := (blk_cell BK282.out 1).trans rfl
    have hfz22_0 := blk_frozen BK282.out 0
    have hfz22_1 := blk_frozen BK282.out 1
    go_upto_region 10 with (first | ((with_reducible refine gate_callee (f := 16) rfl ?_); refine goesL_ (some 52) rfl rfl Try.func16 (by kernel_rfl) rfl #[.agg #[.int .i64 0, .int .i64 5], .agg #[.int .i64 (-10), .int .i64 0], .agg #[.int .i64 10, .int .i64 0], .int .i64 5] rfl (by (try simp only [List.map_toArray, List.map_cons, List.map_nil]); first | done | rfl | (simp only [List.length_drop, List.length_take]; rfl)) ?_; (with_reducible refine (geom_Near.calls kj2 0 5 (-10) 0 10 0 5 t287 t288 _ A15.out).mono ?_); rintro e w23 ⟨rfl, hb⟩; refine ⟨_, rfl, ?_⟩; have n0_ := Aside0.mk (blk_below (g := gb281) (o := .cells #[.int .i64 (-10), .int .i64 0] 23 (0, 0)) (by (with_reducible repeat (first | refine blk_drewN ?_ _ | refine blk_drew ?_ | refine blk_alloc ?_ _)); exact BK281.out) hb); have n1_ := Aside0.mk (blk_below (g := gb282) (o := .cells #[.int .i64 10, .int .i64 0] 23 (0, 0)) (by (with_reducible repeat (first | refine blk_drewN ?_ _ | refine blk_drew ?_ | refine blk_alloc ?_ _)); exact BK282.out) hb); have n2_ := Aside0.mk (below_step (by repeat (first | (with_reducible first | exact HB.out | apply below_alloc | apply pw_below_drewN | apply below_drew1 | refine below_set ?_ GE281.out | refine below_set ?_ GE282.out) | exact HB.out)) hb); clear BK281; clear BK282; clear HB; have BK281 := n0_; have BK282 := n1_; have HB := n2_; clear n0_ n1_ n2_; (try clear hb); (try clear hb2); (try clear hk); (try clear hi); have hcz24_0 : w23.cell? ⟨gb281, 0, none⟩ = some (.int .i64 (-10)) := (blk_cell BK281.out 0).trans rfl; have hcz24_1 : w23.cell? ⟨gb281, 1, none⟩ = some (.int .i64 0) := (blk_cell BK281.out 1).trans rfl; have hfz24_0 := blk_frozen BK281.out 0; have hfz24_1 := blk_frozen BK281.out 1; have hcz25_0 : w23.cell? ⟨gb282, 0, none⟩ = some (.int .i64 10) := (blk_cell BK282.out 0).trans rfl; have hcz25_1 : w23.cell? ⟨gb282, 1, none⟩ = some (.int .i64 0) := (blk_cell BK282.out 1).trans rfl; have hfz25_0 := blk_frozen BK282.out 0; have hfz25_1 := blk_frozen BK282.out 1) | ((with_reducible refine gate_callee (f := 16) rfl ?_); refine goesL_ (some 59) rfl rfl Try.func16 (by kernel_rfl) rfl #[.agg #[.int .i64 0, .int .i64 5], .agg #[.int .i64 (-10), .int .i64 0], .agg #[.int .i64 10, .int .i64 0], .int .i64 4] rfl (by (try simp only [List.map_toArray, List.map_cons, List.map_nil]); first | done | rfl | (simp only [List.length_drop, List.length_take]; rfl)) ?_; (with_reducible refine (geom_Near.calls kj2 0 5 (-10) 0 10 0 4 t289 t290 _ A16.out).mono ?_); rintro e w26 ⟨rfl, hb⟩; refine ⟨_, rfl, ?_⟩; have n0_ := Aside0.mk (blk_below (g := gb281) (o := .cells #[.int .i64 (-10), .int .i64 0] 23 (0, 0)) (by (with_reducible repeat (first | refine blk_drewN ?_ _ | refine blk_drew ?_ | refine blk_alloc ?_ _)); exact BK281.out) hb); have n1_ := Aside0.mk (blk_below (g := gb282) (o := .cells #[.int .i64 10, .int .i64 0] 23 (0, 0)) (by (with_reducible repeat (first | refine blk_drewN ?_ _ | refine blk_drew ?_ | refine blk_alloc ?_ _)); exact BK282.out) hb); have n2_ := Aside0.mk (below_step (by repeat (first | (with_reducible first | exact HB.out | apply below_alloc | apply pw_below_drewN | apply below_drew1 | refine below_set ?_ GE281.out | refine below_set ?_ GE282.out) | exact HB.out)) hb); clear BK281; clear BK282; clear HB; have BK281 := n0_; have BK282 := n1_; have HB := n2_; clear n0_ n1_ n2_; (try clear hb); (try clear hb2); (try clear hk); (try clear hi); have hcz27_0 : w26.cell? ⟨gb281, 0, none⟩ = some (.int .i64 (-10)) := (blk_cell BK281.out 0).trans rfl; have hcz27_1 : w26.cell? ⟨gb281, 1, none⟩ = some (.int .i64 0) := (blk_cell BK281.out 1).trans rfl; have hfz27_0 := blk_frozen BK281.out 0; have hfz27_1 := blk_frozen BK281.out 1; have hcz28_0 : w26.cell? ⟨gb282, 0, none⟩ = some (.int .i64 10) := (blk_cell BK282.out 0).trans rfl; have hcz28_1 : w26.cell? ⟨gb282, 1, none⟩ = some (.int .i64 0) := (blk_cell BK282.out 1).trans rfl; have hfz28_0 := blk_frozen BK282.out 0; have hfz28_1 := blk_frozen BK282.out 1) | ((with_reducible refine gate_callee (f := 16) rfl ?_); refine goesL_ (some 66) rfl rfl Try.func16 (by kernel_rfl) rfl #[.agg #[.int .i64 13, .int .i64 4], .agg #[.int .i64 (-10), .int .i64 0], .agg #[.int .i64 10, .int .i64 0], .int .i64 5] rfl (by (try simp only [List.map_toArray, List.map_cons, List.map_nil]); first | done | rfl | (simp only [List.length_drop, List.length_take]; rfl)) ?_; (with_reducible refine (geom_Near.calls kj2 13 4 (-10) 0 10 0 5 t291 t292 _ A17.out).mono ?_); rintro e w29 ⟨rfl, hb⟩; refine ⟨_, rfl, ?_⟩; have n0_ := Aside0.mk (blk_below (g := gb281) (o := .cells #[.int .i64 (-10), .int .i64 0] 23 (0, 0)) (by (with_reducible repeat (first | refine blk_drewN ?_ _ | refine blk_drew ?_ | refine blk_alloc ?_ _)); exact BK281.out) hb); have n1_ := Aside0.mk (blk_below (g := gb282) (o := .cells #[.int .i64 10, .int .i64 0] 23 (0, 0)) (by (with_reducible repeat (first | refine blk_drewN ?_ _ | refine blk_drew ?_ | refine blk_alloc ?_ _)); exact BK282.out) hb); have n2_ := Aside0.mk (below_step (by repeat (first | (with_reducible first | exact HB.out | apply below_alloc | apply pw_below_drewN | apply below_drew1 | refine below_set ?_ GE281.out | refine below_set ?_ GE282.out) | exact HB.out)) hb); clear BK281; clear BK282; clear HB; have BK281 := n0_; have BK282 := n1_; have HB := n2_; clear n0_ n1_ n2_; (try clear hb); (try clear hb2); (try clear hk); (try clear hi); have hcz30_0 : w29.cell? ⟨gb281, 0, none⟩ = some (.int .i64 (-10)) := (blk_cell BK281.out 0).trans rfl; have hcz30_1 : w29.cell? ⟨gb281, 1, none⟩ = some (.int .i64 0) := (blk_cell BK281.out 1).trans rfl; have hfz30_0 := blk_frozen BK281.out 0; have hfz30_1 := blk_frozen BK281.out 1; have hcz31_0 : w29.cell? ⟨gb282, 0, none⟩ = some (.int .i64 10) := (blk_cell BK282.out 0).trans rfl; have hcz31_1 : w29.cell? ⟨gb282, 1, none⟩ = some (.int .i64 0) := (blk_cell BK282.out 1).trans rfl; have hfz31_0 := blk_frozen BK282.out 0; have hfz31_1 := blk_frozen BK282.out 1) | ((with_reducible refine gate_callee (f := 16) rfl ?_); refine goesL_ (some 73) rfl rfl Try.func16 (by kernel_rfl) rfl #[.agg #[.int .i64 13, .int .i64 4], .agg #[.int .i64 (-10), .int .i64 0], .agg #[.int .i64 10, .int .i64 0], .int .i64 4] rfl (by (try simp only [List.map_toArray, List.map_cons, List.map_nil]); first | done | rfl | (simp only [List.length_drop, List.length_take]; rfl)) ?_; (with_reducible refine (geom_Near.calls kj2 13 4 (-10) 0 10 0 4 t293 t294 _ A18.out).mono ?_); rintro e w32 ⟨rfl, hb⟩; refine ⟨_, rfl, ?_⟩; have n0_ := Aside0.mk (blk_below (g := gb281) (o := .cells #[.int .i64 (-10), .int .i64 0] 23 (0, 0)) (by (with_reducible repeat (first | refine blk_drewN ?_ _ | refine blk_drew ?_ | refine blk_alloc ?_ _)); exact BK281.out) hb); have n1_ := Aside0.mk (blk_below (g := gb282) (o := .cells #[.int .i64 10, .int .i64 0] 23 (0, 0)) (by (with_reducible repeat (first | refine blk_drewN ?_ _ | refine blk_drew ?_ | refine blk_alloc ?_ _)); exact BK282.out) hb); have n2_ := Aside0.mk (below_step (by repeat (first | (with_reducible first | exact HB.out | apply below_alloc | apply pw_below_drewN | apply below_drew1 | refine below_set ?_ GE281.out | refine below_set ?_ GE282.out) | exact HB.out)) hb); clear BK281; clear BK282; clear HB; have BK281 := n0_; have BK282 := n1_; have HB := n2_; clear n0_ n1_ n2_; (try clear hb); (try clear hb2); (try clear hk); (try clear hi)))
    (try simp only [Act.put, List.setIfInBounds_toArray, List.set_cons_zero, List.set_cons_succ])
    go_cut [103] (fun v103 wc => ∃ (kq : Nat) (x103_18 : Bool), v103 = .bool x103_18 ∧ Aside0 (dancestudiolaw03_awake.j1 kq x103_18 = some r) ∧ Aside0 (kq ≤ kj2) ∧ Aside0 (wc.heap[gb281]? = some (.cells #[.int .i64 (-10), .int .i64 0] 23 (0, 0))) ∧ Aside0 (wc.heap[gb282]? = some (.cells #[.int .i64 10, .int .i64 0] 23 (0, 0))) ∧ Aside0 (Below w.heap.size w wc))
    case first =>
     have H := HC19.out
     clear HC19
     by_cases c33 : t288 = 0
     ·
      rw [if_pos c33] at H
      have c33b0 : (t288 == 0) = true := beq_iff_eq.mpr c33
      have c33b1 : (t288 != 0) = false := bne_eq_false_iff_eq.mpr c33
      clear c33
      (first | rw [c33b0] | (simp only [i64_w, i32_w]; rw [c33b0]) | skip)
      by_cases c34 : t290 = 0
      ·
       rw [if_pos c34] at H
       have c34b0 : (t290 == 0) = true := beq_iff_eq.mpr c34
       have c34b1 : (t290 != 0) = false := bne_eq_false_iff_eq.mpr c34
       clear c34
       by_cases c35 : t292 = 0
       ·
        rw [if_pos c35] at H
        have c35b0 : (t292 == 0) = true := beq_iff_eq.mpr c35
        have c35b1 : (t292 != 0) = false := bne_eq_false_iff_eq.mpr c35
        clear c35
        by_cases c36 : t294 = 0
        ·
         rw [if_pos c36] at H
         have c36b0 : (t294 == 0) = true := beq_iff_eq.mpr c36
         have c36b1 : (t294 != 0) = false := bne_eq_false_iff_eq.mpr c36
         clear c36
         by_cases c37 : t287 = true
         ·
          subst c37
          have H1 : (if t289 = true then (dancestudiolaw03_awake.j1 kj2 true) else (if t291 = true then (dancestudiolaw03_awake.j1 kj2 t293) else (dancestudiolaw03_awake.j1 kj2 true))) = some r := by rw [if_pos rfl] at H; exact H
          clear H
          have H := H1
          clear H1
          by_cases c38 : t289 = true
          ·
           subst c38
           have H1 : (dancestudiolaw03_awake.j1 kj2 true) = some r := by rw [if_pos rfl] at H; exact H
           clear H
           have H := H1
           clear H1
           have H' := Aside0.mk H
           clear H
           go_wp2
           go_meet
           case rel => exact ⟨_, (true), (by first | rfl | (simp; done) | (simp [*]; done)), H', ⟨by have := HJ2.out; first | omega | exact Nat.le_refl _⟩, ⟨by (with_reducible repeat (first | refine blk_drewN ?_ _ | refine blk_drew ?_ | refine blk_alloc ?_ _)); exact BK281.out⟩, ⟨by (with_reducible repeat (first | refine blk_drewN ?_ _ | refine blk_drew ?_ | refine blk_alloc ?_ _)); exact BK282.out⟩, ⟨by repeat (first | (with_reducible first | exact HB.out | apply below_alloc | apply pw_below_drewN | apply below_drew1 | refine below_set ?_ GE281.out | refine below_set ?_ GE282.out) | exact HB.out)⟩⟩
          ·
           replace c38 := Bool.eq_false_iff.mpr c38
           subst c38
           have H1 : (if t291 = true then (dancestudiolaw03_awake.j1 kj2 t293) else (dancestudiolaw03_awake.j1 kj2 true)) = some r := by rw [if_neg (show ¬ (false = true) by decide)] at H; exact H
           clear H
           have H := H1
           clear H1
           by_cases c39 : t291 = true
           ·
            subst c39
            have H1 : (dancestudiolaw03_awake.j1 kj2 t293) = some r := by rw [if_pos rfl] at H; exact H
            clear H
            have H := H1
            clear H1
            have H' := Aside0.mk H
            clear H
            go_wp2
            go_meet
            case rel => exact ⟨_, (t293), (by first | rfl | (simp; done) | (simp [*]; done)), H', ⟨by have := HJ2.out; first | omega | exact Nat.le_refl _⟩, ⟨by (with_reducible repeat (first | refine blk_drewN ?_ _ | refine blk_drew ?_ | refine blk_alloc ?_ _)); exact BK281.out⟩, ⟨by (with_reducible repeat (first | refine blk_drewN ?_ _ | refine blk_drew ?_ | refine blk_alloc ?_ _)); exact BK282.out⟩, ⟨by repeat (first | (with_reducible first | exact HB.out | apply below_alloc | apply pw_below_drewN | apply below_drew1 | refine below_set ?_ GE281.out | refine below_set ?_ GE282.out) | exact HB.out)⟩⟩
           ·
            replace c39 := Bool.eq_false_iff.mpr c39
            subst c39
            have H1 : (dancestudiolaw03_awake.j1 kj2 true) = some r := by rw [if_neg (show ¬ (false = true) by decide)] at H; exact H
            clear H
            have H := H1
            clear H1
            have H' := Aside0.mk H
            clear H
            go_wp2
            go_meet
            case rel => exact ⟨_, (true), (by first | rfl | (simp; done) | (simp [*]; done)), H', ⟨by have := HJ2.out; first | omega | exact Nat.le_refl _⟩, ⟨by (with_reducible repeat (first | refine blk_drewN ?_ _ | refine blk_drew ?_ | refine blk_alloc ?_ _)); exact BK281.out⟩, ⟨by (with_reducible repeat (first | refine blk_drewN ?_ _ | refine blk_drew ?_ | refine blk_alloc ?_ _)); exact BK282.out⟩, ⟨by repeat (first | (with_reducible first | exact HB.out | apply below_alloc | apply pw_below_drewN | apply below_drew1 | refine below_set ?_ GE281.out | refine below_set ?_ GE282.out) | exact HB.out)⟩⟩
         ·
          replace c37 := Bool.eq_false_iff.mpr c37
          subst c37
          have H1 : (dancestudiolaw03_awake.j1 kj2 true) = some r := by rw [if_neg (show ¬ (false = true) by decide)] at H; exact H
          clear H
          have H := H1
          clear H1
          have H' := Aside0.mk H
          clear H
          go_wp2
          go_meet
          case rel => exact ⟨_, (true), (by first | rfl | (simp; done) | (simp [*]; done)), H', ⟨by have := HJ2.out; first | omega | exact Nat.le_refl _⟩, ⟨by (with_reducible repeat (first | refine blk_drewN ?_ _ | refine blk_drew ?_ | refine blk_alloc ?_ _)); exact BK281.out⟩, ⟨by (with_reducible repeat (first | refine blk_drewN ?_ _ | refine blk_drew ?_ | refine blk_alloc ?_ _)); exact BK282.out⟩, ⟨by repeat (first | (with_reducible first | exact HB.out | apply below_alloc | apply pw_below_drewN | apply below_drew1 | refine below_set ?_ GE281.out | refine below_set ?_ GE282.out) | exact HB.out)⟩⟩
        ·
         rw [if_neg c36] at H
         have c36b0 : (t294 == 0) = false := beq_eq_false_iff_ne.mpr c36
         have c36b1 : (t294 != 0) = true := bne_iff_ne.mpr c36
         have H' := Aside0.mk H
         clear H
         go_wp2
         go_meet
         case rel => exact ⟨_, (true), (by first | rfl | (simp; done) | (simp [*]; done)), H', ⟨by have := HJ2.out; first | omega | exact Nat.le_refl _⟩, ⟨by (with_reducible repeat (first | refine blk_drewN ?_ _ | refine blk_drew ?_ | refine blk_alloc ?_ _)); exact BK281.out⟩, ⟨by (with_reducible repeat (first | refine blk_drewN ?_ _ | refine blk_drew ?_ | refine blk_alloc ?_ _)); exact BK282.out⟩, ⟨by repeat (first | (with_reducible first | exact HB.out | apply below_alloc | apply pw_below_drewN | apply below_drew1 | refine below_set ?_ GE281.out | refine below_set ?_ GE282.out) | exact HB.out)⟩⟩
       ·
        rw [if_neg c35] at H
        have c35b0 : (t292 == 0) = false := beq_eq_false_iff_ne.mpr c35
        have c35b1 : (t292 != 0) = true := bne_iff_ne.mpr c35
        have H' := Aside0.mk H
        clear H
        go_wp2
        go_meet
        case rel => exact ⟨_, (true), (by first | rfl | (simp; done) | (simp [*]; done)), H', ⟨by have := HJ2.out; first | omega | exact Nat.le_refl _⟩, ⟨by (with_reducible repeat (first | refine blk_drewN ?_ _ | refine blk_drew ?_ | refine blk_alloc ?_ _)); exact BK281.out⟩, ⟨by (with_reducible repeat (first | refine blk_drewN ?_ _ | refine blk_drew ?_ | refine blk_alloc ?_ _)); exact BK282.out⟩, ⟨by repeat (first | (with_reducible first | exact HB.out | apply below_alloc | apply pw_below_drewN | apply below_drew1 | refine below_set ?_ GE281.out | refine below_set ?_ GE282.out) | exact HB.out)⟩⟩
      ·
       rw [if_neg c34] at H
       have c34b0 : (t290 == 0) = false := beq_eq_false_iff_ne.mpr c34
       have c34b1 : (t290 != 0) = true := bne_iff_ne.mpr c34
       have H' := Aside0.mk H
       clear H
       go_wp2
       go_meet
       case rel => exact ⟨_, (true), (by first | rfl | (simp; done) | (simp [*]; done)), H', ⟨by have := HJ2.out; first | omega | exact Nat.le_refl _⟩, ⟨by (with_reducible repeat (first | refine blk_drewN ?_ _ | refine blk_drew ?_ | refine blk_alloc ?_ _)); exact BK281.out⟩, ⟨by (with_reducible repeat (first | refine blk_drewN ?_ _ | refine blk_drew ?_ | refine blk_alloc ?_ _)); exact BK282.out⟩, ⟨by repeat (first | (with_reducible first | exact HB.out | apply below_alloc | apply pw_below_drewN | apply below_drew1 | refine below_set ?_ GE281.out | refine below_set ?_ GE282.out) | exact HB.out)⟩⟩
     ·
      rw [if_neg c33] at H
      have c33b0 : (t288 == 0) = false := beq_eq_false_iff_ne.mpr c33
      have c33b1 : (t288 != 0) = true := bne_iff_ne.mpr c33
      (first | rw [c33b0] | (simp only [i64_w, i32_w]; rw [c33b0]) | skip)
      have H' := Aside0.mk H
      clear H
      go_wp2
      go_meet
      case rel => exact ⟨_, (true), (by first | rfl | (simp; done) | (simp [*]; done)), H', ⟨by have := HJ2.out; first | omega | exact Nat.le_refl _⟩, ⟨by (with_reducible repeat (first | refine blk_drewN ?_ _ | refine blk_drew ?_ | refine blk_alloc ?_ _)); exact BK281.out⟩, ⟨by (with_reducible repeat (first | refine blk_drewN ?_ _ | refine blk_drew ?_ | refine blk_alloc ?_ _)); exact BK282.out⟩, ⟨by repeat (first | (with_reducible first | exact HB.out | apply below_alloc | apply pw_below_drewN | apply below_drew1 | refine below_set ?_ GE281.out | refine below_set ?_ GE282.out) | exact HB.out)⟩⟩
    case rest =>
     clear HC19
     try clear c1
     try clear c2
     try clear p2
     try clear c3
     try clear c6
     try clear c11
     try clear c11b0
     try clear c11b1
     try clear c12
     try clear c12b0
     try clear c12b1
     try clear c13
     try clear c13b0
     try clear c13b1
     try clear c14
     try clear c15
     try clear c16
     try clear c20
     try clear c33
     try clear c33b0
     try clear c33b1
     try clear c34
     try clear c34b0
     try clear c34b1
     try clear c35
     try clear c35b0
     try clear c35b1
     try clear c36
     try clear c36b0
     try clear c36b1
     try clear c37
     try clear c38
     try clear c39
     try clear hcz21_0
     try clear hcz21_1
     try clear hcz22_0
     try clear hcz22_1
     try clear hcz24_0
     try clear hcz24_1
     try clear hcz25_0
     try clear hcz25_1
     try clear hcz27_0
     try clear hcz27_1
     try clear hcz28_0
     try clear hcz28_1
     try clear hcz30_0
     try clear hcz30_1
     try clear hcz31_0
     try clear hcz31_1
     try clear hcz7_0
     try clear hcz7_1
     try clear hcz8_0
     try clear hcz8_1
     try clear hfz21_0
     try clear hfz21_1
     try clear hfz22_0
     try clear hfz22_1
     try clear hfz24_0
     try clear hfz24_1
     try clear hfz25_0
     try clear hfz25_1
     try clear hfz27_0
     try clear hfz27_1
     try clear hfz28_0
     try clear hfz28_1
     try clear hfz30_0
     try clear hfz30_1
     try clear hfz31_0
     try clear hfz31_1
     try clear hfz7_0
     try clear hfz7_1
     try clear hfz8_0
     try clear hfz8_1
     try clear p2
     obtain ⟨kq, x103_18, rfl, HA, HJ18, BK281, BK282, HB⟩ := hcut
     cases kq with
     | zero => exact absurd HA.out (by simp [dancestudiolaw03_awake.j1])
     | succ kj18 =>
      have H := HA.out
      clear HA
      simp only [dancestudiolaw03_awake.j1] at H
      by_cases c40 : x103_18 = true
      ·
       subst c40
       have H1 : (none) = some r := by rw [if_pos rfl] at H; exact H
       clear H
       have H := H1
       clear H1
       exact absurd H (by simp)
      ·
       replace c40 := Bool.eq_false_iff.mpr c40
       subst c40
       have H1 : ((dancestudiolaw03_disc.f 0 0 0 1000).bind fun bt295 => ((dancestudiolaw03_disc.f 600 1000 600 0).bind fun bt300 => ((geom_Touch.f kj18 bt295.1 bt295.2.1 bt295.2.2.1 bt295.2.2.2.1 bt295.2.2.2.2 bt300.1 bt300.2.1 bt300.2.2.1 bt300.2.2.2.1 bt300.2.2.2.2).bind fun bt305 => ((dancestudiolaw03_disc.f 0 0 0 1000).bind fun bt307 => ((dancestudiolaw03_disc.f 599 1000 599 0).bind fun bt312 => ((geom_Touch.f kj18 bt307.1 bt307.2.1 bt307.2.2.1 bt307.2.2.2.1 bt307.2.2.2.2 bt312.1 bt312.2.1 bt312.2.2.1 bt312.2.2.2.1 bt312.2.2.2.2).bind fun bt317 => (if bt305.2 = 0 then (if bt317.2 = 0 then (if bt305.1 = true then (dancestudiolaw03_awake.j2 kj18 true) else (dancestudiolaw03_awake.j2 kj18 (!bt317.1))) else (dancestudiolaw03_awake.j2 kj18 true)) else (dancestudiolaw03_awake.j2 kj18 true)))))))) = some r := by rw [if_neg (show ¬ (false = true) by decide)] at H; exact H
       clear H
       have H := H1
       clear H1
       replace H := Option.bind_eq_some_iff.mp H
       obtain ⟨⟨t295, t296, t297, t298, t299⟩, A410, H⟩ := H
       replace H : ((dancestudiolaw03_disc.f 600 1000 600 0).bind fun bt300 => ((geom_Touch.f kj18 t295 t296 t297 t298 t299 bt300.1 bt300.2.1 bt300.2.2.1 bt300.2.2.2.1 bt300.2.2.2.2).bind fun bt305 => ((dancestudiolaw03_disc.f 0 0 0 1000).bind fun bt307 => ((dancestudiolaw03_disc.f 599 1000 599 0).bind fun bt312 => ((geom_Touch.f kj18 bt307.1 bt307.2.1 bt307.2.2.1 bt307.2.2.2.1 bt307.2.2.2.2 bt312.1 bt312.2.1 bt312.2.2.1 bt312.2.2.2.1 bt312.2.2.2.2).bind fun bt317 => (if bt305.2 = 0 then (if bt317.2 = 0 then (if bt305.1 = true then (dancestudiolaw03_awake.j2 kj18 true) else (dancestudiolaw03_awake.j2 kj18 (!bt317.1))) else (dancestudiolaw03_awake.j2 kj18 true)) else (dancestudiolaw03_awake.j2 kj18 true))))))) = some r := H
       have A41 := Aside0.mk A410
       clear A410
       replace H := Option.bind_eq_some_iff.mp H
       obtain ⟨⟨t300, t301, t302, t303, t304⟩, A420, H⟩ := H
       replace H : ((geom_Touch.f kj18 t295 t296 t297 t298 t299 t300 t301 t302 t303 t304).bind fun bt305 => ((dancestudiolaw03_disc.f 0 0 0 1000).bind fun bt307 => ((dancestudiolaw03_disc.f 599 1000 599 0).bind fun bt312 => ((geom_Touch.f kj18 bt307.1 bt307.2.1 bt307.2.2.1 bt307.2.2.2.1 bt307.2.2.2.2 bt312.1 bt312.2.1 bt312.2.2.1 bt312.2.2.2.1 bt312.2.2.2.2).bind fun bt317 => (if bt305.2 = 0 then (if bt317.2 = 0 then (if bt305.1 = true then (dancestudiolaw03_awake.j2 kj18 true) else (dancestudiolaw03_awake.j2 kj18 (!bt317.1))) else (dancestudiolaw03_awake.j2 kj18 true)) else (dancestudiolaw03_awake.j2 kj18 true)))))) = some r := H
       have A42 := Aside0.mk A420
       clear A420
       replace H := Option.bind_eq_some_iff.mp H
       obtain ⟨⟨t305, t306⟩, A430, H⟩ := H
       replace H : ((dancestudiolaw03_disc.f 0 0 0 1000).bind fun bt307 => ((dancestudiolaw03_disc.f 599 1000 599 0).bind fun bt312 => ((geom_Touch.f kj18 bt307.1 bt307.2.1 bt307.2.2.1 bt307.2.2.2.1 bt307.2.2.2.2 bt312.1 bt312.2.1 bt312.2.2.1 bt312.2.2.2.1 bt312.2.2.2.2).bind fun bt317 => (if t306 = 0 then (if bt317.2 = 0 then (if t305 = true then (dancestudiolaw03_awake.j2 kj18 true) else (dancestudiolaw03_awake.j2 kj18 (!bt317.1))) else (dancestudiolaw03_awake.j2 kj18 true)) else (dancestudiolaw03_awake.j2 kj18 true))))) = some r := H
       have A43 := Aside0.mk A430
       clear A430
       replace H := Option.bind_eq_some_iff.mp H
       obtain ⟨⟨t307, t308, t309, t310, t311⟩, A440, H⟩ := H
       replace H : ((dancestudiolaw03_disc.f 599 1000 599 0).bind fun bt312 => ((geom_Touch.f kj18 t307 t308 t309 t310 t311 bt312.1 bt312.2.1 bt312.2.2.1 bt312.2.2.2.1 bt312.2.2.2.2).bind fun bt317 => (if t306 = 0 then (if bt317.2 = 0 then (if t305 = true then (dancestudiolaw03_awake.j2 kj18 true) else (dancestudiolaw03_awake.j2 kj18 (!bt317.1))) else (dancestudiolaw03_awake.j2 kj18 true)) else (dancestudiolaw03_awake.j2 kj18 true)))) = some r := H
       have A44 := Aside0.mk A440
       clear A440
       replace H := Option.bind_eq_some_iff.mp H
       obtain ⟨⟨t312, t313, t314, t315, t316⟩, A450, H⟩ := H
       replace H : ((geom_Touch.f kj18 t307 t308 t309 t310 t311 t312 t313 t314 t315 t316).bind fun bt317 => (if t306 = 0 then (if bt317.2 = 0 then (if t305 = true then (dancestudiolaw03_awake.j2 kj18 true) else (dancestudiolaw03_awake.j2 kj18 (!bt317.1))) else (dancestudiolaw03_awake.j2 kj18 true)) else (dancestudiolaw03_awake.j2 kj18 true))) = some r := H
       have A45 := Aside0.mk A450
       clear A450
       replace H := Option.bind_eq_some_iff.mp H
       obtain ⟨⟨t317, t318⟩, A460, H⟩ := H
       replace H : (if t306 = 0 then (if t318 = 0 then (if t305 = true then (dancestudiolaw03_awake.j2 kj18 true) else (dancestudiolaw03_awake.j2 kj18 (!t317))) else (dancestudiolaw03_awake.j2 kj18 true)) else (dancestudiolaw03_awake.j2 kj18 true)) = some r := H
       have A46 := Aside0.mk A460
       clear A460
       have HC47 := Aside0.mk H
       clear H
       go_upto_region 14 with (first | ((with_reducible refine gate_callee (f := 35) rfl ?_); refine goesL_ (some 105) rfl rfl Try.func35 (by kernel_rfl) rfl #[.int .i64 0, .int .i64 0, .int .i64 0, .int .i64 1000] rfl (by (try simp only [List.map_toArray, List.map_cons, List.map_nil]); first | done | rfl | (simp only [List.length_drop, List.length_take]; rfl)) ?_; (with_reducible refine (dancestudiolaw03_disc.calls 0 0 0 1000 t295 t296 t297 t298 t299 _ A41.out).mono ?_); rintro e w48 ⟨rfl, hb⟩; refine ⟨_, rfl, ?_⟩; have n0_ := Aside0.mk (blk_below (g := gb281) (o := .cells #[.int .i64 (-10), .int .i64 0] 23 (0, 0)) (by (with_reducible repeat (first | refine blk_drewN ?_ _ | refine blk_drew ?_ | refine blk_alloc ?_ _)); exact BK281.out) hb); have n1_ := Aside0.mk (blk_below (g := gb282) (o := .cells #[.int .i64 10, .int .i64 0] 23 (0, 0)) (by (with_reducible repeat (first | refine blk_drewN ?_ _ | refine blk_drew ?_ | refine blk_alloc ?_ _)); exact BK282.out) hb); have n2_ := Aside0.mk (below_step (by repeat (first | (with_reducible first | exact HB.out | apply below_alloc | apply pw_below_drewN | apply below_drew1 | refine below_set ?_ GE281.out | refine below_set ?_ GE282.out) | exact HB.out)) hb); clear BK281; clear BK282; clear HB; have BK281 := n0_; have BK282 := n1_; have HB := n2_; clear n0_ n1_ n2_; (try clear hb); (try clear hb2); (try clear hk); (try clear hi)) | ((with_reducible refine gate_callee (f := 35) rfl ?_); refine goesL_ (some 106) rfl rfl Try.func35 (by kernel_rfl) rfl #[.int .i64 600, .int .i64 1000, .int .i64 600, .int .i64 0] rfl (by (try simp only [List.map_toArray, List.map_cons, List.map_nil]); first | done | rfl | (simp only [List.length_drop, List.length_take]; rfl)) ?_; (with_reducible refine (dancestudiolaw03_disc.calls 600 1000 600 0 t300 t301 t302 t303 t304 _ A42.out).mono ?_); rintro e w49 ⟨rfl, hb⟩; refine ⟨_, rfl, ?_⟩; have n0_ := Aside0.mk (blk_below (g := gb281) (o := .cells #[.int .i64 (-10), .int .i64 0] 23 (0, 0)) (by (with_reducible repeat (first | refine blk_drewN ?_ _ | refine blk_drew ?_ | refine blk_alloc ?_ _)); exact BK281.out) hb); have n1_ := Aside0.mk (blk_below (g := gb282) (o := .cells #[.int .i64 10, .int .i64 0] 23 (0, 0)) (by (with_reducible repeat (first | refine blk_drewN ?_ _ | refine blk_drew ?_ | refine blk_alloc ?_ _)); exact BK282.out) hb); have n2_ := Aside0.mk (below_step (by repeat (first | (with_reducible first | exact HB.out | apply below_alloc | apply pw_below_drewN | apply below_drew1 | refine below_set ?_ GE281.out | refine below_set ?_ GE282.out) | exact HB.out)) hb); clear BK281; clear BK282; clear HB; have BK281 := n0_; have BK282 := n1_; have HB := n2_; clear n0_ n1_ n2_; (try clear hb); (try clear hb2); (try clear hk); (try clear hi)) | ((with_reducible refine gate_callee (f := 18) rfl ?_); refine goesL_ (some 107) rfl rfl Try.func18 (by kernel_rfl) rfl #[.agg #[.int .i64 t295, .int .i64 t296, .int .i64 t297, .int .i64 t298, .int .i64 t299], .agg #[.int .i64 t300, .int .i64 t301, .int .i64 t302, .int .i64 t303, .int .i64 t304]] rfl (by (try simp only [List.map_toArray, List.map_cons, List.map_nil]); first | done | rfl | (simp only [List.length_drop, List.length_take]; rfl)) ?_; (with_reducible refine (geom_Touch.calls kj18 t295 t296 t297 t298 t299 t300 t301 t302 t303 t304 t305 t306 _ A43.out).mono ?_); rintro e w50 ⟨rfl, hb⟩; refine ⟨_, rfl, ?_⟩; have n0_ := Aside0.mk (blk_below (g := gb281) (o := .cells #[.int .i64 (-10), .int .i64 0] 23 (0, 0)) (by (with_reducible repeat (first | refine blk_drewN ?_ _ | refine blk_drew ?_ | refine blk_alloc ?_ _)); exact BK281.out) hb); have n1_ := Aside0.mk (blk_below (g := gb282) (o := .cells #[.int .i64 10, .int .i64 0] 23 (0, 0)) (by (with_reducible repeat (first | refine blk_drewN ?_ _ | refine blk_drew ?_ | refine blk_alloc ?_ _)); exact BK282.out) hb); have n2_ := Aside0.mk (below_step (by repeat (first | (with_reducible first | exact HB.out | apply below_alloc | apply pw_below_drewN | apply below_drew1 | refine below_set ?_ GE281.out | refine below_set ?_ GE282.out) | exact HB.out)) hb); clear BK281; clear BK282; clear HB; have BK281 := n0_; have BK282 := n1_; have HB := n2_; clear n0_ n1_ n2_; (try clear hb); (try clear hb2); (try clear hk); (try clear hi)) | ((with_reducible refine gate_callee (f := 35) rfl ?_); refine goesL_ (some 111) rfl rfl Try.func35 (by kernel_rfl) rfl #[.int .i64 0, .int .i64 0, .int .i64 0, .int .i64 1000] rfl (by (try simp only [List.map_toArray, List.map_cons, List.map_nil]); first | done | rfl | (simp only [List.length_drop, List.length_take]; rfl)) ?_; (with_reducible refine (dancestudiolaw03_disc.calls 0 0 0 1000 t307 t308 t309 t310 t311 _ A44.out).mono ?_); rintro e w51 ⟨rfl, hb⟩; refine ⟨_, rfl, ?_⟩; have n0_ := Aside0.mk (blk_below (g := gb281) (o := .cells #[.int .i64 (-10), .int .i64 0] 23 (0, 0)) (by (with_reducible repeat (first | refine blk_drewN ?_ _ | refine blk_drew ?_ | refine blk_alloc ?_ _)); exact BK281.out) hb); have n1_ := Aside0.mk (blk_below (g := gb282) (o := .cells #[.int .i64 10, .int .i64 0] 23 (0, 0)) (by (with_reducible repeat (first | refine blk_drewN ?_ _ | refine blk_drew ?_ | refine blk_alloc ?_ _)); exact BK282.out) hb); have n2_ := Aside0.mk (below_step (by repeat (first | (with_reducible first | exact HB.out | apply below_alloc | apply pw_below_drewN | apply below_drew1 | refine below_set ?_ GE281.out | refine below_set ?_ GE282.out) | exact HB.out)) hb); clear BK281; clear BK282; clear HB; have BK281 := n0_; have BK282 := n1_; have HB := n2_; clear n0_ n1_ n2_; (try clear hb); (try clear hb2); (try clear hk); (try clear hi)) | ((with_reducible refine gate_callee (f := 35) rfl ?_); refine goesL_ (some 112) rfl rfl Try.func35 (by kernel_rfl) rfl #[.int .i64 599, .int .i64 1000, .int .i64 599, .int .i64 0] rfl (by (try simp only [List.map_toArray, List.map_cons, List.map_nil]); first | done | rfl | (simp only [List.length_drop, List.length_take]; rfl)) ?_; (with_reducible refine (dancestudiolaw03_disc.calls 599 1000 599 0 t312 t313 t314 t315 t316 _ A45.out).mono ?_); rintro e w52 ⟨rfl, hb⟩; refine ⟨_, rfl, ?_⟩; have n0_ := Aside0.mk (blk_below (g := gb281) (o := .cells #[.int .i64 (-10), .int .i64 0] 23 (0, 0)) (by (with_reducible repeat (first | refine blk_drewN ?_ _ | refine blk_drew ?_ | refine blk_alloc ?_ _)); exact BK281.out) hb); have n1_ := Aside0.mk (blk_below (g := gb282) (o := .cells #[.int .i64 10, .int .i64 0] 23 (0, 0)) (by (with_reducible repeat (first | refine blk_drewN ?_ _ | refine blk_drew ?_ | refine blk_alloc ?_ _)); exact BK282.out) hb); have n2_ := Aside0.mk (below_step (by repeat (first | (with_reducible first | exact HB.out | apply below_alloc | apply pw_below_drewN | apply below_drew1 | refine below_set ?_ GE281.out | refine below_set ?_ GE282.out) | exact HB.out)) hb); clear BK281; clear BK282; clear HB; have BK281 := n0_; have BK282 := n1_; have HB := n2_; clear n0_ n1_ n2_; (try clear hb); (try clear hb2); (try clear hk); (try clear hi)) | ((with_reducible refine gate_callee (f := 18) rfl ?_); refine goesL_ (some 113) rfl rfl Try.func18 (by kernel_rfl) rfl #[.agg #[.int .i64 t307, .int .i64 t308, .int .i64 t309, .int .i64 t310, .int .i64 t311], .agg #[.int .i64 t312, .int .i64 t313, .int .i64 t314, .int .i64 t315, .int .i64 t316]] rfl (by (try simp only [List.map_toArray, List.map_cons, List.map_nil]); first | done | rfl | (simp only [List.length_drop, List.length_take]; rfl)) ?_; (with_reducible refine (geom_Touch.calls kj18 t307 t308 t309 t310 t311 t312 t313 t314 t315 t316 t317 t318 _ A46.out).mono ?_); rintro e w53 ⟨rfl, hb⟩; refine ⟨_, rfl, ?_⟩; have n0_ := Aside0.mk (blk_below (g := gb281) (o := .cells #[.int .i64 (-10), .int .i64 0] 23 (0, 0)) (by (with_reducible repeat (first | refine blk_drewN ?_ _ | refine blk_drew ?_ | refine blk_alloc ?_ _)); exact BK281.out) hb); have n1_ := Aside0.mk (blk_below (g := gb282) (o := .cells #[.int .i64 10, .int .i64 0] 23 (0, 0)) (by (with_reducible repeat (first | refine blk_drewN ?_ _ | refine blk_drew ?_ | refine blk_alloc ?_ _)); exact BK282.out) hb); have n2_ := Aside0.mk (below_step (by repeat (first | (with_reducible first | exact HB.out | apply below_alloc | apply pw_below_drewN | apply below_drew1 | refine below_set ?_ GE281.out | refine below_set ?_ GE282.out) | exact HB.out)) hb); clear BK281; clear BK282; clear HB; have BK281 := n0_; have BK282 := n1_; have HB := n2_; clear n0_ n1_ n2_; (try clear hb); (try clear hb2); (try clear hk); (try clear hi)))
       (try simp only [Act.put, List.setIfInBounds_toArray, List.set_cons_zero, List.set_cons_succ])
       go_cut [128] (fun v128 wc => ∃ (kq : Nat) (x128_46 : Bool), v128 = .bool x128_46 ∧ Aside0 (dancestudiolaw03_awake.j2 kq x128_46 = some r) ∧ Aside0 (kq ≤ kj18) ∧ Aside0 (wc.heap[gb281]? = some (.cells #[.int .i64 (-10), .int .i64 0] 23 (0, 0))) ∧ Aside0 (wc.heap[gb282]? = some (.cells #[.int .i64 10, .int .i64 0] 23 (0, 0))) ∧ Aside0 (Below w.heap.size w wc))
       case first =>
        have H := HC47.out
        clear HC47
        by_cases c54 : t306 = 0
        ·
         rw [if_pos c54] at H
         have c54b0 : (t306 == 0) = true := beq_iff_eq.mpr c54
         have c54b1 : (t306 != 0) = false := bne_eq_false_iff_eq.mpr c54
         clear c54
         (first | rw [c54b0] | (simp only [i64_w, i32_w]; rw [c54b0]) | skip)
         by_cases c55 : t318 = 0
         ·
          rw [if_pos c55] at H
          have c55b0 : (t318 == 0) = true := beq_iff_eq.mpr c55
          have c55b1 : (t318 != 0) = false := bne_eq_false_iff_eq.mpr c55
          clear c55
          by_cases c56 : t305 = true
          ·
           subst c56
           have H1 : (dancestudiolaw03_awake.j2 kj18 true) = some r := by rw [if_pos rfl] at H; exact H
           clear H
           have H := H1
           clear H1
           have H' := Aside0.mk H
           clear H
           go_wp2
           go_meet
           case rel => exact ⟨_, (true), (by first | rfl | (simp; done) | (simp [*]; done)), H', ⟨by have := HJ2.out; have := HJ18.out; first | omega | exact Nat.le_refl _⟩, ⟨by (with_reducible repeat (first | refine blk_drewN ?_ _ | refine blk_drew ?_ | refine blk_alloc ?_ _)); exact BK281.out⟩, ⟨by (with_reducible repeat (first | refine blk_drewN ?_ _ | refine blk_drew ?_ | refine blk_alloc ?_ _)); exact BK282.out⟩, ⟨by repeat (first | (with_reducible first | exact HB.out | apply below_alloc | apply pw_below_drewN | apply below_drew1 | refine below_set ?_ GE281.out | refine below_set ?_ GE282.out) | exact HB.out)⟩⟩
          ·
           replace c56 := Bool.eq_false_iff.mpr c56
           subst c56
           have H1 : (dancestudiolaw03_awake.j2 kj18 (!t317)) = some r := by rw [if_neg (show ¬ (false = true) by decide)] at H; exact H
           clear H
           have H := H1
           clear H1
           have H' := Aside0.mk H
           clear H
           go_wp2
           go_meet
           case rel => exact ⟨_, (!t317), (by first | rfl | (simp; done) | (simp [*]; done)), H', ⟨by have := HJ2.out; have := HJ18.out; first | omega | exact Nat.le_refl _⟩, ⟨by (with_reducible repeat (first | refine blk_drewN ?_ _ | refine blk_drew ?_ | refine blk_alloc ?_ _)); exact BK281.out⟩, ⟨by (with_reducible repeat (first | refine blk_drewN ?_ _ | refine blk_drew ?_ | refine blk_alloc ?_ _)); exact BK282.out⟩, ⟨by repeat (first | (with_reducible first | exact HB.out | apply below_alloc | apply pw_below_drewN | apply below_drew1 | refine below_set ?_ GE281.out | refine below_set ?_ GE282.out) | exact HB.out)⟩⟩
         ·
          rw [if_neg c55] at H
          have c55b0 : (t318 == 0) = false := beq_eq_false_iff_ne.mpr c55
          have c55b1 : (t318 != 0) = true := bne_iff_ne.mpr c55
          have H' := Aside0.mk H
          clear H
          go_wp2
          go_meet
          case rel => exact ⟨_, (true), (by first | rfl | (simp; done) | (simp [*]; done)), H', ⟨by have := HJ2.out; have := HJ18.out; first | omega | exact Nat.le_refl _⟩, ⟨by (with_reducible repeat (first | refine blk_drewN ?_ _ | refine blk_drew ?_ | refine blk_alloc ?_ _)); exact BK281.out⟩, ⟨by (with_reducible repeat (first | refine blk_drewN ?_ _ | refine blk_drew ?_ | refine blk_alloc ?_ _)); exact BK282.out⟩, ⟨by repeat (first | (with_reducible first | exact HB.out | apply below_alloc | apply pw_below_drewN | apply below_drew1 | refine below_set ?_ GE281.out | refine below_set ?_ GE282.out) | exact HB.out)⟩⟩
        ·
         rw [if_neg c54] at H
         have c54b0 : (t306 == 0) = false := beq_eq_false_iff_ne.mpr c54
         have c54b1 : (t306 != 0) = true := bne_iff_ne.mpr c54
         (first | rw [c54b0] | (simp only [i64_w, i32_w]; rw [c54b0]) | skip)
         have H' := Aside0.mk H
         clear H
         go_wp2
         go_meet
         case rel => exact ⟨_, (true), (by first | rfl | (simp; done) | (simp [*]; done)), H', ⟨by have := HJ2.out; have := HJ18.out; first | omega | exact Nat.le_refl _⟩, ⟨by (with_reducible repeat (first | refine blk_drewN ?_ _ | refine blk_drew ?_ | refine blk_alloc ?_ _)); exact BK281.out⟩, ⟨by (with_reducible repeat (first | refine blk_drewN ?_ _ | refine blk_drew ?_ | refine blk_alloc ?_ _)); exact BK282.out⟩, ⟨by repeat (first | (with_reducible first | exact HB.out | apply below_alloc | apply pw_below_drewN | apply below_drew1 | refine below_set ?_ GE281.out | refine below_set ?_ GE282.out) | exact HB.out)⟩⟩
       case rest =>
        clear HC47
        try clear c1
        try clear c2
        try clear p2
        try clear c3
        try clear c4
        try clear c5
        try clear c6
        try clear c11
        try clear c11b0
        try clear c11b1
        try clear c12
        try clear c12b0
        try clear c12b1
        try clear c13
        try clear c13b0
        try clear c13b1
        try clear c14
        try clear c15
        try clear c16
        try clear c18
        try clear c20
        try clear c33
        try clear c33b0
        try clear c33b1
        try clear c34
        try clear c34b0
        try clear c34b1
        try clear c35
        try clear c35b0
        try clear c35b1
        try clear c36
        try clear c36b0
        try clear c36b1
        try clear c37
        try clear c38
        try clear c39
        try clear c40
        try clear c54
        try clear c54b0
        try clear c54b1
        try clear c55
        try clear c55b0
        try clear c55b1
        try clear c56
        try clear hcz21_0
        try clear hcz21_1
        try clear hcz22_0
        try clear hcz22_1
        try clear hcz24_0
        try clear hcz24_1
        try clear hcz25_0
        try clear hcz25_1
        try clear hcz27_0
        try clear hcz27_1
        try clear hcz28_0
        try clear hcz28_1
        try clear hcz30_0
        try clear hcz30_1
        try clear hcz31_0
        try clear hcz31_1
        try clear hcz7_0
        try clear hcz7_1
        try clear hcz8_0
        try clear hcz8_1
        try clear hfz21_0
        try clear hfz21_1
        try clear hfz22_0
        try clear hfz22_1
        try clear hfz24_0
        try clear hfz24_1
        try clear hfz25_0
        try clear hfz25_1
        try clear hfz27_0
        try clear hfz27_1
        try clear hfz28_0
        try clear hfz28_1
        try clear hfz30_0
        try clear hfz30_1
        try clear hfz31_0
        try clear hfz31_1
        try clear hfz7_0
        try clear hfz7_1
        try clear hfz8_0
        try clear hfz8_1
        try clear p2
        obtain ⟨kq, x128_46, rfl, HA, HJ46, BK281, BK282, HB⟩ := hcut
        cases kq with
        | zero => exact absurd HA.out (by simp [dancestudiolaw03_awake.j2])
        | succ kj46 =>
         have H := HA.out
         clear HA
         simp only [dancestudiolaw03_awake.j2] at H
         by_cases c57 : x128_46 = true
         ·
          subst c57
          have H1 : (none) = some r := by rw [if_pos rfl] at H; exact H
          clear H
          have H := H1
          clear H1
          exact absurd H (by simp)
         ·
          replace c57 := Bool.eq_false_iff.mpr c57
          subst c57
          have H1 : ((some (([(⟨0, 0⟩ : S23), (⟨2, 0⟩ : S23), (⟨1, 1⟩ : S23), (⟨2, 2⟩ : S23), (⟨0, 2⟩ : S23), (⟨1, 0⟩ : S23)] : List (S23)) : List (S23))).bind fun y319 => ((geom_Hull.f kj46 y319).bind fun bt322 => ((geom_Inside.f kj46 1 0 y319).bind fun bt326 => ((geom_Inside.f kj46 3 1 y319).bind fun bt328 => (if bt322.2 = 0 then (if bt326.2 = 0 then (if bt328.2 = 0 then (if bt326.1 = true then (if bt328.1 = true then (none) else ((dancestudioref03_Same.f kj46 bt322.1 (([(⟨0, 0⟩ : S23), (⟨2, 0⟩ : S23), (⟨2, 2⟩ : S23), (⟨0, 2⟩ : S23)] : List (S23)))).bind fun t333 => (some t333))) else (none)) else (none)) else (none)) else (none)))))) = some r := by rw [if_neg (show ¬ (false = true) by decide)] at H; exact H
          clear H
          have H := H1
          clear H1
          obtain ⟨y319, hy319⟩ : ∃ y_ : List (S23), y_ = (([(⟨0, 0⟩ : S23), (⟨2, 0⟩ : S23), (⟨1, 1⟩ : S23), (⟨2, 2⟩ : S23), (⟨0, 2⟩ : S23), (⟨1, 0⟩ : S23)] : List (S23))) := ⟨_, rfl⟩
          replace H : ((geom_Hull.f kj46 y319).bind fun bt322 => ((geom_Inside.f kj46 1 0 y319).bind fun bt326 => ((geom_Inside.f kj46 3 1 y319).bind fun bt328 => (if bt322.2 = 0 then (if bt326.2 = 0 then (if bt328.2 = 0 then (if bt326.1 = true then (if bt328.1 = true then (none) else ((dancestudioref03_Same.f kj46 bt322.1 (([(⟨0, 0⟩ : S23), (⟨2, 0⟩ : S23), (⟨2, 2⟩ : S23), (⟨0, 2⟩ : S23)] : List (S23)))).bind fun t333 => (some t333))) else (none)) else (none)) else (none)) else (none))))) = some r := by first | (rw [hy319]; with_reducible exact H) | (have H2_ := (Option.bind_some _ _).symm.trans H; rw [hy319]; with_reducible exact H2_) | (have H2_ := (Option.bind_some _ _).symm.trans H; with_reducible exact H2_) | with_reducible exact H | (rw [hy319]; exact H) | exact H
          have Ny319 := Aside0.mk hy319
          clear hy319
          replace H := Option.bind_eq_some_iff.mp H
          obtain ⟨⟨t322, t323⟩, A580, H⟩ := H
          replace H : ((geom_Inside.f kj46 1 0 y319).bind fun bt326 => ((geom_Inside.f kj46 3 1 y319).bind fun bt328 => (if t323 = 0 then (if bt326.2 = 0 then (if bt328.2 = 0 then (if bt326.1 = true then (if bt328.1 = true then (none) else ((dancestudioref03_Same.f kj46 t322 (([(⟨0, 0⟩ : S23), (⟨2, 0⟩ : S23), (⟨2, 2⟩ : S23), (⟨0, 2⟩ : S23)] : List (S23)))).bind fun t333 => (some t333))) else (none)) else (none)) else (none)) else (none)))) = some r := H
          have A58 := Aside0.mk A580
          clear A580
          replace H := Option.bind_eq_some_iff.mp H
          obtain ⟨⟨t326, t327⟩, A590, H⟩ := H
          replace H : ((geom_Inside.f kj46 3 1 y319).bind fun bt328 => (if t323 = 0 then (if t327 = 0 then (if bt328.2 = 0 then (if t326 = true then (if bt328.1 = true then (none) else ((dancestudioref03_Same.f kj46 t322 (([(⟨0, 0⟩ : S23), (⟨2, 0⟩ : S23), (⟨2, 2⟩ : S23), (⟨0, 2⟩ : S23)] : List (S23)))).bind fun t333 => (some t333))) else (none)) else (none)) else (none)) else (none))) = some r := H
          have A59 := Aside0.mk A590
          clear A590
          replace H := Option.bind_eq_some_iff.mp H
          obtain ⟨⟨t328, t329⟩, A600, H⟩ := H
          replace H : (if t323 = 0 then (if t327 = 0 then (if t329 = 0 then (if t326 = true then (if t328 = true then (none) else ((dancestudioref03_Same.f kj46 t322 (([(⟨0, 0⟩ : S23), (⟨2, 0⟩ : S23), (⟨2, 2⟩ : S23), (⟨0, 2⟩ : S23)] : List (S23)))).bind fun t333 => (some t333))) else (none)) else (none)) else (none)) else (none)) = some r := H
          have A60 := Aside0.mk A600
          clear A600
          by_cases c61 : t323 = 0
          ·
           rw [if_pos c61] at H
           have c61b0 : (t323 == 0) = true := beq_iff_eq.mpr c61
           have c61b1 : (t323 != 0) = false := bne_eq_false_iff_eq.mpr c61
           clear c61
           by_cases c62 : t327 = 0
           ·
            rw [if_pos c62] at H
            have c62b0 : (t327 == 0) = true := beq_iff_eq.mpr c62
            have c62b1 : (t327 != 0) = false := bne_eq_false_iff_eq.mpr c62
            clear c62
            by_cases c63 : t329 = 0
            ·
             rw [if_pos c63] at H
             have c63b0 : (t329 == 0) = true := beq_iff_eq.mpr c63
             have c63b1 : (t329 != 0) = false := bne_eq_false_iff_eq.mpr c63
             clear c63
             by_cases c64 : t326 = true
             ·
              subst c64
              have H1 : (if t328 = true then (none) else ((dancestudioref03_Same.f kj46 t322 (([(⟨0, 0⟩ : S23), (⟨2, 0⟩ : S23), (⟨2, 2⟩ : S23), (⟨0, 2⟩ : S23)] : List (S23)))).bind fun t333 => (some t333))) = some r := by rw [if_pos rfl] at H; exact H
              clear H
              have H := H1
              clear H1
              by_cases c65 : t328 = true
              ·
               subst c65
               have H1 : (none) = some r := by rw [if_pos rfl] at H; exact H
               clear H
               have H := H1
               clear H1
               exact absurd H (by simp)
              ·
               replace c65 := Bool.eq_false_iff.mpr c65
               subst c65
               have H1 : ((dancestudioref03_Same.f kj46 t322 (([(⟨0, 0⟩ : S23), (⟨2, 0⟩ : S23), (⟨2, 2⟩ : S23), (⟨0, 2⟩ : S23)] : List (S23)))).bind fun t333 => (some t333)) = some r := by rw [if_neg (show ¬ (false = true) by decide)] at H; exact H
               clear H
               have H := H1
               clear H1
               obtain ⟨y330, hy330⟩ : ∃ y_ : List (S23), y_ = (([(⟨0, 0⟩ : S23), (⟨2, 0⟩ : S23), (⟨2, 2⟩ : S23), (⟨0, 2⟩ : S23)] : List (S23))) := ⟨_, rfl⟩
               replace H : ((dancestudioref03_Same.f kj46 t322 y330).bind fun t333 => (some t333)) = some r := by first | (rw [hy330]; with_reducible exact H) | (have H2_ := (Option.bind_some _ _).symm.trans H; rw [hy330]; with_reducible exact H2_) | (have H2_ := (Option.bind_some _ _).symm.trans H; with_reducible exact H2_) | with_reducible exact H | (rw [hy330]; exact H) | exact H
               have Ny330 := Aside0.mk hy330
               clear hy330
               replace H := Option.bind_eq_some_iff.mp H
               obtain ⟨t333, A660, H⟩ := H
               replace H : (some t333) = some r := H
               have A66 := Aside0.mk A660
               clear A660
               obtain rfl := Option.some.inj H
               go_wp2_with (first | ((with_reducible refine gate_dst (N := 135) rfl ?_); (try (refine gate_guard (by rfl) ?_; dsimp only)); refine Kd.R_lit k23 _ 23 ?hg (N := 135) ?hd (xs := ([(⟨0, 0⟩ : S23), (⟨2, 0⟩ : S23), (⟨1, 1⟩ : S23), (⟨2, 2⟩ : S23), (⟨0, 2⟩ : S23), (⟨1, 0⟩ : S23)] : List (S23))) (inner := [.int .i64 0, .int .i64 0, .int .i64 2, .int .i64 0, .int .i64 1, .int .i64 1, .int .i64 2, .int .i64 2, .int .i64 0, .int .i64 2, .int .i64 1, .int .i64 0]) (ok := fun _ => True) (okp := fun _ => True) ?hr ?hp (fun _ hk => hk) trivial (Below.refl _ _) (Nat.le_refl _) (by simp) ?_; (case hd => rfl); (case hg => rfl); (case hr => first | (go_simp; done) | (go_simp; rfl)); (case hp => exact (Reps.c2 (show Kd.M k23 _ _ _ (⟨0, 0⟩ : S23) [.int .i64 0, .int .i64 0] from (k23_mkM _ _ _ (⟨0, 0⟩ : S23) )) (Reps.c2 (show Kd.M k23 _ _ _ (⟨2, 0⟩ : S23) [.int .i64 2, .int .i64 0] from (k23_mkM _ _ _ (⟨2, 0⟩ : S23) )) (Reps.c2 (show Kd.M k23 _ _ _ (⟨1, 1⟩ : S23) [.int .i64 1, .int .i64 1] from (k23_mkM _ _ _ (⟨1, 1⟩ : S23) )) (Reps.c2 (show Kd.M k23 _ _ _ (⟨2, 2⟩ : S23) [.int .i64 2, .int .i64 2] from (k23_mkM _ _ _ (⟨2, 2⟩ : S23) )) (Reps.c2 (show Kd.M k23 _ _ _ (⟨0, 2⟩ : S23) [.int .i64 0, .int .i64 2] from (k23_mkM _ _ _ (⟨0, 2⟩ : S23) )) (Reps.c2 (show Kd.M k23 _ _ _ (⟨1, 0⟩ : S23) [.int .i64 1, .int .i64 0] from (k23_mkM _ _ _ (⟨1, 0⟩ : S23) )) (Reps.none _ _)))))))); intro v320 w67 ho68 hb hg_ hnew_; clear hg_ hnew_; (first | rw [← Ny319.out] at ho68 | (simp only [Int.reduceToNat] at ho68; rw [← Ny319.out] at ho68)); have n0_ := Aside0.mk (Kd.R_lower (Kd.R_newB (Kd.R_newB ho68 (g := gb281) (o := .cells #[.int .i64 (-10), .int .i64 0] 23 (0, 0)) (by (with_reducible repeat (first | refine blk_drewN ?_ _ | refine blk_drew ?_ | refine blk_alloc ?_ _)); exact BK281.out)) (g := gb282) (o := .cells #[.int .i64 10, .int .i64 0] 23 (0, 0)) (by (with_reducible repeat (first | refine blk_drewN ?_ _ | refine blk_drew ?_ | refine blk_alloc ?_ _)); exact BK282.out)) (below_size (by repeat (first | (with_reducible first | exact HB.out | apply below_alloc | apply pw_below_drewN | apply below_drew1 | refine below_set ?_ GE281.out | refine below_set ?_ GE282.out) | exact HB.out)))); have n1_ := Aside0.mk (blk_below (g := gb281) (o := .cells #[.int .i64 (-10), .int .i64 0] 23 (0, 0)) (by (with_reducible repeat (first | refine blk_drewN ?_ _ | refine blk_drew ?_ | refine blk_alloc ?_ _)); exact BK281.out) hb); have n2_ := Aside0.mk (blk_below (g := gb282) (o := .cells #[.int .i64 10, .int .i64 0] 23 (0, 0)) (by (with_reducible repeat (first | refine blk_drewN ?_ _ | refine blk_drew ?_ | refine blk_alloc ?_ _)); exact BK282.out) hb); have n3_ := Aside0.mk (below_step (by repeat (first | (with_reducible first | exact HB.out | apply below_alloc | apply pw_below_drewN | apply below_drew1 | refine below_set ?_ GE281.out | refine below_set ?_ GE282.out) | exact HB.out)) hb); clear BK281; clear BK282; clear HB; have HO321 := n0_; have BK281 := n1_; have BK282 := n2_; have HB := n3_; clear n0_ n1_ n2_ n3_; clear hb ho68; obtain ⟨Ao69, co69, eo69⟩ := Kd.R_slice HO321.out; subst eo69) | ((with_reducible refine gate_callee (f := 20) rfl ?_); refine goesL_ (some 138) rfl rfl Try.func20 (by kernel_rfl) rfl #[.slice Ao69 y319.length co69] rfl (by (try simp only [List.map_toArray, List.map_cons, List.map_nil]); first | done | rfl | (simp only [List.length_drop, List.length_take]; rfl)) ?_; (with_reducible refine (geom_Hull.calls kj46 _ _ y319 t322 t323 _ ?side1 ?side2 A58.out).mono ?_); (case side1 => repeat (first | exact (Kd.R_reads' HO321.out).2.2 | (with_reducible refine Kd.C_alloc ?_ _) | (with_reducible refine Kd.C_drewN ?_ _) | (with_reducible refine Kd.C_drew ?_))); (case side2 => exact (Kd.R_reads' HO321.out).2.1); rintro e w70 ⟨v324, rfl, ho0, hb⟩; refine ⟨_, rfl, ?_⟩; have n0_ := Aside0.mk (Kd.R_elder' (by (with_reducible repeat (first | apply Kd.R_alloc | apply Kd.R_drewN | apply Kd.R_drew)); exact HO321.out) (Kd.R_base ho0) hb); have n1_ := Aside0.mk (Kd.R_lower (Kd.R_newB (Kd.R_newB (Kd.R_new' ho0 (Kd.R_lt (by (with_reducible repeat (first | apply Kd.R_alloc | apply Kd.R_drewN | apply Kd.R_drew)); exact HO321.out))) (g := gb281) (o := .cells #[.int .i64 (-10), .int .i64 0] 23 (0, 0)) (by (with_reducible repeat (first | refine blk_drewN ?_ _ | refine blk_drew ?_ | refine blk_alloc ?_ _)); exact BK281.out)) (g := gb282) (o := .cells #[.int .i64 10, .int .i64 0] 23 (0, 0)) (by (with_reducible repeat (first | refine blk_drewN ?_ _ | refine blk_drew ?_ | refine blk_alloc ?_ _)); exact BK282.out)) (below_size (by repeat (first | (with_reducible first | exact HB.out | apply below_alloc | apply pw_below_drewN | apply below_drew1 | refine below_set ?_ GE281.out | refine below_set ?_ GE282.out) | exact HB.out)))); have n2_ := Aside0.mk (blk_below (g := gb281) (o := .cells #[.int .i64 (-10), .int .i64 0] 23 (0, 0)) (by (with_reducible repeat (first | refine blk_drewN ?_ _ | refine blk_drew ?_ | refine blk_alloc ?_ _)); exact BK281.out) hb); have n3_ := Aside0.mk (blk_below (g := gb282) (o := .cells #[.int .i64 10, .int .i64 0] 23 (0, 0)) (by (with_reducible repeat (first | refine blk_drewN ?_ _ | refine blk_drew ?_ | refine blk_alloc ?_ _)); exact BK282.out) hb); have n4_ := Aside0.mk (below_step (by repeat (first | (with_reducible first | exact HB.out | apply below_alloc | apply pw_below_drewN | apply below_drew1 | refine below_set ?_ GE281.out | refine below_set ?_ GE282.out) | exact HB.out)) hb); clear HO321; clear BK281; clear BK282; clear HB; have HO321 := n0_; have HO325 := n1_; have BK281 := n2_; have BK282 := n3_; have HB := n4_; clear n0_ n1_ n2_ n3_ n4_; (try clear hb); (try clear hb2); (try clear hk); (try clear hi); (try clear ho0)) | ((with_reducible refine gate_callee (f := 23) rfl ?_); refine goesL_ (some 144) rfl rfl Try.func23 (by kernel_rfl) rfl #[.agg #[.int .i64 1, .int .i64 0], .slice Ao69 y319.length co69] rfl (by (try simp only [List.map_toArray, List.map_cons, List.map_nil]); first | done | rfl | (simp only [List.length_drop, List.length_take]; rfl)) ?_; (with_reducible refine (geom_Inside.calls kj46 1 0 _ _ y319 true t327 _ ?side1 ?side2 A59.out).mono ?_); (case side1 => repeat (first | exact (Kd.R_reads' HO321.out).2.2 | (with_reducible refine Kd.C_alloc ?_ _) | (with_reducible refine Kd.C_drewN ?_ _) | (with_reducible refine Kd.C_drew ?_))); (case side2 => exact (Kd.R_reads' HO321.out).2.1); rintro e w71 ⟨rfl, hb⟩; refine ⟨_, rfl, ?_⟩; have n0_ := Aside0.mk (Kd.R_below (by (with_reducible repeat (first | apply Kd.R_alloc | apply Kd.R_drewN | apply Kd.R_drew)); exact HO321.out) hb); have n1_ := Aside0.mk (Kd.R_below (by (with_reducible repeat (first | apply Kd.R_alloc | apply Kd.R_drewN | apply Kd.R_drew)); exact HO325.out) hb); have n2_ := Aside0.mk (blk_below (g := gb281) (o := .cells #[.int .i64 (-10), .int .i64 0] 23 (0, 0)) (by (with_reducible repeat (first | refine blk_drewN ?_ _ | refine blk_drew ?_ | refine blk_alloc ?_ _)); exact BK281.out) hb); have n3_ := Aside0.mk (blk_below (g := gb282) (o := .cells #[.int .i64 10, .int .i64 0] 23 (0, 0)) (by (with_reducible repeat (first | refine blk_drewN ?_ _ | refine blk_drew ?_ | refine blk_alloc ?_ _)); exact BK282.out) hb); have n4_ := Aside0.mk (below_step (by repeat (first | (with_reducible first | exact HB.out | apply below_alloc | apply pw_below_drewN | apply below_drew1 | refine below_set ?_ GE281.out | refine below_set ?_ GE282.out) | exact HB.out)) hb); clear HO321; clear HO325; clear BK281; clear BK282; clear HB; have HO321 := n0_; have HO325 := n1_; have BK281 := n2_; have BK282 := n3_; have HB := n4_; clear n0_ n1_ n2_ n3_ n4_; (try clear hb); (try clear hb2); (try clear hk); (try clear hi)) | ((with_reducible refine gate_callee (f := 23) rfl ?_); refine goesL_ (some 150) rfl rfl Try.func23 (by kernel_rfl) rfl #[.agg #[.int .i64 3, .int .i64 1], .slice Ao69 y319.length co69] rfl (by (try simp only [List.map_toArray, List.map_cons, List.map_nil]); first | done | rfl | (simp only [List.length_drop, List.length_take]; rfl)) ?_; (with_reducible refine (geom_Inside.calls kj46 3 1 _ _ y319 false t329 _ ?side1 ?side2 A60.out).mono ?_); (case side1 => repeat (first | exact (Kd.R_reads' HO321.out).2.2 | (with_reducible refine Kd.C_alloc ?_ _) | (with_reducible refine Kd.C_drewN ?_ _) | (with_reducible refine Kd.C_drew ?_))); (case side2 => exact (Kd.R_reads' HO321.out).2.1); rintro e w72 ⟨rfl, hb⟩; refine ⟨_, rfl, ?_⟩; have n0_ := Aside0.mk (Kd.R_below (by (with_reducible repeat (first | apply Kd.R_alloc | apply Kd.R_drewN | apply Kd.R_drew)); exact HO321.out) hb); have n1_ := Aside0.mk (Kd.R_below (by (with_reducible repeat (first | apply Kd.R_alloc | apply Kd.R_drewN | apply Kd.R_drew)); exact HO325.out) hb); have n2_ := Aside0.mk (blk_below (g := gb281) (o := .cells #[.int .i64 (-10), .int .i64 0] 23 (0, 0)) (by (with_reducible repeat (first | refine blk_drewN ?_ _ | refine blk_drew ?_ | refine blk_alloc ?_ _)); exact BK281.out) hb); have n3_ := Aside0.mk (blk_below (g := gb282) (o := .cells #[.int .i64 10, .int .i64 0] 23 (0, 0)) (by (with_reducible repeat (first | refine blk_drewN ?_ _ | refine blk_drew ?_ | refine blk_alloc ?_ _)); exact BK282.out) hb); have n4_ := Aside0.mk (below_step (by repeat (first | (with_reducible first | exact HB.out | apply below_alloc | apply pw_below_drewN | apply below_drew1 | refine below_set ?_ GE281.out | refine below_set ?_ GE282.out) | exact HB.out)) hb); clear HO321; clear HO325; clear BK281; clear BK282; clear HB; have HO321 := n0_; have HO325 := n1_; have BK281 := n2_; have BK282 := n3_; have HB := n4_; clear n0_ n1_ n2_ n3_ n4_; (try clear hb); (try clear hb2); (try clear hk); (try clear hi)) | ((with_reducible refine gate_dst (N := 176) rfl ?_); (try (refine gate_guard (by rfl) ?_; dsimp only)); refine Kd.R_lit k23 _ 23 ?hg (N := 176) ?hd (xs := ([(⟨0, 0⟩ : S23), (⟨2, 0⟩ : S23), (⟨2, 2⟩ : S23), (⟨0, 2⟩ : S23)] : List (S23))) (inner := [.int .i64 0, .int .i64 0, .int .i64 2, .int .i64 0, .int .i64 2, .int .i64 2, .int .i64 0, .int .i64 2]) (ok := fun _ => True) (okp := fun _ => True) ?hr ?hp (fun _ hk => hk) trivial (Below.refl _ _) (Nat.le_refl _) (by simp) ?_; (case hd => rfl); (case hg => rfl); (case hr => first | (go_simp; done) | (go_simp; rfl)); (case hp => exact (Reps.c2 (show Kd.M k23 _ _ _ (⟨0, 0⟩ : S23) [.int .i64 0, .int .i64 0] from (k23_mkM _ _ _ (⟨0, 0⟩ : S23) )) (Reps.c2 (show Kd.M k23 _ _ _ (⟨2, 0⟩ : S23) [.int .i64 2, .int .i64 0] from (k23_mkM _ _ _ (⟨2, 0⟩ : S23) )) (Reps.c2 (show Kd.M k23 _ _ _ (⟨2, 2⟩ : S23) [.int .i64 2, .int .i64 2] from (k23_mkM _ _ _ (⟨2, 2⟩ : S23) )) (Reps.c2 (show Kd.M k23 _ _ _ (⟨0, 2⟩ : S23) [.int .i64 0, .int .i64 2] from (k23_mkM _ _ _ (⟨0, 2⟩ : S23) )) (Reps.none _ _)))))); intro v331 w73 ho74 hb hg_ hnew_; clear hg_ hnew_; (first | rw [← Ny330.out] at ho74 | (simp only [Int.reduceToNat] at ho74; rw [← Ny330.out] at ho74)); have n0_ := Aside0.mk (Kd.R_elder' (by (with_reducible repeat (first | apply Kd.R_alloc | apply Kd.R_drewN | apply Kd.R_drew)); exact HO321.out) (Kd.R_base ho74) hb); have n1_ := Aside0.mk (Kd.R_elder' (by (with_reducible repeat (first | apply Kd.R_alloc | apply Kd.R_drewN | apply Kd.R_drew)); exact HO325.out) (Kd.R_base ho74) hb); have n2_ := Aside0.mk (Kd.R_lower (Kd.R_newB (Kd.R_newB (Kd.R_new' (Kd.R_new' ho74 (Kd.R_lt (by (with_reducible repeat (first | apply Kd.R_alloc | apply Kd.R_drewN | apply Kd.R_drew)); exact HO321.out))) (Kd.R_lt (by (with_reducible repeat (first | apply Kd.R_alloc | apply Kd.R_drewN | apply Kd.R_drew)); exact HO325.out))) (g := gb281) (o := .cells #[.int .i64 (-10), .int .i64 0] 23 (0, 0)) (by (with_reducible repeat (first | refine blk_drewN ?_ _ | refine blk_drew ?_ | refine blk_alloc ?_ _)); exact BK281.out)) (g := gb282) (o := .cells #[.int .i64 10, .int .i64 0] 23 (0, 0)) (by (with_reducible repeat (first | refine blk_drewN ?_ _ | refine blk_drew ?_ | refine blk_alloc ?_ _)); exact BK282.out)) (below_size (by repeat (first | (with_reducible first | exact HB.out | apply below_alloc | apply pw_below_drewN | apply below_drew1 | refine below_set ?_ GE281.out | refine below_set ?_ GE282.out) | exact HB.out)))); have n3_ := Aside0.mk (blk_below (g := gb281) (o := .cells #[.int .i64 (-10), .int .i64 0] 23 (0, 0)) (by (with_reducible repeat (first | refine blk_drewN ?_ _ | refine blk_drew ?_ | refine blk_alloc ?_ _)); exact BK281.out) hb); have n4_ := Aside0.mk (blk_below (g := gb282) (o := .cells #[.int .i64 10, .int .i64 0] 23 (0, 0)) (by (with_reducible repeat (first | refine blk_drewN ?_ _ | refine blk_drew ?_ | refine blk_alloc ?_ _)); exact BK282.out) hb); have n5_ := Aside0.mk (below_step (by repeat (first | (with_reducible first | exact HB.out | apply below_alloc | apply pw_below_drewN | apply below_drew1 | refine below_set ?_ GE281.out | refine below_set ?_ GE282.out) | exact HB.out)) hb); clear HO321; clear HO325; clear BK281; clear BK282; clear HB; have HO321 := n0_; have HO325 := n1_; have HO332 := n2_; have BK281 := n3_; have BK282 := n4_; have HB := n5_; clear n0_ n1_ n2_ n3_ n4_ n5_; clear hb ho74; obtain ⟨Ao75, co75, eo75⟩ := Kd.R_slice HO325.out; subst eo75; obtain ⟨Ao76, co76, eo76⟩ := Kd.R_slice HO332.out; subst eo76) | (go_at_call 22; (with_reducible refine (dancestudioref03_Same.calls kj46 _ _ t322 _ _ y330 t333 _ ?side1 ?side2 ?side3 ?side4 A66.out).mono ?_); (case side1 => repeat (first | exact (Kd.R_reads' HO325.out).2.2 | (with_reducible refine Kd.C_alloc ?_ _) | (with_reducible refine Kd.C_drewN ?_ _) | (with_reducible refine Kd.C_drew ?_))); (case side2 => exact (Kd.R_reads' HO325.out).2.1); (case side3 => repeat (first | exact (Kd.R_reads' HO332.out).2.2 | (with_reducible refine Kd.C_alloc ?_ _) | (with_reducible refine Kd.C_drewN ?_ _) | (with_reducible refine Kd.C_drew ?_))); (case side4 => exact (Kd.R_reads' HO332.out).2.1); rintro e w' ⟨rfl, ⟨nd, rfl⟩⟩))
               go_ret
               exact ⟨by first | rfl | (simp [errW_none, errW_some] <;> rfl) | (simp [*, errW_none, errW_some] <;> rfl), by repeat (first | (with_reducible first | exact HB.out | apply below_alloc | apply pw_below_drewN | apply below_drew1 | refine below_set ?_ GE281.out | refine below_set ?_ GE282.out) | exact HB.out)⟩
             ·
              replace c64 := Bool.eq_false_iff.mpr c64
              subst c64
              have H1 : (none) = some r := by rw [if_neg (show ¬ (false = true) by decide)] at H; exact H
              clear H
              have H := H1
              clear H1
              exact absurd H (by simp)
            ·
             rw [if_neg c63] at H
             exact absurd H (by simp)
           ·
            rw [if_neg c62] at H
            exact absurd H (by simp)
          ·
           rw [if_neg c61] at H
           exact absurd H (by simp)
end Go.Proofs.Ytmilejcbkpkplaa.PAll
