-- Written by wip/tools/handprint.py: walks of the functions that the law reaches; Lean checks them.
import Derived.Test.YtmilejcbkpkplaaPAllx0
import Derived.Test.YtmilejcbkpkplaaPAllf32
import Derived.Test.YtmilejcbkpkplaaPAllf38
import Derived.Test.YtmilejcbkpkplaaPAllf39
namespace Go.Proofs.Ytmilejcbkpkplaa.PAll
open Go.RowKit Go.Proofs.YtmilejcbkpkplaaW.PrintWords Go.Proofs.YtmilejcbkpkplaaW.PrintLast Go.Proofs.YtmilejcbkpkplaaW.PrintMore
attribute [local go_sem] max2_int min2_int max_two min_two max_three min_three max_four min_four   -- for this text's walks alone
set_option linter.unusedVariables false
set_option linter.unusedSimpArgs false

/-! ### dancestudioref03_Touch: function 19 -/
mutual
def dancestudioref03_Touch.j0 : Nat → Bool → Int → Int → Int → Int → Int → Int → Int → Int → Int → Int → Option (Bool × Int)
 | 0, _, _, _, _, _, _, _, _, _, _, _ => none
 | k + 1, x22, x399000, x399001, x399002, x399003, x399004, x400000, x400001, x400002, x400003, x400004 => if x22 = true then (some (false, 1)) else ((dancestudioref03_square.f x399000 x399001 x400000 x400001).bind fun t402 => (if t402 < (wrap64 ((wrap64 (x399004 + x400004)) * (wrap64 (x399004 + x400004)))) then (dancestudioref03_Touch.j1 k (wrap64 (x399004 + x400004)) (wrap64 (x399000 - x400000)) (wrap64 (x399001 - x400001)) (wrap64 ((wrap64 (x399002 - x400002)) - (wrap64 (x399000 - x400000)))) (wrap64 ((wrap64 (x399003 - x400003)) - (wrap64 (x399001 - x400001)))) true) else ((dancestudioref03_square.f x399002 x399003 x400002 x400003).bind fun t403 => (dancestudioref03_Touch.j1 k (wrap64 (x399004 + x400004)) (wrap64 (x399000 - x400000)) (wrap64 (x399001 - x400001)) (wrap64 ((wrap64 (x399002 - x400002)) - (wrap64 (x399000 - x400000)))) (wrap64 ((wrap64 (x399003 - x400003)) - (wrap64 (x399001 - x400001)))) (decide (t403 < (wrap64 ((wrap64 (x399004 + x400004)) * (wrap64 (x399004 + x400004))))))))))
def dancestudioref03_Touch.j1 : Nat → Int → Int → Int → Int → Int → Bool → Option (Bool × Int)
 | 0, _, _, _, _, _, _ => none
 | k + 1, x6, x7, x8, x9, x10, x79 => if x79 = true then (some (true, 0)) else (if (wrap64 (-(wrap64 ((wrap64 (x7 * x9)) + (wrap64 (x8 * x10)))))) ≤ 0 then (some (false, 0)) else (if (wrap64 (-(wrap64 ((wrap64 (x7 * x9)) + (wrap64 (x8 * x10)))))) ≥ (wrap64 ((wrap64 (x9 * x9)) + (wrap64 (x10 * x10)))) then (some (false, 0)) else ((dancestudioref01_Compare.f k (wrap64 ((wrap64 (x7 * x10)) - (wrap64 (x8 * x9)))) (wrap64 ((wrap64 (x7 * x10)) - (wrap64 (x8 * x9)))) (wrap64 (x6 * x6)) (wrap64 ((wrap64 (x9 * x9)) + (wrap64 (x10 * x10))))).bind fun bt404 => (some (decide (bt404.1 < 0), 0)))))
end
def dancestudioref03_Touch.f (k : Nat) (a0_0 : Int) (a0_1 : Int) (a0_2 : Int) (a0_3 : Int) (a0_4 : Int) (a1_0 : Int) (a1_1 : Int) (a1_2 : Int) (a1_3 : Int) (a1_4 : Int) : Option (Bool × Int) := (dancestudioref03_motion.f a0_0 a0_1 a0_2 a0_3 a0_4).bind fun t400 => (if t400 = true then ((dancestudioref03_motion.f a1_0 a1_1 a1_2 a1_3 a1_4).bind fun t401 => (dancestudioref03_Touch.j0 k (!t401) a0_0 a0_1 a0_2 a0_3 a0_4 a1_0 a1_1 a1_2 a1_3 a1_4)) else (dancestudioref03_Touch.j0 k true a0_0 a0_1 a0_2 a0_3 a0_4 a1_0 a1_1 a1_2 a1_3 a1_4))
theorem dancestudioref03_Touch.mono_l : ∀ k, (∀ y0 y1 y2 y3 y4 y5 y6 y7 y8 y9 y10, LeO (dancestudioref03_Touch.j0 k y0 y1 y2 y3 y4 y5 y6 y7 y8 y9 y10) (dancestudioref03_Touch.j0 (k + 1) y0 y1 y2 y3 y4 y5 y6 y7 y8 y9 y10)) ∧ (∀ y0 y1 y2 y3 y4 y5, LeO (dancestudioref03_Touch.j1 k y0 y1 y2 y3 y4 y5) (dancestudioref03_Touch.j1 (k + 1) y0 y1 y2 y3 y4 y5))
 | 0 => ⟨fun _ _ _ _ _ _ _ _ _ _ _ r h => by simp [dancestudioref03_Touch.j0] at h, fun _ _ _ _ _ _ r h => by simp [dancestudioref03_Touch.j1] at h⟩
 | k + 1 => by
  obtain ⟨ih0, ih1⟩ := dancestudioref03_Touch.mono_l k
  refine ⟨?_, ?_⟩
  ·
   intro y0 y1 y2 y3 y4 y5 y6 y7 y8 y9 y10
   unfold dancestudioref03_Touch.j0
   repeat' first
   | (with_reducible exact ih0 _ _ _ _ _ _ _ _ _ _ _)
   | (with_reducible exact ih1 _ _ _ _ _ _)
   | (with_reducible exact dancestudioref01_Compare.mono _ _ _ _ _)
   | (with_reducible exact LeO.refl _)
   | (with_reducible exact LeO.none _)
   | (with_reducible refine LeO.ite ?_ ?_)
   | (with_reducible refine LeO.bind ?_ (fun _ => ?_))
   | exact ih0 _ _ _ _ _ _ _ _ _ _ _
   | exact ih1 _ _ _ _ _ _
   | exact dancestudioref01_Compare.mono _ _ _ _ _
   | exact LeO.none _
   | refine LeO.ite ?_ ?_
   | refine LeO.bind ?_ (fun _ => ?_)
  ·
   intro y0 y1 y2 y3 y4 y5
   unfold dancestudioref03_Touch.j1
   repeat' first
   | (with_reducible exact ih0 _ _ _ _ _ _ _ _ _ _ _)
   | (with_reducible exact ih1 _ _ _ _ _ _)
   | (with_reducible exact dancestudioref01_Compare.mono _ _ _ _ _)
   | (with_reducible exact LeO.refl _)
   | (with_reducible exact LeO.none _)
   | (with_reducible refine LeO.ite ?_ ?_)
   | (with_reducible refine LeO.bind ?_ (fun _ => ?_))
   | exact ih0 _ _ _ _ _ _ _ _ _ _ _
   | exact ih1 _ _ _ _ _ _
   | exact dancestudioref01_Compare.mono _ _ _ _ _
   | exact LeO.none _
   | refine LeO.ite ?_ ?_
   | refine LeO.bind ?_ (fun _ => ?_)
theorem dancestudioref03_Touch.mono : ∀ a0 a1 a2 a3 a4 a5 a6 a7 a8 a9 k, LeO (dancestudioref03_Touch.f k a0 a1 a2 a3 a4 a5 a6 a7 a8 a9) (dancestudioref03_Touch.f (k + 1) a0 a1 a2 a3 a4 a5 a6 a7 a8 a9) := by
 intro a0 a1 a2 a3 a4 a5 a6 a7 a8 a9 k
 obtain ⟨ih0, ih1⟩ := dancestudioref03_Touch.mono_l k
 unfold dancestudioref03_Touch.f
 repeat' first
   | (with_reducible exact ih0 _ _ _ _ _ _ _ _ _ _ _)
   | (with_reducible exact ih1 _ _ _ _ _ _)
   | (with_reducible exact dancestudioref01_Compare.mono _ _ _ _ _)
   | (with_reducible exact LeO.refl _)
   | (with_reducible exact LeO.none _)
   | (with_reducible refine LeO.ite ?_ ?_)
   | (with_reducible refine LeO.bind ?_ (fun _ => ?_))
   | exact ih0 _ _ _ _ _ _ _ _ _ _ _
   | exact ih1 _ _ _ _ _ _
   | exact dancestudioref01_Compare.mono _ _ _ _ _
   | exact LeO.none _
   | refine LeO.ite ?_ ?_
   | refine LeO.bind ?_ (fun _ => ?_)
set_option maxHeartbeats 8000000 in
set_option maxRecDepth 100000 in
theorem dancestudioref03_Touch.calls (k : Nat) (a0_0 : Int) (a0_1 : Int) (a0_2 : Int) (a0_3 : Int) (a0_4 : Int) (a1_0 : Int) (a1_1 : Int) (a1_2 : Int) (a1_3 : Int) (a1_4 : Int) (r1 : Bool) (r2 : Int) (w : World) (h : dancestudioref03_Touch.f k a0_0 a0_1 a0_2 a0_3 a0_4 a1_0 a1_1 a1_2 a1_3 a1_4 = some (r1, r2)) :
  Calls Try.prog 19 #[.agg #[.int .i64 a0_0, .int .i64 a0_1, .int .i64 a0_2, .int .i64 a0_3, .int .i64 a0_4], .agg #[.int .i64 a1_0, .int .i64 a1_1, .int .i64 a1_2, .int .i64 a1_3, .int .i64 a1_4]] w fun e w' => e = .returned (.tuple #[.bool r1, .int .i64 r2]) ∧ Below w.heap.size w w' := by
 have hu36 := Try.underlying36
 have hu23 := Try.underlying23
 have HB := Aside0.mk (Below.refl w.heap.size w)
 have H : ((dancestudioref03_motion.f a0_0 a0_1 a0_2 a0_3 a0_4).bind fun t400 => (if t400 = true then ((dancestudioref03_motion.f a1_0 a1_1 a1_2 a1_3 a1_4).bind fun t401 => (dancestudioref03_Touch.j0 k (!t401) a0_0 a0_1 a0_2 a0_3 a0_4 a1_0 a1_1 a1_2 a1_3 a1_4)) else (dancestudioref03_Touch.j0 k true a0_0 a0_1 a0_2 a0_3 a0_4 a1_0 a1_1 a1_2 a1_3 a1_4))) = some (r1, r2) := h
 clear h
 have HC3 := Aside0.mk H
 clear H
 go_enter Try.func19, Try.ntmps19
 go_upto_region 1 with (first | ((with_reducible refine gate_dst (N := 2) rfl ?_); refine box_event ?hg (N := 2) ?hd (cs := #[.int .i64 a0_0, .int .i64 a0_1, .int .i64 a0_2, .int .i64 a0_3, .int .i64 a0_4]) (t := 36) ?hr ?_; (case hd => rfl); (case hg => rfl); (case hr => first | (go_simp; done) | (go_simp; rfl)); intro gb398 hg w4 hbox hb; have n0_ := Aside0.mk (below_step (by repeat (first | (with_reducible first | exact HB.out | apply below_alloc | apply pw_below_drewN | apply below_drew1) | exact HB.out)) hb); have n1_ := Aside0.mk (hbox); have n2_ := Aside0.mk ((by rw [hg]; exact (below_size (by repeat (first | (with_reducible first | exact HB.out | apply below_alloc | apply pw_below_drewN | apply below_drew1) | exact HB.out))) : w.heap.size ≤ gb398)); have n3_ := Aside0.mk ((by rw [hg]; exact (below_size (by repeat (first | (with_reducible first | exact HB.out | apply below_alloc | apply pw_below_drewN | apply below_drew1) | exact HB.out))) : w.heap.size ≤ gb398)); clear HB; have HB := n0_; have BK398 := n1_; have GW398 := n2_; have GE398 := n3_; clear n0_ n1_ n2_ n3_; clear hb hbox hg) | ((with_reducible refine gate_dst (N := 3) rfl ?_); refine box_event ?hg (N := 3) ?hd (cs := #[.int .i64 a1_0, .int .i64 a1_1, .int .i64 a1_2, .int .i64 a1_3, .int .i64 a1_4]) (t := 36) ?hr ?_; (case hd => rfl); (case hg => rfl); (case hr => first | (go_simp; done) | (go_simp; rfl)); intro gb399 hg w5 hbox hb; have n0_ := Aside0.mk (blk_below (g := gb398) (o := .cells #[.int .i64 a0_0, .int .i64 a0_1, .int .i64 a0_2, .int .i64 a0_3, .int .i64 a0_4] 36 (0, 0)) (by (with_reducible repeat (first | refine blk_drewN ?_ _ | refine blk_drew ?_ | refine blk_alloc ?_ _)); exact BK398.out) hb); have n1_ := Aside0.mk (below_step (by repeat (first | (with_reducible first | exact HB.out | apply below_alloc | apply pw_below_drewN | apply below_drew1 | refine below_set ?_ GE398.out) | exact HB.out)) hb); have n2_ := Aside0.mk (hbox); have n3_ := Aside0.mk ((by rw [hg]; exact (below_size (by repeat (first | (with_reducible first | exact HB.out | apply below_alloc | apply pw_below_drewN | apply below_drew1 | refine below_set ?_ GE398.out) | exact HB.out))) : w.heap.size ≤ gb399)); have n4_ := Aside0.mk ((by rw [hg]; exact (below_size (by repeat (first | (with_reducible first | exact HB.out | apply below_alloc | apply pw_below_drewN | apply below_drew1 | refine below_set ?_ GE398.out) | exact HB.out))) : w.heap.size ≤ gb399)); have n5_ := Aside0.mk ((by rw [hg]; exact Nat.ne_of_lt (blk_lt (g := gb398) (o := .cells #[.int .i64 a0_0, .int .i64 a0_1, .int .i64 a0_2, .int .i64 a0_3, .int .i64 a0_4] 36 (0, 0)) (by (with_reducible repeat (first | refine blk_drewN ?_ _ | refine blk_drew ?_ | refine blk_alloc ?_ _)); exact BK398.out)) : gb398 ≠ gb399)); have n6_ := Aside0.mk ((by rw [hg]; exact Nat.ne_of_gt (blk_lt (g := gb398) (o := .cells #[.int .i64 a0_0, .int .i64 a0_1, .int .i64 a0_2, .int .i64 a0_3, .int .i64 a0_4] 36 (0, 0)) (by (with_reducible repeat (first | refine blk_drewN ?_ _ | refine blk_drew ?_ | refine blk_alloc ?_ _)); exact BK398.out)) : gb399 ≠ gb398)); clear BK398; clear HB; have BK398 := n0_; have HB := n1_; have BK399 := n2_; have GW399 := n3_; have GE399 := n4_; have NB398_399 := n5_; have NB399_398 := n6_; clear n0_ n1_ n2_ n3_ n4_ n5_ n6_; clear hb hbox hg))
 repeat (go_quiet (first | ((with_reducible refine gate_dst (N := 2) rfl ?_); refine box_event ?hg (N := 2) ?hd (cs := #[.int .i64 a0_0, .int .i64 a0_1, .int .i64 a0_2, .int .i64 a0_3, .int .i64 a0_4]) (t := 36) ?hr ?_; (case hd => rfl); (case hg => rfl); (case hr => first | (go_simp; done) | (go_simp; rfl)); intro gb398 hg w4 hbox hb; have n0_ := Aside0.mk (below_step (by repeat (first | (with_reducible first | exact HB.out | apply below_alloc | apply pw_below_drewN | apply below_drew1) | exact HB.out)) hb); have n1_ := Aside0.mk (hbox); have n2_ := Aside0.mk ((by rw [hg]; exact (below_size (by repeat (first | (with_reducible first | exact HB.out | apply below_alloc | apply pw_below_drewN | apply below_drew1) | exact HB.out))) : w.heap.size ≤ gb398)); have n3_ := Aside0.mk ((by rw [hg]; exact (below_size (by repeat (first | (with_reducible first | exact HB.out | apply below_alloc | apply pw_below_drewN | apply below_drew1) | exact HB.out))) : w.heap.size ≤ gb398)); clear HB; have HB := n0_; have BK398 := n1_; have GW398 := n2_; have GE398 := n3_; clear n0_ n1_ n2_ n3_; clear hb hbox hg) | ((with_reducible refine gate_dst (N := 3) rfl ?_); refine box_event ?hg (N := 3) ?hd (cs := #[.int .i64 a1_0, .int .i64 a1_1, .int .i64 a1_2, .int .i64 a1_3, .int .i64 a1_4]) (t := 36) ?hr ?_; (case hd => rfl); (case hg => rfl); (case hr => first | (go_simp; done) | (go_simp; rfl)); intro gb399 hg w5 hbox hb; have n0_ := Aside0.mk (blk_below (g := gb398) (o := .cells #[.int .i64 a0_0, .int .i64 a0_1, .int .i64 a0_2, .int .i64 a0_3, .int .i64 a0_4] 36 (0, 0)) (by (with_reducible repeat (first | refine blk_drewN ?_ _ | refine blk_drew ?_ | refine blk_alloc ?_ _)); exact BK398.out) hb); have n1_ := Aside0.mk (below_step (by repeat (first | (with_reducible first | exact HB.out | apply below_alloc | apply pw_below_drewN | apply below_drew1 | refine below_set ?_ GE398.out) | exact HB.out)) hb); have n2_ := Aside0.mk (hbox); have n3_ := Aside0.mk ((by rw [hg]; exact (below_size (by repeat (first | (with_reducible first | exact HB.out | apply below_alloc | apply pw_below_drewN | apply below_drew1 | refine below_set ?_ GE398.out) | exact HB.out))) : w.heap.size ≤ gb399)); have n4_ := Aside0.mk ((by rw [hg]; exact (below_size (by repeat (first | (with_reducible first | exact HB.out | apply below_alloc | apply pw_below_drewN | apply below_drew1 | refine below_set ?_ GE398.out) | exact HB.out))) : w.heap.size ≤ gb399)); have n5_ := Aside0.mk ((by rw [hg]; exact Nat.ne_of_lt (blk_lt (g := gb398) (o := .cells #[.int .i64 a0_0, .int .i64 a0_1, .int .i64 a0_2, .int .i64 a0_3, .int .i64 a0_4] 36 (0, 0)) (by (with_reducible repeat (first | refine blk_drewN ?_ _ | refine blk_drew ?_ | refine blk_alloc ?_ _)); exact BK398.out)) : gb398 ≠ gb399)); have n6_ := Aside0.mk ((by rw [hg]; exact Nat.ne_of_gt (blk_lt (g := gb398) (o := .cells #[.int .i64 a0_0, .int .i64 a0_1, .int .i64 a0_2, .int .i64 a0_3, .int .i64 a0_4] 36 (0, 0)) (by (with_reducible repeat (first | refine blk_drewN ?_ _ | refine blk_drew ?_ | refine blk_alloc ?_ _)); exact BK398.out)) : gb399 ≠ gb398)); clear BK398; clear HB; have BK398 := n0_; have HB := n1_; have BK399 := n2_; have GW399 := n3_; have GE399 := n4_; have NB398_399 := n5_; have NB399_398 := n6_; clear n0_ n1_ n2_ n3_ n4_ n5_ n6_; clear hb hbox hg)); go_upto_region 1 with (first | ((with_reducible refine gate_dst (N := 2) rfl ?_); refine box_event ?hg (N := 2) ?hd (cs := #[.int .i64 a0_0, .int .i64 a0_1, .int .i64 a0_2, .int .i64 a0_3, .int .i64 a0_4]) (t := 36) ?hr ?_; (case hd => rfl); (case hg => rfl); (case hr => first | (go_simp; done) | (go_simp; rfl)); intro gb398 hg w4 hbox hb; have n0_ := Aside0.mk (below_step (by repeat (first | (with_reducible first | exact HB.out | apply below_alloc | apply pw_below_drewN | apply below_drew1) | exact HB.out)) hb); have n1_ := Aside0.mk (hbox); have n2_ := Aside0.mk ((by rw [hg]; exact (below_size (by repeat (first | (with_reducible first | exact HB.out | apply below_alloc | apply pw_below_drewN | apply below_drew1) | exact HB.out))) : w.heap.size ≤ gb398)); have n3_ := Aside0.mk ((by rw [hg]; exact (below_size (by repeat (first | (with_reducible first | exact HB.out | apply below_alloc | apply pw_below_drewN | apply below_drew1) | exact HB.out))) : w.heap.size ≤ gb398)); clear HB; have HB := n0_; have BK398 := n1_; have GW398 := n2_; have GE398 := n3_; clear n0_ n1_ n2_ n3_; clear hb hbox hg) | ((with_reducible refine gate_dst (N := 3) rfl ?_); refine box_event ?hg (N := 3) ?hd (cs := #[.int .i64 a1_0, .int .i64 a1_1, .int .i64 a1_2, .int .i64 a1_3, .int .i64 a1_4]) (t := 36) ?hr ?_; (case hd => rfl); (case hg => rfl); (case hr => first | (go_simp; done) | (go_simp; rfl)); intro gb399 hg w5 hbox hb; have n0_ := Aside0.mk (blk_below (g := gb398) (o := .cells #[.int .i64 a0_0, .int .i64 a0_1, .int .i64 a0_2, .int .i64 a0_3, .int .i64 a0_4] 36 (0, 0)) (by (with_reducible repeat (first | refine blk_drewN ?_ _ | refine blk_drew ?_ | refine blk_alloc ?_ _)); exact BK398.out) hb); have n1_ := Aside0.mk (below_step (by repeat (first | (with_reducible first | exact HB.out | apply below_alloc | apply pw_below_drewN | apply below_drew1 | refine below_set ?_ GE398.out) | exact HB.out)) hb); have n2_ := Aside0.mk (hbox); have n3_ := Aside0.mk ((by rw [hg]; exact (below_size (by repeat (first | (with_reducible first | exact HB.out | apply below_alloc | apply pw_below_drewN | apply below_drew1 | refine below_set ?_ GE398.out) | exact HB.out))) : w.heap.size ≤ gb399)); have n4_ := Aside0.mk ((by rw [hg]; exact (below_size (by repeat (first | (with_reducible first | exact HB.out | apply below_alloc | apply pw_below_drewN | apply below_drew1 | refine below_set ?_ GE398.out) | exact HB.out))) : w.heap.size ≤ gb399)); have n5_ := Aside0.mk ((by rw [hg]; exact Nat.ne_of_lt (blk_lt (g := gb398) (o := .cells #[.int .i64 a0_0, .int .i64 a0_1, .int .i64 a0_2, .int .i64 a0_3, .int .i64 a0_4] 36 (0, 0)) (by (with_reducible repeat (first | refine blk_drewN ?_ _ | refine blk_drew ?_ | refine blk_alloc ?_ _)); exact BK398.out)) : gb398 ≠ gb399)); have n6_ := Aside0.mk ((by rw [hg]; exact Nat.ne_of_gt (blk_lt (g := gb398) (o := .cells #[.int .i64 a0_0, .int .i64 a0_1, .int .i64 a0_2, .int .i64 a0_3, .int .i64 a0_4] 36 (0, 0)) (by (with_reducible repeat (first | refine blk_drewN ?_ _ | refine blk_drew ?_ | refine blk_alloc ?_ _)); exact BK398.out)) : gb399 ≠ gb398)); clear BK398; clear HB; have BK398 := n0_; have HB := n1_; have BK399 := n2_; have GW399 := n3_; have GE399 := n4_; have NB398_399 := n5_; have NB399_398 := n6_; clear n0_ n1_ n2_ n3_ n4_ n5_ n6_; clear hb hbox hg)))
 (try simp only [Act.put, List.setIfInBounds_toArray, List.set_cons_zero, List.set_cons_succ])
 go_cut [22] (fun v22 wc => ∃ (kq : Nat) (x22_2 : Bool), v22 = .bool x22_2 ∧ Aside0 (dancestudioref03_Touch.j0 kq x22_2 a0_0 a0_1 a0_2 a0_3 a0_4 a1_0 a1_1 a1_2 a1_3 a1_4 = some (r1, r2)) ∧ Aside0 (kq ≤ k) ∧ Aside0 (wc.heap[gb398]? = some (.cells #[.int .i64 a0_0, .int .i64 a0_1, .int .i64 a0_2, .int .i64 a0_3, .int .i64 a0_4] 36 (0, 0))) ∧ Aside0 (wc.heap[gb399]? = some (.cells #[.int .i64 a1_0, .int .i64 a1_1, .int .i64 a1_2, .int .i64 a1_3, .int .i64 a1_4] 36 (0, 0))) ∧ Aside0 (Below w.heap.size w wc))
 case first =>
  have H := HC3.out
  clear HC3
  replace H := Option.bind_eq_some_iff.mp H
  obtain ⟨t400, A60, H⟩ := H
  replace H : (if t400 = true then ((dancestudioref03_motion.f a1_0 a1_1 a1_2 a1_3 a1_4).bind fun t401 => (dancestudioref03_Touch.j0 k (!t401) a0_0 a0_1 a0_2 a0_3 a0_4 a1_0 a1_1 a1_2 a1_3 a1_4)) else (dancestudioref03_Touch.j0 k true a0_0 a0_1 a0_2 a0_3 a0_4 a1_0 a1_1 a1_2 a1_3 a1_4)) = some (r1, r2) := H
  have A6 := Aside0.mk A60
  clear A60
  by_cases c7 : t400 = true
  ·
   subst c7
   have H1 : ((dancestudioref03_motion.f a1_0 a1_1 a1_2 a1_3 a1_4).bind fun t401 => (dancestudioref03_Touch.j0 k (!t401) a0_0 a0_1 a0_2 a0_3 a0_4 a1_0 a1_1 a1_2 a1_3 a1_4)) = some (r1, r2) := by rw [if_pos rfl] at H; exact H
   clear H
   have H := H1
   clear H1
   replace H := Option.bind_eq_some_iff.mp H
   obtain ⟨t401, A80, H⟩ := H
   replace H : (dancestudioref03_Touch.j0 k (!t401) a0_0 a0_1 a0_2 a0_3 a0_4 a1_0 a1_1 a1_2 a1_3 a1_4) = some (r1, r2) := H
   have A8 := Aside0.mk A80
   clear A80
   have H' := Aside0.mk H
   clear H
   have hnb9 := NB398_399.out
   have hnc9 := NB399_398.out
   have hcz10_0 : w5.cell? ⟨gb398, 0, none⟩ = some (.int .i64 a0_0) := (blk_cell BK398.out 0).trans rfl
   have hcz10_1 : w5.cell? ⟨gb398, 1, none⟩ = some (.int .i64 a0_1) := (blk_cell BK398.out 1).trans rfl
   have hcz10_2 : w5.cell? ⟨gb398, 2, none⟩ = some (.int .i64 a0_2) := (blk_cell BK398.out 2).trans rfl
   have hcz10_3 : w5.cell? ⟨gb398, 3, none⟩ = some (.int .i64 a0_3) := (blk_cell BK398.out 3).trans rfl
   have hcz10_4 : w5.cell? ⟨gb398, 4, none⟩ = some (.int .i64 a0_4) := (blk_cell BK398.out 4).trans rfl
   have hfz10_0 := blk_frozen BK398.out 0
   have hfz10_1 := blk_frozen BK398.out 1
   have hfz10_2 := blk_frozen BK398.out 2
   have hfz10_3 := blk_frozen BK398.out 3
   have hfz10_4 := blk_frozen BK398.out 4
   go_wp2_with (first | (go_at_call 39; (with_reducible refine (dancestudioref03_motion.calls a0_0 a0_1 a0_2 a0_3 a0_4 true _ A6.out).mono ?_); rintro e w11 ⟨rfl, hb⟩; have n0_ := Aside0.mk (blk_below (g := gb398) (o := .cells #[.int .i64 a0_0, .int .i64 a0_1, .int .i64 a0_2, .int .i64 a0_3, .int .i64 a0_4] 36 (0, 0)) (by (with_reducible repeat (first | refine blk_drewN ?_ _ | refine blk_drew ?_ | refine blk_alloc ?_ _)); exact BK398.out) hb); have n1_ := Aside0.mk (blk_below (g := gb399) (o := .cells #[.int .i64 a1_0, .int .i64 a1_1, .int .i64 a1_2, .int .i64 a1_3, .int .i64 a1_4] 36 (0, 0)) (by (with_reducible repeat (first | refine blk_drewN ?_ _ | refine blk_drew ?_ | refine blk_alloc ?_ _)); exact BK399.out) hb); have n2_ := Aside0.mk (below_step (by repeat (first | (with_reducible first | exact HB.out | apply below_alloc | apply pw_below_drewN | apply below_drew1 | refine below_set ?_ GE398.out | refine below_set ?_ GE399.out) | exact HB.out)) hb); clear BK398; clear BK399; clear HB; have BK398 := n0_; have BK399 := n1_; have HB := n2_; clear n0_ n1_ n2_; (try clear hb); (try clear hb2); (try clear hk); (try clear hi); have hcz12_0 : w11.cell? ⟨gb399, 0, none⟩ = some (.int .i64 a1_0) := (blk_cell BK399.out 0).trans rfl; have hcz12_1 : w11.cell? ⟨gb399, 1, none⟩ = some (.int .i64 a1_1) := (blk_cell BK399.out 1).trans rfl; have hcz12_2 : w11.cell? ⟨gb399, 2, none⟩ = some (.int .i64 a1_2) := (blk_cell BK399.out 2).trans rfl; have hcz12_3 : w11.cell? ⟨gb399, 3, none⟩ = some (.int .i64 a1_3) := (blk_cell BK399.out 3).trans rfl; have hcz12_4 : w11.cell? ⟨gb399, 4, none⟩ = some (.int .i64 a1_4) := (blk_cell BK399.out 4).trans rfl; have hfz12_0 := blk_frozen BK399.out 0; have hfz12_1 := blk_frozen BK399.out 1; have hfz12_2 := blk_frozen BK399.out 2; have hfz12_3 := blk_frozen BK399.out 3; have hfz12_4 := blk_frozen BK399.out 4) | (go_at_call 39; (with_reducible refine (dancestudioref03_motion.calls a1_0 a1_1 a1_2 a1_3 a1_4 t401 _ A8.out).mono ?_); rintro e w13 ⟨rfl, hb⟩; have n0_ := Aside0.mk (blk_below (g := gb398) (o := .cells #[.int .i64 a0_0, .int .i64 a0_1, .int .i64 a0_2, .int .i64 a0_3, .int .i64 a0_4] 36 (0, 0)) (by (with_reducible repeat (first | refine blk_drewN ?_ _ | refine blk_drew ?_ | refine blk_alloc ?_ _)); exact BK398.out) hb); have n1_ := Aside0.mk (blk_below (g := gb399) (o := .cells #[.int .i64 a1_0, .int .i64 a1_1, .int .i64 a1_2, .int .i64 a1_3, .int .i64 a1_4] 36 (0, 0)) (by (with_reducible repeat (first | refine blk_drewN ?_ _ | refine blk_drew ?_ | refine blk_alloc ?_ _)); exact BK399.out) hb); have n2_ := Aside0.mk (below_step (by repeat (first | (with_reducible first | exact HB.out | apply below_alloc | apply pw_below_drewN | apply below_drew1 | refine below_set ?_ GE398.out | refine below_set ?_ GE399.out) | exact HB.out)) hb); clear BK398; clear BK399; clear HB; have BK398 := n0_; have BK399 := n1_; have HB := n2_; clear n0_ n1_ n2_; (try clear hb); (try clear hb2); (try clear hk); (try clear hi)))
   repeat (go_quiet (first | (go_at_call 39; (with_reducible refine (dancestudioref03_motion.calls a0_0 a0_1 a0_2 a0_3 a0_4 true _ A6.out).mono ?_); rintro e w11 ⟨rfl, hb⟩; have n0_ := Aside0.mk (blk_below (g := gb398) (o := .cells #[.int .i64 a0_0, .int .i64 a0_1, .int .i64 a0_2, .int .i64 a0_3, .int .i64 a0_4] 36 (0, 0)) (by (with_reducible repeat (first | refine blk_drewN ?_ _ | refine blk_drew ?_ | refine blk_alloc ?_ _)); exact BK398.out) hb); have n1_ := Aside0.mk (blk_below (g := gb399) (o := .cells #[.int .i64 a1_0, .int .i64 a1_1, .int .i64 a1_2, .int .i64 a1_3, .int .i64 a1_4] 36 (0, 0)) (by (with_reducible repeat (first | refine blk_drewN ?_ _ | refine blk_drew ?_ | refine blk_alloc ?_ _)); exact BK399.out) hb); have n2_ := Aside0.mk (below_step (by repeat (first | (with_reducible first | exact HB.out | apply below_alloc | apply pw_below_drewN | apply below_drew1 | refine below_set ?_ GE398.out | refine below_set ?_ GE399.out) | exact HB.out)) hb); clear BK398; clear BK399; clear HB; have BK398 := n0_; have BK399 := n1_; have HB := n2_; clear n0_ n1_ n2_; (try clear hb); (try clear hb2); (try clear hk); (try clear hi); have hcz12_0 : w11.cell? ⟨gb399, 0, none⟩ = some (.int .i64 a1_0) := (blk_cell BK399.out 0).trans rfl; have hcz12_1 : w11.cell? ⟨gb399, 1, none⟩ = some (.int .i64 a1_1) := (blk_cell BK399.out 1).trans rfl; have hcz12_2 : w11.cell? ⟨gb399, 2, none⟩ = some (.int .i64 a1_2) := (blk_cell BK399.out 2).trans rfl; have hcz12_3 : w11.cell? ⟨gb399, 3, none⟩ = some (.int .i64 a1_3) := (blk_cell BK399.out 3).trans rfl; have hcz12_4 : w11.cell? ⟨gb399, 4, none⟩ = some (.int .i64 a1_4) := (blk_cell BK399.out 4).trans rfl; have hfz12_0 := blk_frozen BK399.out 0; have hfz12_1 := blk_frozen BK399.out 1; have hfz12_2 := blk_frozen BK399.out 2; have hfz12_3 := blk_frozen BK399.out 3; have hfz12_4 := blk_frozen BK399.out 4) | (go_at_call 39; (with_reducible refine (dancestudioref03_motion.calls a1_0 a1_1 a1_2 a1_3 a1_4 t401 _ A8.out).mono ?_); rintro e w13 ⟨rfl, hb⟩; have n0_ := Aside0.mk (blk_below (g := gb398) (o := .cells #[.int .i64 a0_0, .int .i64 a0_1, .int .i64 a0_2, .int .i64 a0_3, .int .i64 a0_4] 36 (0, 0)) (by (with_reducible repeat (first | refine blk_drewN ?_ _ | refine blk_drew ?_ | refine blk_alloc ?_ _)); exact BK398.out) hb); have n1_ := Aside0.mk (blk_below (g := gb399) (o := .cells #[.int .i64 a1_0, .int .i64 a1_1, .int .i64 a1_2, .int .i64 a1_3, .int .i64 a1_4] 36 (0, 0)) (by (with_reducible repeat (first | refine blk_drewN ?_ _ | refine blk_drew ?_ | refine blk_alloc ?_ _)); exact BK399.out) hb); have n2_ := Aside0.mk (below_step (by repeat (first | (with_reducible first | exact HB.out | apply below_alloc | apply pw_below_drewN | apply below_drew1 | refine below_set ?_ GE398.out | refine below_set ?_ GE399.out) | exact HB.out)) hb); clear BK398; clear BK399; clear HB; have BK398 := n0_; have BK399 := n1_; have HB := n2_; clear n0_ n1_ n2_; (try clear hb); (try clear hb2); (try clear hk); (try clear hi))); try go_wp2_with (first | (go_at_call 39; (with_reducible refine (dancestudioref03_motion.calls a0_0 a0_1 a0_2 a0_3 a0_4 true _ A6.out).mono ?_); rintro e w11 ⟨rfl, hb⟩; have n0_ := Aside0.mk (blk_below (g := gb398) (o := .cells #[.int .i64 a0_0, .int .i64 a0_1, .int .i64 a0_2, .int .i64 a0_3, .int .i64 a0_4] 36 (0, 0)) (by (with_reducible repeat (first | refine blk_drewN ?_ _ | refine blk_drew ?_ | refine blk_alloc ?_ _)); exact BK398.out) hb); have n1_ := Aside0.mk (blk_below (g := gb399) (o := .cells #[.int .i64 a1_0, .int .i64 a1_1, .int .i64 a1_2, .int .i64 a1_3, .int .i64 a1_4] 36 (0, 0)) (by (with_reducible repeat (first | refine blk_drewN ?_ _ | refine blk_drew ?_ | refine blk_alloc ?_ _)); exact BK399.out) hb); have n2_ := Aside0.mk (below_step (by repeat (first | (with_reducible first | exact HB.out | apply below_alloc | apply pw_below_drewN | apply below_drew1 | refine below_set ?_ GE398.out | refine below_set ?_ GE399.out) | exact HB.out)) hb); clear BK398; clear BK399; clear HB; have BK398 := n0_; have BK399 := n1_; have HB := n2_; clear n0_ n1_ n2_; (try clear hb); (try clear hb2); (try clear hk); (try clear hi); have hcz12_0 : w11.cell? ⟨gb399, 0, none⟩ = some (.int .i64 a1_0) := (blk_cell BK399.out 0).trans rfl; have hcz12_1 : w11.cell? ⟨gb399, 1, none⟩ = some (.int .i64 a1_1) := (blk_cell BK399.out 1).trans rfl; have hcz12_2 : w11.cell? ⟨gb399, 2, none⟩ = some (.int .i64 a1_2) := (blk_cell BK399.out 2).trans rfl; have hcz12_3 : w11.cell? ⟨gb399, 3, none⟩ = some (.int .i64 a1_3) := (blk_cell BK399.out 3).trans rfl; have hcz12_4 : w11.cell? ⟨gb399, 4, none⟩ = some (.int .i64 a1_4) := (blk_cell BK399.out 4).trans rfl; have hfz12_0 := blk_frozen BK399.out 0; have hfz12_1 := blk_frozen BK399.out 1; have hfz12_2 := blk_frozen BK399.out 2; have hfz12_3 := blk_frozen BK399.out 3; have hfz12_4 := blk_frozen BK399.out 4) | (go_at_call 39; (with_reducible refine (dancestudioref03_motion.calls a1_0 a1_1 a1_2 a1_3 a1_4 t401 _ A8.out).mono ?_); rintro e w13 ⟨rfl, hb⟩; have n0_ := Aside0.mk (blk_below (g := gb398) (o := .cells #[.int .i64 a0_0, .int .i64 a0_1, .int .i64 a0_2, .int .i64 a0_3, .int .i64 a0_4] 36 (0, 0)) (by (with_reducible repeat (first | refine blk_drewN ?_ _ | refine blk_drew ?_ | refine blk_alloc ?_ _)); exact BK398.out) hb); have n1_ := Aside0.mk (blk_below (g := gb399) (o := .cells #[.int .i64 a1_0, .int .i64 a1_1, .int .i64 a1_2, .int .i64 a1_3, .int .i64 a1_4] 36 (0, 0)) (by (with_reducible repeat (first | refine blk_drewN ?_ _ | refine blk_drew ?_ | refine blk_alloc ?_ _)); exact BK399.out) hb); have n2_ := Aside0.mk (below_step (by repeat (first | (with_reducible first | exact HB.out | apply below_alloc | apply pw_below_drewN | apply below_drew1 | refine below_set ?_ GE398.out | refine below_set ?_ GE399.out) | exact HB.out)) hb); clear BK398; clear BK399; clear HB; have BK398 := n0_; have BK399 := n1_; have HB := n2_; clear n0_ n1_ n2_; (try clear hb); (try clear hb2); (try clear hk); (try clear hi))))
   go_meet
   case rel => exact ⟨_, (!t401), (by first | rfl | (simp; done) | (simp [*]; done)), H', ⟨by first | omega | exact Nat.le_refl _⟩, ⟨by (with_reducible repeat (first | refine blk_drewN ?_ _ | refine blk_drew ?_ | refine blk_alloc ?_ _)); exact BK398.out⟩, ⟨by (with_reducible repeat (first | refine blk_drewN ?_ _ | refine blk_drew ?_ | refine blk_alloc ?_ _)); exact BK399.out⟩, ⟨by repeat (first | (with_reducible first | exact HB.out | apply below_alloc | apply pw_below_drewN | apply below_drew1 | refine below_set ?_ GE398.out | refine below_set ?_ GE399.out) | exact HB.out)⟩⟩
  ·
   replace c7 := Bool.eq_false_iff.mpr c7
   subst c7
   have H1 : (dancestudioref03_Touch.j0 k true a0_0 a0_1 a0_2 a0_3 a0_4 a1_0 a1_1 a1_2 a1_3 a1_4) = some (r1, r2) := by rw [if_neg (show ¬ (false = true) by decide)] at H; exact H
   clear H
   have H := H1
   clear H1
   have H' := Aside0.mk H
   clear H
   have hnb14 := NB398_399.out
   have hnc14 := NB399_398.out
   have hcz15_0 : w5.cell? ⟨gb398, 0, none⟩ = some (.int .i64 a0_0) := (blk_cell BK398.out 0).trans rfl
   have hcz15_1 : w5.cell? ⟨gb398, 1, none⟩ = some (.int .i64 a0_1) := (blk_cell BK398.out 1).trans rfl
   have hcz15_2 : w5.cell? ⟨gb398, 2, none⟩ = some (.int .i64 a0_2) := (blk_cell BK398.out 2).trans rfl
   have hcz15_3 : w5.cell? ⟨gb398, 3, none⟩ = some (.int .i64 a0_3) := (blk_cell BK398.out 3).trans rfl
   have hcz15_4 : w5.cell? ⟨gb398, 4, none⟩ = some (.int .i64 a0_4) := (blk_cell BK398.out 4).trans rfl
   have hfz15_0 := blk_frozen BK398.out 0
   have hfz15_1 := blk_frozen BK398.out 1
   have hfz15_2 := blk_frozen BK398.out 2
   have hfz15_3 := blk_frozen BK398.out 3
   have hfz15_4 := blk_frozen BK398.out 4
   go_wp2_with (first | (go_at_call 39; (with_reducible refine (dancestudioref03_motion.calls a0_0 a0_1 a0_2 a0_3 a0_4 false _ A6.out).mono ?_); rintro e w16 ⟨rfl, hb⟩; have n0_ := Aside0.mk (blk_below (g := gb398) (o := .cells #[.int .i64 a0_0, .int .i64 a0_1, .int .i64 a0_2, .int .i64 a0_3, .int .i64 a0_4] 36 (0, 0)) (by (with_reducible repeat (first | refine blk_drewN ?_ _ | refine blk_drew ?_ | refine blk_alloc ?_ _)); exact BK398.out) hb); have n1_ := Aside0.mk (blk_below (g := gb399) (o := .cells #[.int .i64 a1_0, .int .i64 a1_1, .int .i64 a1_2, .int .i64 a1_3, .int .i64 a1_4] 36 (0, 0)) (by (with_reducible repeat (first | refine blk_drewN ?_ _ | refine blk_drew ?_ | refine blk_alloc ?_ _)); exact BK399.out) hb); have n2_ := Aside0.mk (below_step (by repeat (first | (with_reducible first | exact HB.out | apply below_alloc | apply pw_below_drewN | apply below_drew1 | refine below_set ?_ GE398.out | refine below_set ?_ GE399.out) | exact HB.out)) hb); clear BK398; clear BK399; clear HB; have BK398 := n0_; have BK399 := n1_; have HB := n2_; clear n0_ n1_ n2_; (try clear hb); (try clear hb2); (try clear hk); (try clear hi)))
   repeat (go_quiet (first | (go_at_call 39; (with_reducible refine (dancestudioref03_motion.calls a0_0 a0_1 a0_2 a0_3 a0_4 false _ A6.out).mono ?_); rintro e w16 ⟨rfl, hb⟩; have n0_ := Aside0.mk (blk_below (g := gb398) (o := .cells #[.int .i64 a0_0, .int .i64 a0_1, .int .i64 a0_2, .int .i64 a0_3, .int .i64 a0_4] 36 (0, 0)) (by (with_reducible repeat (first | refine blk_drewN ?_ _ | refine blk_drew ?_ | refine blk_alloc ?_ _)); exact BK398.out) hb); have n1_ := Aside0.mk (blk_below (g := gb399) (o := .cells #[.int .i64 a1_0, .int .i64 a1_1, .int .i64 a1_2, .int .i64 a1_3, .int .i64 a1_4] 36 (0, 0)) (by (with_reducible repeat (first | refine blk_drewN ?_ _ | refine blk_drew ?_ | refine blk_alloc ?_ _)); exact BK399.out) hb); have n2_ := Aside0.mk (below_step (by repeat (first | (with_reducible first | exact HB.out | apply below_alloc | apply pw_below_drewN | apply below_drew1 | refine below_set ?_ GE398.out | refine below_set ?_ GE399.out) | exact HB.out)) hb); clear BK398; clear BK399; clear HB; have BK398 := n0_; have BK399 := n1_; have HB := n2_; clear n0_ n1_ n2_; (try clear hb); (try clear hb2); (try clear hk); (try clear hi))); try go_wp2_with (first | (go_at_call 39; (with_reducible refine (dancestudioref03_motion.calls a0_0 a0_1 a0_2 a0_3 a0_4 false _ A6.out).mono ?_); rintro e w16 ⟨rfl, hb⟩; have n0_ := Aside0.mk (blk_below (g := gb398) (o := .cells #[.int .i64 a0_0, .int .i64 a0_1, .int .i64 a0_2, .int .i64 a0_3, .int .i64 a0_4] 36 (0, 0)) (by (with_reducible repeat (first | refine blk_drewN ?_ _ | refine blk_drew ?_ | refine blk_alloc ?_ _)); exact BK398.out) hb); have n1_ := Aside0.mk (blk_below (g := gb399) (o := .cells #[.int .i64 a1_0, .int .i64 a1_1, .int .i64 a1_2, .int .i64 a1_3, .int .i64 a1_4] 36 (0, 0)) (by (with_reducible repeat (first | refine blk_drewN ?_ _ | refine blk_drew ?_ | refine blk_alloc ?_ _)); exact BK399.out) hb); have n2_ := Aside0.mk (below_step (by repeat (first | (with_reducible first | exact HB.out | apply below_alloc | apply pw_below_drewN | apply below_drew1 | refine below_set ?_ GE398.out | refine below_set ?_ GE399.out) | exact HB.out)) hb); clear BK398; clear BK399; clear HB; have BK398 := n0_; have BK399 := n1_; have HB := n2_; clear n0_ n1_ n2_; (try clear hb); (try clear hb2); (try clear hk); (try clear hi))))
   go_meet
   case rel => exact ⟨_, (true), (by first | rfl | (simp; done) | (simp [*]; done)), H', ⟨by first | omega | exact Nat.le_refl _⟩, ⟨by (with_reducible repeat (first | refine blk_drewN ?_ _ | refine blk_drew ?_ | refine blk_alloc ?_ _)); exact BK398.out⟩, ⟨by (with_reducible repeat (first | refine blk_drewN ?_ _ | refine blk_drew ?_ | refine blk_alloc ?_ _)); exact BK399.out⟩, ⟨by repeat (first | (with_reducible first | exact HB.out | apply below_alloc | apply pw_below_drewN | apply below_drew1 | refine below_set ?_ GE398.out | refine below_set ?_ GE399.out) | exact HB.out)⟩⟩
 case rest =>
  clear HC3
  try clear c1
  try clear p2
  try clear c7
  try clear c9
  try clear c14
  try clear hcz10_0
  try clear hcz10_1
  try clear hcz10_2
  try clear hcz10_3
  try clear hcz10_4
  try clear hcz12_0
  try clear hcz12_1
  try clear hcz12_2
  try clear hcz12_3
  try clear hcz12_4
  try clear hcz15_0
  try clear hcz15_1
  try clear hcz15_2
  try clear hcz15_3
  try clear hcz15_4
  try clear hfz10_0
  try clear hfz10_1
  try clear hfz10_2
  try clear hfz10_3
  try clear hfz10_4
  try clear hfz12_0
  try clear hfz12_1
  try clear hfz12_2
  try clear hfz12_3
  try clear hfz12_4
  try clear hfz15_0
  try clear hfz15_1
  try clear hfz15_2
  try clear hfz15_3
  try clear hfz15_4
  obtain ⟨kq, x22_2, rfl, HA, HJ2, BK398, BK399, HB⟩ := hcut
  cases kq with
  | zero => exact absurd HA.out (by simp [dancestudioref03_Touch.j0])
  | succ kj2 =>
   have H := HA.out
   clear HA
   simp only [dancestudioref03_Touch.j0] at H
   by_cases c17 : x22_2 = true
   ·
    subst c17
    have H1 : (some (false, 1)) = some (r1, r2) := by rw [if_pos rfl] at H; exact H
    clear H
    have H := H1
    clear H1
    simp only [Option.some.injEq, Prod.mk.injEq] at H
    obtain ⟨rfl, rfl⟩ := H
    go_wp2
    repeat (go_quiet (fail); try go_wp2)
    go_ret2
    exact ⟨by first | rfl | (simp [errW_none, errW_some] <;> rfl) | (simp [*, errW_none, errW_some] <;> rfl), by repeat (first | (with_reducible first | exact HB.out | apply below_alloc | apply pw_below_drewN | apply below_drew1 | refine below_set ?_ GE398.out | refine below_set ?_ GE399.out) | exact HB.out)⟩
   ·
    replace c17 := Bool.eq_false_iff.mpr c17
    subst c17
    have H1 : ((dancestudioref03_square.f a0_0 a0_1 a1_0 a1_1).bind fun t402 => (if t402 < (wrap64 ((wrap64 (a0_4 + a1_4)) * (wrap64 (a0_4 + a1_4)))) then (dancestudioref03_Touch.j1 kj2 (wrap64 (a0_4 + a1_4)) (wrap64 (a0_0 - a1_0)) (wrap64 (a0_1 - a1_1)) (wrap64 ((wrap64 (a0_2 - a1_2)) - (wrap64 (a0_0 - a1_0)))) (wrap64 ((wrap64 (a0_3 - a1_3)) - (wrap64 (a0_1 - a1_1)))) true) else ((dancestudioref03_square.f a0_2 a0_3 a1_2 a1_3).bind fun t403 => (dancestudioref03_Touch.j1 kj2 (wrap64 (a0_4 + a1_4)) (wrap64 (a0_0 - a1_0)) (wrap64 (a0_1 - a1_1)) (wrap64 ((wrap64 (a0_2 - a1_2)) - (wrap64 (a0_0 - a1_0)))) (wrap64 ((wrap64 (a0_3 - a1_3)) - (wrap64 (a0_1 - a1_1)))) (decide (t403 < (wrap64 ((wrap64 (a0_4 + a1_4)) * (wrap64 (a0_4 + a1_4)))))))))) = some (r1, r2) := by rw [if_neg (show ¬ (false = true) by decide)] at H; exact H
    clear H
    have H := H1
    clear H1
    have HC18 := Aside0.mk H
    clear H
    have hnb19 := NB398_399.out
    have hnc19 := NB399_398.out
    have hcz20_0 : wc.cell? ⟨gb398, 0, none⟩ = some (.int .i64 a0_0) := (blk_cell BK398.out 0).trans rfl
    have hcz20_1 : wc.cell? ⟨gb398, 1, none⟩ = some (.int .i64 a0_1) := (blk_cell BK398.out 1).trans rfl
    have hcz20_2 : wc.cell? ⟨gb398, 2, none⟩ = some (.int .i64 a0_2) := (blk_cell BK398.out 2).trans rfl
    have hcz20_3 : wc.cell? ⟨gb398, 3, none⟩ = some (.int .i64 a0_3) := (blk_cell BK398.out 3).trans rfl
    have hcz20_4 : wc.cell? ⟨gb398, 4, none⟩ = some (.int .i64 a0_4) := (blk_cell BK398.out 4).trans rfl
    have hfz20_0 := blk_frozen BK398.out 0
    have hfz20_1 := blk_frozen BK398.out 1
    have hfz20_2 := blk_frozen BK398.out 2
    have hfz20_3 := blk_frozen BK398.out 3
    have hfz20_4 := blk_frozen BK398.out 4
    have hcz21_0 : wc.cell? ⟨gb399, 0, none⟩ = some (.int .i64 a1_0) := (blk_cell BK399.out 0).trans rfl
    have hcz21_1 : wc.cell? ⟨gb399, 1, none⟩ = some (.int .i64 a1_1) := (blk_cell BK399.out 1).trans rfl
    have hcz21_2 : wc.cell? ⟨gb399, 2, none⟩ = some (.int .i64 a1_2) := (blk_cell BK399.out 2).trans rfl
    have hcz21_3 : wc.cell? ⟨gb399, 3, none⟩ = some (.int .i64 a1_3) := (blk_cell BK399.out 3).trans rfl
    have hcz21_4 : wc.cell? ⟨gb399, 4, none⟩ = some (.int .i64 a1_4) := (blk_cell BK399.out 4).trans rfl
    have hfz21_0 := blk_frozen BK399.out 0
    have hfz21_1 := blk_frozen BK399.out 1
    have hfz21_2 := blk_frozen BK399.out 2
    have hfz21_3 := blk_frozen BK399.out 3
    have hfz21_4 := blk_frozen BK399.out 4
    go_upto_region 6 with (fail)
    repeat (go_quiet (fail); go_upto_region 6 with (fail))
    go_cut [79] (fun v79 wc => ∃ (kq : Nat) (x79_17 : Bool), v79 = .bool x79_17 ∧ Aside0 (dancestudioref03_Touch.j1 kq (wrap64 (a0_4 + a1_4)) (wrap64 (a0_0 - a1_0)) (wrap64 (a0_1 - a1_1)) (wrap64 ((wrap64 (a0_2 - a1_2)) - (wrap64 (a0_0 - a1_0)))) (wrap64 ((wrap64 (a0_3 - a1_3)) - (wrap64 (a0_1 - a1_1)))) x79_17 = some (r1, r2)) ∧ Aside0 (kq ≤ kj2) ∧ Aside0 (wc.heap[gb398]? = some (.cells #[.int .i64 a0_0, .int .i64 a0_1, .int .i64 a0_2, .int .i64 a0_3, .int .i64 a0_4] 36 (0, 0))) ∧ Aside0 (wc.heap[gb399]? = some (.cells #[.int .i64 a1_0, .int .i64 a1_1, .int .i64 a1_2, .int .i64 a1_3, .int .i64 a1_4] 36 (0, 0))) ∧ Aside0 (Below w.heap.size w wc))
    case first =>
     have H := HC18.out
     clear HC18
     replace H := Option.bind_eq_some_iff.mp H
     obtain ⟨t402, A220, H⟩ := H
     replace H : (if t402 < (wrap64 ((wrap64 (a0_4 + a1_4)) * (wrap64 (a0_4 + a1_4)))) then (dancestudioref03_Touch.j1 kj2 (wrap64 (a0_4 + a1_4)) (wrap64 (a0_0 - a1_0)) (wrap64 (a0_1 - a1_1)) (wrap64 ((wrap64 (a0_2 - a1_2)) - (wrap64 (a0_0 - a1_0)))) (wrap64 ((wrap64 (a0_3 - a1_3)) - (wrap64 (a0_1 - a1_1)))) true) else ((dancestudioref03_square.f a0_2 a0_3 a1_2 a1_3).bind fun t403 => (dancestudioref03_Touch.j1 kj2 (wrap64 (a0_4 + a1_4)) (wrap64 (a0_0 - a1_0)) (wrap64 (a0_1 - a1_1)) (wrap64 ((wrap64 (a0_2 - a1_2)) - (wrap64 (a0_0 - a1_0)))) (wrap64 ((wrap64 (a0_3 - a1_3)) - (wrap64 (a0_1 - a1_1)))) (decide (t403 < (wrap64 ((wrap64 (a0_4 + a1_4)) * (wrap64 (a0_4 + a1_4))))))))) = some (r1, r2) := H
     have A22 := Aside0.mk A220
     clear A220
     by_cases c23 : t402 < (wrap64 ((wrap64 (a0_4 + a1_4)) * (wrap64 (a0_4 + a1_4))))
     ·
      rw [if_pos c23] at H
      have c23b0 : decide (t402 < (wrap64 ((wrap64 (a0_4 + a1_4)) * (wrap64 (a0_4 + a1_4))))) = true := decide_eq_true c23
      clear c23
      (first | rw [c23b0] | (simp only [i64_w, i32_w]; rw [c23b0]) | skip)
      have H' := Aside0.mk H
      clear H
      have hnb24 := NB398_399.out
      have hnc24 := NB399_398.out
      have hcz25_0 : wc.cell? ⟨gb398, 0, none⟩ = some (.int .i64 a0_0) := (blk_cell BK398.out 0).trans rfl
      have hcz25_1 : wc.cell? ⟨gb398, 1, none⟩ = some (.int .i64 a0_1) := (blk_cell BK398.out 1).trans rfl
      have hcz25_2 : wc.cell? ⟨gb398, 2, none⟩ = some (.int .i64 a0_2) := (blk_cell BK398.out 2).trans rfl
      have hcz25_3 : wc.cell? ⟨gb398, 3, none⟩ = some (.int .i64 a0_3) := (blk_cell BK398.out 3).trans rfl
      have hcz25_4 : wc.cell? ⟨gb398, 4, none⟩ = some (.int .i64 a0_4) := (blk_cell BK398.out 4).trans rfl
      have hfz25_0 := blk_frozen BK398.out 0
      have hfz25_1 := blk_frozen BK398.out 1
      have hfz25_2 := blk_frozen BK398.out 2
      have hfz25_3 := blk_frozen BK398.out 3
      have hfz25_4 := blk_frozen BK398.out 4
      have hcz26_0 : wc.cell? ⟨gb399, 0, none⟩ = some (.int .i64 a1_0) := (blk_cell BK399.out 0).trans rfl
      have hcz26_1 : wc.cell? ⟨gb399, 1, none⟩ = some (.int .i64 a1_1) := (blk_cell BK399.out 1).trans rfl
      have hcz26_2 : wc.cell? ⟨gb399, 2, none⟩ = some (.int .i64 a1_2) := (blk_cell BK399.out 2).trans rfl
      have hcz26_3 : wc.cell? ⟨gb399, 3, none⟩ = some (.int .i64 a1_3) := (blk_cell BK399.out 3).trans rfl
      have hcz26_4 : wc.cell? ⟨gb399, 4, none⟩ = some (.int .i64 a1_4) := (blk_cell BK399.out 4).trans rfl
      have hfz26_0 := blk_frozen BK399.out 0
      have hfz26_1 := blk_frozen BK399.out 1
      have hfz26_2 := blk_frozen BK399.out 2
      have hfz26_3 := blk_frozen BK399.out 3
      have hfz26_4 := blk_frozen BK399.out 4
      go_wp2_with (first | (go_at_call 32; (with_reducible refine (dancestudioref03_square.calls a0_0 a0_1 a1_0 a1_1 t402 _ A22.out).mono ?_); rintro e w27 ⟨rfl, hb⟩; have n0_ := Aside0.mk (blk_below (g := gb398) (o := .cells #[.int .i64 a0_0, .int .i64 a0_1, .int .i64 a0_2, .int .i64 a0_3, .int .i64 a0_4] 36 (0, 0)) (by (with_reducible repeat (first | refine blk_drewN ?_ _ | refine blk_drew ?_ | refine blk_alloc ?_ _)); exact BK398.out) hb); have n1_ := Aside0.mk (blk_below (g := gb399) (o := .cells #[.int .i64 a1_0, .int .i64 a1_1, .int .i64 a1_2, .int .i64 a1_3, .int .i64 a1_4] 36 (0, 0)) (by (with_reducible repeat (first | refine blk_drewN ?_ _ | refine blk_drew ?_ | refine blk_alloc ?_ _)); exact BK399.out) hb); have n2_ := Aside0.mk (below_step (by repeat (first | (with_reducible first | exact HB.out | apply below_alloc | apply pw_below_drewN | apply below_drew1 | refine below_set ?_ GE398.out | refine below_set ?_ GE399.out) | exact HB.out)) hb); clear BK398; clear BK399; clear HB; have BK398 := n0_; have BK399 := n1_; have HB := n2_; clear n0_ n1_ n2_; (try clear hb); (try clear hb2); (try clear hk); (try clear hi)))
      repeat (go_quiet (first | (go_at_call 32; (with_reducible refine (dancestudioref03_square.calls a0_0 a0_1 a1_0 a1_1 t402 _ A22.out).mono ?_); rintro e w27 ⟨rfl, hb⟩; have n0_ := Aside0.mk (blk_below (g := gb398) (o := .cells #[.int .i64 a0_0, .int .i64 a0_1, .int .i64 a0_2, .int .i64 a0_3, .int .i64 a0_4] 36 (0, 0)) (by (with_reducible repeat (first | refine blk_drewN ?_ _ | refine blk_drew ?_ | refine blk_alloc ?_ _)); exact BK398.out) hb); have n1_ := Aside0.mk (blk_below (g := gb399) (o := .cells #[.int .i64 a1_0, .int .i64 a1_1, .int .i64 a1_2, .int .i64 a1_3, .int .i64 a1_4] 36 (0, 0)) (by (with_reducible repeat (first | refine blk_drewN ?_ _ | refine blk_drew ?_ | refine blk_alloc ?_ _)); exact BK399.out) hb); have n2_ := Aside0.mk (below_step (by repeat (first | (with_reducible first | exact HB.out | apply below_alloc | apply pw_below_drewN | apply below_drew1 | refine below_set ?_ GE398.out | refine below_set ?_ GE399.out) | exact HB.out)) hb); clear BK398; clear BK399; clear HB; have BK398 := n0_; have BK399 := n1_; have HB := n2_; clear n0_ n1_ n2_; (try clear hb); (try clear hb2); (try clear hk); (try clear hi))); try go_wp2_with (first | (go_at_call 32; (with_reducible refine (dancestudioref03_square.calls a0_0 a0_1 a1_0 a1_1 t402 _ A22.out).mono ?_); rintro e w27 ⟨rfl, hb⟩; have n0_ := Aside0.mk (blk_below (g := gb398) (o := .cells #[.int .i64 a0_0, .int .i64 a0_1, .int .i64 a0_2, .int .i64 a0_3, .int .i64 a0_4] 36 (0, 0)) (by (with_reducible repeat (first | refine blk_drewN ?_ _ | refine blk_drew ?_ | refine blk_alloc ?_ _)); exact BK398.out) hb); have n1_ := Aside0.mk (blk_below (g := gb399) (o := .cells #[.int .i64 a1_0, .int .i64 a1_1, .int .i64 a1_2, .int .i64 a1_3, .int .i64 a1_4] 36 (0, 0)) (by (with_reducible repeat (first | refine blk_drewN ?_ _ | refine blk_drew ?_ | refine blk_alloc ?_ _)); exact BK399.out) hb); have n2_ := Aside0.mk (below_step (by repeat (first | (with_reducible first | exact HB.out | apply below_alloc | apply pw_below_drewN | apply below_drew1 | refine below_set ?_ GE398.out | refine below_set ?_ GE399.out) | exact HB.out)) hb); clear BK398; clear BK399; clear HB; have BK398 := n0_; have BK399 := n1_; have HB := n2_; clear n0_ n1_ n2_; (try clear hb); (try clear hb2); (try clear hk); (try clear hi))))
      go_meet
      case rel => exact ⟨_, (true), (by first | rfl | (simp; done) | (simp [*]; done)), H', ⟨by have := HJ2.out; first | omega | exact Nat.le_refl _⟩, ⟨by (with_reducible repeat (first | refine blk_drewN ?_ _ | refine blk_drew ?_ | refine blk_alloc ?_ _)); exact BK398.out⟩, ⟨by (with_reducible repeat (first | refine blk_drewN ?_ _ | refine blk_drew ?_ | refine blk_alloc ?_ _)); exact BK399.out⟩, ⟨by repeat (first | (with_reducible first | exact HB.out | apply below_alloc | apply pw_below_drewN | apply below_drew1 | refine below_set ?_ GE398.out | refine below_set ?_ GE399.out) | exact HB.out)⟩⟩
     ·
      rw [if_neg c23] at H
      have c23b0 : decide (t402 < (wrap64 ((wrap64 (a0_4 + a1_4)) * (wrap64 (a0_4 + a1_4))))) = false := decide_eq_false c23
      clear c23
      (first | rw [c23b0] | (simp only [i64_w, i32_w]; rw [c23b0]) | skip)
      replace H := Option.bind_eq_some_iff.mp H
      obtain ⟨t403, A280, H⟩ := H
      replace H : (dancestudioref03_Touch.j1 kj2 (wrap64 (a0_4 + a1_4)) (wrap64 (a0_0 - a1_0)) (wrap64 (a0_1 - a1_1)) (wrap64 ((wrap64 (a0_2 - a1_2)) - (wrap64 (a0_0 - a1_0)))) (wrap64 ((wrap64 (a0_3 - a1_3)) - (wrap64 (a0_1 - a1_1)))) (decide (t403 < (wrap64 ((wrap64 (a0_4 + a1_4)) * (wrap64 (a0_4 + a1_4))))))) = some (r1, r2) := H
      have A28 := Aside0.mk A280
      clear A280
      have H' := Aside0.mk H
      clear H
      have hnb29 := NB398_399.out
      have hnc29 := NB399_398.out
      have hcz30_0 : wc.cell? ⟨gb398, 0, none⟩ = some (.int .i64 a0_0) := (blk_cell BK398.out 0).trans rfl
      have hcz30_1 : wc.cell? ⟨gb398, 1, none⟩ = some (.int .i64 a0_1) := (blk_cell BK398.out 1).trans rfl
      have hcz30_2 : wc.cell? ⟨gb398, 2, none⟩ = some (.int .i64 a0_2) := (blk_cell BK398.out 2).trans rfl
      have hcz30_3 : wc.cell? ⟨gb398, 3, none⟩ = some (.int .i64 a0_3) := (blk_cell BK398.out 3).trans rfl
      have hcz30_4 : wc.cell? ⟨gb398, 4, none⟩ = some (.int .i64 a0_4) := (blk_cell BK398.out 4).trans rfl
      have hfz30_0 := blk_frozen BK398.out 0
      have hfz30_1 := blk_frozen BK398.out 1
      have hfz30_2 := blk_frozen BK398.out 2
      have hfz30_3 := blk_frozen BK398.out 3
      have hfz30_4 := blk_frozen BK398.out 4
      have hcz31_0 : wc.cell? ⟨gb399, 0, none⟩ = some (.int .i64 a1_0) := (blk_cell BK399.out 0).trans rfl
      have hcz31_1 : wc.cell? ⟨gb399, 1, none⟩ = some (.int .i64 a1_1) := (blk_cell BK399.out 1).trans rfl
      have hcz31_2 : wc.cell? ⟨gb399, 2, none⟩ = some (.int .i64 a1_2) := (blk_cell BK399.out 2).trans rfl
      have hcz31_3 : wc.cell? ⟨gb399, 3, none⟩ = some (.int .i64 a1_3) := (blk_cell BK399.out 3).trans rfl
      have hcz31_4 : wc.cell? ⟨gb399, 4, none⟩ = some (.int .i64 a1_4) := (blk_cell BK399.out 4).trans rfl
      have hfz31_0 := blk_frozen BK399.out 0
      have hfz31_1 := blk_frozen BK399.out 1
      have hfz31_2 := blk_frozen BK399.out 2
      have hfz31_3 := blk_frozen BK399.out 3
      have hfz31_4 := blk_frozen BK399.out 4
      go_wp2_with (first | (go_at_call 32; (with_reducible refine (dancestudioref03_square.calls a0_0 a0_1 a1_0 a1_1 t402 _ A22.out).mono ?_); rintro e w32 ⟨rfl, hb⟩; have n0_ := Aside0.mk (blk_below (g := gb398) (o := .cells #[.int .i64 a0_0, .int .i64 a0_1, .int .i64 a0_2, .int .i64 a0_3, .int .i64 a0_4] 36 (0, 0)) (by (with_reducible repeat (first | refine blk_drewN ?_ _ | refine blk_drew ?_ | refine blk_alloc ?_ _)); exact BK398.out) hb); have n1_ := Aside0.mk (blk_below (g := gb399) (o := .cells #[.int .i64 a1_0, .int .i64 a1_1, .int .i64 a1_2, .int .i64 a1_3, .int .i64 a1_4] 36 (0, 0)) (by (with_reducible repeat (first | refine blk_drewN ?_ _ | refine blk_drew ?_ | refine blk_alloc ?_ _)); exact BK399.out) hb); have n2_ := Aside0.mk (below_step (by repeat (first | (with_reducible first | exact HB.out | apply below_alloc | apply pw_below_drewN | apply below_drew1 | refine below_set ?_ GE398.out | refine below_set ?_ GE399.out) | exact HB.out)) hb); clear BK398; clear BK399; clear HB; have BK398 := n0_; have BK399 := n1_; have HB := n2_; clear n0_ n1_ n2_; (try clear hb); (try clear hb2); (try clear hk); (try clear hi); have hcz33_0 : w32.cell? ⟨gb398, 0, none⟩ = some (.int .i64 a0_0) := (blk_cell BK398.out 0).trans rfl; have hcz33_1 : w32.cell? ⟨gb398, 1, none⟩ = some (.int .i64 a0_1) := (blk_cell BK398.out 1).trans rfl; have hcz33_2 : w32.cell? ⟨gb398, 2, none⟩ = some (.int .i64 a0_2) := (blk_cell BK398.out 2).trans rfl; have hcz33_3 : w32.cell? ⟨gb398, 3, none⟩ = some (.int .i64 a0_3) := (blk_cell BK398.out 3).trans rfl; have hcz33_4 : w32.cell? ⟨gb398, 4, none⟩ = some (.int .i64 a0_4) := (blk_cell BK398.out 4).trans rfl; have hfz33_0 := blk_frozen BK398.out 0; have hfz33_1 := blk_frozen BK398.out 1; have hfz33_2 := blk_frozen BK398.out 2; have hfz33_3 := blk_frozen BK398.out 3; have hfz33_4 := blk_frozen BK398.out 4; have hcz34_0 : w32.cell? ⟨gb399, 0, none⟩ = some (.int .i64 a1_0) := (blk_cell BK399.out 0).trans rfl; have hcz34_1 : w32.cell? ⟨gb399, 1, none⟩ = some (.int .i64 a1_1) := (blk_cell BK399.out 1).trans rfl; have hcz34_2 : w32.cell? ⟨gb399, 2, none⟩ = some (.int .i64 a1_2) := (blk_cell BK399.out 2).trans rfl; have hcz34_3 : w32.cell? ⟨gb399, 3, none⟩ = some (.int .i64 a1_3) := (blk_cell BK399.out 3).trans rfl; have hcz34_4 : w32.cell? ⟨gb399, 4, none⟩ = some (.int .i64 a1_4) := (blk_cell BK399.out 4).trans rfl; have hfz34_0 := blk_frozen BK399.out 0; have hfz34_1 := blk_frozen BK399.out 1; have hfz34_2 := blk_frozen BK399.out 2; have hfz34_3 := blk_frozen BK399.out 3; have hfz34_4 := blk_frozen BK399.out 4) | (go_at_call 32; (with_reducible refine (dancestudioref03_square.calls a0_2 a0_3 a1_2 a1_3 t403 _ A28.out).mono ?_); rintro e w35 ⟨rfl, hb⟩; have n0_ := Aside0.mk (blk_below (g := gb398) (o := .cells #[.int .i64 a0_0, .int .i64 a0_1, .int .i64 a0_2, .int .i64 a0_3, .int .i64 a0_4] 36 (0, 0)) (by (with_reducible repeat (first | refine blk_drewN ?_ _ | refine blk_drew ?_ | refine blk_alloc ?_ _)); exact BK398.out) hb); have n1_ := Aside0.mk (blk_below (g := gb399) (o := .cells #[.int .i64 a1_0, .int .i64 a1_1, .int .i64 a1_2, .int .i64 a1_3, .int .i64 a1_4] 36 (0, 0)) (by (with_reducible repeat (first | refine blk_drewN ?_ _ | refine blk_drew ?_ | refine blk_alloc ?_ _)); exact BK399.out) hb); have n2_ := Aside0.mk (below_step (by repeat (first | (with_reducible first | exact HB.out | apply below_alloc | apply pw_below_drewN | apply below_drew1 | refine below_set ?_ GE398.out | refine below_set ?_ GE399.out) | exact HB.out)) hb); clear BK398; clear BK399; clear HB; have BK398 := n0_; have BK399 := n1_; have HB := n2_; clear n0_ n1_ n2_; (try clear hb); (try clear hb2); (try clear hk); (try clear hi)))
      repeat (go_quiet (first | (go_at_call 32; (with_reducible refine (dancestudioref03_square.calls a0_0 a0_1 a1_0 a1_1 t402 _ A22.out).mono ?_); rintro e w32 ⟨rfl, hb⟩; have n0_ := Aside0.mk (blk_below (g := gb398) (o := .cells #[.int .i64 a0_0, .int .i64 a0_1, .int .i64 a0_2, .int .i64 a0_3, .int .i64 a0_4] 36 (0, 0)) (by (with_reducible repeat (first | refine blk_drewN ?_ _ | refine blk_drew ?_ | refine blk_alloc ?_ _)); exact BK398.out) hb); have n1_ := Aside0.mk (blk_below (g := gb399) (o := .cells #[.int .i64 a1_0, .int .i64 a1_1, .int .i64 a1_2, .int .i64 a1_3, .int .i64 a1_4] 36 (0, 0)) (by (with_reducible repeat (first | refine blk_drewN ?_ _ | refine blk_drew ?_ | refine blk_alloc ?_ _)); exact BK399.out) hb); have n2_ := Aside0.mk (below_step (by repeat (first | (with_reducible first | exact HB.out | apply below_alloc | apply pw_below_drewN | apply below_drew1 | refine below_set ?_ GE398.out | refine below_set ?_ GE399.out) | exact HB.out)) hb); clear BK398; clear BK399; clear HB; have BK398 := n0_; have BK399 := n1_; have HB := n2_; clear n0_ n1_ n2_; (try clear hb); (try clear hb2); (try clear hk); (try clear hi); have hcz33_0 : w32.cell? ⟨gb398, 0, none⟩ = some (.int .i64 a0_0) := (blk_cell BK398.out 0).trans rfl; have hcz33_1 : w32.cell? ⟨gb398, 1, none⟩ = some (.int .i64 a0_1) := (blk_cell BK398.out 1).trans rfl; have hcz33_2 : w32.cell? ⟨gb398, 2, none⟩ = some (.int .i64 a0_2) := (blk_cell BK398.out 2).trans rfl; have hcz33_3 : w32.cell? ⟨gb398, 3, none⟩ = some (.int .i64 a0_3) := (blk_cell BK398.out 3).trans rfl; have hcz33_4 : w32.cell? ⟨gb398, 4, none⟩ = some (.int .i64 a0_4) := (blk_cell BK398.out 4).trans rfl; have hfz33_0 := blk_frozen BK398.out 0; have hfz33_1 := blk_frozen BK398.out 1; have hfz33_2 := blk_frozen BK398.out 2; have hfz33_3 := blk_frozen BK398.out 3; have hfz33_4 := blk_frozen BK398.out 4; have hcz34_0 : w32.cell? ⟨gb399, 0, none⟩ = some (.int .i64 a1_0) := (blk_cell BK399.out 0).trans rfl; have hcz34_1 : w32.cell? ⟨gb399, 1, none⟩ = some (.int .i64 a1_1) := (blk_cell BK399.out 1).trans rfl; have hcz34_2 : w32.cell? ⟨gb399, 2, none⟩ = some (.int .i64 a1_2) := (blk_cell BK399.out 2).trans rfl; have hcz34_3 : w32.cell? ⟨gb399, 3, none⟩ = some (.int .i64 a1_3) := (blk_cell BK399.out 3).trans rfl; have hcz34_4 : w32.cell? ⟨gb399, 4, none⟩ = some (.int .i64 a1_4) := (blk_cell BK399.out 4).trans rfl; have hfz34_0 := blk_frozen BK399.out 0; have hfz34_1 := blk_frozen BK399.out 1; have hfz34_2 := blk_frozen BK399.out 2; have hfz34_3 := blk_frozen BK399.out 3; have hfz34_4 := blk_frozen BK399.out 4) | (go_at_call 32; (with_reducible refine (dancestudioref03_square.calls a0_2 a0_3 a1_2 a1_3 t403 _ A28.out).mono ?_); rintro e w35 ⟨rfl, hb⟩; have n0_ := Aside0.mk (blk_below (g := gb398) (o := .cells #[.int .i64 a0_0, .int .i64 a0_1, .int .i64 a0_2, .int .i64 a0_3, .int .i64 a0_4] 36 (0, 0)) (by (with_reducible repeat (first | refine blk_drewN ?_ _ | refine blk_drew ?_ | refine blk_alloc ?_ _)); exact BK398.out) hb); have n1_ := Aside0.mk (blk_below (g := gb399) (o := .cells #[.int .i64 a1_0, .int .i64 a1_1, .int .i64 a1_2, .int .i64 a1_3, .int .i64 a1_4] 36 (0, 0)) (by (with_reducible repeat (first | refine blk_drewN ?_ _ | refine blk_drew ?_ | refine blk_alloc ?_ _)); exact BK399.out) hb); have n2_ := Aside0.mk (below_step (by repeat (first | (with_reducible first | exact HB.out | apply below_alloc | apply pw_below_drewN | apply below_drew1 | refine below_set ?_ GE398.out | refine below_set ?_ GE399.out) | exact HB.out)) hb); clear BK398; clear BK399; clear HB; have BK398 := n0_; have BK399 := n1_; have HB := n2_; clear n0_ n1_ n2_; (try clear hb); (try clear hb2); (try clear hk); (try clear hi))); try go_wp2_with (first | (go_at_call 32; (with_reducible refine (dancestudioref03_square.calls a0_0 a0_1 a1_0 a1_1 t402 _ A22.out).mono ?_); rintro e w32 ⟨rfl, hb⟩; have n0_ := Aside0.mk (blk_below (g := gb398) (o := .cells #[.int .i64 a0_0, .int .i64 a0_1, .int .i64 a0_2, .int .i64 a0_3, .int .i64 a0_4] 36 (0, 0)) (by (with_reducible repeat (first | refine blk_drewN ?_ _ | refine blk_drew ?_ | refine blk_alloc ?_ _)); exact BK398.out) hb); have n1_ := Aside0.mk (blk_below (g := gb399) (o := .cells #[.int .i64 a1_0, .int .i64 a1_1, .int .i64 a1_2, .int .i64 a1_3, .int .i64 a1_4] 36 (0, 0)) (by (with_reducible repeat (first | refine blk_drewN ?_ _ | refine blk_drew ?_ | refine blk_alloc ?_ _)); exact BK399.out) hb); have n2_ := Aside0.mk (below_step (by repeat (first | (with_reducible first | exact HB.out | apply below_alloc | apply pw_below_drewN | apply below_drew1 | refine below_set ?_ GE398.out | refine below_set ?_ GE399.out) | exact HB.out)) hb); clear BK398; clear BK399; clear HB; have BK398 := n0_; have BK399 := n1_; have HB := n2_; clear n0_ n1_ n2_; (try clear hb); (try clear hb2); (try clear hk); (try clear hi); have hcz33_0 : w32.cell? ⟨gb398, 0, none⟩ = some (.int .i64 a0_0) := (blk_cell BK398.out 0).trans rfl; have hcz33_1 : w32.cell? ⟨gb398, 1, none⟩ = some (.int .i64 a0_1) := (blk_cell BK398.out 1).trans rfl; have hcz33_2 : w32.cell? ⟨gb398, 2, none⟩ = some (.int .i64 a0_2) := (blk_cell BK398.out 2).trans rfl; have hcz33_3 : w32.cell? ⟨gb398, 3, none⟩ = some (.int .i64 a0_3) := (blk_cell BK398.out 3).trans rfl; have hcz33_4 : w32.cell? ⟨gb398, 4, none⟩ = some (.int .i64 a0_4) := (blk_cell BK398.out 4).trans rfl; have hfz33_0 := blk_frozen BK398.out 0; have hfz33_1 := blk_frozen BK398.out 1; have hfz33_2 := blk_frozen BK398.out 2; have hfz33_3 := blk_frozen BK398.out 3; have hfz33_4 := blk_frozen BK398.out 4; have hcz34_0 : w32.cell? ⟨gb399, 0, none⟩ = some (.int .i64 a1_0) := (blk_cell BK399.out 0).trans rfl; have hcz34_1 : w32.cell? ⟨gb399, 1, none⟩ = some (.int .i64 a1_1) := (blk_cell BK399.out 1).trans rfl; have hcz34_2 : w32.cell? ⟨gb399, 2, none⟩ = some (.int .i64 a1_2) := (blk_cell BK399.out 2).trans rfl; have hcz34_3 : w32.cell? ⟨gb399, 3, none⟩ = some (.int .i64 a1_3) := (blk_cell BK399.out 3).trans rfl; have hcz34_4 : w32.cell? ⟨gb399, 4, none⟩ = some (.int .i64 a1_4) := (blk_cell BK399.out 4).trans rfl; have hfz34_0 := blk_frozen BK399.out 0; have hfz34_1 := blk_frozen BK399.out 1; have hfz34_2 := blk_frozen BK399.out 2; have hfz34_3 := blk_frozen BK399.out 3; have hfz34_4 := blk_frozen BK399.out 4) | (go_at_call 32; (with_reducible refine (dancestudioref03_square.calls a0_2 a0_3 a1_2 a1_3 t403 _ A28.out).mono ?_); rintro e w35 ⟨rfl, hb⟩; have n0_ := Aside0.mk (blk_below (g := gb398) (o := .cells #[.int .i64 a0_0, .int .i64 a0_1, .int .i64 a0_2, .int .i64 a0_3, .int .i64 a0_4] 36 (0, 0)) (by (with_reducible repeat (first | refine blk_drewN ?_ _ | refine blk_drew ?_ | refine blk_alloc ?_ _)); exact BK398.out) hb); have n1_ := Aside0.mk (blk_below (g := gb399) (o := .cells #[.int .i64 a1_0, .int .i64 a1_1, .int .i64 a1_2, .int .i64 a1_3, .int .i64 a1_4] 36 (0, 0)) (by (with_reducible repeat (first | refine blk_drewN ?_ _ | refine blk_drew ?_ | refine blk_alloc ?_ _)); exact BK399.out) hb); have n2_ := Aside0.mk (below_step (by repeat (first | (with_reducible first | exact HB.out | apply below_alloc | apply pw_below_drewN | apply below_drew1 | refine below_set ?_ GE398.out | refine below_set ?_ GE399.out) | exact HB.out)) hb); clear BK398; clear BK399; clear HB; have BK398 := n0_; have BK399 := n1_; have HB := n2_; clear n0_ n1_ n2_; (try clear hb); (try clear hb2); (try clear hk); (try clear hi))))
      go_meet
      case rel => exact ⟨_, (decide (t403 < (wrap64 ((wrap64 (a0_4 + a1_4)) * (wrap64 (a0_4 + a1_4)))))), (by first | rfl | (simp; done) | (simp [*]; done)), H', ⟨by have := HJ2.out; first | omega | exact Nat.le_refl _⟩, ⟨by (with_reducible repeat (first | refine blk_drewN ?_ _ | refine blk_drew ?_ | refine blk_alloc ?_ _)); exact BK398.out⟩, ⟨by (with_reducible repeat (first | refine blk_drewN ?_ _ | refine blk_drew ?_ | refine blk_alloc ?_ _)); exact BK399.out⟩, ⟨by repeat (first | (with_reducible first | exact HB.out | apply below_alloc | apply pw_below_drewN | apply below_drew1 | refine below_set ?_ GE398.out | refine below_set ?_ GE399.out) | exact HB.out)⟩⟩
    case rest =>
     clear HC18
     try clear c1
     try clear c2
     try clear p2
     try clear p6
     try clear c7
     try clear c9
     try clear c14
     try clear c17
     try clear c19
     try clear c23
     try clear c23b0
     try clear c24
     try clear c29
     try clear hcz10_0
     try clear hcz10_1
     try clear hcz10_2
     try clear hcz10_3
     try clear hcz10_4
     try clear hcz12_0
     try clear hcz12_1
     try clear hcz12_2
     try clear hcz12_3
     try clear hcz12_4
     try clear hcz15_0
     try clear hcz15_1
     try clear hcz15_2
     try clear hcz15_3
     try clear hcz15_4
     try clear hcz20_0
     try clear hcz20_1
     try clear hcz20_2
     try clear hcz20_3
     try clear hcz20_4
     try clear hcz21_0
     try clear hcz21_1
     try clear hcz21_2
     try clear hcz21_3
     try clear hcz21_4
     try clear hcz25_0
     try clear hcz25_1
     try clear hcz25_2
     try clear hcz25_3
     try clear hcz25_4
     try clear hcz26_0
     try clear hcz26_1
     try clear hcz26_2
     try clear hcz26_3
     try clear hcz26_4
     try clear hcz30_0
     try clear hcz30_1
     try clear hcz30_2
     try clear hcz30_3
     try clear hcz30_4
     try clear hcz31_0
     try clear hcz31_1
     try clear hcz31_2
     try clear hcz31_3
     try clear hcz31_4
     try clear hcz33_0
     try clear hcz33_1
     try clear hcz33_2
     try clear hcz33_3
     try clear hcz33_4
     try clear hcz34_0
     try clear hcz34_1
     try clear hcz34_2
     try clear hcz34_3
     try clear hcz34_4
     try clear hfz10_0
     try clear hfz10_1
     try clear hfz10_2
     try clear hfz10_3
     try clear hfz10_4
     try clear hfz12_0
     try clear hfz12_1
     try clear hfz12_2
     try clear hfz12_3
     try clear hfz12_4
     try clear hfz15_0
     try clear hfz15_1
     try clear hfz15_2
     try clear hfz15_3
     try clear hfz15_4
     try clear hfz20_0
     try clear hfz20_1
     try clear hfz20_2
     try clear hfz20_3
     try clear hfz20_4
     try clear hfz21_0
     try clear hfz21_1
     try clear hfz21_2
     try clear hfz21_3
     try clear hfz21_4
     try clear hfz25_0
     try clear hfz25_1
     try clear hfz25_2
     try clear hfz25_3
     try clear hfz25_4
     try clear hfz26_0
     try clear hfz26_1
     try clear hfz26_2
     try clear hfz26_3
     try clear hfz26_4
     try clear hfz30_0
     try clear hfz30_1
     try clear hfz30_2
     try clear hfz30_3
     try clear hfz30_4
     try clear hfz31_0
     try clear hfz31_1
     try clear hfz31_2
     try clear hfz31_3
     try clear hfz31_4
     try clear hfz33_0
     try clear hfz33_1
     try clear hfz33_2
     try clear hfz33_3
     try clear hfz33_4
     try clear hfz34_0
     try clear hfz34_1
     try clear hfz34_2
     try clear hfz34_3
     try clear hfz34_4
     try clear p2
     obtain ⟨kq, x79_17, rfl, HA, HJ17, BK398, BK399, HB⟩ := hcut
     cases kq with
     | zero => exact absurd HA.out (by simp [dancestudioref03_Touch.j1])
     | succ kj17 =>
      have H := HA.out
      clear HA
      simp only [dancestudioref03_Touch.j1] at H
      by_cases c36 : x79_17 = true
      ·
       subst c36
       have H1 : (some (true, 0)) = some (r1, r2) := by rw [if_pos rfl] at H; exact H
       clear H
       have H := H1
       clear H1
       simp only [Option.some.injEq, Prod.mk.injEq] at H
       obtain ⟨rfl, rfl⟩ := H
       go_wp2
       repeat (go_quiet (fail); try go_wp2)
       go_ret2
       exact ⟨by first | rfl | (simp [errW_none, errW_some] <;> rfl) | (simp [*, errW_none, errW_some] <;> rfl), by repeat (first | (with_reducible first | exact HB.out | apply below_alloc | apply pw_below_drewN | apply below_drew1 | refine below_set ?_ GE398.out | refine below_set ?_ GE399.out) | exact HB.out)⟩
      ·
       replace c36 := Bool.eq_false_iff.mpr c36
       subst c36
       have H1 : (if (wrap64 (-(wrap64 ((wrap64 ((wrap64 (a0_0 - a1_0)) * (wrap64 ((wrap64 (a0_2 - a1_2)) - (wrap64 (a0_0 - a1_0)))))) + (wrap64 ((wrap64 (a0_1 - a1_1)) * (wrap64 ((wrap64 (a0_3 - a1_3)) - (wrap64 (a0_1 - a1_1)))))))))) ≤ 0 then (some (false, 0)) else (if (wrap64 (-(wrap64 ((wrap64 ((wrap64 (a0_0 - a1_0)) * (wrap64 ((wrap64 (a0_2 - a1_2)) - (wrap64 (a0_0 - a1_0)))))) + (wrap64 ((wrap64 (a0_1 - a1_1)) * (wrap64 ((wrap64 (a0_3 - a1_3)) - (wrap64 (a0_1 - a1_1)))))))))) ≥ (wrap64 ((wrap64 ((wrap64 ((wrap64 (a0_2 - a1_2)) - (wrap64 (a0_0 - a1_0)))) * (wrap64 ((wrap64 (a0_2 - a1_2)) - (wrap64 (a0_0 - a1_0)))))) + (wrap64 ((wrap64 ((wrap64 (a0_3 - a1_3)) - (wrap64 (a0_1 - a1_1)))) * (wrap64 ((wrap64 (a0_3 - a1_3)) - (wrap64 (a0_1 - a1_1)))))))) then (some (false, 0)) else ((dancestudioref01_Compare.f kj17 (wrap64 ((wrap64 ((wrap64 (a0_0 - a1_0)) * (wrap64 ((wrap64 (a0_3 - a1_3)) - (wrap64 (a0_1 - a1_1)))))) - (wrap64 ((wrap64 (a0_1 - a1_1)) * (wrap64 ((wrap64 (a0_2 - a1_2)) - (wrap64 (a0_0 - a1_0)))))))) (wrap64 ((wrap64 ((wrap64 (a0_0 - a1_0)) * (wrap64 ((wrap64 (a0_3 - a1_3)) - (wrap64 (a0_1 - a1_1)))))) - (wrap64 ((wrap64 (a0_1 - a1_1)) * (wrap64 ((wrap64 (a0_2 - a1_2)) - (wrap64 (a0_0 - a1_0)))))))) (wrap64 ((wrap64 (a0_4 + a1_4)) * (wrap64 (a0_4 + a1_4)))) (wrap64 ((wrap64 ((wrap64 ((wrap64 (a0_2 - a1_2)) - (wrap64 (a0_0 - a1_0)))) * (wrap64 ((wrap64 (a0_2 - a1_2)) - (wrap64 (a0_0 - a1_0)))))) + (wrap64 ((wrap64 ((wrap64 (a0_3 - a1_3)) - (wrap64 (a0_1 - a1_1)))) * (wrap64 ((wrap64 (a0_3 - a1_3)) - (wrap64 (a0_1 - a1_1))))))))).bind fun bt404 => (some (decide (bt404.1 < 0), 0))))) = some (r1, r2) := by rw [if_neg (show ¬ (false = true) by decide)] at H; exact H
       clear H
       have H := H1
       clear H1
       by_cases c37 : (wrap64 (-(wrap64 ((wrap64 ((wrap64 (a0_0 - a1_0)) * (wrap64 ((wrap64 (a0_2 - a1_2)) - (wrap64 (a0_0 - a1_0)))))) + (wrap64 ((wrap64 (a0_1 - a1_1)) * (wrap64 ((wrap64 (a0_3 - a1_3)) - (wrap64 (a0_1 - a1_1)))))))))) ≤ 0
       ·
        rw [if_pos c37] at H
        have c37b0 : decide ((wrap64 (-(wrap64 ((wrap64 ((wrap64 (a0_0 - a1_0)) * (wrap64 ((wrap64 (a0_2 - a1_2)) - (wrap64 (a0_0 - a1_0)))))) + (wrap64 ((wrap64 (a0_1 - a1_1)) * (wrap64 ((wrap64 (a0_3 - a1_3)) - (wrap64 (a0_1 - a1_1)))))))))) ≤ 0) = true := decide_eq_true c37
        clear c37
        simp only [Option.some.injEq, Prod.mk.injEq] at H
        obtain ⟨rfl, rfl⟩ := H
        go_wp2
        repeat (go_quiet (fail); try go_wp2)
        go_ret2
        exact ⟨by first | rfl | (simp [errW_none, errW_some] <;> rfl) | (simp [*, errW_none, errW_some] <;> rfl), by repeat (first | (with_reducible first | exact HB.out | apply below_alloc | apply pw_below_drewN | apply below_drew1 | refine below_set ?_ GE398.out | refine below_set ?_ GE399.out) | exact HB.out)⟩
       ·
        rw [if_neg c37] at H
        have c37b0 : decide ((wrap64 (-(wrap64 ((wrap64 ((wrap64 (a0_0 - a1_0)) * (wrap64 ((wrap64 (a0_2 - a1_2)) - (wrap64 (a0_0 - a1_0)))))) + (wrap64 ((wrap64 (a0_1 - a1_1)) * (wrap64 ((wrap64 (a0_3 - a1_3)) - (wrap64 (a0_1 - a1_1)))))))))) ≤ 0) = false := decide_eq_false c37
        clear c37
        by_cases c38 : (wrap64 (-(wrap64 ((wrap64 ((wrap64 (a0_0 - a1_0)) * (wrap64 ((wrap64 (a0_2 - a1_2)) - (wrap64 (a0_0 - a1_0)))))) + (wrap64 ((wrap64 (a0_1 - a1_1)) * (wrap64 ((wrap64 (a0_3 - a1_3)) - (wrap64 (a0_1 - a1_1)))))))))) ≥ (wrap64 ((wrap64 ((wrap64 ((wrap64 (a0_2 - a1_2)) - (wrap64 (a0_0 - a1_0)))) * (wrap64 ((wrap64 (a0_2 - a1_2)) - (wrap64 (a0_0 - a1_0)))))) + (wrap64 ((wrap64 ((wrap64 (a0_3 - a1_3)) - (wrap64 (a0_1 - a1_1)))) * (wrap64 ((wrap64 (a0_3 - a1_3)) - (wrap64 (a0_1 - a1_1))))))))
        ·
         rw [if_pos c38] at H
         have c38b0 : decide ((wrap64 ((wrap64 ((wrap64 ((wrap64 (a0_2 - a1_2)) - (wrap64 (a0_0 - a1_0)))) * (wrap64 ((wrap64 (a0_2 - a1_2)) - (wrap64 (a0_0 - a1_0)))))) + (wrap64 ((wrap64 ((wrap64 (a0_3 - a1_3)) - (wrap64 (a0_1 - a1_1)))) * (wrap64 ((wrap64 (a0_3 - a1_3)) - (wrap64 (a0_1 - a1_1)))))))) ≤ (wrap64 (-(wrap64 ((wrap64 ((wrap64 (a0_0 - a1_0)) * (wrap64 ((wrap64 (a0_2 - a1_2)) - (wrap64 (a0_0 - a1_0)))))) + (wrap64 ((wrap64 (a0_1 - a1_1)) * (wrap64 ((wrap64 (a0_3 - a1_3)) - (wrap64 (a0_1 - a1_1))))))))))) = true := decide_eq_true c38
         clear c38
         simp only [Option.some.injEq, Prod.mk.injEq] at H
         obtain ⟨rfl, rfl⟩ := H
         go_wp2
         repeat (go_quiet (fail); try go_wp2)
         go_ret2
         exact ⟨by first | rfl | (simp [errW_none, errW_some] <;> rfl) | (simp [*, errW_none, errW_some] <;> rfl), by repeat (first | (with_reducible first | exact HB.out | apply below_alloc | apply pw_below_drewN | apply below_drew1 | refine below_set ?_ GE398.out | refine below_set ?_ GE399.out) | exact HB.out)⟩
        ·
         rw [if_neg c38] at H
         have c38b0 : decide ((wrap64 ((wrap64 ((wrap64 ((wrap64 (a0_2 - a1_2)) - (wrap64 (a0_0 - a1_0)))) * (wrap64 ((wrap64 (a0_2 - a1_2)) - (wrap64 (a0_0 - a1_0)))))) + (wrap64 ((wrap64 ((wrap64 (a0_3 - a1_3)) - (wrap64 (a0_1 - a1_1)))) * (wrap64 ((wrap64 (a0_3 - a1_3)) - (wrap64 (a0_1 - a1_1)))))))) ≤ (wrap64 (-(wrap64 ((wrap64 ((wrap64 (a0_0 - a1_0)) * (wrap64 ((wrap64 (a0_2 - a1_2)) - (wrap64 (a0_0 - a1_0)))))) + (wrap64 ((wrap64 (a0_1 - a1_1)) * (wrap64 ((wrap64 (a0_3 - a1_3)) - (wrap64 (a0_1 - a1_1))))))))))) = false := decide_eq_false c38
         clear c38
         replace H := Option.bind_eq_some_iff.mp H
         obtain ⟨⟨t404, t405⟩, A390, H⟩ := H
         replace H : (some (decide (t404 < 0), 0)) = some (r1, r2) := H
         have A39 := Aside0.mk A390
         clear A390
         simp only [Option.some.injEq, Prod.mk.injEq] at H
         obtain ⟨rfl, rfl⟩ := H
         go_wp2_with (first | (go_at_call 38; (with_reducible refine (dancestudioref01_Compare.calls kj17 (wrap64 ((wrap64 ((wrap64 (a0_0 - a1_0)) * (wrap64 ((wrap64 (a0_3 - a1_3)) - (wrap64 (a0_1 - a1_1)))))) - (wrap64 ((wrap64 (a0_1 - a1_1)) * (wrap64 ((wrap64 (a0_2 - a1_2)) - (wrap64 (a0_0 - a1_0)))))))) (wrap64 ((wrap64 ((wrap64 (a0_0 - a1_0)) * (wrap64 ((wrap64 (a0_3 - a1_3)) - (wrap64 (a0_1 - a1_1)))))) - (wrap64 ((wrap64 (a0_1 - a1_1)) * (wrap64 ((wrap64 (a0_2 - a1_2)) - (wrap64 (a0_0 - a1_0)))))))) (wrap64 ((wrap64 (a0_4 + a1_4)) * (wrap64 (a0_4 + a1_4)))) (wrap64 ((wrap64 ((wrap64 ((wrap64 (a0_2 - a1_2)) - (wrap64 (a0_0 - a1_0)))) * (wrap64 ((wrap64 (a0_2 - a1_2)) - (wrap64 (a0_0 - a1_0)))))) + (wrap64 ((wrap64 ((wrap64 (a0_3 - a1_3)) - (wrap64 (a0_1 - a1_1)))) * (wrap64 ((wrap64 (a0_3 - a1_3)) - (wrap64 (a0_1 - a1_1)))))))) t404 t405 _ A39.out).mono ?_); rintro e w40 ⟨rfl, hb⟩; have n0_ := Aside0.mk (blk_below (g := gb398) (o := .cells #[.int .i64 a0_0, .int .i64 a0_1, .int .i64 a0_2, .int .i64 a0_3, .int .i64 a0_4] 36 (0, 0)) (by (with_reducible repeat (first | refine blk_drewN ?_ _ | refine blk_drew ?_ | refine blk_alloc ?_ _)); exact BK398.out) hb); have n1_ := Aside0.mk (blk_below (g := gb399) (o := .cells #[.int .i64 a1_0, .int .i64 a1_1, .int .i64 a1_2, .int .i64 a1_3, .int .i64 a1_4] 36 (0, 0)) (by (with_reducible repeat (first | refine blk_drewN ?_ _ | refine blk_drew ?_ | refine blk_alloc ?_ _)); exact BK399.out) hb); have n2_ := Aside0.mk (below_step (by repeat (first | (with_reducible first | exact HB.out | apply below_alloc | apply pw_below_drewN | apply below_drew1 | refine below_set ?_ GE398.out | refine below_set ?_ GE399.out) | exact HB.out)) hb); clear BK398; clear BK399; clear HB; have BK398 := n0_; have BK399 := n1_; have HB := n2_; clear n0_ n1_ n2_; (try clear hb); (try clear hb2); (try clear hk); (try clear hi)))
         repeat (go_quiet (first | (go_at_call 38; (with_reducible refine (dancestudioref01_Compare.calls kj17 (wrap64 ((wrap64 ((wrap64 (a0_0 - a1_0)) * (wrap64 ((wrap64 (a0_3 - a1_3)) - (wrap64 (a0_1 - a1_1)))))) - (wrap64 ((wrap64 (a0_1 - a1_1)) * (wrap64 ((wrap64 (a0_2 - a1_2)) - (wrap64 (a0_0 - a1_0)))))))) (wrap64 ((wrap64 ((wrap64 (a0_0 - a1_0)) * (wrap64 ((wrap64 (a0_3 - a1_3)) - (wrap64 (a0_1 - a1_1)))))) - (wrap64 ((wrap64 (a0_1 - a1_1)) * (wrap64 ((wrap64 (a0_2 - a1_2)) - (wrap64 (a0_0 - a1_0)))))))) (wrap64 ((wrap64 (a0_4 + a1_4)) * (wrap64 (a0_4 + a1_4)))) (wrap64 ((wrap64 ((wrap64 ((wrap64 (a0_2 - a1_2)) - (wrap64 (a0_0 - a1_0)))) * (wrap64 ((wrap64 (a0_2 - a1_2)) - (wrap64 (a0_0 - a1_0)))))) + (wrap64 ((wrap64 ((wrap64 (a0_3 - a1_3)) - (wrap64 (a0_1 - a1_1)))) * (wrap64 ((wrap64 (a0_3 - a1_3)) - (wrap64 (a0_1 - a1_1)))))))) t404 t405 _ A39.out).mono ?_); rintro e w40 ⟨rfl, hb⟩; have n0_ := Aside0.mk (blk_below (g := gb398) (o := .cells #[.int .i64 a0_0, .int .i64 a0_1, .int .i64 a0_2, .int .i64 a0_3, .int .i64 a0_4] 36 (0, 0)) (by (with_reducible repeat (first | refine blk_drewN ?_ _ | refine blk_drew ?_ | refine blk_alloc ?_ _)); exact BK398.out) hb); have n1_ := Aside0.mk (blk_below (g := gb399) (o := .cells #[.int .i64 a1_0, .int .i64 a1_1, .int .i64 a1_2, .int .i64 a1_3, .int .i64 a1_4] 36 (0, 0)) (by (with_reducible repeat (first | refine blk_drewN ?_ _ | refine blk_drew ?_ | refine blk_alloc ?_ _)); exact BK399.out) hb); have n2_ := Aside0.mk (below_step (by repeat (first | (with_reducible first | exact HB.out | apply below_alloc | apply pw_below_drewN | apply below_drew1 | refine below_set ?_ GE398.out | refine below_set ?_ GE399.out) | exact HB.out)) hb); clear BK398; clear BK399; clear HB; have BK398 := n0_; have BK399 := n1_; have HB := n2_; clear n0_ n1_ n2_; (try clear hb); (try clear hb2); (try clear hk); (try clear hi))); try go_wp2_with (first | (go_at_call 38; (with_reducible refine (dancestudioref01_Compare.calls kj17 (wrap64 ((wrap64 ((wrap64 (a0_0 - a1_0)) * (wrap64 ((wrap64 (a0_3 - a1_3)) - (wrap64 (a0_1 - a1_1)))))) - (wrap64 ((wrap64 (a0_1 - a1_1)) * (wrap64 ((wrap64 (a0_2 - a1_2)) - (wrap64 (a0_0 - a1_0)))))))) (wrap64 ((wrap64 ((wrap64 (a0_0 - a1_0)) * (wrap64 ((wrap64 (a0_3 - a1_3)) - (wrap64 (a0_1 - a1_1)))))) - (wrap64 ((wrap64 (a0_1 - a1_1)) * (wrap64 ((wrap64 (a0_2 - a1_2)) - (wrap64 (a0_0 - a1_0)))))))) (wrap64 ((wrap64 (a0_4 + a1_4)) * (wrap64 (a0_4 + a1_4)))) (wrap64 ((wrap64 ((wrap64 ((wrap64 (a0_2 - a1_2)) - (wrap64 (a0_0 - a1_0)))) * (wrap64 ((wrap64 (a0_2 - a1_2)) - (wrap64 (a0_0 - a1_0)))))) + (wrap64 ((wrap64 ((wrap64 (a0_3 - a1_3)) - (wrap64 (a0_1 - a1_1)))) * (wrap64 ((wrap64 (a0_3 - a1_3)) - (wrap64 (a0_1 - a1_1)))))))) t404 t405 _ A39.out).mono ?_); rintro e w40 ⟨rfl, hb⟩; have n0_ := Aside0.mk (blk_below (g := gb398) (o := .cells #[.int .i64 a0_0, .int .i64 a0_1, .int .i64 a0_2, .int .i64 a0_3, .int .i64 a0_4] 36 (0, 0)) (by (with_reducible repeat (first | refine blk_drewN ?_ _ | refine blk_drew ?_ | refine blk_alloc ?_ _)); exact BK398.out) hb); have n1_ := Aside0.mk (blk_below (g := gb399) (o := .cells #[.int .i64 a1_0, .int .i64 a1_1, .int .i64 a1_2, .int .i64 a1_3, .int .i64 a1_4] 36 (0, 0)) (by (with_reducible repeat (first | refine blk_drewN ?_ _ | refine blk_drew ?_ | refine blk_alloc ?_ _)); exact BK399.out) hb); have n2_ := Aside0.mk (below_step (by repeat (first | (with_reducible first | exact HB.out | apply below_alloc | apply pw_below_drewN | apply below_drew1 | refine below_set ?_ GE398.out | refine below_set ?_ GE399.out) | exact HB.out)) hb); clear BK398; clear BK399; clear HB; have BK398 := n0_; have BK399 := n1_; have HB := n2_; clear n0_ n1_ n2_; (try clear hb); (try clear hb2); (try clear hk); (try clear hi))))
         go_ret2
         exact ⟨by first | rfl | (simp [errW_none, errW_some] <;> rfl) | (simp [*, errW_none, errW_some] <;> rfl), by repeat (first | (with_reducible first | exact HB.out | apply below_alloc | apply pw_below_drewN | apply below_drew1 | refine below_set ?_ GE398.out | refine below_set ?_ GE399.out) | exact HB.out)⟩
end Go.Proofs.Ytmilejcbkpkplaa.PAll
