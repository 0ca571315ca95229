/- Texts of the proof, laid end to end. -/
import Derived.RowKit
import Derived.Test.YtmilejcbkpkplaaBC2
import Derived.Test.YtmilejcbkpkplaaBC3
import Derived.Test.YtmilejcbkpkplaaBC4
import Derived.Test.YtmilejcbkpkplaaBC5
-- Written by wip/tools/handprint.py: walks of the functions that the law reaches; Lean checks them.
namespace Go.Proofs.Ytmilejcbkpkplaa.PAll
open Go.RowKit Go.Proofs.YtmilejcbkpkplaaW.PrintWords Go.Proofs.YtmilejcbkpkplaaW.PrintLast Go.Proofs.YtmilejcbkpkplaaW.PrintMore
attribute [local go_sem] max2_int min2_int max_two min_two max_three min_three max_four min_four   -- for this text's walks alone
set_option linter.unusedVariables false
set_option linter.unusedSimpArgs false

/-! ### dancestudioref03_Valid: function 31 -/
def dancestudioref03_Valid.f (a0_0 : Int) (a0_1 : Int) : Option (Bool) := if a0_0 ≥ (-32768) then (if a0_0 ≤ 32768 then (if a0_1 ≥ (-32768) then (some (decide (a0_1 ≤ 32768))) else (some false)) else (some false)) else (some false)
set_option maxHeartbeats 8000000 in
set_option maxRecDepth 100000 in
theorem dancestudioref03_Valid.calls (a0_0 : Int) (a0_1 : Int) (r : Bool) (w : World) (h : dancestudioref03_Valid.f a0_0 a0_1 = some r) :
  Calls Try.prog 31 #[.agg #[.int .i64 a0_0, .int .i64 a0_1]] w fun e w' => e = .returned (.bool r) ∧ Below w.heap.size w w' := by
 have hu23 := Try.underlying23
 have HB := Aside0.mk (Below.refl w.heap.size w)
 have H : (if a0_0 ≥ (-32768) then (if a0_0 ≤ 32768 then (if a0_1 ≥ (-32768) then (some (decide (a0_1 ≤ 32768))) else (some false)) else (some false)) else (some false)) = some r := h
 clear h
 by_cases c2 : a0_0 ≥ (-32768)
 ·
  rw [if_pos c2] at H
  have c2b0 : decide ((-32768) ≤ a0_0) = true := decide_eq_true c2
  clear c2
  by_cases c3 : a0_0 ≤ 32768
  ·
   rw [if_pos c3] at H
   have c3b0 : decide (a0_0 ≤ 32768) = true := decide_eq_true c3
   clear c3
   by_cases c4 : a0_1 ≥ (-32768)
   ·
    rw [if_pos c4] at H
    have c4b0 : decide ((-32768) ≤ a0_1) = true := decide_eq_true c4
    clear c4
    obtain rfl := Option.some.inj H
    go_enter Try.func31, Try.ntmps31
    go_wp2_with (first | ((with_reducible refine gate_dst (N := 1) rfl ?_); refine box_event ?hg (N := 1) ?hd (cs := #[.int .i64 a0_0, .int .i64 a0_1]) (t := 23) ?hr ?_; (case hd => rfl); (case hg => rfl); (case hr => first | (go_simp; done) | (go_simp; rfl)); intro gb119 hg w5 hbox hb; have n0_ := Aside0.mk (below_step (by repeat (first | (with_reducible first | exact HB.out | apply below_alloc | apply pw_below_drewN | apply below_drew1) | exact HB.out)) hb); have n1_ := Aside0.mk (hbox); have n2_ := Aside0.mk ((by rw [hg]; exact (below_size (by repeat (first | (with_reducible first | exact HB.out | apply below_alloc | apply pw_below_drewN | apply below_drew1) | exact HB.out))) : w.heap.size ≤ gb119)); have n3_ := Aside0.mk ((by rw [hg]; exact (below_size (by repeat (first | (with_reducible first | exact HB.out | apply below_alloc | apply pw_below_drewN | apply below_drew1) | exact HB.out))) : w.heap.size ≤ gb119)); clear HB; have HB := n0_; have BK119 := n1_; have GW119 := n2_; have GE119 := n3_; clear n0_ n1_ n2_ n3_; clear hb hbox hg; have hcz6_0 : w5.cell? ⟨gb119, 0, none⟩ = some (.int .i64 a0_0) := (blk_cell BK119.out 0).trans rfl; have hcz6_1 : w5.cell? ⟨gb119, 1, none⟩ = some (.int .i64 a0_1) := (blk_cell BK119.out 1).trans rfl; have hfz6_0 := blk_frozen BK119.out 0; have hfz6_1 := blk_frozen BK119.out 1))
    go_ret
    exact ⟨by first | rfl | (simp [errW_none, errW_some] <;> rfl) | (simp [*, errW_none, errW_some] <;> rfl), by repeat (first | (with_reducible first | exact HB.out | apply below_alloc | apply pw_below_drewN | apply below_drew1 | refine below_set ?_ GE119.out) | exact HB.out)⟩
   ·
    rw [if_neg c4] at H
    have c4b0 : decide ((-32768) ≤ a0_1) = false := decide_eq_false c4
    clear c4
    obtain rfl := Option.some.inj H
    go_enter Try.func31, Try.ntmps31
    go_wp2_with (first | ((with_reducible refine gate_dst (N := 1) rfl ?_); refine box_event ?hg (N := 1) ?hd (cs := #[.int .i64 a0_0, .int .i64 a0_1]) (t := 23) ?hr ?_; (case hd => rfl); (case hg => rfl); (case hr => first | (go_simp; done) | (go_simp; rfl)); intro gb119 hg w7 hbox hb; have n0_ := Aside0.mk (below_step (by repeat (first | (with_reducible first | exact HB.out | apply below_alloc | apply pw_below_drewN | apply below_drew1) | exact HB.out)) hb); have n1_ := Aside0.mk (hbox); have n2_ := Aside0.mk ((by rw [hg]; exact (below_size (by repeat (first | (with_reducible first | exact HB.out | apply below_alloc | apply pw_below_drewN | apply below_drew1) | exact HB.out))) : w.heap.size ≤ gb119)); have n3_ := Aside0.mk ((by rw [hg]; exact (below_size (by repeat (first | (with_reducible first | exact HB.out | apply below_alloc | apply pw_below_drewN | apply below_drew1) | exact HB.out))) : w.heap.size ≤ gb119)); clear HB; have HB := n0_; have BK119 := n1_; have GW119 := n2_; have GE119 := n3_; clear n0_ n1_ n2_ n3_; clear hb hbox hg; have hcz8_0 : w7.cell? ⟨gb119, 0, none⟩ = some (.int .i64 a0_0) := (blk_cell BK119.out 0).trans rfl; have hcz8_1 : w7.cell? ⟨gb119, 1, none⟩ = some (.int .i64 a0_1) := (blk_cell BK119.out 1).trans rfl; have hfz8_0 := blk_frozen BK119.out 0; have hfz8_1 := blk_frozen BK119.out 1))
    go_ret
    exact ⟨by first | rfl | (simp [errW_none, errW_some] <;> rfl) | (simp [*, errW_none, errW_some] <;> rfl), by repeat (first | (with_reducible first | exact HB.out | apply below_alloc | apply pw_below_drewN | apply below_drew1 | refine below_set ?_ GE119.out) | exact HB.out)⟩
  ·
   rw [if_neg c3] at H
   have c3b0 : decide (a0_0 ≤ 32768) = false := decide_eq_false c3
   clear c3
   obtain rfl := Option.some.inj H
   go_enter Try.func31, Try.ntmps31
   go_wp2_with (first | ((with_reducible refine gate_dst (N := 1) rfl ?_); refine box_event ?hg (N := 1) ?hd (cs := #[.int .i64 a0_0, .int .i64 a0_1]) (t := 23) ?hr ?_; (case hd => rfl); (case hg => rfl); (case hr => first | (go_simp; done) | (go_simp; rfl)); intro gb119 hg w9 hbox hb; have n0_ := Aside0.mk (below_step (by repeat (first | (with_reducible first | exact HB.out | apply below_alloc | apply pw_below_drewN | apply below_drew1) | exact HB.out)) hb); have n1_ := Aside0.mk (hbox); have n2_ := Aside0.mk ((by rw [hg]; exact (below_size (by repeat (first | (with_reducible first | exact HB.out | apply below_alloc | apply pw_below_drewN | apply below_drew1) | exact HB.out))) : w.heap.size ≤ gb119)); have n3_ := Aside0.mk ((by rw [hg]; exact (below_size (by repeat (first | (with_reducible first | exact HB.out | apply below_alloc | apply pw_below_drewN | apply below_drew1) | exact HB.out))) : w.heap.size ≤ gb119)); clear HB; have HB := n0_; have BK119 := n1_; have GW119 := n2_; have GE119 := n3_; clear n0_ n1_ n2_ n3_; clear hb hbox hg; have hcz10_0 : w9.cell? ⟨gb119, 0, none⟩ = some (.int .i64 a0_0) := (blk_cell BK119.out 0).trans rfl; have hcz10_1 : w9.cell? ⟨gb119, 1, none⟩ = some (.int .i64 a0_1) := (blk_cell BK119.out 1).trans rfl; have hfz10_0 := blk_frozen BK119.out 0; have hfz10_1 := blk_frozen BK119.out 1))
   go_ret
   exact ⟨by first | rfl | (simp [errW_none, errW_some] <;> rfl) | (simp [*, errW_none, errW_some] <;> rfl), by repeat (first | (with_reducible first | exact HB.out | apply below_alloc | apply pw_below_drewN | apply below_drew1 | refine below_set ?_ GE119.out) | exact HB.out)⟩
 ·
  rw [if_neg c2] at H
  have c2b0 : decide ((-32768) ≤ a0_0) = false := decide_eq_false c2
  clear c2
  obtain rfl := Option.some.inj H
  go_enter Try.func31, Try.ntmps31
  go_wp2_with (first | ((with_reducible refine gate_dst (N := 1) rfl ?_); refine box_event ?hg (N := 1) ?hd (cs := #[.int .i64 a0_0, .int .i64 a0_1]) (t := 23) ?hr ?_; (case hd => rfl); (case hg => rfl); (case hr => first | (go_simp; done) | (go_simp; rfl)); intro gb119 hg w11 hbox hb; have n0_ := Aside0.mk (below_step (by repeat (first | (with_reducible first | exact HB.out | apply below_alloc | apply pw_below_drewN | apply below_drew1) | exact HB.out)) hb); have n1_ := Aside0.mk (hbox); have n2_ := Aside0.mk ((by rw [hg]; exact (below_size (by repeat (first | (with_reducible first | exact HB.out | apply below_alloc | apply pw_below_drewN | apply below_drew1) | exact HB.out))) : w.heap.size ≤ gb119)); have n3_ := Aside0.mk ((by rw [hg]; exact (below_size (by repeat (first | (with_reducible first | exact HB.out | apply below_alloc | apply pw_below_drewN | apply below_drew1) | exact HB.out))) : w.heap.size ≤ gb119)); clear HB; have HB := n0_; have BK119 := n1_; have GW119 := n2_; have GE119 := n3_; clear n0_ n1_ n2_ n3_; clear hb hbox hg; have hcz12_0 : w11.cell? ⟨gb119, 0, none⟩ = some (.int .i64 a0_0) := (blk_cell BK119.out 0).trans rfl; have hcz12_1 : w11.cell? ⟨gb119, 1, none⟩ = some (.int .i64 a0_1) := (blk_cell BK119.out 1).trans rfl; have hfz12_0 := blk_frozen BK119.out 0; have hfz12_1 := blk_frozen BK119.out 1))
  go_ret
  exact ⟨by first | rfl | (simp [errW_none, errW_some] <;> rfl) | (simp [*, errW_none, errW_some] <;> rfl), by repeat (first | (with_reducible first | exact HB.out | apply below_alloc | apply pw_below_drewN | apply below_drew1 | refine below_set ?_ GE119.out) | exact HB.out)⟩
end Go.Proofs.Ytmilejcbkpkplaa.PAll
-- Written by wip/tools/handprint.py: walks of the functions that the law reaches; Lean checks them.
namespace Go.Proofs.Ytmilejcbkpkplaa.PAll
open Go.RowKit Go.Proofs.YtmilejcbkpkplaaW.PrintWords Go.Proofs.YtmilejcbkpkplaaW.PrintLast Go.Proofs.YtmilejcbkpkplaaW.PrintMore
attribute [local go_sem] max2_int min2_int max_two min_two max_three min_three max_four min_four   -- for this text's walks alone
set_option linter.unusedVariables false
set_option linter.unusedSimpArgs false

/-! ### dancestudioref03_before: function 42 -/
def dancestudioref03_before.f (a0_0 : Int) (a0_1 : Int) (a1_0 : Int) (a1_1 : Int) : Option (Bool) := if a0_0 < a1_0 then (some true) else (if a0_0 = a1_0 then (some (decide (a0_1 < a1_1))) else (some false))
set_option maxHeartbeats 8000000 in
set_option maxRecDepth 100000 in
theorem dancestudioref03_before.calls (a0_0 : Int) (a0_1 : Int) (a1_0 : Int) (a1_1 : Int) (r : Bool) (w : World) (h : dancestudioref03_before.f a0_0 a0_1 a1_0 a1_1 = some r) :
  Calls Try.prog 42 #[.agg #[.int .i64 a0_0, .int .i64 a0_1], .agg #[.int .i64 a1_0, .int .i64 a1_1]] w fun e w' => e = .returned (.bool r) ∧ Below w.heap.size w w' := by
 have hu23 := Try.underlying23
 have HB := Aside0.mk (Below.refl w.heap.size w)
 have H : (if a0_0 < a1_0 then (some true) else (if a0_0 = a1_0 then (some (decide (a0_1 < a1_1))) else (some false))) = some r := h
 clear h
 by_cases c3 : a0_0 < a1_0
 ·
  rw [if_pos c3] at H
  have c3b0 : decide (a0_0 < a1_0) = true := decide_eq_true c3
  clear c3
  obtain rfl := Option.some.inj H
  go_enter Try.func42, Try.ntmps42
  go_wp2_with (first | ((with_reducible refine gate_dst (N := 2) rfl ?_); refine box_event ?hg (N := 2) ?hd (cs := #[.int .i64 a0_0, .int .i64 a0_1]) (t := 23) ?hr ?_; (case hd => rfl); (case hg => rfl); (case hr => first | (go_simp; done) | (go_simp; rfl)); intro gb417 hg w4 hbox hb; have n0_ := Aside0.mk (below_step (by repeat (first | (with_reducible first | exact HB.out | apply below_alloc | apply pw_below_drewN | apply below_drew1) | exact HB.out)) hb); have n1_ := Aside0.mk (hbox); have n2_ := Aside0.mk ((by rw [hg]; exact (below_size (by repeat (first | (with_reducible first | exact HB.out | apply below_alloc | apply pw_below_drewN | apply below_drew1) | exact HB.out))) : w.heap.size ≤ gb417)); have n3_ := Aside0.mk ((by rw [hg]; exact (below_size (by repeat (first | (with_reducible first | exact HB.out | apply below_alloc | apply pw_below_drewN | apply below_drew1) | exact HB.out))) : w.heap.size ≤ gb417)); clear HB; have HB := n0_; have BK417 := n1_; have GW417 := n2_; have GE417 := n3_; clear n0_ n1_ n2_ n3_; clear hb hbox hg) | ((with_reducible refine gate_dst (N := 3) rfl ?_); refine box_event ?hg (N := 3) ?hd (cs := #[.int .i64 a1_0, .int .i64 a1_1]) (t := 23) ?hr ?_; (case hd => rfl); (case hg => rfl); (case hr => first | (go_simp; done) | (go_simp; rfl)); intro gb418 hg w5 hbox hb; have n0_ := Aside0.mk (blk_below (g := gb417) (o := .cells #[.int .i64 a0_0, .int .i64 a0_1] 23 (0, 0)) (by (with_reducible repeat (first | refine blk_drewN ?_ _ | refine blk_drew ?_ | refine blk_alloc ?_ _)); exact BK417.out) hb); have n1_ := Aside0.mk (below_step (by repeat (first | (with_reducible first | exact HB.out | apply below_alloc | apply pw_below_drewN | apply below_drew1 | refine below_set ?_ GE417.out) | exact HB.out)) hb); have n2_ := Aside0.mk (hbox); have n3_ := Aside0.mk ((by rw [hg]; exact (below_size (by repeat (first | (with_reducible first | exact HB.out | apply below_alloc | apply pw_below_drewN | apply below_drew1 | refine below_set ?_ GE417.out) | exact HB.out))) : w.heap.size ≤ gb418)); have n4_ := Aside0.mk ((by rw [hg]; exact (below_size (by repeat (first | (with_reducible first | exact HB.out | apply below_alloc | apply pw_below_drewN | apply below_drew1 | refine below_set ?_ GE417.out) | exact HB.out))) : w.heap.size ≤ gb418)); have n5_ := Aside0.mk ((by rw [hg]; exact Nat.ne_of_lt (blk_lt (g := gb417) (o := .cells #[.int .i64 a0_0, .int .i64 a0_1] 23 (0, 0)) (by (with_reducible repeat (first | refine blk_drewN ?_ _ | refine blk_drew ?_ | refine blk_alloc ?_ _)); exact BK417.out)) : gb417 ≠ gb418)); have n6_ := Aside0.mk ((by rw [hg]; exact Nat.ne_of_gt (blk_lt (g := gb417) (o := .cells #[.int .i64 a0_0, .int .i64 a0_1] 23 (0, 0)) (by (with_reducible repeat (first | refine blk_drewN ?_ _ | refine blk_drew ?_ | refine blk_alloc ?_ _)); exact BK417.out)) : gb418 ≠ gb417)); clear BK417; clear HB; have BK417 := n0_; have HB := n1_; have BK418 := n2_; have GW418 := n3_; have GE418 := n4_; have NB417_418 := n5_; have NB418_417 := n6_; clear n0_ n1_ n2_ n3_ n4_ n5_ n6_; clear hb hbox hg; have hnb6 := NB417_418.out; have hnc6 := NB418_417.out; have hcz7_0 : w5.cell? ⟨gb417, 0, none⟩ = some (.int .i64 a0_0) := (blk_cell BK417.out 0).trans rfl; have hcz7_1 : w5.cell? ⟨gb417, 1, none⟩ = some (.int .i64 a0_1) := (blk_cell BK417.out 1).trans rfl; have hfz7_0 := blk_frozen BK417.out 0; have hfz7_1 := blk_frozen BK417.out 1; have hcz8_0 : w5.cell? ⟨gb418, 0, none⟩ = some (.int .i64 a1_0) := (blk_cell BK418.out 0).trans rfl; have hcz8_1 : w5.cell? ⟨gb418, 1, none⟩ = some (.int .i64 a1_1) := (blk_cell BK418.out 1).trans rfl; have hfz8_0 := blk_frozen BK418.out 0; have hfz8_1 := blk_frozen BK418.out 1))
  go_ret
  exact ⟨by first | rfl | (simp [errW_none, errW_some] <;> rfl) | (simp [*, errW_none, errW_some] <;> rfl), by repeat (first | (with_reducible first | exact HB.out | apply below_alloc | apply pw_below_drewN | apply below_drew1 | refine below_set ?_ GE417.out | refine below_set ?_ GE418.out) | exact HB.out)⟩
 ·
  rw [if_neg c3] at H
  have c3b0 : decide (a0_0 < a1_0) = false := decide_eq_false c3
  clear c3
  by_cases c9 : a0_0 = a1_0
  ·
   rw [if_pos c9] at H
   have c9b0 : (a0_0 == a1_0) = true := beq_iff_eq.mpr c9
   have c9b1 : (a0_0 != a1_0) = false := bne_eq_false_iff_eq.mpr c9
   clear c9
   obtain rfl := Option.some.inj H
   go_enter Try.func42, Try.ntmps42
   go_wp2_with (first | ((with_reducible refine gate_dst (N := 2) rfl ?_); refine box_event ?hg (N := 2) ?hd (cs := #[.int .i64 a0_0, .int .i64 a0_1]) (t := 23) ?hr ?_; (case hd => rfl); (case hg => rfl); (case hr => first | (go_simp; done) | (go_simp; rfl)); intro gb417 hg w10 hbox hb; have n0_ := Aside0.mk (below_step (by repeat (first | (with_reducible first | exact HB.out | apply below_alloc | apply pw_below_drewN | apply below_drew1) | exact HB.out)) hb); have n1_ := Aside0.mk (hbox); have n2_ := Aside0.mk ((by rw [hg]; exact (below_size (by repeat (first | (with_reducible first | exact HB.out | apply below_alloc | apply pw_below_drewN | apply below_drew1) | exact HB.out))) : w.heap.size ≤ gb417)); have n3_ := Aside0.mk ((by rw [hg]; exact (below_size (by repeat (first | (with_reducible first | exact HB.out | apply below_alloc | apply pw_below_drewN | apply below_drew1) | exact HB.out))) : w.heap.size ≤ gb417)); clear HB; have HB := n0_; have BK417 := n1_; have GW417 := n2_; have GE417 := n3_; clear n0_ n1_ n2_ n3_; clear hb hbox hg) | ((with_reducible refine gate_dst (N := 3) rfl ?_); refine box_event ?hg (N := 3) ?hd (cs := #[.int .i64 a1_0, .int .i64 a1_1]) (t := 23) ?hr ?_; (case hd => rfl); (case hg => rfl); (case hr => first | (go_simp; done) | (go_simp; rfl)); intro gb418 hg w11 hbox hb; have n0_ := Aside0.mk (blk_below (g := gb417) (o := .cells #[.int .i64 a0_0, .int .i64 a0_1] 23 (0, 0)) (by (with_reducible repeat (first | refine blk_drewN ?_ _ | refine blk_drew ?_ | refine blk_alloc ?_ _)); exact BK417.out) hb); have n1_ := Aside0.mk (below_step (by repeat (first | (with_reducible first | exact HB.out | apply below_alloc | apply pw_below_drewN | apply below_drew1 | refine below_set ?_ GE417.out) | exact HB.out)) hb); have n2_ := Aside0.mk (hbox); have n3_ := Aside0.mk ((by rw [hg]; exact (below_size (by repeat (first | (with_reducible first | exact HB.out | apply below_alloc | apply pw_below_drewN | apply below_drew1 | refine below_set ?_ GE417.out) | exact HB.out))) : w.heap.size ≤ gb418)); have n4_ := Aside0.mk ((by rw [hg]; exact (below_size (by repeat (first | (with_reducible first | exact HB.out | apply below_alloc | apply pw_below_drewN | apply below_drew1 | refine below_set ?_ GE417.out) | exact HB.out))) : w.heap.size ≤ gb418)); have n5_ := Aside0.mk ((by rw [hg]; exact Nat.ne_of_lt (blk_lt (g := gb417) (o := .cells #[.int .i64 a0_0, .int .i64 a0_1] 23 (0, 0)) (by (with_reducible repeat (first | refine blk_drewN ?_ _ | refine blk_drew ?_ | refine blk_alloc ?_ _)); exact BK417.out)) : gb417 ≠ gb418)); have n6_ := Aside0.mk ((by rw [hg]; exact Nat.ne_of_gt (blk_lt (g := gb417) (o := .cells #[.int .i64 a0_0, .int .i64 a0_1] 23 (0, 0)) (by (with_reducible repeat (first | refine blk_drewN ?_ _ | refine blk_drew ?_ | refine blk_alloc ?_ _)); exact BK417.out)) : gb418 ≠ gb417)); clear BK417; clear HB; have BK417 := n0_; have HB := n1_; have BK418 := n2_; have GW418 := n3_; have GE418 := n4_; have NB417_418 := n5_; have NB418_417 := n6_; clear n0_ n1_ n2_ n3_ n4_ n5_ n6_; clear hb hbox hg; have hnb12 := NB417_418.out; have hnc12 := NB418_417.out; have hcz13_0 : w11.cell? ⟨gb417, 0, none⟩ = some (.int .i64 a0_0) := (blk_cell BK417.out 0).trans rfl; have hcz13_1 : w11.cell? ⟨gb417, 1, none⟩ = some (.int .i64 a0_1) := (blk_cell BK417.out 1).trans rfl; have hfz13_0 := blk_frozen BK417.out 0; have hfz13_1 := blk_frozen BK417.out 1; have hcz14_0 : w11.cell? ⟨gb418, 0, none⟩ = some (.int .i64 a1_0) := (blk_cell BK418.out 0).trans rfl; have hcz14_1 : w11.cell? ⟨gb418, 1, none⟩ = some (.int .i64 a1_1) := (blk_cell BK418.out 1).trans rfl; have hfz14_0 := blk_frozen BK418.out 0; have hfz14_1 := blk_frozen BK418.out 1))
   go_ret
   exact ⟨by first | rfl | (simp [errW_none, errW_some] <;> rfl) | (simp [*, errW_none, errW_some] <;> rfl), by repeat (first | (with_reducible first | exact HB.out | apply below_alloc | apply pw_below_drewN | apply below_drew1 | refine below_set ?_ GE417.out | refine below_set ?_ GE418.out) | exact HB.out)⟩
  ·
   rw [if_neg c9] at H
   have c9b0 : (a0_0 == a1_0) = false := beq_eq_false_iff_ne.mpr c9
   have c9b1 : (a0_0 != a1_0) = true := bne_iff_ne.mpr c9
   obtain rfl := Option.some.inj H
   go_enter Try.func42, Try.ntmps42
   go_wp2_with (first | ((with_reducible refine gate_dst (N := 2) rfl ?_); refine box_event ?hg (N := 2) ?hd (cs := #[.int .i64 a0_0, .int .i64 a0_1]) (t := 23) ?hr ?_; (case hd => rfl); (case hg => rfl); (case hr => first | (go_simp; done) | (go_simp; rfl)); intro gb417 hg w15 hbox hb; have n0_ := Aside0.mk (below_step (by repeat (first | (with_reducible first | exact HB.out | apply below_alloc | apply pw_below_drewN | apply below_drew1) | exact HB.out)) hb); have n1_ := Aside0.mk (hbox); have n2_ := Aside0.mk ((by rw [hg]; exact (below_size (by repeat (first | (with_reducible first | exact HB.out | apply below_alloc | apply pw_below_drewN | apply below_drew1) | exact HB.out))) : w.heap.size ≤ gb417)); have n3_ := Aside0.mk ((by rw [hg]; exact (below_size (by repeat (first | (with_reducible first | exact HB.out | apply below_alloc | apply pw_below_drewN | apply below_drew1) | exact HB.out))) : w.heap.size ≤ gb417)); clear HB; have HB := n0_; have BK417 := n1_; have GW417 := n2_; have GE417 := n3_; clear n0_ n1_ n2_ n3_; clear hb hbox hg) | ((with_reducible refine gate_dst (N := 3) rfl ?_); refine box_event ?hg (N := 3) ?hd (cs := #[.int .i64 a1_0, .int .i64 a1_1]) (t := 23) ?hr ?_; (case hd => rfl); (case hg => rfl); (case hr => first | (go_simp; done) | (go_simp; rfl)); intro gb418 hg w16 hbox hb; have n0_ := Aside0.mk (blk_below (g := gb417) (o := .cells #[.int .i64 a0_0, .int .i64 a0_1] 23 (0, 0)) (by (with_reducible repeat (first | refine blk_drewN ?_ _ | refine blk_drew ?_ | refine blk_alloc ?_ _)); exact BK417.out) hb); have n1_ := Aside0.mk (below_step (by repeat (first | (with_reducible first | exact HB.out | apply below_alloc | apply pw_below_drewN | apply below_drew1 | refine below_set ?_ GE417.out) | exact HB.out)) hb); have n2_ := Aside0.mk (hbox); have n3_ := Aside0.mk ((by rw [hg]; exact (below_size (by repeat (first | (with_reducible first | exact HB.out | apply below_alloc | apply pw_below_drewN | apply below_drew1 | refine below_set ?_ GE417.out) | exact HB.out))) : w.heap.size ≤ gb418)); have n4_ := Aside0.mk ((by rw [hg]; exact (below_size (by repeat (first | (with_reducible first | exact HB.out | apply below_alloc | apply pw_below_drewN | apply below_drew1 | refine below_set ?_ GE417.out) | exact HB.out))) : w.heap.size ≤ gb418)); have n5_ := Aside0.mk ((by rw [hg]; exact Nat.ne_of_lt (blk_lt (g := gb417) (o := .cells #[.int .i64 a0_0, .int .i64 a0_1] 23 (0, 0)) (by (with_reducible repeat (first | refine blk_drewN ?_ _ | refine blk_drew ?_ | refine blk_alloc ?_ _)); exact BK417.out)) : gb417 ≠ gb418)); have n6_ := Aside0.mk ((by rw [hg]; exact Nat.ne_of_gt (blk_lt (g := gb417) (o := .cells #[.int .i64 a0_0, .int .i64 a0_1] 23 (0, 0)) (by (with_reducible repeat (first | refine blk_drewN ?_ _ | refine blk_drew ?_ | refine blk_alloc ?_ _)); exact BK417.out)) : gb418 ≠ gb417)); clear BK417; clear HB; have BK417 := n0_; have HB := n1_; have BK418 := n2_; have GW418 := n3_; have GE418 := n4_; have NB417_418 := n5_; have NB418_417 := n6_; clear n0_ n1_ n2_ n3_ n4_ n5_ n6_; clear hb hbox hg; have hnb17 := NB417_418.out; have hnc17 := NB418_417.out; have hcz18_0 : w16.cell? ⟨gb417, 0, none⟩ = some (.int .i64 a0_0) := (blk_cell BK417.out 0).trans rfl; have hcz18_1 : w16.cell? ⟨gb417, 1, none⟩ = some (.int .i64 a0_1) := (blk_cell BK417.out 1).trans rfl; have hfz18_0 := blk_frozen BK417.out 0; have hfz18_1 := blk_frozen BK417.out 1; have hcz19_0 : w16.cell? ⟨gb418, 0, none⟩ = some (.int .i64 a1_0) := (blk_cell BK418.out 0).trans rfl; have hcz19_1 : w16.cell? ⟨gb418, 1, none⟩ = some (.int .i64 a1_1) := (blk_cell BK418.out 1).trans rfl; have hfz19_0 := blk_frozen BK418.out 0; have hfz19_1 := blk_frozen BK418.out 1))
   go_ret
   exact ⟨by first | rfl | (simp [errW_none, errW_some] <;> rfl) | (simp [*, errW_none, errW_some] <;> rfl), by repeat (first | (with_reducible first | exact HB.out | apply below_alloc | apply pw_below_drewN | apply below_drew1 | refine below_set ?_ GE417.out | refine below_set ?_ GE418.out) | exact HB.out)⟩
end Go.Proofs.Ytmilejcbkpkplaa.PAll
-- Written by wip/tools/handprint.py: walks of the functions that the law reaches; Lean checks them.
namespace Go.Proofs.Ytmilejcbkpkplaa.PAll
open Go.RowKit Go.Proofs.YtmilejcbkpkplaaW.PrintWords Go.Proofs.YtmilejcbkpkplaaW.PrintLast Go.Proofs.YtmilejcbkpkplaaW.PrintMore
attribute [local go_sem] max2_int min2_int max_two min_two max_three min_three max_four min_four   -- for this text's walks alone
set_option linter.unusedVariables false
set_option linter.unusedSimpArgs false

/-! ### dancestudioref03_square: function 32 -/
def dancestudioref03_square.f (a0_0 : Int) (a0_1 : Int) (a1_0 : Int) (a1_1 : Int) : Option (Int) := some (wrap64 ((wrap64 ((wrap64 (a0_0 - a1_0)) * (wrap64 (a0_0 - a1_0)))) + (wrap64 ((wrap64 (a0_1 - a1_1)) * (wrap64 (a0_1 - a1_1))))))
set_option maxHeartbeats 8000000 in
set_option maxRecDepth 100000 in
theorem dancestudioref03_square.calls (a0_0 : Int) (a0_1 : Int) (a1_0 : Int) (a1_1 : Int) (r : Int) (w : World) (h : dancestudioref03_square.f a0_0 a0_1 a1_0 a1_1 = some r) :
  Calls Try.prog 32 #[.agg #[.int .i64 a0_0, .int .i64 a0_1], .agg #[.int .i64 a1_0, .int .i64 a1_1]] w fun e w' => e = .returned (.int .i64 r) ∧ Below w.heap.size w w' := by
 have hu23 := Try.underlying23
 have HB := Aside0.mk (Below.refl w.heap.size w)
 have H : (some (wrap64 ((wrap64 ((wrap64 (a0_0 - a1_0)) * (wrap64 (a0_0 - a1_0)))) + (wrap64 ((wrap64 (a0_1 - a1_1)) * (wrap64 (a0_1 - a1_1))))))) = some r := h
 clear h
 obtain rfl := Option.some.inj H
 go_enter Try.func32, Try.ntmps32
 go_wp2_with (first | ((with_reducible refine gate_dst (N := 2) rfl ?_); refine box_event ?hg (N := 2) ?hd (cs := #[.int .i64 a0_0, .int .i64 a0_1]) (t := 23) ?hr ?_; (case hd => rfl); (case hg => rfl); (case hr => first | (go_simp; done) | (go_simp; rfl)); intro gb120 hg w3 hbox hb; have n0_ := Aside0.mk (below_step (by repeat (first | (with_reducible first | exact HB.out | apply below_alloc | apply pw_below_drewN | apply below_drew1) | exact HB.out)) hb); have n1_ := Aside0.mk (hbox); have n2_ := Aside0.mk ((by rw [hg]; exact (below_size (by repeat (first | (with_reducible first | exact HB.out | apply below_alloc | apply pw_below_drewN | apply below_drew1) | exact HB.out))) : w.heap.size ≤ gb120)); have n3_ := Aside0.mk ((by rw [hg]; exact (below_size (by repeat (first | (with_reducible first | exact HB.out | apply below_alloc | apply pw_below_drewN | apply below_drew1) | exact HB.out))) : w.heap.size ≤ gb120)); clear HB; have HB := n0_; have BK120 := n1_; have GW120 := n2_; have GE120 := n3_; clear n0_ n1_ n2_ n3_; clear hb hbox hg) | ((with_reducible refine gate_dst (N := 3) rfl ?_); refine box_event ?hg (N := 3) ?hd (cs := #[.int .i64 a1_0, .int .i64 a1_1]) (t := 23) ?hr ?_; (case hd => rfl); (case hg => rfl); (case hr => first | (go_simp; done) | (go_simp; rfl)); intro gb121 hg w4 hbox hb; have n0_ := Aside0.mk (blk_below (g := gb120) (o := .cells #[.int .i64 a0_0, .int .i64 a0_1] 23 (0, 0)) (by (with_reducible repeat (first | refine blk_drewN ?_ _ | refine blk_drew ?_ | refine blk_alloc ?_ _)); exact BK120.out) hb); have n1_ := Aside0.mk (below_step (by repeat (first | (with_reducible first | exact HB.out | apply below_alloc | apply pw_below_drewN | apply below_drew1 | refine below_set ?_ GE120.out) | exact HB.out)) hb); have n2_ := Aside0.mk (hbox); have n3_ := Aside0.mk ((by rw [hg]; exact (below_size (by repeat (first | (with_reducible first | exact HB.out | apply below_alloc | apply pw_below_drewN | apply below_drew1 | refine below_set ?_ GE120.out) | exact HB.out))) : w.heap.size ≤ gb121)); have n4_ := Aside0.mk ((by rw [hg]; exact (below_size (by repeat (first | (with_reducible first | exact HB.out | apply below_alloc | apply pw_below_drewN | apply below_drew1 | refine below_set ?_ GE120.out) | exact HB.out))) : w.heap.size ≤ gb121)); have n5_ := Aside0.mk ((by rw [hg]; exact Nat.ne_of_lt (blk_lt (g := gb120) (o := .cells #[.int .i64 a0_0, .int .i64 a0_1] 23 (0, 0)) (by (with_reducible repeat (first | refine blk_drewN ?_ _ | refine blk_drew ?_ | refine blk_alloc ?_ _)); exact BK120.out)) : gb120 ≠ gb121)); have n6_ := Aside0.mk ((by rw [hg]; exact Nat.ne_of_gt (blk_lt (g := gb120) (o := .cells #[.int .i64 a0_0, .int .i64 a0_1] 23 (0, 0)) (by (with_reducible repeat (first | refine blk_drewN ?_ _ | refine blk_drew ?_ | refine blk_alloc ?_ _)); exact BK120.out)) : gb121 ≠ gb120)); clear BK120; clear HB; have BK120 := n0_; have HB := n1_; have BK121 := n2_; have GW121 := n3_; have GE121 := n4_; have NB120_121 := n5_; have NB121_120 := n6_; clear n0_ n1_ n2_ n3_ n4_ n5_ n6_; clear hb hbox hg; have hnb5 := NB120_121.out; have hnc5 := NB121_120.out; have hcz6_0 : w4.cell? ⟨gb120, 0, none⟩ = some (.int .i64 a0_0) := (blk_cell BK120.out 0).trans rfl; have hcz6_1 : w4.cell? ⟨gb120, 1, none⟩ = some (.int .i64 a0_1) := (blk_cell BK120.out 1).trans rfl; have hfz6_0 := blk_frozen BK120.out 0; have hfz6_1 := blk_frozen BK120.out 1; have hcz7_0 : w4.cell? ⟨gb121, 0, none⟩ = some (.int .i64 a1_0) := (blk_cell BK121.out 0).trans rfl; have hcz7_1 : w4.cell? ⟨gb121, 1, none⟩ = some (.int .i64 a1_1) := (blk_cell BK121.out 1).trans rfl; have hfz7_0 := blk_frozen BK121.out 0; have hfz7_1 := blk_frozen BK121.out 1))
 go_ret
 exact ⟨by first | rfl | (simp [errW_none, errW_some] <;> rfl) | (simp [*, errW_none, errW_some] <;> rfl), by repeat (first | (with_reducible first | exact HB.out | apply below_alloc | apply pw_below_drewN | apply below_drew1 | refine below_set ?_ GE120.out | refine below_set ?_ GE121.out) | exact HB.out)⟩
end Go.Proofs.Ytmilejcbkpkplaa.PAll
-- Written by wip/tools/handprint.py: walks of the functions that the law reaches; Lean checks them.
namespace Go.Proofs.Ytmilejcbkpkplaa.PAll
open Go.RowKit Go.Proofs.YtmilejcbkpkplaaW.PrintWords Go.Proofs.YtmilejcbkpkplaaW.PrintLast Go.Proofs.YtmilejcbkpkplaaW.PrintMore
attribute [local go_sem] max2_int min2_int max_two min_two max_three min_three max_four min_four   -- for this text's walks alone
set_option linter.unusedVariables false
set_option linter.unusedSimpArgs false

/-! ### dancestudioref03_cross: function 34 -/
def dancestudioref03_cross.f (a0_0 : Int) (a0_1 : Int) (a1_0 : Int) (a1_1 : Int) (a2_0 : Int) (a2_1 : Int) : Option (Int) := some (wrap64 ((wrap64 ((wrap64 (a1_0 - a0_0)) * (wrap64 (a2_1 - a0_1)))) - (wrap64 ((wrap64 (a1_1 - a0_1)) * (wrap64 (a2_0 - a0_0))))))
set_option maxHeartbeats 8000000 in
set_option maxRecDepth 100000 in
theorem dancestudioref03_cross.calls (a0_0 : Int) (a0_1 : Int) (a1_0 : Int) (a1_1 : Int) (a2_0 : Int) (a2_1 : Int) (r : Int) (w : World) (h : dancestudioref03_cross.f a0_0 a0_1 a1_0 a1_1 a2_0 a2_1 = some r) :
  Calls Try.prog 34 #[.agg #[.int .i64 a0_0, .int .i64 a0_1], .agg #[.int .i64 a1_0, .int .i64 a1_1], .agg #[.int .i64 a2_0, .int .i64 a2_1]] w fun e w' => e = .returned (.int .i64 r) ∧ Below w.heap.size w w' := by
 have hu23 := Try.underlying23
 have HB := Aside0.mk (Below.refl w.heap.size w)
 have H : (some (wrap64 ((wrap64 ((wrap64 (a1_0 - a0_0)) * (wrap64 (a2_1 - a0_1)))) - (wrap64 ((wrap64 (a1_1 - a0_1)) * (wrap64 (a2_0 - a0_0))))))) = some r := h
 clear h
 obtain rfl := Option.some.inj H
 go_enter Try.func34, Try.ntmps34
 go_wp2_with (first | ((with_reducible refine gate_dst (N := 3) rfl ?_); refine box_event ?hg (N := 3) ?hd (cs := #[.int .i64 a0_0, .int .i64 a0_1]) (t := 23) ?hr ?_; (case hd => rfl); (case hg => rfl); (case hr => first | (go_simp; done) | (go_simp; rfl)); intro gb141 hg w4 hbox hb; have n0_ := Aside0.mk (below_step (by repeat (first | (with_reducible first | exact HB.out | apply below_alloc | apply pw_below_drewN | apply below_drew1) | exact HB.out)) hb); have n1_ := Aside0.mk (hbox); have n2_ := Aside0.mk ((by rw [hg]; exact (below_size (by repeat (first | (with_reducible first | exact HB.out | apply below_alloc | apply pw_below_drewN | apply below_drew1) | exact HB.out))) : w.heap.size ≤ gb141)); have n3_ := Aside0.mk ((by rw [hg]; exact (below_size (by repeat (first | (with_reducible first | exact HB.out | apply below_alloc | apply pw_below_drewN | apply below_drew1) | exact HB.out))) : w.heap.size ≤ gb141)); clear HB; have HB := n0_; have BK141 := n1_; have GW141 := n2_; have GE141 := n3_; clear n0_ n1_ n2_ n3_; clear hb hbox hg) | ((with_reducible refine gate_dst (N := 4) rfl ?_); refine box_event ?hg (N := 4) ?hd (cs := #[.int .i64 a1_0, .int .i64 a1_1]) (t := 23) ?hr ?_; (case hd => rfl); (case hg => rfl); (case hr => first | (go_simp; done) | (go_simp; rfl)); intro gb142 hg w5 hbox hb; have n0_ := Aside0.mk (blk_below (g := gb141) (o := .cells #[.int .i64 a0_0, .int .i64 a0_1] 23 (0, 0)) (by (with_reducible repeat (first | refine blk_drewN ?_ _ | refine blk_drew ?_ | refine blk_alloc ?_ _)); exact BK141.out) hb); have n1_ := Aside0.mk (below_step (by repeat (first | (with_reducible first | exact HB.out | apply below_alloc | apply pw_below_drewN | apply below_drew1 | refine below_set ?_ GE141.out) | exact HB.out)) hb); have n2_ := Aside0.mk (hbox); have n3_ := Aside0.mk ((by rw [hg]; exact (below_size (by repeat (first | (with_reducible first | exact HB.out | apply below_alloc | apply pw_below_drewN | apply below_drew1 | refine below_set ?_ GE141.out) | exact HB.out))) : w.heap.size ≤ gb142)); have n4_ := Aside0.mk ((by rw [hg]; exact (below_size (by repeat (first | (with_reducible first | exact HB.out | apply below_alloc | apply pw_below_drewN | apply below_drew1 | refine below_set ?_ GE141.out) | exact HB.out))) : w.heap.size ≤ gb142)); have n5_ := Aside0.mk ((by rw [hg]; exact Nat.ne_of_lt (blk_lt (g := gb141) (o := .cells #[.int .i64 a0_0, .int .i64 a0_1] 23 (0, 0)) (by (with_reducible repeat (first | refine blk_drewN ?_ _ | refine blk_drew ?_ | refine blk_alloc ?_ _)); exact BK141.out)) : gb141 ≠ gb142)); have n6_ := Aside0.mk ((by rw [hg]; exact Nat.ne_of_gt (blk_lt (g := gb141) (o := .cells #[.int .i64 a0_0, .int .i64 a0_1] 23 (0, 0)) (by (with_reducible repeat (first | refine blk_drewN ?_ _ | refine blk_drew ?_ | refine blk_alloc ?_ _)); exact BK141.out)) : gb142 ≠ gb141)); clear BK141; clear HB; have BK141 := n0_; have HB := n1_; have BK142 := n2_; have GW142 := n3_; have GE142 := n4_; have NB141_142 := n5_; have NB142_141 := n6_; clear n0_ n1_ n2_ n3_ n4_ n5_ n6_; clear hb hbox hg) | ((with_reducible refine gate_dst (N := 5) rfl ?_); refine box_event ?hg (N := 5) ?hd (cs := #[.int .i64 a2_0, .int .i64 a2_1]) (t := 23) ?hr ?_; (case hd => rfl); (case hg => rfl); (case hr => first | (go_simp; done) | (go_simp; rfl)); intro gb143 hg w6 hbox hb; have n0_ := Aside0.mk (blk_below (g := gb141) (o := .cells #[.int .i64 a0_0, .int .i64 a0_1] 23 (0, 0)) (by (with_reducible repeat (first | refine blk_drewN ?_ _ | refine blk_drew ?_ | refine blk_alloc ?_ _)); exact BK141.out) hb); have n1_ := Aside0.mk (blk_below (g := gb142) (o := .cells #[.int .i64 a1_0, .int .i64 a1_1] 23 (0, 0)) (by (with_reducible repeat (first | refine blk_drewN ?_ _ | refine blk_drew ?_ | refine blk_alloc ?_ _)); exact BK142.out) hb); have n2_ := Aside0.mk (below_step (by repeat (first | (with_reducible first | exact HB.out | apply below_alloc | apply pw_below_drewN | apply below_drew1 | refine below_set ?_ GE141.out | refine below_set ?_ GE142.out) | exact HB.out)) hb); have n3_ := Aside0.mk (hbox); have n4_ := Aside0.mk ((by rw [hg]; exact (below_size (by repeat (first | (with_reducible first | exact HB.out | apply below_alloc | apply pw_below_drewN | apply below_drew1 | refine below_set ?_ GE141.out | refine below_set ?_ GE142.out) | exact HB.out))) : w.heap.size ≤ gb143)); have n5_ := Aside0.mk ((by rw [hg]; exact (below_size (by repeat (first | (with_reducible first | exact HB.out | apply below_alloc | apply pw_below_drewN | apply below_drew1 | refine below_set ?_ GE141.out | refine below_set ?_ GE142.out) | exact HB.out))) : w.heap.size ≤ gb143)); have n6_ := Aside0.mk ((by rw [hg]; exact Nat.ne_of_lt (blk_lt (g := gb141) (o := .cells #[.int .i64 a0_0, .int .i64 a0_1] 23 (0, 0)) (by (with_reducible repeat (first | refine blk_drewN ?_ _ | refine blk_drew ?_ | refine blk_alloc ?_ _)); exact BK141.out)) : gb141 ≠ gb143)); have n7_ := Aside0.mk ((by rw [hg]; exact Nat.ne_of_gt (blk_lt (g := gb141) (o := .cells #[.int .i64 a0_0, .int .i64 a0_1] 23 (0, 0)) (by (with_reducible repeat (first | refine blk_drewN ?_ _ | refine blk_drew ?_ | refine blk_alloc ?_ _)); exact BK141.out)) : gb143 ≠ gb141)); have n8_ := Aside0.mk ((by rw [hg]; exact Nat.ne_of_lt (blk_lt (g := gb142) (o := .cells #[.int .i64 a1_0, .int .i64 a1_1] 23 (0, 0)) (by (with_reducible repeat (first | refine blk_drewN ?_ _ | refine blk_drew ?_ | refine blk_alloc ?_ _)); exact BK142.out)) : gb142 ≠ gb143)); have n9_ := Aside0.mk ((by rw [hg]; exact Nat.ne_of_gt (blk_lt (g := gb142) (o := .cells #[.int .i64 a1_0, .int .i64 a1_1] 23 (0, 0)) (by (with_reducible repeat (first | refine blk_drewN ?_ _ | refine blk_drew ?_ | refine blk_alloc ?_ _)); exact BK142.out)) : gb143 ≠ gb142)); clear BK141; clear BK142; clear HB; have BK141 := n0_; have BK142 := n1_; have HB := n2_; have BK143 := n3_; have GW143 := n4_; have GE143 := n5_; have NB141_143 := n6_; have NB143_141 := n7_; have NB142_143 := n8_; have NB143_142 := n9_; clear n0_ n1_ n2_ n3_ n4_ n5_ n6_ n7_ n8_ n9_; clear hb hbox hg; have hnb7 := NB142_141.out; have hnc7 := NB141_142.out; have hnb8 := NB142_143.out; have hnc8 := NB143_142.out; have hcz9_0 : w6.cell? ⟨gb142, 0, none⟩ = some (.int .i64 a1_0) := (blk_cell BK142.out 0).trans rfl; have hcz9_1 : w6.cell? ⟨gb142, 1, none⟩ = some (.int .i64 a1_1) := (blk_cell BK142.out 1).trans rfl; have hfz9_0 := blk_frozen BK142.out 0; have hfz9_1 := blk_frozen BK142.out 1; have hnb10 := NB141_143.out; have hnc10 := NB143_141.out; have hcz11_0 : w6.cell? ⟨gb141, 0, none⟩ = some (.int .i64 a0_0) := (blk_cell BK141.out 0).trans rfl; have hcz11_1 : w6.cell? ⟨gb141, 1, none⟩ = some (.int .i64 a0_1) := (blk_cell BK141.out 1).trans rfl; have hfz11_0 := blk_frozen BK141.out 0; have hfz11_1 := blk_frozen BK141.out 1; have hcz12_0 : w6.cell? ⟨gb143, 0, none⟩ = some (.int .i64 a2_0) := (blk_cell BK143.out 0).trans rfl; have hcz12_1 : w6.cell? ⟨gb143, 1, none⟩ = some (.int .i64 a2_1) := (blk_cell BK143.out 1).trans rfl; have hfz12_0 := blk_frozen BK143.out 0; have hfz12_1 := blk_frozen BK143.out 1))
 go_ret
 exact ⟨by first | rfl | (simp [errW_none, errW_some] <;> rfl) | (simp [*, errW_none, errW_some] <;> rfl), by repeat (first | (with_reducible first | exact HB.out | apply below_alloc | apply pw_below_drewN | apply below_drew1 | refine below_set ?_ GE141.out | refine below_set ?_ GE142.out | refine below_set ?_ GE143.out) | exact HB.out)⟩
end Go.Proofs.Ytmilejcbkpkplaa.PAll
-- Written by wip/tools/handprint.py: walks of the functions that the law reaches; Lean checks them.
namespace Go.Proofs.Ytmilejcbkpkplaa.PAll
open Go.RowKit Go.Proofs.YtmilejcbkpkplaaW.PrintWords Go.Proofs.YtmilejcbkpkplaaW.PrintLast Go.Proofs.YtmilejcbkpkplaaW.PrintMore
attribute [local go_sem] max2_int min2_int max_two min_two max_three min_three max_four min_four   -- for this text's walks alone
set_option linter.unusedVariables false
set_option linter.unusedSimpArgs false
attribute [local go_sem high] eqA23

/-! ### dancestudioref03_next: function 43 -/
mutual
def dancestudioref03_next.l0 : Nat → List (S23) → Int → Int → Int → Int → Int → Option (Int × Int)
 | 0, _, _, _, _, _, _ => none
 | k + 1, x0, x6, x420000, x420001, x422000, x422001 => if x6 < (x0.length : Int) then (if 0 ≤ x6 then (if (((rd_T23 x0 x6).f0) == x420000 && (((rd_T23 x0 x6).f1) == x420001)) = true then (dancestudioref03_next.l0 k x0 (wrap64 (x6 + 1)) x420000 x420001 x422000 x422001) else ((dancestudioref03_cross.f x420000 x420001 x422000 x422001 ((rd_T23 x0 x6).f0) ((rd_T23 x0 x6).f1)).bind fun t424 => (if (x422000 == x420000 && (x422001 == x420001)) = true then (dancestudioref03_next.j1 k x0 x6 true x420000 x420001 x422000 x422001) else (if t424 < 0 then (dancestudioref03_next.j1 k x0 x6 true x420000 x420001 x422000 x422001) else (if t424 = 0 then ((dancestudioref03_square.f x420000 x420001 ((rd_T23 x0 x6).f0) ((rd_T23 x0 x6).f1)).bind fun t426 => ((dancestudioref03_square.f x420000 x420001 x422000 x422001).bind fun t427 => (dancestudioref03_next.j1 k x0 x6 (decide (t426 > t427)) x420000 x420001 x422000 x422001))) else (dancestudioref03_next.j1 k x0 x6 false x420000 x420001 x422000 x422001)))))) else (none)) else (some (x422000, x422001))
def dancestudioref03_next.j1 : Nat → List (S23) → Int → Bool → Int → Int → Int → Int → Option (Int × Int)
 | 0, _, _, _, _, _, _, _ => none
 | k + 1, x0, x6, x50, x420000, x420001, x422000, x422001 => if x50 = true then (if 0 ≤ x6 then (if x6 < (x0.length : Int) then (dancestudioref03_next.l0 k x0 (wrap64 (x6 + 1)) x420000 x420001 ((rd_T23 x0 x6).f0) ((rd_T23 x0 x6).f1)) else (none)) else (none)) else (dancestudioref03_next.l0 k x0 (wrap64 (x6 + 1)) x420000 x420001 x422000 x422001)
end
def dancestudioref03_next.f (k : Nat) (l0 : List (S23)) (a1_0 : Int) (a1_1 : Int) : Option (Int × Int) := dancestudioref03_next.l0 k l0 0 a1_0 a1_1 a1_0 a1_1
theorem dancestudioref03_next.mono_l : ∀ k, (∀ y0 y1 y2 y3 y4 y5, LeO (dancestudioref03_next.l0 k y0 y1 y2 y3 y4 y5) (dancestudioref03_next.l0 (k + 1) y0 y1 y2 y3 y4 y5)) ∧ (∀ y0 y1 y2 y3 y4 y5 y6, LeO (dancestudioref03_next.j1 k y0 y1 y2 y3 y4 y5 y6) (dancestudioref03_next.j1 (k + 1) y0 y1 y2 y3 y4 y5 y6))
 | 0 => ⟨fun _ _ _ _ _ _ r h => by simp [dancestudioref03_next.l0] at h, fun _ _ _ _ _ _ _ r h => by simp [dancestudioref03_next.j1] at h⟩
 | k + 1 => by
  obtain ⟨ih0, ih1⟩ := dancestudioref03_next.mono_l k
  refine ⟨?_, ?_⟩
  ·
   intro y0 y1 y2 y3 y4 y5
   unfold dancestudioref03_next.l0
   repeat' first
   | (with_reducible exact ih0 _ _ _ _ _ _)
   | (with_reducible exact ih1 _ _ _ _ _ _ _)
   | (with_reducible exact LeO.refl _)
   | (with_reducible exact LeO.none _)
   | (with_reducible refine LeO.ite ?_ ?_)
   | (with_reducible refine LeO.bind ?_ (fun _ => ?_))
   | exact ih0 _ _ _ _ _ _
   | exact ih1 _ _ _ _ _ _ _
   | exact LeO.none _
   | refine LeO.ite ?_ ?_
   | refine LeO.bind ?_ (fun _ => ?_)
  ·
   intro y0 y1 y2 y3 y4 y5 y6
   unfold dancestudioref03_next.j1
   repeat' first
   | (with_reducible exact ih0 _ _ _ _ _ _)
   | (with_reducible exact ih1 _ _ _ _ _ _ _)
   | (with_reducible exact LeO.refl _)
   | (with_reducible exact LeO.none _)
   | (with_reducible refine LeO.ite ?_ ?_)
   | (with_reducible refine LeO.bind ?_ (fun _ => ?_))
   | exact ih0 _ _ _ _ _ _
   | exact ih1 _ _ _ _ _ _ _
   | exact LeO.none _
   | refine LeO.ite ?_ ?_
   | refine LeO.bind ?_ (fun _ => ?_)
theorem dancestudioref03_next.mono : ∀ a0 a1 a2 k, LeO (dancestudioref03_next.f k a0 a1 a2) (dancestudioref03_next.f (k + 1) a0 a1 a2) := by
 intro a0 a1 a2 k
 obtain ⟨ih0, ih1⟩ := dancestudioref03_next.mono_l k
 unfold dancestudioref03_next.f
 repeat' first
   | (with_reducible exact ih0 _ _ _ _ _ _)
   | (with_reducible exact ih1 _ _ _ _ _ _ _)
   | (with_reducible exact LeO.refl _)
   | (with_reducible exact LeO.none _)
   | (with_reducible refine LeO.ite ?_ ?_)
   | (with_reducible refine LeO.bind ?_ (fun _ => ?_))
   | exact ih0 _ _ _ _ _ _
   | exact ih1 _ _ _ _ _ _ _
   | exact LeO.none _
   | refine LeO.ite ?_ ?_
   | refine LeO.bind ?_ (fun _ => ?_)
def dancestudioref03_next.T6 : Bool × List (List Nat × List Nat) := (true, [([], []), ([], []), ([], []), ([], []), ([2, 3], [2, 3]), ([4], [4]), ([0, 1, 5], [0, 1, 5]), ([6, 6, 0, 1, 2, 3, 4, 5, 6], [6])])
def dancestudioref03_next.B6 : List Nat := [0, 0, 0, 0, 12, 28, 63, 127]
theorem dancestudioref03_next.tab6 : rtab .any (opsOf Try.f43 6) = dancestudioref03_next.T6 := by kernel_rfl
theorem dancestudioref03_next.bits6 : waitsOk dancestudioref03_next.T6.2 dancestudioref03_next.B6 = true := by kernel_rfl
def dancestudioref03_next.T7 : Bool × List (List Nat × List Nat) := (true, [([], []), ([], []), ([0, 1], [0, 1]), ([2], [2]), ([3], [3]), ([4, 3], [3, 4]), ([3, 5], [3, 5]), ([6, 3], [6]), ([7], [7]), ([8, 7], [7, 8]), ([9, 7, 7], [7, 9]), ([10], [10]), ([10], [10]), ([10], [10]), ([12, 13, 10], [10, 12, 13]), ([14, 10], [10, 14]), ([11, 15, 10, 10], [10, 11, 15]), ([10], [10]), ([10], [10]), ([17, 18, 16, 10], [10, 17, 18]), ([16, 19, 10], [10, 16, 19]), ([10, 20, 7], [7, 10, 20]), ([7, 21], [7, 21])])
def dancestudioref03_next.B7 : List Nat := [0, 0, 3, 7, 15, 31, 63, 127, 255, 511, 1023, 2047, 2047, 2047, 14335, 30719, 65535, 2047, 2047, 524287, 1048575, 2097151, 4194303]
theorem dancestudioref03_next.tab7 : rtab .any (opsOf Try.f43 7) = dancestudioref03_next.T7 := by kernel_rfl
theorem dancestudioref03_next.bits7 : waitsOk dancestudioref03_next.T7.2 dancestudioref03_next.B7 = true := by kernel_rfl
set_option maxHeartbeats 8000000 in
set_option maxRecDepth 100000 in
theorem dancestudioref03_next.calls (k : Nat) (A0 : Option Addr) (c0 : Nat) (l0 : List (S23)) (a1_0 : Int) (a1_1 : Int) (r1 : Int) (r2 : Int) (w : World) (hr0 : Kd.C k23 w A0 l0.length l0) (hc0 : l0.length ≤ c0) (h : dancestudioref03_next.f k l0 a1_0 a1_1 = some (r1, r2)) :
  Calls Try.prog 43 #[.slice A0 l0.length c0, .agg #[.int .i64 a1_0, .int .i64 a1_1]] w fun e w' => e = .returned (.agg #[.int .i64 r1, .int .i64 r2]) ∧ Below w.heap.size w w' := by
 have hu23 := Try.underlying23
 have HR0 := Aside0.mk hr0
 have HC0 := Aside0.mk hc0
 clear hr0 hc0
 have HB := Aside0.mk (Below.refl w.heap.size w)
 have H : (dancestudioref03_next.l0 k l0 0 a1_0 a1_1 a1_0 a1_1) = some (r1, r2) := h
 clear h
 have H' := Aside0.mk H
 clear H
 go_enter Try.func43, Try.ntmps43
 go_wp2_with (first | ((with_reducible refine gate_dst (N := 3) rfl ?_); refine box_event ?hg (N := 3) ?hd (cs := #[.int .i64 a1_0, .int .i64 a1_1]) (t := 23) ?hr ?_; (case hd => rfl); (case hg => rfl); (case hr => first | (go_simp; done) | (go_simp; rfl)); intro gb419 hg w3 hbox hb; have BK419 := Aside0.mk hbox; have GW419 := mGw HB hg; have GE419 := GW419; replace HB := mSt HB hb; clear hb hbox hg) | ((with_reducible refine gate_dst (N := 4) rfl ?_); refine box_event ?hg (N := 4) ?hd (cs := #[.int .i64 0, .int .i64 0]) (t := 23) ?hr ?_; (case hd => rfl); (case hg => rfl); (case hr => first | (go_simp; done) | (go_simp; rfl)); intro gb420 hg w4 hbox hb; have BK420 := Aside0.mk hbox; have GW420 := mGw HB hg; have GE420 := GW420; replace HB := mSt HB hb; have NB419_420 := mNe BK419 hg; have NB420_419 := mSy NB419_420; replace BK419 := mBb BK419 hb; clear hb hbox hg; have hnb5 := NB419_420.out; have hnc5 := NB420_419.out; have hcz6 := blk_cell BK419.out; have hfz6 := blk_frozen BK419.out) | ((with_reducible refine gate_dst (N := 5) rfl ?_); refine box_event ?hg (N := 5) ?hd (cs := #[.int .i64 0, .int .i64 0]) (t := 23) ?hr ?_; (case hd => rfl); (case hg => rfl); (case hr => first | (go_simp; done) | (go_simp; rfl)); intro gb421 hg w7 hbox hb; have BK421 := Aside0.mk hbox; have GW421 := mGw HB hg; have GE421 := GW421; replace HB := mSt HB hb; have NB419_421 := mNe BK419 hg; have NB421_419 := mSy NB419_421; replace BK419 := mBb BK419 hb; have NB420_421 := mNe BK420 hg; have NB421_420 := mSy NB420_421; replace BK420 := mBb BK420 hb; clear hb hbox hg; have hnb8 := NB421_419.out; have hnc8 := NB419_421.out; have hnb9 := NB421_420.out; have hnc9 := NB420_421.out; have hcz10 := blk_cell BK421.out; have hfz10 := blk_frozen BK421.out))
 go_loopg [6] k (fun kq v6 w' => ∃ (x6_1 : Int) (x422000_1 : Int) (x422001_1 : Int), v6 = .int .i64 x6_1 ∧ Aside0 (dancestudioref03_next.l0 kq l0 x6_1 a1_0 a1_1 x422000_1 x422001_1 = some (r1, r2)) ∧ Aside0 (kq ≤ k) ∧ Aside0 (w'.heap[gb419]? = some (.cells #[.int .i64 a1_0, .int .i64 a1_1] 23 (0, 0))) ∧ Aside0 (w'.heap[gb420]? = some (.cells #[.int .i64 0, .int .i64 0] 23 (0, 0))) ∧ Aside0 (w'.heap[gb421]? = some (.cells #[.int .i64 x422000_1, .int .i64 x422001_1] 23 (0, 0))) ∧ Aside0 (Below w.heap.size w w'))
 case atStart => exact ⟨(0), (a1_0), (a1_1), (by first | rfl | (simp; done) | (simp [*]; done)), H', ⟨Nat.le_refl _⟩, ⟨by (with_reducible repeat (first | refine blk_drewN ?_ _ | refine blk_drew ?_ | refine blk_alloc ?_ _)); refine blk_far ?_ NB419_421.out _; (with_reducible repeat (first | refine blk_drewN ?_ _ | refine blk_drew ?_ | refine blk_alloc ?_ _)); refine blk_far ?_ NB419_421.out _; (with_reducible repeat (first | refine blk_drewN ?_ _ | refine blk_drew ?_ | refine blk_alloc ?_ _)); exact BK419.out⟩, ⟨by (with_reducible repeat (first | refine blk_drewN ?_ _ | refine blk_drew ?_ | refine blk_alloc ?_ _)); refine blk_far ?_ NB420_421.out _; (with_reducible repeat (first | refine blk_drewN ?_ _ | refine blk_drew ?_ | refine blk_alloc ?_ _)); refine blk_far ?_ NB420_421.out _; (with_reducible repeat (first | refine blk_drewN ?_ _ | refine blk_drew ?_ | refine blk_alloc ?_ _)); exact BK420.out⟩, ⟨by (with_reducible repeat (first | refine blk_drewN ?_ _ | refine blk_drew ?_ | refine blk_alloc ?_ _)); refine blk_put (cs := #[.int .i64 a1_0, .int .i64 0]) ?_ 1 _ rfl; (with_reducible repeat (first | refine blk_drewN ?_ _ | refine blk_drew ?_ | refine blk_alloc ?_ _)); refine blk_put (cs := #[.int .i64 0, .int .i64 0]) ?_ 0 _ rfl; (with_reducible repeat (first | refine blk_drewN ?_ _ | refine blk_drew ?_ | refine blk_alloc ?_ _)); exact BK421.out⟩, ⟨by repeat (first | (with_reducible first | exact HB.out | apply below_alloc | apply pw_below_drewN | apply below_drew1 | refine below_set ?_ GE419.out | refine below_set ?_ GE420.out | refine below_set ?_ GE421.out) | exact HB.out)⟩⟩
 case round =>
  clear H'
  try clear p2; try clear c4; try clear c5; try clear c8; try clear c9; try clear hcz10_0; try clear hcz10_1; try clear hcz6_0; try clear hcz6_1; try clear hfz10_0; try clear hfz10_1; try clear hfz6_0; try clear hfz6_1
  obtain ⟨x6_1, x422000_1, x422001_1, rfl, HA, HK1, BK419, BK420, BK421, HB⟩ := hrel
  cases gk with
  | zero => exact absurd HA.out (by simp [dancestudioref03_next.l0])
  | succ k1 =>
   have H := HA.out
   clear HA
   simp only [dancestudioref03_next.l0] at H
   by_cases c11 : x6_1 < (l0.length : Int)
   rotate_left
   ·
    rw [if_neg c11] at H
    have c11b0 : decide (x6_1 < (l0.length : Int)) = false := decide_eq_false c11
    clear c11
    simp only [Option.some.injEq, Prod.mk.injEq] at H
    obtain ⟨rfl, rfl⟩ := H
    have hnb37 := NB421_419.out
    have hnc37 := NB419_421.out
    have hnb38 := NB421_420.out
    have hnc38 := NB420_421.out
    have hcz39 := blk_cell BK421.out; have hfz39 := blk_frozen BK421.out
    have hnb40 := NB420_419.out
    have hnc40 := NB419_420.out
    have hcz41 := blk_cell BK420.out; have hfz41 := blk_frozen BK420.out
    go_wp2
    refine bodyPost_ret (results_cell_row rfl _ _ gb420 23 #[.int .i64 x422000_1, .int .i64 x422001_1] (0, 0) _ rfl (by (with_reducible repeat (first | refine blk_drewN ?_ _ | refine blk_drew ?_ | refine blk_alloc ?_ _)); refine blk_put (cs := #[.int .i64 x422000_1, .int .i64 0]) ?_ 1 _ rfl; (with_reducible repeat (first | refine blk_drewN ?_ _ | refine blk_drew ?_ | refine blk_alloc ?_ _)); refine blk_put (cs := #[.int .i64 0, .int .i64 0]) ?_ 0 _ rfl; (with_reducible repeat (first | refine blk_drewN ?_ _ | refine blk_drew ?_ | refine blk_alloc ?_ _)); exact BK420.out) Try.underlying23 rfl (by kernel_rfl)) rfl ?_
    exact ⟨by first | rfl | (simp [errW_none, errW_some] <;> rfl) | (simp [*, errW_none, errW_some] <;> rfl), by repeat (first | (with_reducible first | exact HB.out | apply below_alloc | apply pw_below_drewN | apply below_drew1 | refine below_set ?_ GE419.out | refine below_set ?_ GE420.out | refine below_set ?_ GE421.out) | exact HB.out)⟩
   rw [if_pos c11] at H
   have c11b0 : decide (x6_1 < (l0.length : Int)) = true := decide_eq_true c11
   clear c11
   by_cases c12 : 0 ≤ x6_1
   rotate_left
   ·
    rw [if_neg c12] at H
    exact absurd H (by simp)
   rw [if_pos c12] at H
   have c12b0 : decide (0 ≤ x6_1) = true := decide_eq_true c12
   clear c12
   by_cases c13 : (((rd_T23 l0 x6_1).f0) == a1_0 && (((rd_T23 l0 x6_1).f1) == a1_1)) = true
   ·
    rw [if_pos c13] at H
    have c13b0 : (((rd_T23 l0 x6_1).f0) == a1_0 && (((rd_T23 l0 x6_1).f1) == a1_1)) = true := c13
    (try (have c13b1 : decide (((rd_T23 l0 x6_1).f0) = a1_0 && (((rd_T23 l0 x6_1).f1) == a1_1)) = true := by simpa using c13))
    (try (have c13b2 : (((rd_T23 l0 x6_1).f0) == a1_0 && (((rd_T23 l0 x6_1).f1) == a1_1)) = true := by simpa using c13))
    clear c13
    have H' := Aside0.mk H
    clear H
    try go_wp2
    replace BK419 := Aside0.mk (blk_drew BK419.out); replace BK420 := Aside0.mk (blk_drew BK420.out); replace BK421 := Aside0.mk (blk_drew BK421.out); replace HB := Aside0.mk (below_drew1 HB.out)
    have p422 : 0 ≤ (x6_1 : Int) := of_decide_eq_true (by first | (with_reducible assumption) | assumption)
    have q422 : x6_1 < (l0.length : Int) := of_decide_eq_true (by first | (with_reducible assumption) | assumption)
    obtain ⟨ad422, e422, hx422_0, hx422_1⟩ := at_T23 HR0.out x6_1 p422 q422
    have hw422_1 := hx422_1
    have hw422_0 := hx422_0
    cases e422
    replace hx422_0 := (HB.out.cell (World.block_lt_of_cell? w _ hx422_0)).trans hx422_0
    replace hx422_1 := (HB.out.cell (World.block_lt_of_cell? w _ hx422_1)).trans hx422_1
    replace p422 := eq_true p422
    replace q422 := eq_true q422
    refine start_ (n := 6) (S := fun w' => w'.cell? ⟨gb419, 0, none⟩ = some (.int .i64 a1_0) ∧ w'.cell? ⟨gb419, 1, none⟩ = some (.int .i64 a1_1) ∧ w'.cell? (ad422.add ((x6_1).toNat * 2)) = some (.int .i64 ((rd_T23 l0 x6_1).f0)) ∧ w'.cell? ⟨(ad422.add ((x6_1).toNat * 2)).block, (ad422.add ((x6_1).toNat * 2)).off + 1, none⟩ = some (.int .i64 ((rd_T23 l0 x6_1).f1))) (ds := []) #[false, false, false, false, false, false] (by kernel_rfl) rfl rfl ⟨(blk_cell BK419.out 0).trans rfl, (blk_cell BK419.out 1).trans rfl, ((HB.out.cell (World.block_lt_of_cell? w _ hw422_0)).trans hw422_0), ((HB.out.cell (World.block_lt_of_cell? w _ hw422_1)).trans hw422_1)⟩ (fun hHeld => ?_)
    generalize wr.drew = w14 at BK419 BK420 BK421 HB hx422_0 hx422_1 hHeld ⊢
    refine pure_ (i := 0) (N := some 15) (v := ?_) (a' := ?_) #[true, false, false, false, false, false] rfl rfl (by kernel_rfl) (fun _ _ _ h => h) (Or.inl ⟨by rfl, ?_⟩) ?_ ?_
    rotate_left
    ·
     intro w'
     go_simp
     with_reducible rfl
    rotate_left
    ·
     simp only [Act.put, List.setIfInBounds_toArray, List.set_cons_zero, List.set_cons_succ, i64_w, i32_w]
     rfl
    refine pure_ (i := 1) (N := some 16) (v := ?_) (a' := ?_) #[true, true, false, false, false, false] rfl rfl (by kernel_rfl) (fun _ _ _ h => h) (Or.inl ⟨by rfl, ?_⟩) ?_ ?_
    rotate_left
    ·
     intro w'
     go_simp
     with_reducible rfl
    rotate_left
    ·
     simp only [Act.put, List.setIfInBounds_toArray, List.set_cons_zero, List.set_cons_succ, i64_w, i32_w]
     rfl
    refine pure_ (i := 2) (N := some 17) (v := ?_) (a' := ?_) #[true, true, true, false, false, false] rfl rfl (by kernel_rfl) (fun _ _ _ h => h) (Or.inl ⟨by rfl, ?_⟩) ?_ ?_
    rotate_left
    ·
     intro w'
     go_simp
     with_reducible rfl
    rotate_left
    ·
     simp only [Act.put, List.setIfInBounds_toArray, List.set_cons_zero, List.set_cons_succ, i64_w, i32_w]
     rfl
    refine take_ (i := 3) (N := some 18) (v := ?_) (a' := ?_) #[true, true, true, true, false, false] rfl rfl (by kernel_rfl) (fun _ _ _ h => h) (Or.inl ⟨by rfl, ?_⟩) hHeld ?_ ?_
    rotate_left
    ·
     rintro w' ⟨s0, s1, s2, s3⟩
     go_simp
     with_reducible rfl
    rotate_left
    ·
     simp only [Act.put, List.setIfInBounds_toArray, List.set_cons_zero, List.set_cons_succ, i64_w, i32_w]
     rfl
    refine take_ (i := 4) (N := some 19) (v := ?_) (a' := ?_) #[true, true, true, true, true, false] rfl rfl (by kernel_rfl) (fun _ _ _ h => h) (Or.inl ⟨by rfl, ?_⟩) hHeld ?_ ?_
    rotate_left
    ·
     rintro w' ⟨s0, s1, s2, s3⟩
     go_simp
     with_reducible rfl
    rotate_left
    ·
     simp only [Act.put, List.setIfInBounds_toArray, List.set_cons_zero, List.set_cons_succ, i64_w, i32_w]
     rfl
    refine pure_ (i := 5) (N := some 20) (v := ?_) (a' := ?_) #[true, true, true, true, true, true] rfl rfl (by kernel_rfl) (fun _ _ _ h => h) (Or.inl ⟨by rfl, ?_⟩) ?_ ?_
    rotate_left
    ·
     intro w'
     go_simp
     with_reducible rfl
    rotate_left
    ·
     simp only [Act.put, List.setIfInBounds_toArray, List.set_cons_zero, List.set_cons_succ, i64_w, i32_w]
     rfl
    refine done_ (by kernel_rfl) ?_
    try go_wp2
    go_roundg k1
    case measure => have := HK1.out; omega
    case rel => exact ⟨(wrap64 (x6_1 + 1)), (x422000_1), (x422001_1), (by first | rfl | (simp; done) | (simp [*]; done)), H', ⟨by have := HK1.out; omega⟩, ⟨BK419.out⟩, ⟨BK420.out⟩, ⟨BK421.out⟩, ⟨HB.out⟩⟩
   rw [if_neg c13] at H
   have c13b0 : (((rd_T23 l0 x6_1).f0) == a1_0 && (((rd_T23 l0 x6_1).f1) == a1_1)) = false := by simpa using c13
   (try (have c13b1 : decide (((rd_T23 l0 x6_1).f0) = a1_0 && (((rd_T23 l0 x6_1).f1) == a1_1)) = false := by simpa using c13))
   (try (have c13b2 : (((rd_T23 l0 x6_1).f0) == a1_0 && (((rd_T23 l0 x6_1).f1) == a1_1)) = false := by simpa using c13))
   (try (have c13b3 : ¬ (((rd_T23 l0 x6_1).f0) = a1_0 && (((rd_T23 l0 x6_1).f1) == a1_1)) := by simpa using c13))
   clear c13
   replace H := Option.bind_eq_some_iff.mp H
   obtain ⟨t424, A150, H⟩ := H
   try dsimp only at H
   have A15 := Aside0.mk A150
   clear A150
   have HC16 := Aside0.mk H
   clear H
   try go_wp2
   replace BK419 := Aside0.mk (blk_drew BK419.out); replace BK420 := Aside0.mk (blk_drew BK420.out); replace BK421 := Aside0.mk (blk_drew BK421.out); replace HB := Aside0.mk (below_drew1 HB.out)
   have p422 : 0 ≤ (x6_1 : Int) := of_decide_eq_true (by first | (with_reducible assumption) | assumption)
   have q422 : x6_1 < (l0.length : Int) := of_decide_eq_true (by first | (with_reducible assumption) | assumption)
   obtain ⟨ad422, e422, hx422_0, hx422_1⟩ := at_T23 HR0.out x6_1 p422 q422
   have hw422_1 := hx422_1
   have hw422_0 := hx422_0
   cases e422
   replace hx422_0 := (HB.out.cell (World.block_lt_of_cell? w _ hx422_0)).trans hx422_0
   replace hx422_1 := (HB.out.cell (World.block_lt_of_cell? w _ hx422_1)).trans hx422_1
   replace p422 := eq_true p422
   replace q422 := eq_true q422
   refine start_ (n := 6) (S := fun w' => w'.cell? ⟨gb419, 0, none⟩ = some (.int .i64 a1_0) ∧ w'.cell? ⟨gb419, 1, none⟩ = some (.int .i64 a1_1) ∧ w'.cell? (ad422.add ((x6_1).toNat * 2)) = some (.int .i64 ((rd_T23 l0 x6_1).f0)) ∧ w'.cell? ⟨(ad422.add ((x6_1).toNat * 2)).block, (ad422.add ((x6_1).toNat * 2)).off + 1, none⟩ = some (.int .i64 ((rd_T23 l0 x6_1).f1))) (ds := []) #[false, false, false, false, false, false] (by kernel_rfl) rfl rfl ⟨(blk_cell BK419.out 0).trans rfl, (blk_cell BK419.out 1).trans rfl, ((HB.out.cell (World.block_lt_of_cell? w _ hw422_0)).trans hw422_0), ((HB.out.cell (World.block_lt_of_cell? w _ hw422_1)).trans hw422_1)⟩ (fun hHeld => ?_)
   generalize wr.drew = w17 at BK419 BK420 BK421 HB hx422_0 hx422_1 hHeld ⊢
   refine pure_ (i := 0) (N := some 15) (v := ?_) (a' := ?_) #[true, false, false, false, false, false] rfl rfl (by kernel_rfl) (fun _ _ _ h => h) (Or.inl ⟨by rfl, ?_⟩) ?_ ?_
   rotate_left
   ·
    intro w'
    go_simp
    with_reducible rfl
   rotate_left
   ·
    simp only [Act.put, List.setIfInBounds_toArray, List.set_cons_zero, List.set_cons_succ, i64_w, i32_w]
    rfl
   refine pure_ (i := 1) (N := some 16) (v := ?_) (a' := ?_) #[true, true, false, false, false, false] rfl rfl (by kernel_rfl) (fun _ _ _ h => h) (Or.inl ⟨by rfl, ?_⟩) ?_ ?_
   rotate_left
   ·
    intro w'
    go_simp
    with_reducible rfl
   rotate_left
   ·
    simp only [Act.put, List.setIfInBounds_toArray, List.set_cons_zero, List.set_cons_succ, i64_w, i32_w]
    rfl
   refine pure_ (i := 2) (N := some 17) (v := ?_) (a' := ?_) #[true, true, true, false, false, false] rfl rfl (by kernel_rfl) (fun _ _ _ h => h) (Or.inl ⟨by rfl, ?_⟩) ?_ ?_
   rotate_left
   ·
    intro w'
    go_simp
    with_reducible rfl
   rotate_left
   ·
    simp only [Act.put, List.setIfInBounds_toArray, List.set_cons_zero, List.set_cons_succ, i64_w, i32_w]
    rfl
   refine take_ (i := 3) (N := some 18) (v := ?_) (a' := ?_) #[true, true, true, true, false, false] rfl rfl (by kernel_rfl) (fun _ _ _ h => h) (Or.inl ⟨by rfl, ?_⟩) hHeld ?_ ?_
   rotate_left
   ·
    rintro w' ⟨s0, s1, s2, s3⟩
    go_simp
    with_reducible rfl
   rotate_left
   ·
    simp only [Act.put, List.setIfInBounds_toArray, List.set_cons_zero, List.set_cons_succ, i64_w, i32_w]
    rfl
   refine take_ (i := 4) (N := some 19) (v := ?_) (a' := ?_) #[true, true, true, true, true, false] rfl rfl (by kernel_rfl) (fun _ _ _ h => h) (Or.inl ⟨by rfl, ?_⟩) hHeld ?_ ?_
   rotate_left
   ·
    rintro w' ⟨s0, s1, s2, s3⟩
    go_simp
    with_reducible rfl
   rotate_left
   ·
    simp only [Act.put, List.setIfInBounds_toArray, List.set_cons_zero, List.set_cons_succ, i64_w, i32_w]
    rfl
   refine pure_ (i := 5) (N := some 20) (v := ?_) (a' := ?_) #[true, true, true, true, true, true] rfl rfl (by kernel_rfl) (fun _ _ _ h => h) (Or.inl ⟨by rfl, ?_⟩) ?_ ?_
   rotate_left
   ·
    intro w'
    go_simp
    with_reducible rfl
   rotate_left
   ·
    simp only [Act.put, List.setIfInBounds_toArray, List.set_cons_zero, List.set_cons_succ, i64_w, i32_w]
    rfl
   refine done_ (by kernel_rfl) ?_
   try go_wp2
   replace BK419 := Aside0.mk (blk_drew BK419.out); replace BK420 := Aside0.mk (blk_drew BK420.out); replace BK421 := Aside0.mk (blk_drew BK421.out); replace HB := Aside0.mk (below_drew1 HB.out)
   have p423 : 0 ≤ (x6_1 : Int) := of_decide_eq_true (by first | (with_reducible assumption) | assumption)
   have q423 : x6_1 < (l0.length : Int) := of_decide_eq_true (by first | (with_reducible assumption) | assumption)
   obtain ⟨ad423, e423, hx423_0, hx423_1⟩ := at_T23 HR0.out x6_1 p423 q423
   have hw423_1 := hx423_1
   have hw423_0 := hx423_0
   obtain rfl : ad422 = ad423 := (by injection e423)
   replace hx423_0 := (HB.out.cell (World.block_lt_of_cell? w _ hx423_0)).trans hx423_0
   replace hx423_1 := (HB.out.cell (World.block_lt_of_cell? w _ hx423_1)).trans hx423_1
   replace p423 := eq_true p423
   replace q423 := eq_true q423
   refine start_ (n := 8) (S := fun w' => w'.cell? ⟨gb419, 0, none⟩ = some (.int .i64 a1_0) ∧ w'.cell? ⟨gb419, 1, none⟩ = some (.int .i64 a1_1) ∧ w'.cell? ⟨gb421, 0, none⟩ = some (.int .i64 x422000_1) ∧ w'.cell? ⟨gb421, 1, none⟩ = some (.int .i64 x422001_1) ∧ w'.cell? (ad422.add ((x6_1).toNat * 2)) = some (.int .i64 ((rd_T23 l0 x6_1).f0)) ∧ w'.cell? ⟨(ad422.add ((x6_1).toNat * 2)).block, (ad422.add ((x6_1).toNat * 2)).off + 1, none⟩ = some (.int .i64 ((rd_T23 l0 x6_1).f1))) (ds := []) #[false, false, false, false, false, false, false, false] (by kernel_rfl) rfl rfl ⟨(blk_cell BK419.out 0).trans rfl, (blk_cell BK419.out 1).trans rfl, (blk_cell BK421.out 0).trans rfl, (blk_cell BK421.out 1).trans rfl, ((HB.out.cell (World.block_lt_of_cell? w _ hw423_0)).trans hw423_0), ((HB.out.cell (World.block_lt_of_cell? w _ hw423_1)).trans hw423_1)⟩ (fun hHeld => ?_); refine with_tabW dancestudioref03_next.tab6 dancestudioref03_next.bits6 (fun HT_ HW_ => ?_)
   generalize w17.drew = w18 at BK419 BK420 BK421 HB hx423_0 hx423_1 hHeld ⊢
   refine pure_ (i := 2) (N := some 23) (v := ?_) (a' := ?_) #[false, false, true, false, false, false, false, false] rfl rfl (any_of HT_.out (by kernel_rfl)) (fun _ _ _ h => h) (Or.inl ⟨by rfl, ?_⟩) ?_ ?_
   rotate_left
   ·
    intro w'
    go_simp
    with_reducible rfl
   rotate_left
   ·
    simp only [Act.put, List.setIfInBounds_toArray, List.set_cons_zero, List.set_cons_succ, i64_w, i32_w]
    rfl
   refine pure_ (i := 3) (N := some 24) (v := ?_) (a' := ?_) #[false, false, true, true, false, false, false, false] rfl rfl (any_of HT_.out (by kernel_rfl)) (fun _ _ _ h => h) (Or.inl ⟨by rfl, ?_⟩) ?_ ?_
   rotate_left
   ·
    intro w'
    go_simp
    with_reducible rfl
   rotate_left
   ·
    simp only [Act.put, List.setIfInBounds_toArray, List.set_cons_zero, List.set_cons_succ, i64_w, i32_w]
    rfl
   refine pure_ (i := 4) (N := some 25) (v := ?_) (a' := ?_) #[false, false, true, true, true, false, false, false] rfl rfl (any_of HT_.out (by kernel_rfl)) (fun _ _ _ h => h) (Or.inl ⟨by rfl, ?_⟩) ?_ ?_
   rotate_left
   ·
    intro w'
    go_simp
    with_reducible rfl
   rotate_left
   ·
    simp only [Act.put, List.setIfInBounds_toArray, List.set_cons_zero, List.set_cons_succ, i64_w, i32_w]
    rfl
   refine take_ (i := 0) (N := some 21) (v := ?_) (a' := ?_) #[true, false, true, true, true, false, false, false] rfl rfl (take_ofW HT_.out HW_.out (by kernel_rfl)) (fun _ _ _ h => h) (Or.inl ⟨by rfl, ?_⟩) hHeld ?_ ?_
   rotate_left
   ·
    rintro w' ⟨s0, s1, s2, s3, s4, s5⟩
    go_simp
    with_reducible rfl
   rotate_left
   ·
    simp only [Act.put, List.setIfInBounds_toArray, List.set_cons_zero, List.set_cons_succ, i64_w, i32_w]
    rfl
   refine take_ (i := 1) (N := some 22) (v := ?_) (a' := ?_) #[true, true, true, true, true, false, false, false] rfl rfl (take_ofW HT_.out HW_.out (by kernel_rfl)) (fun _ _ _ h => h) (Or.inl ⟨by rfl, ?_⟩) hHeld ?_ ?_
   rotate_left
   ·
    rintro w' ⟨s0, s1, s2, s3, s4, s5⟩
    go_simp
    with_reducible rfl
   rotate_left
   ·
    simp only [Act.put, List.setIfInBounds_toArray, List.set_cons_zero, List.set_cons_succ, i64_w, i32_w]
    rfl
   refine take_ (i := 5) (N := some 26) (v := ?_) (a' := ?_) #[true, true, true, true, true, true, false, false] rfl rfl (take_ofW HT_.out HW_.out (by kernel_rfl)) (fun _ _ _ h => h) (Or.inl ⟨by rfl, ?_⟩) hHeld ?_ ?_
   rotate_left
   ·
    rintro w' ⟨s0, s1, s2, s3, s4, s5⟩
    go_simp
    with_reducible rfl
   rotate_left
   ·
    simp only [Act.put, List.setIfInBounds_toArray, List.set_cons_zero, List.set_cons_succ, i64_w, i32_w]
    rfl
   refine one_ (i := 6) (N := some 27) #[true, true, true, true, true, true, true, false] rfl rfl (one_of HT_.out (by kernel_rfl)) (by decide) (fun K hK => ?_)
   refine goes_ Try.func34 (by kernel_rfl) rfl #[.agg #[.int .i64 a1_0, .int .i64 a1_1], .agg #[.int .i64 x422000_1, .int .i64 x422001_1], .agg #[.int .i64 ((rd_T23 l0 x6_1).f0), .int .i64 ((rd_T23 l0 x6_1).f1)]] (by rfl) rfl rfl (by (try simp only [List.map_toArray, List.map_cons, List.map_nil]); first | done | rfl | (simp only [List.length_drop, List.length_take]; rfl)) ?_
   with_reducible refine (dancestudioref03_cross.calls a1_0 a1_1 x422000_1 x422001_1 ((rd_T23 l0 x6_1).f0) ((rd_T23 l0 x6_1).f1) t424 _ A15.out).mono ?_
   rintro e w19 ⟨rfl, hb⟩
   refine ⟨_, rfl, ?_⟩
   replace BK419 := mBb BK419 hb; replace BK420 := mBb BK420 hb; replace BK421 := mBb BK421 hb; replace HB := mSt HB hb
   (try clear hb)
   (try clear hb2)
   (try clear hk)
   (try clear hi)
   refine hK.out _ _ ⟨blk_cell BK419.out 0, blk_cell BK419.out 1, blk_cell BK421.out 0, blk_cell BK421.out 1, ((HB.out.cell (World.block_lt_of_cell? w _ hw423_0)).trans hw423_0), ((HB.out.cell (World.block_lt_of_cell? w _ hw423_1)).trans hw423_1)⟩ (fun hHeld => ?_)
   clear hK K
   refine norm_ (a' := ?_) ?_ ?_
   rotate_left
   ·
    show Act.put _ (some 27) _ = _
    simp only [Act.put, List.setIfInBounds_toArray, List.set_cons_zero, List.set_cons_succ, i64_w, i32_w]
    rfl
   refine pure_ (i := 7) (N := some 7) (v := ?_) (a' := ?_) #[true, true, true, true, true, true, true, true] rfl rfl (any_of HT_.out (by kernel_rfl)) (fun _ _ _ h => h) (Or.inl ⟨by rfl, ?_⟩) ?_ ?_
   rotate_left
   ·
    intro w'
    go_simp
    with_reducible rfl
   rotate_left
   ·
    simp only [Act.put, List.setIfInBounds_toArray, List.set_cons_zero, List.set_cons_succ, i64_w, i32_w]
    rfl
   refine done_ (done_of HT_.out (by kernel_rfl)) ?_
   go_upto_region 7 with (fail)
   go_cut [50] (fun v50 wc => ∃ (kq : Nat) (x50_15 : Bool), v50 = .bool x50_15 ∧ Aside0 (dancestudioref03_next.j1 kq l0 x6_1 x50_15 a1_0 a1_1 x422000_1 x422001_1 = some (r1, r2)) ∧ Aside0 (kq ≤ k1) ∧ Aside0 (wc.heap[gb419]? = some (.cells #[.int .i64 a1_0, .int .i64 a1_1] 23 (0, 0))) ∧ Aside0 (wc.heap[gb420]? = some (.cells #[.int .i64 0, .int .i64 0] 23 (0, 0))) ∧ Aside0 (wc.heap[gb421]? = some (.cells #[.int .i64 x422000_1, .int .i64 x422001_1] 23 (0, 0))) ∧ Aside0 (Below w.heap.size w wc))
   case first =>
    have H := HC16.out
    clear HC16
    by_cases c20 : (x422000_1 == a1_0 && (x422001_1 == a1_1)) = true
    ·
     rw [if_pos c20] at H
     have c20b0 : (x422000_1 == a1_0 && (x422001_1 == a1_1)) = true := c20
     (try (have c20b1 : decide (x422000_1 = a1_0 && (x422001_1 == a1_1)) = true := by simpa using c20))
     (try (have c20b2 : (x422000_1 == a1_0 && (x422001_1 == a1_1)) = true := by simpa using c20))
     clear c20
     (first | rw [c20b0] | (simp only [i64_w, i32_w]; rw [c20b0]) | skip)
     have H' := Aside0.mk H
     clear H
     try go_wp2
     replace BK419 := Aside0.mk (blk_drew BK419.out); replace BK420 := Aside0.mk (blk_drew BK420.out); replace BK421 := Aside0.mk (blk_drew BK421.out); replace HB := Aside0.mk (below_drew1 HB.out)
     refine start_ (n := 23) (S := fun w' => w'.cell? ⟨gb421, 0, none⟩ = some (.int .i64 x422000_1) ∧ w'.cell? ⟨gb421, 1, none⟩ = some (.int .i64 x422001_1) ∧ w'.cell? ⟨gb419, 0, none⟩ = some (.int .i64 a1_0) ∧ w'.cell? ⟨gb419, 1, none⟩ = some (.int .i64 a1_1)) (ds := []) #[false, false, false, false, false, false, false, false, false, false, false, false, false, false, false, false, false, false, false, false, false, false, false] (by kernel_rfl) rfl rfl ⟨(blk_cell BK421.out 0).trans rfl, (blk_cell BK421.out 1).trans rfl, (blk_cell BK419.out 0).trans rfl, (blk_cell BK419.out 1).trans rfl⟩ (fun hHeld => ?_); refine with_tabW dancestudioref03_next.tab7 dancestudioref03_next.bits7 (fun HT_ HW_ => ?_)
     generalize w19.drew = w21 at BK419 BK420 BK421 HB hHeld ⊢
     refine take_ (i := 0) (N := some 28) (v := ?_) (a' := ?_) #[true, false, false, false, false, false, false, false, false, false, false, false, false, false, false, false, false, false, false, false, false, false, false] rfl rfl (take_ofW HT_.out HW_.out (by kernel_rfl)) (fun _ _ _ h => h) (Or.inl ⟨by rfl, ?_⟩) hHeld ?_ ?_
     rotate_left
     ·
      rintro w' ⟨s0, s1, s2, s3⟩
      go_simp
      with_reducible rfl
     rotate_left
     ·
      simp only [Act.put, List.setIfInBounds_toArray, List.set_cons_zero, List.set_cons_succ, i64_w, i32_w]
      rfl
     refine take_ (i := 1) (N := some 29) (v := ?_) (a' := ?_) #[true, true, false, false, false, false, false, false, false, false, false, false, false, false, false, false, false, false, false, false, false, false, false] rfl rfl (take_ofW HT_.out HW_.out (by kernel_rfl)) (fun _ _ _ h => h) (Or.inl ⟨by rfl, ?_⟩) hHeld ?_ ?_
     rotate_left
     ·
      rintro w' ⟨s0, s1, s2, s3⟩
      go_simp
      with_reducible rfl
     rotate_left
     ·
      simp only [Act.put, List.setIfInBounds_toArray, List.set_cons_zero, List.set_cons_succ, i64_w, i32_w]
      rfl
     refine pure_ (i := 2) (N := some 30) (v := ?_) (a' := ?_) #[true, true, true, false, false, false, false, false, false, false, false, false, false, false, false, false, false, false, false, false, false, false, false] rfl rfl (any_of HT_.out (by kernel_rfl)) (fun _ _ _ h => h) (Or.inl ⟨by rfl, ?_⟩) ?_ ?_
     rotate_left
     ·
      intro w'
      go_simp
      with_reducible rfl
     rotate_left
     ·
      simp only [Act.put, List.setIfInBounds_toArray, List.set_cons_zero, List.set_cons_succ, i64_w, i32_w]
      rfl
     refine pure_ (i := 3) (N := some 31) (v := ?_) (a' := ?_) #[true, true, true, true, false, false, false, false, false, false, false, false, false, false, false, false, false, false, false, false, false, false, false] rfl rfl (any_of HT_.out (by kernel_rfl)) (fun _ _ _ h => h) (Or.inl ⟨by rfl, ?_⟩) ?_ ?_
     rotate_left
     ·
      intro w'
      go_simp
      with_reducible rfl
     rotate_left
     ·
      simp only [Act.put, List.setIfInBounds_toArray, List.set_cons_zero, List.set_cons_succ, i64_w, i32_w]
      rfl
     refine pure_ (i := 4) (N := some 32) (v := undef) (a' := ?_) #[true, true, true, true, true, false, false, false, false, false, false, false, false, false, false, false, false, false, false, false, false, false, false] rfl rfl (any_of HT_.out (by kernel_rfl)) (fun _ _ _ h => h) (Or.inr ⟨by rfl, rfl⟩) ?_ ?_
     rotate_left
     ·
      simp only [Act.put, List.setIfInBounds_toArray, List.set_cons_zero, List.set_cons_succ, i64_w, i32_w]
      rfl
     refine pure_ (i := 5) (N := some 33) (v := undef) (a' := ?_) #[true, true, true, true, true, true, false, false, false, false, false, false, false, false, false, false, false, false, false, false, false, false, false] rfl rfl (any_of HT_.out (by kernel_rfl)) (fun _ _ _ h => h) (Or.inr ⟨by rfl, rfl⟩) ?_ ?_
     rotate_left
     ·
      simp only [Act.put, List.setIfInBounds_toArray, List.set_cons_zero, List.set_cons_succ, i64_w, i32_w]
      rfl
     refine pure_ (i := 6) (N := some 34) (v := ?_) (a' := ?_) #[true, true, true, true, true, true, true, false, false, false, false, false, false, false, false, false, false, false, false, false, false, false, false] rfl rfl (any_of HT_.out (by kernel_rfl)) (fun _ _ _ h => h) (Or.inl ⟨by rfl, ?_⟩) ?_ ?_
     rotate_left
     ·
      intro w'
      go_simp
      with_reducible rfl
     rotate_left
     ·
      simp only [Act.put, List.setIfInBounds_toArray, List.set_cons_zero, List.set_cons_succ, i64_w, i32_w]
      rfl
     refine pure_ (i := 7) (N := some 35) (v := ?_) (a' := ?_) #[true, true, true, true, true, true, true, true, false, false, false, false, false, false, false, false, false, false, false, false, false, false, false] rfl rfl (any_of HT_.out (by kernel_rfl)) (fun _ _ _ h => h) (Or.inl ⟨by rfl, ?_⟩) ?_ ?_
     rotate_left
     ·
      intro w'
      go_simp
      with_reducible rfl
     rotate_left
     ·
      simp only [Act.put, List.setIfInBounds_toArray, List.set_cons_zero, List.set_cons_succ, i64_w, i32_w]
      rfl
     refine pure_ (i := 8) (N := some 36) (v := undef) (a' := ?_) #[true, true, true, true, true, true, true, true, true, false, false, false, false, false, false, false, false, false, false, false, false, false, false] rfl rfl (any_of HT_.out (by kernel_rfl)) (fun _ _ _ h => h) (Or.inr ⟨by rfl, rfl⟩) ?_ ?_
     rotate_left
     ·
      simp only [Act.put, List.setIfInBounds_toArray, List.set_cons_zero, List.set_cons_succ, i64_w, i32_w]
      rfl
     refine pure_ (i := 9) (N := some 37) (v := undef) (a' := ?_) #[true, true, true, true, true, true, true, true, true, true, false, false, false, false, false, false, false, false, false, false, false, false, false] rfl rfl (any_of HT_.out (by kernel_rfl)) (fun _ _ _ h => h) (Or.inr ⟨by rfl, rfl⟩) ?_ ?_
     rotate_left
     ·
      simp only [Act.put, List.setIfInBounds_toArray, List.set_cons_zero, List.set_cons_succ, i64_w, i32_w]
      rfl
     refine pure_ (i := 10) (N := some 38) (v := undef) (a' := ?_) #[true, true, true, true, true, true, true, true, true, true, true, false, false, false, false, false, false, false, false, false, false, false, false] rfl rfl (any_of HT_.out (by kernel_rfl)) (fun _ _ _ h => h) (Or.inr ⟨by rfl, rfl⟩) ?_ ?_
     rotate_left
     ·
      simp only [Act.put, List.setIfInBounds_toArray, List.set_cons_zero, List.set_cons_succ, i64_w, i32_w]
      rfl
     refine pure_ (i := 11) (N := some 39) (v := undef) (a' := ?_) #[true, true, true, true, true, true, true, true, true, true, true, true, false, false, false, false, false, false, false, false, false, false, false] rfl rfl (any_of HT_.out (by kernel_rfl)) (fun _ _ _ h => h) (Or.inr ⟨by rfl, rfl⟩) ?_ ?_
     rotate_left
     ·
      simp only [Act.put, List.setIfInBounds_toArray, List.set_cons_zero, List.set_cons_succ, i64_w, i32_w]
      rfl
     refine pure_ (i := 12) (N := some 40) (v := undef) (a' := ?_) #[true, true, true, true, true, true, true, true, true, true, true, true, true, false, false, false, false, false, false, false, false, false, false] rfl rfl (any_of HT_.out (by kernel_rfl)) (fun _ _ _ h => h) (Or.inr ⟨by rfl, rfl⟩) ?_ ?_
     rotate_left
     ·
      simp only [Act.put, List.setIfInBounds_toArray, List.set_cons_zero, List.set_cons_succ, i64_w, i32_w]
      rfl
     refine pure_ (i := 13) (N := some 41) (v := undef) (a' := ?_) #[true, true, true, true, true, true, true, true, true, true, true, true, true, true, false, false, false, false, false, false, false, false, false] rfl rfl (any_of HT_.out (by kernel_rfl)) (fun _ _ _ h => h) (Or.inr ⟨by rfl, rfl⟩) ?_ ?_
     rotate_left
     ·
      simp only [Act.put, List.setIfInBounds_toArray, List.set_cons_zero, List.set_cons_succ, i64_w, i32_w]
      rfl
     refine pure_ (i := 14) (N := some 42) (v := undef) (a' := ?_) #[true, true, true, true, true, true, true, true, true, true, true, true, true, true, true, false, false, false, false, false, false, false, false] rfl rfl (any_of HT_.out (by kernel_rfl)) (fun _ _ _ h => h) (Or.inr ⟨by rfl, rfl⟩) ?_ ?_
     rotate_left
     ·
      simp only [Act.put, List.setIfInBounds_toArray, List.set_cons_zero, List.set_cons_succ, i64_w, i32_w]
      rfl
     refine pure_ (i := 15) (N := some 43) (v := undef) (a' := ?_) #[true, true, true, true, true, true, true, true, true, true, true, true, true, true, true, true, false, false, false, false, false, false, false] rfl rfl (any_of HT_.out (by kernel_rfl)) (fun _ _ _ h => h) (Or.inr ⟨by rfl, rfl⟩) ?_ ?_
     rotate_left
     ·
      simp only [Act.put, List.setIfInBounds_toArray, List.set_cons_zero, List.set_cons_succ, i64_w, i32_w]
      rfl
     refine pure_ (i := 16) (N := some 44) (v := undef) (a' := ?_) #[true, true, true, true, true, true, true, true, true, true, true, true, true, true, true, true, true, false, false, false, false, false, false] rfl rfl (any_of HT_.out (by kernel_rfl)) (fun _ _ _ h => h) (Or.inr ⟨by rfl, rfl⟩) ?_ ?_
     rotate_left
     ·
      simp only [Act.put, List.setIfInBounds_toArray, List.set_cons_zero, List.set_cons_succ, i64_w, i32_w]
      rfl
     refine pure_ (i := 17) (N := some 45) (v := undef) (a' := ?_) #[true, true, true, true, true, true, true, true, true, true, true, true, true, true, true, true, true, true, false, false, false, false, false] rfl rfl (any_of HT_.out (by kernel_rfl)) (fun _ _ _ h => h) (Or.inr ⟨by rfl, rfl⟩) ?_ ?_
     rotate_left
     ·
      simp only [Act.put, List.setIfInBounds_toArray, List.set_cons_zero, List.set_cons_succ, i64_w, i32_w]
      rfl
     refine pure_ (i := 18) (N := some 46) (v := undef) (a' := ?_) #[true, true, true, true, true, true, true, true, true, true, true, true, true, true, true, true, true, true, true, false, false, false, false] rfl rfl (any_of HT_.out (by kernel_rfl)) (fun _ _ _ h => h) (Or.inr ⟨by rfl, rfl⟩) ?_ ?_
     rotate_left
     ·
      simp only [Act.put, List.setIfInBounds_toArray, List.set_cons_zero, List.set_cons_succ, i64_w, i32_w]
      rfl
     refine pure_ (i := 19) (N := some 47) (v := undef) (a' := ?_) #[true, true, true, true, true, true, true, true, true, true, true, true, true, true, true, true, true, true, true, true, false, false, false] rfl rfl (any_of HT_.out (by kernel_rfl)) (fun _ _ _ h => h) (Or.inr ⟨by rfl, rfl⟩) ?_ ?_
     rotate_left
     ·
      simp only [Act.put, List.setIfInBounds_toArray, List.set_cons_zero, List.set_cons_succ, i64_w, i32_w]
      rfl
     refine pure_ (i := 20) (N := some 48) (v := undef) (a' := ?_) #[true, true, true, true, true, true, true, true, true, true, true, true, true, true, true, true, true, true, true, true, true, false, false] rfl rfl (any_of HT_.out (by kernel_rfl)) (fun _ _ _ h => h) (Or.inr ⟨by rfl, rfl⟩) ?_ ?_
     rotate_left
     ·
      simp only [Act.put, List.setIfInBounds_toArray, List.set_cons_zero, List.set_cons_succ, i64_w, i32_w]
      rfl
     refine pure_ (i := 21) (N := some 49) (v := undef) (a' := ?_) #[true, true, true, true, true, true, true, true, true, true, true, true, true, true, true, true, true, true, true, true, true, true, false] rfl rfl (any_of HT_.out (by kernel_rfl)) (fun _ _ _ h => h) (Or.inr ⟨by rfl, rfl⟩) ?_ ?_
     rotate_left
     ·
      simp only [Act.put, List.setIfInBounds_toArray, List.set_cons_zero, List.set_cons_succ, i64_w, i32_w]
      rfl
     refine pure_ (i := 22) (N := some 50) (v := ?_) (a' := ?_) #[true, true, true, true, true, true, true, true, true, true, true, true, true, true, true, true, true, true, true, true, true, true, true] rfl rfl (any_of HT_.out (by kernel_rfl)) (fun _ _ _ h => h) (Or.inl ⟨by rfl, ?_⟩) ?_ ?_
     rotate_left
     ·
      intro w'
      go_simp
      with_reducible rfl
     rotate_left
     ·
      simp only [Act.put, List.setIfInBounds_toArray, List.set_cons_zero, List.set_cons_succ, i64_w, i32_w]
      rfl
     refine done_ (done_of HT_.out (by kernel_rfl)) ?_
     try go_wp2
     go_meet
     case rel => exact ⟨_, (true), (by first | rfl | (simp; done) | (simp [*]; done)), H', ⟨by have := HK1.out; first | omega | exact Nat.le_refl _⟩, ⟨BK419.out⟩, ⟨BK420.out⟩, ⟨BK421.out⟩, ⟨HB.out⟩⟩
    rw [if_neg c20] at H
    have c20b0 : (x422000_1 == a1_0 && (x422001_1 == a1_1)) = false := by simpa using c20
    (try (have c20b1 : decide (x422000_1 = a1_0 && (x422001_1 == a1_1)) = false := by simpa using c20))
    (try (have c20b2 : (x422000_1 == a1_0 && (x422001_1 == a1_1)) = false := by simpa using c20))
    (try (have c20b3 : ¬ (x422000_1 = a1_0 && (x422001_1 == a1_1)) := by simpa using c20))
    clear c20
    (first | rw [c20b0] | (simp only [i64_w, i32_w]; rw [c20b0]) | skip)
    by_cases c22 : t424 < 0
    ·
     rw [if_pos c22] at H
     have c22b0 : decide (t424 < 0) = true := decide_eq_true c22
     clear c22
     have H' := Aside0.mk H
     clear H
     try go_wp2
     replace BK419 := Aside0.mk (blk_drew BK419.out); replace BK420 := Aside0.mk (blk_drew BK420.out); replace BK421 := Aside0.mk (blk_drew BK421.out); replace HB := Aside0.mk (below_drew1 HB.out)
     refine start_ (n := 23) (S := fun w' => w'.cell? ⟨gb421, 0, none⟩ = some (.int .i64 x422000_1) ∧ w'.cell? ⟨gb421, 1, none⟩ = some (.int .i64 x422001_1) ∧ w'.cell? ⟨gb419, 0, none⟩ = some (.int .i64 a1_0) ∧ w'.cell? ⟨gb419, 1, none⟩ = some (.int .i64 a1_1)) (ds := []) #[false, false, false, false, false, false, false, false, false, false, false, false, false, false, false, false, false, false, false, false, false, false, false] (by kernel_rfl) rfl rfl ⟨(blk_cell BK421.out 0).trans rfl, (blk_cell BK421.out 1).trans rfl, (blk_cell BK419.out 0).trans rfl, (blk_cell BK419.out 1).trans rfl⟩ (fun hHeld => ?_); refine with_tabW dancestudioref03_next.tab7 dancestudioref03_next.bits7 (fun HT_ HW_ => ?_)
     generalize w19.drew = w23 at BK419 BK420 BK421 HB hHeld ⊢
     refine take_ (i := 0) (N := some 28) (v := ?_) (a' := ?_) #[true, false, false, false, false, false, false, false, false, false, false, false, false, false, false, false, false, false, false, false, false, false, false] rfl rfl (take_ofW HT_.out HW_.out (by kernel_rfl)) (fun _ _ _ h => h) (Or.inl ⟨by rfl, ?_⟩) hHeld ?_ ?_
     rotate_left
     ·
      rintro w' ⟨s0, s1, s2, s3⟩
      go_simp
      with_reducible rfl
     rotate_left
     ·
      simp only [Act.put, List.setIfInBounds_toArray, List.set_cons_zero, List.set_cons_succ, i64_w, i32_w]
      rfl
     refine take_ (i := 1) (N := some 29) (v := ?_) (a' := ?_) #[true, true, false, false, false, false, false, false, false, false, false, false, false, false, false, false, false, false, false, false, false, false, false] rfl rfl (take_ofW HT_.out HW_.out (by kernel_rfl)) (fun _ _ _ h => h) (Or.inl ⟨by rfl, ?_⟩) hHeld ?_ ?_
     rotate_left
     ·
      rintro w' ⟨s0, s1, s2, s3⟩
      go_simp
      with_reducible rfl
     rotate_left
     ·
      simp only [Act.put, List.setIfInBounds_toArray, List.set_cons_zero, List.set_cons_succ, i64_w, i32_w]
      rfl
     refine pure_ (i := 2) (N := some 30) (v := ?_) (a' := ?_) #[true, true, true, false, false, false, false, false, false, false, false, false, false, false, false, false, false, false, false, false, false, false, false] rfl rfl (any_of HT_.out (by kernel_rfl)) (fun _ _ _ h => h) (Or.inl ⟨by rfl, ?_⟩) ?_ ?_
     rotate_left
     ·
      intro w'
      go_simp
      with_reducible rfl
     rotate_left
     ·
      simp only [Act.put, List.setIfInBounds_toArray, List.set_cons_zero, List.set_cons_succ, i64_w, i32_w]
      rfl
     refine pure_ (i := 3) (N := some 31) (v := ?_) (a' := ?_) #[true, true, true, true, false, false, false, false, false, false, false, false, false, false, false, false, false, false, false, false, false, false, false] rfl rfl (any_of HT_.out (by kernel_rfl)) (fun _ _ _ h => h) (Or.inl ⟨by rfl, ?_⟩) ?_ ?_
     rotate_left
     ·
      intro w'
      go_simp
      with_reducible rfl
     rotate_left
     ·
      simp only [Act.put, List.setIfInBounds_toArray, List.set_cons_zero, List.set_cons_succ, i64_w, i32_w]
      rfl
     refine pure_ (i := 4) (N := some 32) (v := ?_) (a' := ?_) #[true, true, true, true, true, false, false, false, false, false, false, false, false, false, false, false, false, false, false, false, false, false, false] rfl rfl (any_of HT_.out (by kernel_rfl)) (fun _ _ _ h => h) (Or.inl ⟨by rfl, ?_⟩) ?_ ?_
     rotate_left
     ·
      intro w'
      go_simp
      with_reducible rfl
     rotate_left
     ·
      simp only [Act.put, List.setIfInBounds_toArray, List.set_cons_zero, List.set_cons_succ, i64_w, i32_w]
      rfl
     refine pure_ (i := 5) (N := some 33) (v := ?_) (a' := ?_) #[true, true, true, true, true, true, false, false, false, false, false, false, false, false, false, false, false, false, false, false, false, false, false] rfl rfl (any_of HT_.out (by kernel_rfl)) (fun _ _ _ h => h) (Or.inl ⟨by rfl, ?_⟩) ?_ ?_
     rotate_left
     ·
      intro w'
      go_simp
      with_reducible rfl
     rotate_left
     ·
      simp only [Act.put, List.setIfInBounds_toArray, List.set_cons_zero, List.set_cons_succ, i64_w, i32_w]
      rfl
     refine pure_ (i := 6) (N := some 34) (v := ?_) (a' := ?_) #[true, true, true, true, true, true, true, false, false, false, false, false, false, false, false, false, false, false, false, false, false, false, false] rfl rfl (any_of HT_.out (by kernel_rfl)) (fun _ _ _ h => h) (Or.inl ⟨by rfl, ?_⟩) ?_ ?_
     rotate_left
     ·
      intro w'
      go_simp
      with_reducible rfl
     rotate_left
     ·
      simp only [Act.put, List.setIfInBounds_toArray, List.set_cons_zero, List.set_cons_succ, i64_w, i32_w]
      rfl
     refine pure_ (i := 7) (N := some 35) (v := ?_) (a' := ?_) #[true, true, true, true, true, true, true, true, false, false, false, false, false, false, false, false, false, false, false, false, false, false, false] rfl rfl (any_of HT_.out (by kernel_rfl)) (fun _ _ _ h => h) (Or.inl ⟨by rfl, ?_⟩) ?_ ?_
     rotate_left
     ·
      intro w'
      go_simp
      with_reducible rfl
     rotate_left
     ·
      simp only [Act.put, List.setIfInBounds_toArray, List.set_cons_zero, List.set_cons_succ, i64_w, i32_w]
      rfl
     refine pure_ (i := 8) (N := some 36) (v := undef) (a' := ?_) #[true, true, true, true, true, true, true, true, true, false, false, false, false, false, false, false, false, false, false, false, false, false, false] rfl rfl (any_of HT_.out (by kernel_rfl)) (fun _ _ _ h => h) (Or.inr ⟨by rfl, rfl⟩) ?_ ?_
     rotate_left
     ·
      simp only [Act.put, List.setIfInBounds_toArray, List.set_cons_zero, List.set_cons_succ, i64_w, i32_w]
      rfl
     refine pure_ (i := 9) (N := some 37) (v := undef) (a' := ?_) #[true, true, true, true, true, true, true, true, true, true, false, false, false, false, false, false, false, false, false, false, false, false, false] rfl rfl (any_of HT_.out (by kernel_rfl)) (fun _ _ _ h => h) (Or.inr ⟨by rfl, rfl⟩) ?_ ?_
     rotate_left
     ·
      simp only [Act.put, List.setIfInBounds_toArray, List.set_cons_zero, List.set_cons_succ, i64_w, i32_w]
      rfl
     refine pure_ (i := 10) (N := some 38) (v := undef) (a' := ?_) #[true, true, true, true, true, true, true, true, true, true, true, false, false, false, false, false, false, false, false, false, false, false, false] rfl rfl (any_of HT_.out (by kernel_rfl)) (fun _ _ _ h => h) (Or.inr ⟨by rfl, rfl⟩) ?_ ?_
     rotate_left
     ·
      simp only [Act.put, List.setIfInBounds_toArray, List.set_cons_zero, List.set_cons_succ, i64_w, i32_w]
      rfl
     refine pure_ (i := 11) (N := some 39) (v := undef) (a' := ?_) #[true, true, true, true, true, true, true, true, true, true, true, true, false, false, false, false, false, false, false, false, false, false, false] rfl rfl (any_of HT_.out (by kernel_rfl)) (fun _ _ _ h => h) (Or.inr ⟨by rfl, rfl⟩) ?_ ?_
     rotate_left
     ·
      simp only [Act.put, List.setIfInBounds_toArray, List.set_cons_zero, List.set_cons_succ, i64_w, i32_w]
      rfl
     refine pure_ (i := 12) (N := some 40) (v := undef) (a' := ?_) #[true, true, true, true, true, true, true, true, true, true, true, true, true, false, false, false, false, false, false, false, false, false, false] rfl rfl (any_of HT_.out (by kernel_rfl)) (fun _ _ _ h => h) (Or.inr ⟨by rfl, rfl⟩) ?_ ?_
     rotate_left
     ·
      simp only [Act.put, List.setIfInBounds_toArray, List.set_cons_zero, List.set_cons_succ, i64_w, i32_w]
      rfl
     refine pure_ (i := 13) (N := some 41) (v := undef) (a' := ?_) #[true, true, true, true, true, true, true, true, true, true, true, true, true, true, false, false, false, false, false, false, false, false, false] rfl rfl (any_of HT_.out (by kernel_rfl)) (fun _ _ _ h => h) (Or.inr ⟨by rfl, rfl⟩) ?_ ?_
     rotate_left
     ·
      simp only [Act.put, List.setIfInBounds_toArray, List.set_cons_zero, List.set_cons_succ, i64_w, i32_w]
      rfl
     refine pure_ (i := 14) (N := some 42) (v := undef) (a' := ?_) #[true, true, true, true, true, true, true, true, true, true, true, true, true, true, true, false, false, false, false, false, false, false, false] rfl rfl (any_of HT_.out (by kernel_rfl)) (fun _ _ _ h => h) (Or.inr ⟨by rfl, rfl⟩) ?_ ?_
     rotate_left
     ·
      simp only [Act.put, List.setIfInBounds_toArray, List.set_cons_zero, List.set_cons_succ, i64_w, i32_w]
      rfl
     refine pure_ (i := 15) (N := some 43) (v := undef) (a' := ?_) #[true, true, true, true, true, true, true, true, true, true, true, true, true, true, true, true, false, false, false, false, false, false, false] rfl rfl (any_of HT_.out (by kernel_rfl)) (fun _ _ _ h => h) (Or.inr ⟨by rfl, rfl⟩) ?_ ?_
     rotate_left
     ·
      simp only [Act.put, List.setIfInBounds_toArray, List.set_cons_zero, List.set_cons_succ, i64_w, i32_w]
      rfl
     refine pure_ (i := 16) (N := some 44) (v := undef) (a' := ?_) #[true, true, true, true, true, true, true, true, true, true, true, true, true, true, true, true, true, false, false, false, false, false, false] rfl rfl (any_of HT_.out (by kernel_rfl)) (fun _ _ _ h => h) (Or.inr ⟨by rfl, rfl⟩) ?_ ?_
     rotate_left
     ·
      simp only [Act.put, List.setIfInBounds_toArray, List.set_cons_zero, List.set_cons_succ, i64_w, i32_w]
      rfl
     refine pure_ (i := 17) (N := some 45) (v := undef) (a' := ?_) #[true, true, true, true, true, true, true, true, true, true, true, true, true, true, true, true, true, true, false, false, false, false, false] rfl rfl (any_of HT_.out (by kernel_rfl)) (fun _ _ _ h => h) (Or.inr ⟨by rfl, rfl⟩) ?_ ?_
     rotate_left
     ·
      simp only [Act.put, List.setIfInBounds_toArray, List.set_cons_zero, List.set_cons_succ, i64_w, i32_w]
      rfl
     refine pure_ (i := 18) (N := some 46) (v := undef) (a' := ?_) #[true, true, true, true, true, true, true, true, true, true, true, true, true, true, true, true, true, true, true, false, false, false, false] rfl rfl (any_of HT_.out (by kernel_rfl)) (fun _ _ _ h => h) (Or.inr ⟨by rfl, rfl⟩) ?_ ?_
     rotate_left
     ·
      simp only [Act.put, List.setIfInBounds_toArray, List.set_cons_zero, List.set_cons_succ, i64_w, i32_w]
      rfl
     refine pure_ (i := 19) (N := some 47) (v := undef) (a' := ?_) #[true, true, true, true, true, true, true, true, true, true, true, true, true, true, true, true, true, true, true, true, false, false, false] rfl rfl (any_of HT_.out (by kernel_rfl)) (fun _ _ _ h => h) (Or.inr ⟨by rfl, rfl⟩) ?_ ?_
     rotate_left
     ·
      simp only [Act.put, List.setIfInBounds_toArray, List.set_cons_zero, List.set_cons_succ, i64_w, i32_w]
      rfl
     refine pure_ (i := 20) (N := some 48) (v := undef) (a' := ?_) #[true, true, true, true, true, true, true, true, true, true, true, true, true, true, true, true, true, true, true, true, true, false, false] rfl rfl (any_of HT_.out (by kernel_rfl)) (fun _ _ _ h => h) (Or.inr ⟨by rfl, rfl⟩) ?_ ?_
     rotate_left
     ·
      simp only [Act.put, List.setIfInBounds_toArray, List.set_cons_zero, List.set_cons_succ, i64_w, i32_w]
      rfl
     refine pure_ (i := 21) (N := some 49) (v := undef) (a' := ?_) #[true, true, true, true, true, true, true, true, true, true, true, true, true, true, true, true, true, true, true, true, true, true, false] rfl rfl (any_of HT_.out (by kernel_rfl)) (fun _ _ _ h => h) (Or.inr ⟨by rfl, rfl⟩) ?_ ?_
     rotate_left
     ·
      simp only [Act.put, List.setIfInBounds_toArray, List.set_cons_zero, List.set_cons_succ, i64_w, i32_w]
      rfl
     refine pure_ (i := 22) (N := some 50) (v := ?_) (a' := ?_) #[true, true, true, true, true, true, true, true, true, true, true, true, true, true, true, true, true, true, true, true, true, true, true] rfl rfl (any_of HT_.out (by kernel_rfl)) (fun _ _ _ h => h) (Or.inl ⟨by rfl, ?_⟩) ?_ ?_
     rotate_left
     ·
      intro w'
      go_simp
      with_reducible rfl
     rotate_left
     ·
      simp only [Act.put, List.setIfInBounds_toArray, List.set_cons_zero, List.set_cons_succ, i64_w, i32_w]
      rfl
     refine done_ (done_of HT_.out (by kernel_rfl)) ?_
     try go_wp2
     go_meet
     case rel => exact ⟨_, (true), (by first | rfl | (simp; done) | (simp [*]; done)), H', ⟨by have := HK1.out; first | omega | exact Nat.le_refl _⟩, ⟨BK419.out⟩, ⟨BK420.out⟩, ⟨BK421.out⟩, ⟨HB.out⟩⟩
    rw [if_neg c22] at H
    have c22b0 : decide (t424 < 0) = false := decide_eq_false c22
    clear c22
    by_cases c24 : t424 = 0
    rotate_left
    ·
     rw [if_neg c24] at H
     have c24b0 : (t424 == 0) = false := beq_eq_false_iff_ne.mpr c24
     have c24b1 : (t424 != 0) = true := bne_iff_ne.mpr c24
     have H' := Aside0.mk H
     clear H
     try go_wp2
     replace BK419 := Aside0.mk (blk_drew BK419.out); replace BK420 := Aside0.mk (blk_drew BK420.out); replace BK421 := Aside0.mk (blk_drew BK421.out); replace HB := Aside0.mk (below_drew1 HB.out)
     refine start_ (n := 23) (S := fun w' => w'.cell? ⟨gb421, 0, none⟩ = some (.int .i64 x422000_1) ∧ w'.cell? ⟨gb421, 1, none⟩ = some (.int .i64 x422001_1) ∧ w'.cell? ⟨gb419, 0, none⟩ = some (.int .i64 a1_0) ∧ w'.cell? ⟨gb419, 1, none⟩ = some (.int .i64 a1_1)) (ds := []) #[false, false, false, false, false, false, false, false, false, false, false, false, false, false, false, false, false, false, false, false, false, false, false] (by kernel_rfl) rfl rfl ⟨(blk_cell BK421.out 0).trans rfl, (blk_cell BK421.out 1).trans rfl, (blk_cell BK419.out 0).trans rfl, (blk_cell BK419.out 1).trans rfl⟩ (fun hHeld => ?_); refine with_tabW dancestudioref03_next.tab7 dancestudioref03_next.bits7 (fun HT_ HW_ => ?_)
     generalize w19.drew = w30 at BK419 BK420 BK421 HB hHeld ⊢
     refine take_ (i := 0) (N := some 28) (v := ?_) (a' := ?_) #[true, false, false, false, false, false, false, false, false, false, false, false, false, false, false, false, false, false, false, false, false, false, false] rfl rfl (take_ofW HT_.out HW_.out (by kernel_rfl)) (fun _ _ _ h => h) (Or.inl ⟨by rfl, ?_⟩) hHeld ?_ ?_
     rotate_left
     ·
      rintro w' ⟨s0, s1, s2, s3⟩
      go_simp
      with_reducible rfl
     rotate_left
     ·
      simp only [Act.put, List.setIfInBounds_toArray, List.set_cons_zero, List.set_cons_succ, i64_w, i32_w]
      rfl
     refine take_ (i := 1) (N := some 29) (v := ?_) (a' := ?_) #[true, true, false, false, false, false, false, false, false, false, false, false, false, false, false, false, false, false, false, false, false, false, false] rfl rfl (take_ofW HT_.out HW_.out (by kernel_rfl)) (fun _ _ _ h => h) (Or.inl ⟨by rfl, ?_⟩) hHeld ?_ ?_
     rotate_left
     ·
      rintro w' ⟨s0, s1, s2, s3⟩
      go_simp
      with_reducible rfl
     rotate_left
     ·
      simp only [Act.put, List.setIfInBounds_toArray, List.set_cons_zero, List.set_cons_succ, i64_w, i32_w]
      rfl
     refine pure_ (i := 2) (N := some 30) (v := ?_) (a' := ?_) #[true, true, true, false, false, false, false, false, false, false, false, false, false, false, false, false, false, false, false, false, false, false, false] rfl rfl (any_of HT_.out (by kernel_rfl)) (fun _ _ _ h => h) (Or.inl ⟨by rfl, ?_⟩) ?_ ?_
     rotate_left
     ·
      intro w'
      go_simp
      with_reducible rfl
     rotate_left
     ·
      simp only [Act.put, List.setIfInBounds_toArray, List.set_cons_zero, List.set_cons_succ, i64_w, i32_w]
      rfl
     refine pure_ (i := 3) (N := some 31) (v := ?_) (a' := ?_) #[true, true, true, true, false, false, false, false, false, false, false, false, false, false, false, false, false, false, false, false, false, false, false] rfl rfl (any_of HT_.out (by kernel_rfl)) (fun _ _ _ h => h) (Or.inl ⟨by rfl, ?_⟩) ?_ ?_
     rotate_left
     ·
      intro w'
      go_simp
      with_reducible rfl
     rotate_left
     ·
      simp only [Act.put, List.setIfInBounds_toArray, List.set_cons_zero, List.set_cons_succ, i64_w, i32_w]
      rfl
     refine pure_ (i := 4) (N := some 32) (v := ?_) (a' := ?_) #[true, true, true, true, true, false, false, false, false, false, false, false, false, false, false, false, false, false, false, false, false, false, false] rfl rfl (any_of HT_.out (by kernel_rfl)) (fun _ _ _ h => h) (Or.inl ⟨by rfl, ?_⟩) ?_ ?_
     rotate_left
     ·
      intro w'
      go_simp
      with_reducible rfl
     rotate_left
     ·
      simp only [Act.put, List.setIfInBounds_toArray, List.set_cons_zero, List.set_cons_succ, i64_w, i32_w]
      rfl
     refine pure_ (i := 5) (N := some 33) (v := ?_) (a' := ?_) #[true, true, true, true, true, true, false, false, false, false, false, false, false, false, false, false, false, false, false, false, false, false, false] rfl rfl (any_of HT_.out (by kernel_rfl)) (fun _ _ _ h => h) (Or.inl ⟨by rfl, ?_⟩) ?_ ?_
     rotate_left
     ·
      intro w'
      go_simp
      with_reducible rfl
     rotate_left
     ·
      simp only [Act.put, List.setIfInBounds_toArray, List.set_cons_zero, List.set_cons_succ, i64_w, i32_w]
      rfl
     refine pure_ (i := 6) (N := some 34) (v := ?_) (a' := ?_) #[true, true, true, true, true, true, true, false, false, false, false, false, false, false, false, false, false, false, false, false, false, false, false] rfl rfl (any_of HT_.out (by kernel_rfl)) (fun _ _ _ h => h) (Or.inl ⟨by rfl, ?_⟩) ?_ ?_
     rotate_left
     ·
      intro w'
      go_simp
      with_reducible rfl
     rotate_left
     ·
      simp only [Act.put, List.setIfInBounds_toArray, List.set_cons_zero, List.set_cons_succ, i64_w, i32_w]
      rfl
     refine pure_ (i := 7) (N := some 35) (v := ?_) (a' := ?_) #[true, true, true, true, true, true, true, true, false, false, false, false, false, false, false, false, false, false, false, false, false, false, false] rfl rfl (any_of HT_.out (by kernel_rfl)) (fun _ _ _ h => h) (Or.inl ⟨by rfl, ?_⟩) ?_ ?_
     rotate_left
     ·
      intro w'
      go_simp
      with_reducible rfl
     rotate_left
     ·
      simp only [Act.put, List.setIfInBounds_toArray, List.set_cons_zero, List.set_cons_succ, i64_w, i32_w]
      rfl
     refine pure_ (i := 8) (N := some 36) (v := ?_) (a' := ?_) #[true, true, true, true, true, true, true, true, true, false, false, false, false, false, false, false, false, false, false, false, false, false, false] rfl rfl (any_of HT_.out (by kernel_rfl)) (fun _ _ _ h => h) (Or.inl ⟨by rfl, ?_⟩) ?_ ?_
     rotate_left
     ·
      intro w'
      go_simp
      with_reducible rfl
     rotate_left
     ·
      simp only [Act.put, List.setIfInBounds_toArray, List.set_cons_zero, List.set_cons_succ, i64_w, i32_w]
      rfl
     refine pure_ (i := 9) (N := some 37) (v := ?_) (a' := ?_) #[true, true, true, true, true, true, true, true, true, true, false, false, false, false, false, false, false, false, false, false, false, false, false] rfl rfl (any_of HT_.out (by kernel_rfl)) (fun _ _ _ h => h) (Or.inl ⟨by rfl, ?_⟩) ?_ ?_
     rotate_left
     ·
      intro w'
      go_simp
      with_reducible rfl
     rotate_left
     ·
      simp only [Act.put, List.setIfInBounds_toArray, List.set_cons_zero, List.set_cons_succ, i64_w, i32_w]
      rfl
     refine pure_ (i := 10) (N := some 38) (v := ?_) (a' := ?_) #[true, true, true, true, true, true, true, true, true, true, true, false, false, false, false, false, false, false, false, false, false, false, false] rfl rfl (any_of HT_.out (by kernel_rfl)) (fun _ _ _ h => h) (Or.inl ⟨by rfl, ?_⟩) ?_ ?_
     rotate_left
     ·
      intro w'
      go_simp
      with_reducible rfl
     rotate_left
     ·
      simp only [Act.put, List.setIfInBounds_toArray, List.set_cons_zero, List.set_cons_succ, i64_w, i32_w]
      rfl
     refine pure_ (i := 11) (N := some 39) (v := undef) (a' := ?_) #[true, true, true, true, true, true, true, true, true, true, true, true, false, false, false, false, false, false, false, false, false, false, false] rfl rfl (any_of HT_.out (by kernel_rfl)) (fun _ _ _ h => h) (Or.inr ⟨by rfl, rfl⟩) ?_ ?_
     rotate_left
     ·
      simp only [Act.put, List.setIfInBounds_toArray, List.set_cons_zero, List.set_cons_succ, i64_w, i32_w]
      rfl
     refine pure_ (i := 12) (N := some 40) (v := undef) (a' := ?_) #[true, true, true, true, true, true, true, true, true, true, true, true, true, false, false, false, false, false, false, false, false, false, false] rfl rfl (any_of HT_.out (by kernel_rfl)) (fun _ _ _ h => h) (Or.inr ⟨by rfl, rfl⟩) ?_ ?_
     rotate_left
     ·
      simp only [Act.put, List.setIfInBounds_toArray, List.set_cons_zero, List.set_cons_succ, i64_w, i32_w]
      rfl
     refine pure_ (i := 13) (N := some 41) (v := undef) (a' := ?_) #[true, true, true, true, true, true, true, true, true, true, true, true, true, true, false, false, false, false, false, false, false, false, false] rfl rfl (any_of HT_.out (by kernel_rfl)) (fun _ _ _ h => h) (Or.inr ⟨by rfl, rfl⟩) ?_ ?_
     rotate_left
     ·
      simp only [Act.put, List.setIfInBounds_toArray, List.set_cons_zero, List.set_cons_succ, i64_w, i32_w]
      rfl
     refine pure_ (i := 14) (N := some 42) (v := undef) (a' := ?_) #[true, true, true, true, true, true, true, true, true, true, true, true, true, true, true, false, false, false, false, false, false, false, false] rfl rfl (any_of HT_.out (by kernel_rfl)) (fun _ _ _ h => h) (Or.inr ⟨by rfl, rfl⟩) ?_ ?_
     rotate_left
     ·
      simp only [Act.put, List.setIfInBounds_toArray, List.set_cons_zero, List.set_cons_succ, i64_w, i32_w]
      rfl
     refine pure_ (i := 15) (N := some 43) (v := undef) (a' := ?_) #[true, true, true, true, true, true, true, true, true, true, true, true, true, true, true, true, false, false, false, false, false, false, false] rfl rfl (any_of HT_.out (by kernel_rfl)) (fun _ _ _ h => h) (Or.inr ⟨by rfl, rfl⟩) ?_ ?_
     rotate_left
     ·
      simp only [Act.put, List.setIfInBounds_toArray, List.set_cons_zero, List.set_cons_succ, i64_w, i32_w]
      rfl
     refine pure_ (i := 16) (N := some 44) (v := undef) (a' := ?_) #[true, true, true, true, true, true, true, true, true, true, true, true, true, true, true, true, true, false, false, false, false, false, false] rfl rfl (any_of HT_.out (by kernel_rfl)) (fun _ _ _ h => h) (Or.inr ⟨by rfl, rfl⟩) ?_ ?_
     rotate_left
     ·
      simp only [Act.put, List.setIfInBounds_toArray, List.set_cons_zero, List.set_cons_succ, i64_w, i32_w]
      rfl
     refine pure_ (i := 17) (N := some 45) (v := undef) (a' := ?_) #[true, true, true, true, true, true, true, true, true, true, true, true, true, true, true, true, true, true, false, false, false, false, false] rfl rfl (any_of HT_.out (by kernel_rfl)) (fun _ _ _ h => h) (Or.inr ⟨by rfl, rfl⟩) ?_ ?_
     rotate_left
     ·
      simp only [Act.put, List.setIfInBounds_toArray, List.set_cons_zero, List.set_cons_succ, i64_w, i32_w]
      rfl
     refine pure_ (i := 18) (N := some 46) (v := undef) (a' := ?_) #[true, true, true, true, true, true, true, true, true, true, true, true, true, true, true, true, true, true, true, false, false, false, false] rfl rfl (any_of HT_.out (by kernel_rfl)) (fun _ _ _ h => h) (Or.inr ⟨by rfl, rfl⟩) ?_ ?_
     rotate_left
     ·
      simp only [Act.put, List.setIfInBounds_toArray, List.set_cons_zero, List.set_cons_succ, i64_w, i32_w]
      rfl
     refine pure_ (i := 19) (N := some 47) (v := undef) (a' := ?_) #[true, true, true, true, true, true, true, true, true, true, true, true, true, true, true, true, true, true, true, true, false, false, false] rfl rfl (any_of HT_.out (by kernel_rfl)) (fun _ _ _ h => h) (Or.inr ⟨by rfl, rfl⟩) ?_ ?_
     rotate_left
     ·
      simp only [Act.put, List.setIfInBounds_toArray, List.set_cons_zero, List.set_cons_succ, i64_w, i32_w]
      rfl
     refine pure_ (i := 20) (N := some 48) (v := undef) (a' := ?_) #[true, true, true, true, true, true, true, true, true, true, true, true, true, true, true, true, true, true, true, true, true, false, false] rfl rfl (any_of HT_.out (by kernel_rfl)) (fun _ _ _ h => h) (Or.inr ⟨by rfl, rfl⟩) ?_ ?_
     rotate_left
     ·
      simp only [Act.put, List.setIfInBounds_toArray, List.set_cons_zero, List.set_cons_succ, i64_w, i32_w]
      rfl
     refine pure_ (i := 21) (N := some 49) (v := ?_) (a' := ?_) #[true, true, true, true, true, true, true, true, true, true, true, true, true, true, true, true, true, true, true, true, true, true, false] rfl rfl (any_of HT_.out (by kernel_rfl)) (fun _ _ _ h => h) (Or.inl ⟨by rfl, ?_⟩) ?_ ?_
     rotate_left
     ·
      intro w'
      go_simp
      with_reducible rfl
     rotate_left
     ·
      simp only [Act.put, List.setIfInBounds_toArray, List.set_cons_zero, List.set_cons_succ, i64_w, i32_w]
      rfl
     refine pure_ (i := 22) (N := some 50) (v := ?_) (a' := ?_) #[true, true, true, true, true, true, true, true, true, true, true, true, true, true, true, true, true, true, true, true, true, true, true] rfl rfl (any_of HT_.out (by kernel_rfl)) (fun _ _ _ h => h) (Or.inl ⟨by rfl, ?_⟩) ?_ ?_
     rotate_left
     ·
      intro w'
      go_simp
      with_reducible rfl
     rotate_left
     ·
      simp only [Act.put, List.setIfInBounds_toArray, List.set_cons_zero, List.set_cons_succ, i64_w, i32_w]
      rfl
     refine done_ (done_of HT_.out (by kernel_rfl)) ?_
     try go_wp2
     go_meet
     case rel => exact ⟨_, (false), (by first | rfl | (simp; done) | (simp [*]; done)), H', ⟨by have := HK1.out; first | omega | exact Nat.le_refl _⟩, ⟨BK419.out⟩, ⟨BK420.out⟩, ⟨BK421.out⟩, ⟨HB.out⟩⟩
    rw [if_pos c24] at H
    have c24b0 : (t424 == 0) = true := beq_iff_eq.mpr c24
    have c24b1 : (t424 != 0) = false := bne_eq_false_iff_eq.mpr c24
    clear c24
    replace H := Option.bind_eq_some_iff.mp H
    obtain ⟨t426, A250, H⟩ := H
    try dsimp only at H
    have A25 := Aside0.mk A250
    clear A250
    replace H := Option.bind_eq_some_iff.mp H
    obtain ⟨t427, A260, H⟩ := H
    try dsimp only at H
    have A26 := Aside0.mk A260
    clear A260
    have H' := Aside0.mk H
    clear H
    try go_wp2
    replace BK419 := Aside0.mk (blk_drew BK419.out); replace BK420 := Aside0.mk (blk_drew BK420.out); replace BK421 := Aside0.mk (blk_drew BK421.out); replace HB := Aside0.mk (below_drew1 HB.out)
    have p425 : 0 ≤ (x6_1 : Int) := of_decide_eq_true (by first | (with_reducible assumption) | assumption)
    have q425 : x6_1 < (l0.length : Int) := of_decide_eq_true (by first | (with_reducible assumption) | assumption)
    obtain ⟨ad425, e425, hx425_0, hx425_1⟩ := at_T23 HR0.out x6_1 p425 q425
    have hw425_1 := hx425_1
    have hw425_0 := hx425_0
    obtain rfl : ad422 = ad425 := (by injection e425)
    replace hx425_0 := (HB.out.cell (World.block_lt_of_cell? w _ hx425_0)).trans hx425_0
    replace hx425_1 := (HB.out.cell (World.block_lt_of_cell? w _ hx425_1)).trans hx425_1
    replace p425 := eq_true p425
    replace q425 := eq_true q425
    refine start_ (n := 23) (S := fun w' => w'.cell? ⟨gb421, 0, none⟩ = some (.int .i64 x422000_1) ∧ w'.cell? ⟨gb421, 1, none⟩ = some (.int .i64 x422001_1) ∧ w'.cell? ⟨gb419, 0, none⟩ = some (.int .i64 a1_0) ∧ w'.cell? ⟨gb419, 1, none⟩ = some (.int .i64 a1_1) ∧ w'.cell? (ad422.add ((x6_1).toNat * 2)) = some (.int .i64 ((rd_T23 l0 x6_1).f0)) ∧ w'.cell? ⟨(ad422.add ((x6_1).toNat * 2)).block, (ad422.add ((x6_1).toNat * 2)).off + 1, none⟩ = some (.int .i64 ((rd_T23 l0 x6_1).f1))) (ds := []) #[false, false, false, false, false, false, false, false, false, false, false, false, false, false, false, false, false, false, false, false, false, false, false] (by kernel_rfl) rfl rfl ⟨(blk_cell BK421.out 0).trans rfl, (blk_cell BK421.out 1).trans rfl, (blk_cell BK419.out 0).trans rfl, (blk_cell BK419.out 1).trans rfl, ((HB.out.cell (World.block_lt_of_cell? w _ hw425_0)).trans hw425_0), ((HB.out.cell (World.block_lt_of_cell? w _ hw425_1)).trans hw425_1)⟩ (fun hHeld => ?_); refine with_tabW dancestudioref03_next.tab7 dancestudioref03_next.bits7 (fun HT_ HW_ => ?_)
    generalize w19.drew = w27 at BK419 BK420 BK421 HB hx425_0 hx425_1 hHeld ⊢
    refine take_ (i := 0) (N := some 28) (v := ?_) (a' := ?_) #[true, false, false, false, false, false, false, false, false, false, false, false, false, false, false, false, false, false, false, false, false, false, false] rfl rfl (take_ofW HT_.out HW_.out (by kernel_rfl)) (fun _ _ _ h => h) (Or.inl ⟨by rfl, ?_⟩) hHeld ?_ ?_
    rotate_left
    ·
     rintro w' ⟨s0, s1, s2, s3, s4, s5⟩
     go_simp
     with_reducible rfl
    rotate_left
    ·
     simp only [Act.put, List.setIfInBounds_toArray, List.set_cons_zero, List.set_cons_succ, i64_w, i32_w]
     rfl
    refine take_ (i := 1) (N := some 29) (v := ?_) (a' := ?_) #[true, true, false, false, false, false, false, false, false, false, false, false, false, false, false, false, false, false, false, false, false, false, false] rfl rfl (take_ofW HT_.out HW_.out (by kernel_rfl)) (fun _ _ _ h => h) (Or.inl ⟨by rfl, ?_⟩) hHeld ?_ ?_
    rotate_left
    ·
     rintro w' ⟨s0, s1, s2, s3, s4, s5⟩
     go_simp
     with_reducible rfl
    rotate_left
    ·
     simp only [Act.put, List.setIfInBounds_toArray, List.set_cons_zero, List.set_cons_succ, i64_w, i32_w]
     rfl
    refine pure_ (i := 2) (N := some 30) (v := ?_) (a' := ?_) #[true, true, true, false, false, false, false, false, false, false, false, false, false, false, false, false, false, false, false, false, false, false, false] rfl rfl (any_of HT_.out (by kernel_rfl)) (fun _ _ _ h => h) (Or.inl ⟨by rfl, ?_⟩) ?_ ?_
    rotate_left
    ·
     intro w'
     go_simp
     with_reducible rfl
    rotate_left
    ·
     simp only [Act.put, List.setIfInBounds_toArray, List.set_cons_zero, List.set_cons_succ, i64_w, i32_w]
     rfl
    refine pure_ (i := 3) (N := some 31) (v := ?_) (a' := ?_) #[true, true, true, true, false, false, false, false, false, false, false, false, false, false, false, false, false, false, false, false, false, false, false] rfl rfl (any_of HT_.out (by kernel_rfl)) (fun _ _ _ h => h) (Or.inl ⟨by rfl, ?_⟩) ?_ ?_
    rotate_left
    ·
     intro w'
     go_simp
     with_reducible rfl
    rotate_left
    ·
     simp only [Act.put, List.setIfInBounds_toArray, List.set_cons_zero, List.set_cons_succ, i64_w, i32_w]
     rfl
    refine pure_ (i := 4) (N := some 32) (v := ?_) (a' := ?_) #[true, true, true, true, true, false, false, false, false, false, false, false, false, false, false, false, false, false, false, false, false, false, false] rfl rfl (any_of HT_.out (by kernel_rfl)) (fun _ _ _ h => h) (Or.inl ⟨by rfl, ?_⟩) ?_ ?_
    rotate_left
    ·
     intro w'
     go_simp
     with_reducible rfl
    rotate_left
    ·
     simp only [Act.put, List.setIfInBounds_toArray, List.set_cons_zero, List.set_cons_succ, i64_w, i32_w]
     rfl
    refine pure_ (i := 5) (N := some 33) (v := ?_) (a' := ?_) #[true, true, true, true, true, true, false, false, false, false, false, false, false, false, false, false, false, false, false, false, false, false, false] rfl rfl (any_of HT_.out (by kernel_rfl)) (fun _ _ _ h => h) (Or.inl ⟨by rfl, ?_⟩) ?_ ?_
    rotate_left
    ·
     intro w'
     go_simp
     with_reducible rfl
    rotate_left
    ·
     simp only [Act.put, List.setIfInBounds_toArray, List.set_cons_zero, List.set_cons_succ, i64_w, i32_w]
     rfl
    refine pure_ (i := 6) (N := some 34) (v := ?_) (a' := ?_) #[true, true, true, true, true, true, true, false, false, false, false, false, false, false, false, false, false, false, false, false, false, false, false] rfl rfl (any_of HT_.out (by kernel_rfl)) (fun _ _ _ h => h) (Or.inl ⟨by rfl, ?_⟩) ?_ ?_
    rotate_left
    ·
     intro w'
     go_simp
     with_reducible rfl
    rotate_left
    ·
     simp only [Act.put, List.setIfInBounds_toArray, List.set_cons_zero, List.set_cons_succ, i64_w, i32_w]
     rfl
    refine pure_ (i := 7) (N := some 35) (v := ?_) (a' := ?_) #[true, true, true, true, true, true, true, true, false, false, false, false, false, false, false, false, false, false, false, false, false, false, false] rfl rfl (any_of HT_.out (by kernel_rfl)) (fun _ _ _ h => h) (Or.inl ⟨by rfl, ?_⟩) ?_ ?_
    rotate_left
    ·
     intro w'
     go_simp
     with_reducible rfl
    rotate_left
    ·
     simp only [Act.put, List.setIfInBounds_toArray, List.set_cons_zero, List.set_cons_succ, i64_w, i32_w]
     rfl
    refine pure_ (i := 8) (N := some 36) (v := ?_) (a' := ?_) #[true, true, true, true, true, true, true, true, true, false, false, false, false, false, false, false, false, false, false, false, false, false, false] rfl rfl (any_of HT_.out (by kernel_rfl)) (fun _ _ _ h => h) (Or.inl ⟨by rfl, ?_⟩) ?_ ?_
    rotate_left
    ·
     intro w'
     go_simp
     with_reducible rfl
    rotate_left
    ·
     simp only [Act.put, List.setIfInBounds_toArray, List.set_cons_zero, List.set_cons_succ, i64_w, i32_w]
     rfl
    refine pure_ (i := 9) (N := some 37) (v := ?_) (a' := ?_) #[true, true, true, true, true, true, true, true, true, true, false, false, false, false, false, false, false, false, false, false, false, false, false] rfl rfl (any_of HT_.out (by kernel_rfl)) (fun _ _ _ h => h) (Or.inl ⟨by rfl, ?_⟩) ?_ ?_
    rotate_left
    ·
     intro w'
     go_simp
     with_reducible rfl
    rotate_left
    ·
     simp only [Act.put, List.setIfInBounds_toArray, List.set_cons_zero, List.set_cons_succ, i64_w, i32_w]
     rfl
    refine pure_ (i := 10) (N := some 38) (v := ?_) (a' := ?_) #[true, true, true, true, true, true, true, true, true, true, true, false, false, false, false, false, false, false, false, false, false, false, false] rfl rfl (any_of HT_.out (by kernel_rfl)) (fun _ _ _ h => h) (Or.inl ⟨by rfl, ?_⟩) ?_ ?_
    rotate_left
    ·
     intro w'
     go_simp
     with_reducible rfl
    rotate_left
    ·
     simp only [Act.put, List.setIfInBounds_toArray, List.set_cons_zero, List.set_cons_succ, i64_w, i32_w]
     rfl
    refine pure_ (i := 12) (N := some 40) (v := ?_) (a' := ?_) #[true, true, true, true, true, true, true, true, true, true, true, false, true, false, false, false, false, false, false, false, false, false, false] rfl rfl (any_of HT_.out (by kernel_rfl)) (fun _ _ _ h => h) (Or.inl ⟨by rfl, ?_⟩) ?_ ?_
    rotate_left
    ·
     intro w'
     go_simp
     with_reducible rfl
    rotate_left
    ·
     simp only [Act.put, List.setIfInBounds_toArray, List.set_cons_zero, List.set_cons_succ, i64_w, i32_w]
     rfl
    refine pure_ (i := 13) (N := some 41) (v := ?_) (a' := ?_) #[true, true, true, true, true, true, true, true, true, true, true, false, true, true, false, false, false, false, false, false, false, false, false] rfl rfl (any_of HT_.out (by kernel_rfl)) (fun _ _ _ h => h) (Or.inl ⟨by rfl, ?_⟩) ?_ ?_
    rotate_left
    ·
     intro w'
     go_simp
     with_reducible rfl
    rotate_left
    ·
     simp only [Act.put, List.setIfInBounds_toArray, List.set_cons_zero, List.set_cons_succ, i64_w, i32_w]
     rfl
    refine pure_ (i := 14) (N := some 42) (v := ?_) (a' := ?_) #[true, true, true, true, true, true, true, true, true, true, true, false, true, true, true, false, false, false, false, false, false, false, false] rfl rfl (any_of HT_.out (by kernel_rfl)) (fun _ _ _ h => h) (Or.inl ⟨by rfl, ?_⟩) ?_ ?_
    rotate_left
    ·
     intro w'
     go_simp
     with_reducible rfl
    rotate_left
    ·
     simp only [Act.put, List.setIfInBounds_toArray, List.set_cons_zero, List.set_cons_succ, i64_w, i32_w]
     rfl
    refine take_ (i := 11) (N := some 39) (v := ?_) (a' := ?_) #[true, true, true, true, true, true, true, true, true, true, true, true, true, true, true, false, false, false, false, false, false, false, false] rfl rfl (take_ofW HT_.out HW_.out (by kernel_rfl)) (fun _ _ _ h => h) (Or.inl ⟨by rfl, ?_⟩) hHeld ?_ ?_
    rotate_left
    ·
     rintro w' ⟨s0, s1, s2, s3, s4, s5⟩
     go_simp
     with_reducible rfl
    rotate_left
    ·
     simp only [Act.put, List.setIfInBounds_toArray, List.set_cons_zero, List.set_cons_succ, i64_w, i32_w]
     rfl
    refine take_ (i := 15) (N := some 43) (v := ?_) (a' := ?_) #[true, true, true, true, true, true, true, true, true, true, true, true, true, true, true, true, false, false, false, false, false, false, false] rfl rfl (take_ofW HT_.out HW_.out (by kernel_rfl)) (fun _ _ _ h => h) (Or.inl ⟨by rfl, ?_⟩) hHeld ?_ ?_
    rotate_left
    ·
     rintro w' ⟨s0, s1, s2, s3, s4, s5⟩
     go_simp
     with_reducible rfl
    rotate_left
    ·
     simp only [Act.put, List.setIfInBounds_toArray, List.set_cons_zero, List.set_cons_succ, i64_w, i32_w]
     rfl
    refine take_ (i := 17) (N := some 45) (v := ?_) (a' := ?_) #[true, true, true, true, true, true, true, true, true, true, true, true, true, true, true, true, false, true, false, false, false, false, false] rfl rfl (take_ofW HT_.out HW_.out (by kernel_rfl)) (fun _ _ _ h => h) (Or.inl ⟨by rfl, ?_⟩) hHeld ?_ ?_
    rotate_left
    ·
     rintro w' ⟨s0, s1, s2, s3, s4, s5⟩
     go_simp
     with_reducible rfl
    rotate_left
    ·
     simp only [Act.put, List.setIfInBounds_toArray, List.set_cons_zero, List.set_cons_succ, i64_w, i32_w]
     rfl
    refine take_ (i := 18) (N := some 46) (v := ?_) (a' := ?_) #[true, true, true, true, true, true, true, true, true, true, true, true, true, true, true, true, false, true, true, false, false, false, false] rfl rfl (take_ofW HT_.out HW_.out (by kernel_rfl)) (fun _ _ _ h => h) (Or.inl ⟨by rfl, ?_⟩) hHeld ?_ ?_
    rotate_left
    ·
     rintro w' ⟨s0, s1, s2, s3, s4, s5⟩
     go_simp
     with_reducible rfl
    rotate_left
    ·
     simp only [Act.put, List.setIfInBounds_toArray, List.set_cons_zero, List.set_cons_succ, i64_w, i32_w]
     rfl
    refine one_ (i := 16) (N := some 44) #[true, true, true, true, true, true, true, true, true, true, true, true, true, true, true, true, true, true, true, false, false, false, false] rfl rfl (one_of HT_.out (by kernel_rfl)) (by decide) (fun K hK => ?_)
    refine goes_ Try.func32 (by kernel_rfl) rfl #[.agg #[.int .i64 a1_0, .int .i64 a1_1], .agg #[.int .i64 ((rd_T23 l0 x6_1).f0), .int .i64 ((rd_T23 l0 x6_1).f1)]] (by rfl) rfl rfl (by (try simp only [List.map_toArray, List.map_cons, List.map_nil]); first | done | rfl | (simp only [List.length_drop, List.length_take]; rfl)) ?_
    with_reducible refine (dancestudioref03_square.calls a1_0 a1_1 ((rd_T23 l0 x6_1).f0) ((rd_T23 l0 x6_1).f1) t426 _ A25.out).mono ?_
    rintro e w28 ⟨rfl, hb⟩
    refine ⟨_, rfl, ?_⟩
    replace BK419 := mBb BK419 hb; replace BK420 := mBb BK420 hb; replace BK421 := mBb BK421 hb; replace HB := mSt HB hb
    (try clear hb)
    (try clear hb2)
    (try clear hk)
    (try clear hi)
    refine hK.out _ _ ⟨blk_cell BK421.out 0, blk_cell BK421.out 1, blk_cell BK419.out 0, blk_cell BK419.out 1, ((HB.out.cell (World.block_lt_of_cell? w _ hw425_0)).trans hw425_0), ((HB.out.cell (World.block_lt_of_cell? w _ hw425_1)).trans hw425_1)⟩ (fun hHeld => ?_)
    clear hK K
    refine norm_ (a' := ?_) ?_ ?_
    rotate_left
    ·
     show Act.put _ (some 44) _ = _
     simp only [Act.put, List.setIfInBounds_toArray, List.set_cons_zero, List.set_cons_succ, i64_w, i32_w]
     rfl
    refine one_ (i := 19) (N := some 47) #[true, true, true, true, true, true, true, true, true, true, true, true, true, true, true, true, true, true, true, true, false, false, false] rfl rfl (one_of HT_.out (by kernel_rfl)) (by decide) (fun K hK => ?_)
    refine goes_ Try.func32 (by kernel_rfl) rfl #[.agg #[.int .i64 a1_0, .int .i64 a1_1], .agg #[.int .i64 x422000_1, .int .i64 x422001_1]] (by rfl) rfl rfl (by (try simp only [List.map_toArray, List.map_cons, List.map_nil]); first | done | rfl | (simp only [List.length_drop, List.length_take]; rfl)) ?_
    with_reducible refine (dancestudioref03_square.calls a1_0 a1_1 x422000_1 x422001_1 t427 _ A26.out).mono ?_
    rintro e w29 ⟨rfl, hb⟩
    refine ⟨_, rfl, ?_⟩
    replace BK419 := mBb BK419 hb; replace BK420 := mBb BK420 hb; replace BK421 := mBb BK421 hb; replace HB := mSt HB hb
    (try clear hb)
    (try clear hb2)
    (try clear hk)
    (try clear hi)
    refine hK.out _ _ ⟨blk_cell BK421.out 0, blk_cell BK421.out 1, blk_cell BK419.out 0, blk_cell BK419.out 1, ((HB.out.cell (World.block_lt_of_cell? w _ hw425_0)).trans hw425_0), ((HB.out.cell (World.block_lt_of_cell? w _ hw425_1)).trans hw425_1)⟩ (fun hHeld => ?_)
    clear hK K
    refine norm_ (a' := ?_) ?_ ?_
    rotate_left
    ·
     show Act.put _ (some 47) _ = _
     simp only [Act.put, List.setIfInBounds_toArray, List.set_cons_zero, List.set_cons_succ, i64_w, i32_w]
     rfl
    refine pure_ (i := 20) (N := some 48) (v := ?_) (a' := ?_) #[true, true, true, true, true, true, true, true, true, true, true, true, true, true, true, true, true, true, true, true, true, false, false] rfl rfl (any_of HT_.out (by kernel_rfl)) (fun _ _ _ h => h) (Or.inl ⟨by rfl, ?_⟩) ?_ ?_
    rotate_left
    ·
     intro w'
     go_simp
     with_reducible rfl
    rotate_left
    ·
     simp only [Act.put, List.setIfInBounds_toArray, List.set_cons_zero, List.set_cons_succ, i64_w, i32_w]
     rfl
    refine pure_ (i := 21) (N := some 49) (v := ?_) (a' := ?_) #[true, true, true, true, true, true, true, true, true, true, true, true, true, true, true, true, true, true, true, true, true, true, false] rfl rfl (any_of HT_.out (by kernel_rfl)) (fun _ _ _ h => h) (Or.inl ⟨by rfl, ?_⟩) ?_ ?_
    rotate_left
    ·
     intro w'
     go_simp
     with_reducible rfl
    rotate_left
    ·
     simp only [Act.put, List.setIfInBounds_toArray, List.set_cons_zero, List.set_cons_succ, i64_w, i32_w]
     rfl
    refine pure_ (i := 22) (N := some 50) (v := ?_) (a' := ?_) #[true, true, true, true, true, true, true, true, true, true, true, true, true, true, true, true, true, true, true, true, true, true, true] rfl rfl (any_of HT_.out (by kernel_rfl)) (fun _ _ _ h => h) (Or.inl ⟨by rfl, ?_⟩) ?_ ?_
    rotate_left
    ·
     intro w'
     go_simp
     with_reducible rfl
    rotate_left
    ·
     simp only [Act.put, List.setIfInBounds_toArray, List.set_cons_zero, List.set_cons_succ, i64_w, i32_w]
     rfl
    refine done_ (done_of HT_.out (by kernel_rfl)) ?_
    try go_wp2
    go_meet
    case rel => exact ⟨_, (decide (t426 > t427)), (by first | rfl | (simp; done) | (simp [*]; done)), H', ⟨by have := HK1.out; first | omega | exact Nat.le_refl _⟩, ⟨BK419.out⟩, ⟨BK420.out⟩, ⟨BK421.out⟩, ⟨HB.out⟩⟩
   case rest =>
    clear HC16; try clear c2; try clear p2; try clear c3; try clear p4; try clear q4; try clear hx4; try clear c22; try clear c22b0; try clear c24; try clear c24b0; try clear c24b1; try clear hx425_0; try clear hx425_1; try clear p425; try clear q425
    obtain ⟨kq, x50_15, rfl, HA, HJ15, BK419, BK420, BK421, HB⟩ := hcut
    cases kq with
    | zero => exact absurd HA.out (by simp [dancestudioref03_next.j1])
    | succ kj15 =>
     have H := HA.out
     clear HA
     simp only [dancestudioref03_next.j1] at H
     by_cases c31 : x50_15 = true
     rotate_left
     ·
      replace c31 := Bool.eq_false_iff.mpr c31
      subst c31
      rw [if_neg (show ¬ (false = true) by decide)] at H
      have H' := Aside0.mk H
      clear H
      go_wp2
      go_roundg kj15
      case measure => have := HK1.out; have := HJ15.out; omega
      case rel => exact ⟨(wrap64 (x6_1 + 1)), (x422000_1), (x422001_1), (by first | rfl | (simp; done) | (simp [*]; done)), H', ⟨by have := HK1.out; have := HJ15.out; omega⟩, ⟨BK419.out⟩, ⟨BK420.out⟩, ⟨BK421.out⟩, ⟨HB.out⟩⟩
     subst c31
     rw [if_pos rfl] at H
     by_cases c32 : 0 ≤ x6_1
     rotate_left
     ·
      rw [if_neg c32] at H
      exact absurd H (by simp)
     rw [if_pos c32] at H
     have c32b0 : decide (0 ≤ x6_1) = true := decide_eq_true c32
     clear c32
     by_cases c33 : x6_1 < (l0.length : Int)
     rotate_left
     ·
      rw [if_neg c33] at H
      exact absurd H (by simp)
     rw [if_pos c33] at H
     have c33b0 : decide (x6_1 < (l0.length : Int)) = true := decide_eq_true c33
     clear c33
     have H' := Aside0.mk H
     clear H
     have p428 : 0 ≤ (x6_1 : Int) := of_decide_eq_true (by first | (with_reducible assumption) | assumption)
     have q428 : x6_1 < (l0.length : Int) := of_decide_eq_true (by first | (with_reducible assumption) | assumption)
     obtain ⟨ad428, e428, hx428_0, hx428_1⟩ := at_T23 HR0.out x6_1 p428 q428
     obtain rfl : ad422 = ad428 := (by injection e428)
     replace hx428_0 := (HB.out.cell (World.block_lt_of_cell? w _ hx428_0)).trans hx428_0
     replace hx428_1 := (HB.out.cell (World.block_lt_of_cell? w _ hx428_1)).trans hx428_1
     replace p428 := eq_true p428
     replace q428 := eq_true q428
     have hnb34 := NB421_419.out
     have hnc34 := NB419_421.out
     have hnb35 := NB421_420.out
     have hnc35 := NB420_421.out
     have hcz36 := blk_cell BK421.out; have hfz36 := blk_frozen BK421.out
     go_wp2
     go_roundg kj15
     case measure => have := HK1.out; have := HJ15.out; omega
     case rel => exact ⟨(wrap64 (x6_1 + 1)), ((rd_T23 l0 x6_1).f0), ((rd_T23 l0 x6_1).f1), (by first | rfl | (simp; done) | (simp [*]; done)), H', ⟨by have := HK1.out; have := HJ15.out; omega⟩, ⟨by (with_reducible repeat (first | refine blk_drewN ?_ _ | refine blk_drew ?_ | refine blk_alloc ?_ _)); refine blk_far ?_ NB419_421.out _; (with_reducible repeat (first | refine blk_drewN ?_ _ | refine blk_drew ?_ | refine blk_alloc ?_ _)); refine blk_far ?_ NB419_421.out _; (with_reducible repeat (first | refine blk_drewN ?_ _ | refine blk_drew ?_ | refine blk_alloc ?_ _)); exact BK419.out⟩, ⟨by (with_reducible repeat (first | refine blk_drewN ?_ _ | refine blk_drew ?_ | refine blk_alloc ?_ _)); refine blk_far ?_ NB420_421.out _; (with_reducible repeat (first | refine blk_drewN ?_ _ | refine blk_drew ?_ | refine blk_alloc ?_ _)); refine blk_far ?_ NB420_421.out _; (with_reducible repeat (first | refine blk_drewN ?_ _ | refine blk_drew ?_ | refine blk_alloc ?_ _)); exact BK420.out⟩, ⟨by (with_reducible repeat (first | refine blk_drewN ?_ _ | refine blk_drew ?_ | refine blk_alloc ?_ _)); refine blk_put (cs := #[.int .i64 ((rd_T23 l0 x6_1).f0), .int .i64 x422001_1]) ?_ 1 _ rfl; (with_reducible repeat (first | refine blk_drewN ?_ _ | refine blk_drew ?_ | refine blk_alloc ?_ _)); refine blk_put (cs := #[.int .i64 x422000_1, .int .i64 x422001_1]) ?_ 0 _ rfl; (with_reducible repeat (first | refine blk_drewN ?_ _ | refine blk_drew ?_ | refine blk_alloc ?_ _)); exact BK421.out⟩, ⟨by repeat (first | (with_reducible first | exact HB.out | apply below_alloc | apply pw_below_drewN | apply below_drew1 | refine below_set ?_ GE419.out | refine below_set ?_ GE420.out | refine below_set ?_ GE421.out) | exact HB.out)⟩⟩
end Go.Proofs.Ytmilejcbkpkplaa.PAll
-- Written by wip/tools/handprint.py: walks of the functions that the law reaches; Lean checks them.
namespace Go.Proofs.Ytmilejcbkpkplaa.PAll
open Go.RowKit Go.Proofs.YtmilejcbkpkplaaW.PrintWords Go.Proofs.YtmilejcbkpkplaaW.PrintLast Go.Proofs.YtmilejcbkpkplaaW.PrintMore
attribute [local go_sem] max2_int min2_int max_two min_two max_three min_three max_four min_four   -- for this text's walks alone
set_option linter.unusedVariables false
set_option linter.unusedSimpArgs false
attribute [local go_sem high] eqA23

/-! ### dancestudioref03_Hull: function 21 -/
mutual
def dancestudioref03_Hull.l0 : Nat → List (S23) → Int → Option ((List (S23)) × Int)
 | 0, _, _ => none
 | k + 1, x0, x4 => if x4 < (x0.length : Int) then (if 0 ≤ x4 then ((dancestudioref03_Valid.f ((rd_T23 x0 x4).f0) ((rd_T23 x0 x4).f1)).bind fun t335 => (if t335 = true then (dancestudioref03_Hull.l0 k x0 (wrap64 (x4 + 1))) else (some (([] : List (S23)), 1)))) else (none)) else (if (x0.length : Int) = 0 then (some (([] : List (S23)), 0)) else (if 0 < (x0.length : Int) then (dancestudioref03_Hull.l1 k x0 0 ((rd_T23 x0 0).f0) ((rd_T23 x0 0).f1)) else (none)))
def dancestudioref03_Hull.l1 : Nat → List (S23) → Int → Int → Int → Option ((List (S23)) × Int)
 | 0, _, _, _, _ => none
 | k + 1, x0, x6, x338000, x338001 => if x6 < (x0.length : Int) then (if 0 ≤ x6 then ((dancestudioref03_before.f ((rd_T23 x0 x6).f0) ((rd_T23 x0 x6).f1) x338000 x338001).bind fun t339 => (if t339 = true then (dancestudioref03_Hull.l1 k x0 (wrap64 (x6 + 1)) ((rd_T23 x0 x6).f0) ((rd_T23 x0 x6).f1)) else (dancestudioref03_Hull.l1 k x0 (wrap64 (x6 + 1)) x338000 x338001))) else (none)) else ((dancestudioref03_next.f k x0 x338000 x338001).bind fun bt344 => (dancestudioref03_Hull.l2 k x0 (([(⟨x338000, x338001⟩ : S23)] : List (S23))) x338000 x338001 bt344.1 bt344.2))
def dancestudioref03_Hull.l2 : Nat → List (S23) → List (S23) → Int → Int → Int → Int → Option ((List (S23)) × Int)
 | 0, _, _, _, _, _, _ => none
 | k + 1, x0, x7, x338000, x338001, x347000, x347001 => if (!(x347000 == x338000) || (!(x347001 == x338001))) = true then (if x7.length < 8796093022208 then ((dancestudioref03_next.f k x0 x347000 x347001).bind fun bt350 => (dancestudioref03_Hull.l2 k x0 (x7 ++ [(⟨x347000, x347001⟩ : S23)]) x338000 x338001 bt350.1 bt350.2)) else (none)) else (some (x7, 0))
end
def dancestudioref03_Hull.f (k : Nat) (l0 : List (S23)) : Option ((List (S23)) × Int) := if (l0.length : Int) > 16 then (some (([] : List (S23)), 3)) else (dancestudioref03_Hull.l0 k l0 0)
theorem dancestudioref03_Hull.mono_l : ∀ k, (∀ y0 y1, LeO (dancestudioref03_Hull.l0 k y0 y1) (dancestudioref03_Hull.l0 (k + 1) y0 y1)) ∧ (∀ y0 y1 y2 y3, LeO (dancestudioref03_Hull.l1 k y0 y1 y2 y3) (dancestudioref03_Hull.l1 (k + 1) y0 y1 y2 y3)) ∧ (∀ y0 y1 y2 y3 y4 y5, LeO (dancestudioref03_Hull.l2 k y0 y1 y2 y3 y4 y5) (dancestudioref03_Hull.l2 (k + 1) y0 y1 y2 y3 y4 y5))
 | 0 => ⟨fun _ _ r h => by simp [dancestudioref03_Hull.l0] at h, fun _ _ _ _ r h => by simp [dancestudioref03_Hull.l1] at h, fun _ _ _ _ _ _ r h => by simp [dancestudioref03_Hull.l2] at h⟩
 | k + 1 => by
  obtain ⟨ih0, ih1, ih2⟩ := dancestudioref03_Hull.mono_l k
  refine ⟨?_, ?_, ?_⟩
  ·
   intro y0 y1
   unfold dancestudioref03_Hull.l0
   repeat' first
   | (with_reducible exact ih0 _ _)
   | (with_reducible exact ih1 _ _ _ _)
   | (with_reducible exact ih2 _ _ _ _ _ _)
   | (with_reducible exact dancestudioref03_next.mono _ _ _ _)
   | (with_reducible exact LeO.refl _)
   | (with_reducible exact LeO.none _)
   | (with_reducible refine LeO.ite ?_ ?_)
   | (with_reducible refine LeO.bind ?_ (fun _ => ?_))
   | exact ih0 _ _
   | exact ih1 _ _ _ _
   | exact ih2 _ _ _ _ _ _
   | exact dancestudioref03_next.mono _ _ _ _
   | exact LeO.none _
   | refine LeO.ite ?_ ?_
   | refine LeO.bind ?_ (fun _ => ?_)
  ·
   intro y0 y1 y2 y3
   unfold dancestudioref03_Hull.l1
   repeat' first
   | (with_reducible exact ih0 _ _)
   | (with_reducible exact ih1 _ _ _ _)
   | (with_reducible exact ih2 _ _ _ _ _ _)
   | (with_reducible exact dancestudioref03_next.mono _ _ _ _)
   | (with_reducible exact LeO.refl _)
   | (with_reducible exact LeO.none _)
   | (with_reducible refine LeO.ite ?_ ?_)
   | (with_reducible refine LeO.bind ?_ (fun _ => ?_))
   | exact ih0 _ _
   | exact ih1 _ _ _ _
   | exact ih2 _ _ _ _ _ _
   | exact dancestudioref03_next.mono _ _ _ _
   | exact LeO.none _
   | refine LeO.ite ?_ ?_
   | refine LeO.bind ?_ (fun _ => ?_)
  ·
   intro y0 y1 y2 y3 y4 y5
   unfold dancestudioref03_Hull.l2
   repeat' first
   | (with_reducible exact ih0 _ _)
   | (with_reducible exact ih1 _ _ _ _)
   | (with_reducible exact ih2 _ _ _ _ _ _)
   | (with_reducible exact dancestudioref03_next.mono _ _ _ _)
   | (with_reducible exact LeO.refl _)
   | (with_reducible exact LeO.none _)
   | (with_reducible refine LeO.ite ?_ ?_)
   | (with_reducible refine LeO.bind ?_ (fun _ => ?_))
   | exact ih0 _ _
   | exact ih1 _ _ _ _
   | exact ih2 _ _ _ _ _ _
   | exact dancestudioref03_next.mono _ _ _ _
   | exact LeO.none _
   | refine LeO.ite ?_ ?_
   | refine LeO.bind ?_ (fun _ => ?_)
theorem dancestudioref03_Hull.mono : ∀ a0 k, LeO (dancestudioref03_Hull.f k a0) (dancestudioref03_Hull.f (k + 1) a0) := by
 intro a0 k
 obtain ⟨ih0, ih1, ih2⟩ := dancestudioref03_Hull.mono_l k
 unfold dancestudioref03_Hull.f
 repeat' first
   | (with_reducible exact ih0 _ _)
   | (with_reducible exact ih1 _ _ _ _)
   | (with_reducible exact ih2 _ _ _ _ _ _)
   | (with_reducible exact dancestudioref03_next.mono _ _ _ _)
   | (with_reducible exact LeO.refl _)
   | (with_reducible exact LeO.none _)
   | (with_reducible refine LeO.ite ?_ ?_)
   | (with_reducible refine LeO.bind ?_ (fun _ => ?_))
   | exact ih0 _ _
   | exact ih1 _ _ _ _
   | exact ih2 _ _ _ _ _ _
   | exact dancestudioref03_next.mono _ _ _ _
   | exact LeO.none _
   | refine LeO.ite ?_ ?_
   | refine LeO.bind ?_ (fun _ => ?_)
set_option maxHeartbeats 8000000 in
set_option maxRecDepth 100000 in
theorem dancestudioref03_Hull.calls (k : Nat) (A0 : Option Addr) (c0 : Nat) (l0 : List (S23)) (r1 : List (S23)) (r2 : Int) (w : World) (hr0 : Kd.C k23 w A0 l0.length l0) (hc0 : l0.length ≤ c0) (h : dancestudioref03_Hull.f k l0 = some (r1, r2)) :
  Calls Try.prog 21 #[.slice A0 l0.length c0] w fun e w' => ∃ v0_ : Value, e = .returned (.tuple #[v0_, .int .i64 r2]) ∧ Kd.R k23 23 w' w.heap.size (fun _ => True) v0_ r1 ∧ Below w.heap.size w w' := by
 have hu23 := Try.underlying23
 have HR0 := Aside0.mk hr0
 have HC0 := Aside0.mk hc0
 clear hr0 hc0
 have HB := Aside0.mk (Below.refl w.heap.size w)
 have H : (if (l0.length : Int) > 16 then (some (([] : List (S23)), 3)) else (dancestudioref03_Hull.l0 k l0 0)) = some (r1, r2) := h
 clear h
 by_cases c2 : (l0.length : Int) > 16
 ·
  rw [if_pos c2] at H
  have c2b0 : decide (16 < (l0.length : Int)) = true := decide_eq_true c2
  have c2b1 : decide (16 < l0.length) = true := decide_eq_true (by omega)
  clear c2
  simp only [Option.some.injEq, Prod.mk.injEq] at H
  obtain ⟨rfl, rfl⟩ := H
  go_enter Try.func21, Try.ntmps21
  go_wp2
  go_ret2
  exact ⟨_, by first | rfl | (simp [errW_none, errW_some] <;> rfl) | (simp [*, errW_none, errW_some] <;> rfl), by first | exact Kd.R_nil _ _ _ _ _ | exact Kd.N_nil _ _ _ _ _ | exact Kd.V_nil _ _ _ _ _ | exact Kd.Q_nil _ _ _ _ _ | exact Kd.S_nil _ _ _ _ _, HB.out⟩
 rw [if_neg c2] at H
 have c2b0 : decide (16 < (l0.length : Int)) = false := decide_eq_false c2
 have c2b1 : decide (16 < l0.length) = false := decide_eq_false (by omega)
 clear c2
 have H' := Aside0.mk H
 clear H
 go_enter Try.func21, Try.ntmps21
 go_wp2
 go_loopg [4] k (fun kq v4 w' => ∃ (x4_1 : Int), v4 = .int .i64 x4_1 ∧ Aside0 (dancestudioref03_Hull.l0 kq l0 x4_1 = some (r1, r2)) ∧ Aside0 (kq ≤ k) ∧ Aside0 (Below w.heap.size w w'))
 case atStart => exact ⟨(0), (by first | rfl | (simp; done) | (simp [*]; done)), H', ⟨Nat.le_refl _⟩, ⟨HB.out⟩⟩
 case round =>
  clear H'
  try clear c2; try clear c2b0; try clear c2b1; try clear p2
  obtain ⟨x4_1, rfl, HA, HK1, HB⟩ := hrel
  cases gk with
  | zero => exact absurd HA.out (by simp [dancestudioref03_Hull.l0])
  | succ k1 =>
   have H := HA.out
   clear HA
   simp only [dancestudioref03_Hull.l0] at H
   by_cases c3 : x4_1 < (l0.length : Int)
   ·
    rw [if_pos c3] at H
    have c3b0 : decide (x4_1 < (l0.length : Int)) = true := decide_eq_true c3
    clear c3
    by_cases c4 : 0 ≤ x4_1
    rotate_left
    ·
     rw [if_neg c4] at H
     exact absurd H (by simp)
    rw [if_pos c4] at H
    have c4b0 : decide (0 ≤ x4_1) = true := decide_eq_true c4
    clear c4
    replace H := Option.bind_eq_some_iff.mp H
    obtain ⟨t335, A50, H⟩ := H
    try dsimp only at H
    have A5 := Aside0.mk A50
    clear A50
    by_cases c6 : t335 = true
    rotate_left
    ·
     replace c6 := Bool.eq_false_iff.mpr c6
     subst c6
     rw [if_neg (show ¬ (false = true) by decide)] at H
     simp only [Option.some.injEq, Prod.mk.injEq] at H
     obtain ⟨rfl, rfl⟩ := H
     have p334 : 0 ≤ (x4_1 : Int) := of_decide_eq_true (by first | (with_reducible assumption) | assumption)
     have q334 : x4_1 < (l0.length : Int) := of_decide_eq_true (by first | (with_reducible assumption) | assumption)
     obtain ⟨ad334, e334, hx334_0, hx334_1⟩ := at_T23 HR0.out x4_1 p334 q334
     cases e334
     replace hx334_0 := (HB.out.cell (World.block_lt_of_cell? w _ hx334_0)).trans hx334_0
     replace hx334_1 := (HB.out.cell (World.block_lt_of_cell? w _ hx334_1)).trans hx334_1
     replace p334 := eq_true p334
     replace q334 := eq_true q334
     go_wp2_with (first | ((with_reducible refine gate_callee (f := 31) rfl ?_); refine goesL_ (some 22) rfl rfl Try.func31 (by kernel_rfl) rfl #[.agg #[.int .i64 ((rd_T23 l0 x4_1).f0), .int .i64 ((rd_T23 l0 x4_1).f1)]] rfl (by (try simp only [List.map_toArray, List.map_cons, List.map_nil]); first | done | rfl | (simp only [List.length_drop, List.length_take]; rfl)) ?_; (with_reducible refine (dancestudioref03_Valid.calls ((rd_T23 l0 x4_1).f0) ((rd_T23 l0 x4_1).f1) false _ A5.out).mono ?_); rintro e w8 ⟨rfl, hb⟩; refine ⟨_, rfl, ?_⟩; replace HB := mSt HB hb; (try clear hb)))
     go_ret2
     exact ⟨_, by first | rfl | (simp [errW_none, errW_some] <;> rfl) | (simp [*, errW_none, errW_some] <;> rfl), by first | exact Kd.R_nil _ _ _ _ _ | exact Kd.N_nil _ _ _ _ _ | exact Kd.V_nil _ _ _ _ _ | exact Kd.Q_nil _ _ _ _ _ | exact Kd.S_nil _ _ _ _ _, HB.out⟩
    subst c6
    rw [if_pos rfl] at H
    have H' := Aside0.mk H
    clear H
    have p334 : 0 ≤ (x4_1 : Int) := of_decide_eq_true (by first | (with_reducible assumption) | assumption)
    have q334 : x4_1 < (l0.length : Int) := of_decide_eq_true (by first | (with_reducible assumption) | assumption)
    obtain ⟨ad334, e334, hx334_0, hx334_1⟩ := at_T23 HR0.out x4_1 p334 q334
    cases e334
    replace hx334_0 := (HB.out.cell (World.block_lt_of_cell? w _ hx334_0)).trans hx334_0
    replace hx334_1 := (HB.out.cell (World.block_lt_of_cell? w _ hx334_1)).trans hx334_1
    replace p334 := eq_true p334
    replace q334 := eq_true q334
    go_wp2_with (first | ((with_reducible refine gate_callee (f := 31) rfl ?_); refine goesL_ (some 22) rfl rfl Try.func31 (by kernel_rfl) rfl #[.agg #[.int .i64 ((rd_T23 l0 x4_1).f0), .int .i64 ((rd_T23 l0 x4_1).f1)]] rfl (by (try simp only [List.map_toArray, List.map_cons, List.map_nil]); first | done | rfl | (simp only [List.length_drop, List.length_take]; rfl)) ?_; (with_reducible refine (dancestudioref03_Valid.calls ((rd_T23 l0 x4_1).f0) ((rd_T23 l0 x4_1).f1) true _ A5.out).mono ?_); rintro e w7 ⟨rfl, hb⟩; refine ⟨_, rfl, ?_⟩; replace HB := mSt HB hb; (try clear hb)))
    go_roundg k1
    case measure => have := HK1.out; omega
    case rel => exact ⟨(wrap64 (x4_1 + 1)), (by first | rfl | (simp; done) | (simp [*]; done)), H', ⟨by have := HK1.out; omega⟩, ⟨HB.out⟩⟩
   rw [if_neg c3] at H
   have c3b0 : decide (x4_1 < (l0.length : Int)) = false := decide_eq_false c3
   clear c3
   by_cases c9 : (l0.length : Int) = 0
   ·
    rw [if_pos c9] at H
    have c9b0 : ((l0.length : Int) == 0) = true := beq_iff_eq.mpr c9
    have c9b1 : ((l0.length : Int) != 0) = false := bne_eq_false_iff_eq.mpr c9
    clear c9
    simp only [Option.some.injEq, Prod.mk.injEq] at H
    obtain ⟨rfl, rfl⟩ := H
    go_wp2
    go_ret2
    exact ⟨_, by first | rfl | (simp [errW_none, errW_some] <;> rfl) | (simp [*, errW_none, errW_some] <;> rfl), by first | exact Kd.R_nil _ _ _ _ _ | exact Kd.N_nil _ _ _ _ _ | exact Kd.V_nil _ _ _ _ _ | exact Kd.Q_nil _ _ _ _ _ | exact Kd.S_nil _ _ _ _ _, HB.out⟩
   rw [if_neg c9] at H
   have c9b0 : ((l0.length : Int) == 0) = false := beq_eq_false_iff_ne.mpr c9
   have c9b1 : ((l0.length : Int) != 0) = true := bne_iff_ne.mpr c9
   have c9b2 : ¬ (l0 = []) := fun h_ => c9 (by rw [h_]; rfl)
   by_cases c10 : 0 < (l0.length : Int)
   rotate_left
   ·
    rw [if_neg c10] at H
    exact absurd H (by simp)
   rw [if_pos c10] at H
   have c10b0 : decide (0 < (l0.length : Int)) = true := decide_eq_true c10
   have c10b1 : decide (0 < l0.length) = true := decide_eq_true (by omega)
   clear c10
   have H' := Aside0.mk H
   clear H
   have p336 : 0 ≤ (0 : Int) := (by omega)
   have q336 : 0 < (l0.length : Int) := of_decide_eq_true (by first | (with_reducible assumption) | assumption)
   obtain ⟨ad336, e336, hx336_0, hx336_1⟩ := at_T23 HR0.out 0 p336 q336
   cases e336
   have qi336 : (0 < l0.length) = True := eq_true (by omega)
   (try rw [show ((0 : Int)).toNat = 0 from rfl] at hx336_0)
   (try rw [show 0 * 2 = 0 from rfl] at hx336_0)
   (try rw [Addr.add_zero'] at hx336_0)
   (try rw [show ((0 : Int)).toNat = 0 from rfl] at hx336_1)
   (try rw [show 0 * 2 = 0 from rfl] at hx336_1)
   (try rw [Addr.add_zero'] at hx336_1)
   replace hx336_0 := (HB.out.cell (World.block_lt_of_cell? w _ hx336_0)).trans hx336_0
   replace hx336_1 := (HB.out.cell (World.block_lt_of_cell? w _ hx336_1)).trans hx336_1
   replace p336 := eq_true p336
   replace q336 := eq_true q336
   go_wp2_with (first | ((with_reducible refine gate_dst (N := 5) rfl ?_); refine box_event ?hg (N := 5) ?hd (cs := #[.int .i64 0, .int .i64 0]) (t := 23) ?hr ?_; (case hd => rfl); (case hg => rfl); (case hr => first | (go_simp; done) | (go_simp; rfl)); intro gb337 hg w11 hbox hb; have BK337 := Aside0.mk hbox; have GW337 := mGw HB hg; have GE337 := GW337; replace HB := mSt HB hb; clear hb hbox hg; have hcz12 := blk_cell BK337.out; have hfz12 := blk_frozen BK337.out))
   go_loopg [6] k1 (fun kq v6 w' => ∃ (x6_2 : Int) (x338000_2 : Int) (x338001_2 : Int), v6 = .int .i64 x6_2 ∧ Aside0 (dancestudioref03_Hull.l1 kq l0 x6_2 x338000_2 x338001_2 = some (r1, r2)) ∧ Aside0 (kq ≤ k1) ∧ Aside0 (w'.heap[gb337]? = some (.cells #[.int .i64 x338000_2, .int .i64 x338001_2] 23 (0, 0))) ∧ Aside0 (Below w.heap.size w w'))
   case atStart => exact ⟨(0), ((rd_T23 l0 0).f0), ((rd_T23 l0 0).f1), (by first | rfl | (simp; done) | (simp [*]; done)), H', ⟨Nat.le_refl _⟩, ⟨by (with_reducible repeat (first | refine blk_drewN ?_ _ | refine blk_drew ?_ | refine blk_alloc ?_ _)); refine blk_put (cs := #[.int .i64 ((rd_T23 l0 0).f0), .int .i64 0]) ?_ 1 _ rfl; (with_reducible repeat (first | refine blk_drewN ?_ _ | refine blk_drew ?_ | refine blk_alloc ?_ _)); refine blk_put (cs := #[.int .i64 0, .int .i64 0]) ?_ 0 _ rfl; (with_reducible repeat (first | refine blk_drewN ?_ _ | refine blk_drew ?_ | refine blk_alloc ?_ _)); exact BK337.out⟩, ⟨by repeat (first | (with_reducible first | exact HB.out | apply below_alloc | apply pw_below_drewN | apply below_drew1 | refine below_set ?_ GE337.out) | exact HB.out)⟩⟩
   case round =>
    clear H'
    try clear c1; try clear c2; try clear c2b0; try clear c2b1; try clear p2; try clear c3; try clear c3b0; try clear p3; try clear q3; try clear hx3; try clear qi3; try clear c4; try clear c4b0; try clear c6; try clear p6; try clear c9; try clear c9b0; try clear c9b1; try clear c9b2; try clear c10; try clear c10b0; try clear c10b1; try clear hcz12_0; try clear hcz12_1; try clear hfz12_0; try clear hfz12_1; try clear hx334_0; try clear hx334_1; try clear hx336_0; try clear hx336_1; try clear p334; try clear p336; try clear q334; try clear q336
    obtain ⟨x6_2, x338000_2, x338001_2, rfl, HA, HK2, BK337, HB⟩ := hrel
    cases gk with
    | zero => exact absurd HA.out (by simp [dancestudioref03_Hull.l1])
    | succ k2 =>
     have H := HA.out
     clear HA
     simp only [dancestudioref03_Hull.l1] at H
     by_cases c13 : x6_2 < (l0.length : Int)
     rotate_left
     ·
      rw [if_neg c13] at H
      have c13b0 : decide (x6_2 < (l0.length : Int)) = false := decide_eq_false c13
      clear c13
      obtain ⟨y341, hy341⟩ : ∃ y_ : List (S23), y_ = (([(⟨x338000_2, x338001_2⟩ : S23)] : List (S23))) := ⟨_, rfl⟩
      rw [← hy341] at H
      have Ny341 := Aside0.mk hy341
      clear hy341
      replace H := Option.bind_eq_some_iff.mp H
      obtain ⟨⟨t344, t345⟩, A220, H⟩ := H
      try dsimp only at H
      have A22 := Aside0.mk A220
      clear A220
      have H' := Aside0.mk H
      clear H
      have hcz23 := blk_cell BK337.out; have hfz23 := blk_frozen BK337.out
      go_wp2_with (first | ((with_reducible refine gate_dst (N := 47) rfl ?_); refine Kd.R_lit k23 _ 23 ?hg (N := 47) ?hd (xs := ([(⟨x338000_2, x338001_2⟩ : S23)] : List (S23))) (inner := [.int .i64 x338000_2, .int .i64 x338001_2]) (ok := fun _ => True) (okp := fun _ => True) ?hr ?hp (fun _ hk => hk) trivial (Below.refl _ _) (Nat.le_refl _) (by simp) ?_; (case hd => rfl); (case hg => rfl); (case hr => first | (go_simp; done) | (go_simp; rfl)); (case hp => exact (Reps.c2 (k23_mkM _ _ _ _) (Reps.none _ _))); intro v342 w24 ho25 hb hg_ hnew_; clear hg_ hnew_; (first | rw [← Ny341.out] at ho25 | (simp only [Int.reduceToNat] at ho25; rw [← Ny341.out] at ho25)); have HO343 := Aside0.mk (Kd.R_lower (Kd.R_newB ho25 (g := gb337) (o := .cells #[.int .i64 x338000_2, .int .i64 x338001_2] 23 (0, 0)) BK337.out) (below_size HB.out)); replace BK337 := mBb BK337 hb; replace HB := mSt HB hb; clear hb ho25; have hcz26 := blk_cell BK337.out; have hfz26 := blk_frozen BK337.out) | ((with_reducible refine gate_callee (f := 43) rfl ?_); refine goesL_ (some 50) rfl rfl Try.func43 (by kernel_rfl) rfl #[.slice (some ad336) l0.length c0, .agg #[.int .i64 x338000_2, .int .i64 x338001_2]] rfl (by (try simp only [List.map_toArray, List.map_cons, List.map_nil]); first | done | rfl | (simp only [List.length_drop, List.length_take]; rfl)) ?_; (with_reducible refine (dancestudioref03_next.calls k2 _ _ l0 x338000_2 x338001_2 t344 t345 _ ?side1 ?side2 A22.out).mono ?_); (case side1 => repeat (first | exact (Kd.C_below HR0.out HB.out) | (with_reducible refine Kd.C_alloc ?_ _) | (with_reducible refine Kd.C_drewN ?_ _) | (with_reducible refine Kd.C_drew ?_))); (case side2 => exact HC0.out); rintro e w27 ⟨rfl, hb⟩; refine ⟨_, rfl, ?_⟩; replace HO343 := Aside0.mk (Kd.R_below HO343.out hb); replace BK337 := mBb BK337 hb; replace HB := mSt HB hb; (try clear hb)) | ((with_reducible refine gate_dst (N := 8) rfl ?_); refine box_event ?hg (N := 8) ?hd (cs := #[.int .i64 0, .int .i64 0]) (t := 23) ?hr ?_; (case hd => rfl); (case hg => rfl); (case hr => first | (go_simp; done) | (go_simp; rfl)); intro gb346 hg w28 hbox hb; replace HO343 := Aside0.mk (Kd.R_below (Kd.R_elderB HO343.out gb346 (Nat.le_of_eq hg.symm)) hb); have BK346 := Aside0.mk hbox; have GW346 := mGw HB hg; have GE346 := GW346; replace HB := mSt HB hb; have NB337_346 := mNe BK337 hg; have NB346_337 := mSy NB337_346; replace BK337 := mBb BK337 hb; clear hb hbox hg; have hnb29 := NB346_337.out; have hnc29 := NB337_346.out; have hcz30 := blk_cell BK346.out; have hfz30 := blk_frozen BK346.out))
      go_loopg [7, 8] k2 (fun kq v7 v8 w' => ∃ (gb346 : Nat) (x7_3 : List (S23)) (x347000_3 : Int) (x347001_3 : Int), v8 = .pointer (some ⟨gb346, 0, none⟩) ∧ Aside0 (dancestudioref03_Hull.l2 kq l0 x7_3 x338000_2 x338001_2 x347000_3 x347001_3 = some (r1, r2)) ∧ Aside0 (kq ≤ k2) ∧ Aside0 (Kd.R k23 23 w' w.heap.size (fun k_ => k_ ≠ gb337 ∧ k_ ≠ gb346) v7 x7_3) ∧ Aside0 (w'.heap[gb337]? = some (.cells #[.int .i64 x338000_2, .int .i64 x338001_2] 23 (0, 0))) ∧ Aside0 (w'.heap[gb346]? = some (.cells #[.int .i64 x347000_3, .int .i64 x347001_3] 23 (0, 0))) ∧ Aside0 (Below w.heap.size w w') ∧ Aside0 (w.heap.size ≤ gb346) ∧ Aside0 (gb337 ≠ gb346) ∧ Aside0 (gb346 ≠ gb337))
      case atStart => exact ⟨gb346, (y341), (t344), (t345), rfl, H', ⟨Nat.le_refl _⟩, ⟨by (with_reducible repeat (first | apply Kd.R_alloc | apply Kd.R_drewN | apply Kd.R_drew)); exact Kd.R_mono (Kd.R_far (p := ⟨gb346, 1, none⟩) (Kd.R_far (p := ⟨gb346, 0, none⟩) (Kd.R_mono HO343.out (fun k_ hk => (⟨hk, hk.2⟩ : _ ∧ k_ ≠ gb346))) (fun _ hk => hk.2) (.int .i64 t344)) (fun _ hk => hk.2) (.int .i64 t345)) (fun _ hk => ⟨hk.1.1.2, hk.1.2⟩)⟩, ⟨by (with_reducible repeat (first | refine blk_drewN ?_ _ | refine blk_drew ?_ | refine blk_alloc ?_ _)); refine blk_far ?_ NB337_346.out _; (with_reducible repeat (first | refine blk_drewN ?_ _ | refine blk_drew ?_ | refine blk_alloc ?_ _)); refine blk_far ?_ NB337_346.out _; (with_reducible repeat (first | refine blk_drewN ?_ _ | refine blk_drew ?_ | refine blk_alloc ?_ _)); exact BK337.out⟩, ⟨by (with_reducible repeat (first | refine blk_drewN ?_ _ | refine blk_drew ?_ | refine blk_alloc ?_ _)); refine blk_put (cs := #[.int .i64 t344, .int .i64 0]) ?_ 1 _ rfl; (with_reducible repeat (first | refine blk_drewN ?_ _ | refine blk_drew ?_ | refine blk_alloc ?_ _)); refine blk_put (cs := #[.int .i64 0, .int .i64 0]) ?_ 0 _ rfl; (with_reducible repeat (first | refine blk_drewN ?_ _ | refine blk_drew ?_ | refine blk_alloc ?_ _)); exact BK346.out⟩, ⟨by repeat (first | (with_reducible first | exact HB.out | apply below_alloc | apply pw_below_drewN | apply below_drew1 | refine below_set ?_ GE337.out | refine below_set ?_ GE346.out) | exact HB.out)⟩, ⟨GE346.out⟩, ⟨NB337_346.out⟩, ⟨NB346_337.out⟩⟩
      case round =>
       clear H'
       try clear c1; try clear c2; try clear c2b0; try clear c2b1; try clear p2; try clear c3; try clear c3b0; try clear p3; try clear q3; try clear hx3; try clear qi3; try clear c4; try clear c4b0; try clear c6; try clear p6; try clear c9; try clear c9b0; try clear c9b1; try clear c9b2; try clear c10; try clear c10b0; try clear c10b1; try clear c13; try clear c13b0; try clear c14; try clear c14b0; try clear c16; try clear c21; try clear c29; try clear hcz12_0; try clear hcz12_1; try clear hcz19_0; try clear hcz19_1; try clear hcz23_0; try clear hcz23_1; try clear hcz26_0; try clear hcz26_1; try clear hcz30_0; try clear hcz30_1; try clear hfz12_0; try clear hfz12_1; try clear hfz19_0; try clear hfz19_1; try clear hfz23_0; try clear hfz23_1; try clear hfz26_0; try clear hfz26_1; try clear hfz30_0; try clear hfz30_1; try clear hx334_0; try clear hx334_1; try clear hx336_0; try clear hx336_1; try clear hx338_0; try clear hx338_1; try clear hx340_0; try clear hx340_1; try clear p334; try clear p336; try clear p338; try clear p340; try clear q334; try clear q336; try clear q338; try clear q340
       obtain ⟨gb346, x7_3, x347000_3, x347001_3, rfl, HA, HK3, HO_7, BK337, BK346, HB, GE346, NB337_346, NB346_337⟩ := hrel
       cases gk with
       | zero => exact absurd HA.out (by simp [dancestudioref03_Hull.l2])
       | succ k3 =>
        have H := HA.out
        clear HA
        simp only [dancestudioref03_Hull.l2] at H
        by_cases c31 : (!(x347000_3 == x338000_2) || (!(x347001_3 == x338001_2))) = true
        rotate_left
        ·
         rw [if_neg c31] at H
         have c31b0 : (!(x347000_3 == x338000_2) || (!(x347001_3 == x338001_2))) = false := by simpa using c31
         clear c31
         simp only [Option.some.injEq, Prod.mk.injEq] at H
         obtain ⟨rfl, rfl⟩ := H
         have hnb41 := NB346_337.out
         have hnc41 := NB337_346.out
         have hcz42 := blk_cell BK346.out; have hfz42 := blk_frozen BK346.out; have hcz43 := blk_cell BK337.out; have hfz43 := blk_frozen BK337.out
         go_wp2
         go_ret2
         exact ⟨_, by first | rfl | (simp [errW_none, errW_some] <;> rfl) | (simp [*, errW_none, errW_some] <;> rfl), by (with_reducible repeat (first | apply Kd.R_alloc | apply Kd.R_drewN | apply Kd.R_drew)); exact Kd.R_mono HO_7.out (fun _ hk => trivial), HB.out⟩
        rw [if_pos c31] at H
        have c31b0 : (!(x347000_3 == x338000_2) || (!(x347001_3 == x338001_2))) = true := c31
        clear c31
        by_cases c32 : x7_3.length < 8796093022208
        rotate_left
        ·
         rw [if_neg c32] at H
         exact absurd H (by simp)
        rw [if_pos c32] at H
        have LMc32 := Aside0.mk c32
        clear c32
        obtain ⟨y347, hy347⟩ : ∃ y_ : List (S23), y_ = (x7_3 ++ [(⟨x347000_3, x347001_3⟩ : S23)]) := ⟨_, rfl⟩
        rw [← hy347] at H
        have Ny347 := Aside0.mk hy347
        clear hy347
        replace H := Option.bind_eq_some_iff.mp H
        obtain ⟨⟨t350, t351⟩, A330, H⟩ := H
        try dsimp only at H
        have A33 := Aside0.mk A330
        clear A330
        have H' := Aside0.mk H
        clear H
        have hnb34 := NB346_337.out
        have hnc34 := NB337_346.out
        have hcz35 := blk_cell BK346.out; have hfz35 := blk_frozen BK346.out; have hcz36 := blk_cell BK337.out; have hfz36 := blk_frozen BK337.out
        go_wp2_with (first | ((with_reducible refine gate_builtin (b := .append) (xs := #[.tmp 57, .tmp 59]) rfl ?_); at_builtin; refine Kd.R_append k23 (w0 := w) w.heap.size rfl (.tmp 57) (.tmp 59) 41 23 (.agg #[(.int .i64 0), (.int .i64 0)]) 16 rfl Try.underlying41 info23 rfl (by decide) (by omega) u7 x7_3 (⟨x347000_3, x347001_3⟩ : S23) [.int .i64 x347000_3, .int .i64 x347001_3] (fun k_ => k_ ≠ gb337 ∧ k_ ≠ gb346) (fun _ => False) rfl rfl ?aP (fun _ hk => hk.elim) ?aF ?aO ?aB ?aS ?aL ?_; (case aP => exact k23_mkM _ _ _ (⟨x347000_3, x347001_3⟩ : S23)); (case aB => exact HB.out); (case aF => exact (fun k_ hk => ⟨Kd.freshB (g := gb337) (o := .cells #[.int .i64 x338000_2, .int .i64 x338001_2] 23 (0, 0)) BK337.out k_ hk, Kd.freshB (g := gb346) (o := .cells #[.int .i64 x347000_3, .int .i64 x347001_3] 23 (0, 0)) BK346.out k_ hk⟩)); (case aO => exact HO_7.out); (case aS => exact (below_size HB.out)); (case aL => have := LMc32.out; omega); intro v348 w37 ho hb hg hat; rw [← Ny347.out] at ho; replace BK337 := Aside0.mk (blk_grown (g := gb337) (o := .cells #[.int .i64 x338000_2, .int .i64 x338001_2] 23 (0, 0)) BK337.out hg (Kd.R_away HO_7.out (fun _ hk => hk.1))); replace BK346 := Aside0.mk (blk_grown (g := gb346) (o := .cells #[.int .i64 x347000_3, .int .i64 x347001_3] 23 (0, 0)) BK346.out hg (Kd.R_away HO_7.out (fun _ hk => hk.2))); replace HB := Aside0.mk hb; have HO349 := Aside0.mk ho; clear HO_7; clear ho hb hg hat; have hcz38 := blk_cell BK346.out; have hfz38 := blk_frozen BK346.out) | ((with_reducible refine gate_callee (f := 43) rfl ?_); refine goesL_ (some 56) rfl rfl Try.func43 (by kernel_rfl) rfl #[.slice (some ad336) l0.length c0, .agg #[.int .i64 x347000_3, .int .i64 x347001_3]] rfl (by (try simp only [List.map_toArray, List.map_cons, List.map_nil]); first | done | rfl | (simp only [List.length_drop, List.length_take]; rfl)) ?_; obtain ⟨gbn, hgn⟩ : ∃ g_, g_ = w37.heap.size := ⟨_, rfl⟩; rw [← hgn]; have m0_ : Aside0 ((w37.alloc (.cells #[.int .i64 x347000_3, .int .i64 x347001_3] 23)).heap[gbn]? = some (.cells #[.int .i64 x347000_3, .int .i64 x347001_3] 23 (0, 0))) := ⟨by rw [hgn]; exact blk_new _ _⟩; have m1_ := Aside0.mk (blk_alloc BK337.out (.cells #[.int .i64 x347000_3, .int .i64 x347001_3] 23)); have m2_ := Aside0.mk (below_alloc HB.out (.cells #[.int .i64 x347000_3, .int .i64 x347001_3] 23)); have m3_ := Aside0.mk (Kd.R_alloc (Kd.R_mono (Kd.R_elderB HO349.out gbn (Nat.le_of_eq hgn.symm)) (fun _ hk => (⟨hk.1.1, hk.2⟩ : _ ∧ _))) (.cells #[.int .i64 x347000_3, .int .i64 x347001_3] 23)); have m4_ : Aside0 (w.heap.size ≤ gbn) := ⟨by rw [hgn]; exact below_size HB.out⟩; have m5_ : Aside0 (gb337 ≠ gbn) := ⟨by rw [hgn]; exact Nat.ne_of_lt (blk_lt BK337.out)⟩; have m6_ : Aside0 (gbn ≠ gb337) := ⟨m5_.out.symm⟩; clear BK337 BK346 HB HO349 GE346 NB337_346 NB346_337; generalize w37.alloc (.cells #[.int .i64 x347000_3, .int .i64 x347001_3] 23) = wn at m0_ m1_ m2_ m3_ ⊢; clear hgn; have BK337 := m1_; have HB := m2_; have HO349 := m3_; have BK346 := m0_; have GE346 := m4_; have NB337_346 := m5_; have NB346_337 := m6_; clear m0_ m1_ m2_ m3_ m4_ m5_ m6_; have hnbn := NB346_337.out; have hncn := NB337_346.out; (with_reducible refine (dancestudioref03_next.calls k3 _ _ l0 x347000_3 x347001_3 t350 t351 _ ?side1 ?side2 A33.out).mono ?_); (case side1 => repeat (first | exact (Kd.C_below HR0.out HB.out) | (with_reducible refine Kd.C_alloc ?_ _) | (with_reducible refine Kd.C_drewN ?_ _) | (with_reducible refine Kd.C_drew ?_))); (case side2 => exact HC0.out); rintro e w39 ⟨rfl, hb⟩; refine ⟨_, rfl, ?_⟩; replace HO349 := Aside0.mk (Kd.R_below HO349.out hb); replace BK337 := mBb BK337 hb; replace BK346 := mBb BK346 hb; replace HB := mSt HB hb; (try clear hb); have hcz40 := blk_cell BK346.out; have hfz40 := blk_frozen BK346.out))
        go_roundg k3
        case measure => have := HK1.out; have := HK2.out; have := HK3.out; omega
        case rel => exact ⟨gbn, (y347), (t350), (t351), rfl, H', ⟨by have := HK1.out; have := HK2.out; have := HK3.out; omega⟩, ⟨by (with_reducible repeat (first | apply Kd.R_alloc | apply Kd.R_drewN | apply Kd.R_drew)); exact Kd.R_mono (Kd.R_far (p := ⟨gbn, 1, none⟩) (Kd.R_far (p := ⟨gbn, 0, none⟩) (Kd.R_mono HO349.out (fun k_ hk => (⟨hk, hk.2⟩ : _ ∧ k_ ≠ gbn))) (fun _ hk => hk.2) (.int .i64 t350)) (fun _ hk => hk.2) (.int .i64 t351)) (fun _ hk => ⟨hk.1.1, hk.1.2⟩)⟩, ⟨by (with_reducible repeat (first | refine blk_drewN ?_ _ | refine blk_drew ?_ | refine blk_alloc ?_ _)); refine blk_far ?_ NB337_346.out _; (with_reducible repeat (first | refine blk_drewN ?_ _ | refine blk_drew ?_ | refine blk_alloc ?_ _)); refine blk_far ?_ NB337_346.out _; (with_reducible repeat (first | refine blk_drewN ?_ _ | refine blk_drew ?_ | refine blk_alloc ?_ _)); exact BK337.out⟩, ⟨by (with_reducible repeat (first | refine blk_drewN ?_ _ | refine blk_drew ?_ | refine blk_alloc ?_ _)); refine blk_put (cs := #[.int .i64 t350, .int .i64 x347001_3]) ?_ 1 _ rfl; (with_reducible repeat (first | refine blk_drewN ?_ _ | refine blk_drew ?_ | refine blk_alloc ?_ _)); refine blk_put (cs := #[.int .i64 x347000_3, .int .i64 x347001_3]) ?_ 0 _ rfl; (with_reducible repeat (first | refine blk_drewN ?_ _ | refine blk_drew ?_ | refine blk_alloc ?_ _)); exact BK346.out⟩, ⟨by repeat (first | (with_reducible first | exact HB.out | apply below_alloc | apply pw_below_drewN | apply below_drew1 | refine below_set ?_ GE337.out | refine below_set ?_ GE346.out) | exact HB.out)⟩, ⟨GE346.out⟩, ⟨NB337_346.out⟩, ⟨NB346_337.out⟩⟩
     rw [if_pos c13] at H
     have c13b0 : decide (x6_2 < (l0.length : Int)) = true := decide_eq_true c13
     clear c13
     by_cases c14 : 0 ≤ x6_2
     rotate_left
     ·
      rw [if_neg c14] at H
      exact absurd H (by simp)
     rw [if_pos c14] at H
     have c14b0 : decide (0 ≤ x6_2) = true := decide_eq_true c14
     clear c14
     replace H := Option.bind_eq_some_iff.mp H
     obtain ⟨t339, A150, H⟩ := H
     try dsimp only at H
     have A15 := Aside0.mk A150
     clear A150
     by_cases c16 : t339 = true
     rotate_left
     ·
      replace c16 := Bool.eq_false_iff.mpr c16
      subst c16
      rw [if_neg (show ¬ (false = true) by decide)] at H
      have H' := Aside0.mk H
      clear H
      try go_wp2
      replace BK337 := Aside0.mk (blk_drew BK337.out); replace HB := Aside0.mk (below_drew1 HB.out)
      have p338 : 0 ≤ (x6_2 : Int) := of_decide_eq_true (by first | (with_reducible assumption) | assumption)
      have q338 : x6_2 < (l0.length : Int) := of_decide_eq_true (by first | (with_reducible assumption) | assumption)
      obtain ⟨ad338, e338, hx338_0, hx338_1⟩ := at_T23 HR0.out x6_2 p338 q338
      have hw338_1 := hx338_1
      have hw338_0 := hx338_0
      obtain rfl : ad336 = ad338 := (by injection e338)
      replace hx338_0 := (HB.out.cell (World.block_lt_of_cell? w _ hx338_0)).trans hx338_0
      replace hx338_1 := (HB.out.cell (World.block_lt_of_cell? w _ hx338_1)).trans hx338_1
      replace p338 := eq_true p338
      replace q338 := eq_true q338
      refine start_ (n := 6) (S := fun w' => w'.cell? ⟨gb337, 0, none⟩ = some (.int .i64 x338000_2) ∧ w'.cell? ⟨gb337, 1, none⟩ = some (.int .i64 x338001_2) ∧ w'.cell? (ad336.add ((x6_2).toNat * 2)) = some (.int .i64 ((rd_T23 l0 x6_2).f0)) ∧ w'.cell? ⟨(ad336.add ((x6_2).toNat * 2)).block, (ad336.add ((x6_2).toNat * 2)).off + 1, none⟩ = some (.int .i64 ((rd_T23 l0 x6_2).f1))) (ds := []) #[false, false, false, false, false, false] (by kernel_rfl) rfl rfl ⟨(blk_cell BK337.out 0).trans rfl, (blk_cell BK337.out 1).trans rfl, ((HB.out.cell (World.block_lt_of_cell? w _ hw338_0)).trans hw338_0), ((HB.out.cell (World.block_lt_of_cell? w _ hw338_1)).trans hw338_1)⟩ (fun hHeld => ?_)
      generalize wr.drew = w20 at BK337 HB hx338_0 hx338_1 hHeld ⊢
      refine pure_ (i := 0) (N := some 36) (v := ?_) (a' := ?_) #[true, false, false, false, false, false] rfl rfl (by kernel_rfl) (fun _ _ _ h => h) (Or.inl ⟨by rfl, ?_⟩) ?_ ?_
      rotate_left
      ·
       intro w'
       go_simp
       with_reducible rfl
      rotate_left
      ·
       simp only [Act.put, List.setIfInBounds_toArray, List.set_cons_zero, List.set_cons_succ, i64_w, i32_w]
       rfl
      refine pure_ (i := 1) (N := some 37) (v := ?_) (a' := ?_) #[true, true, false, false, false, false] rfl rfl (by kernel_rfl) (fun _ _ _ h => h) (Or.inl ⟨by rfl, ?_⟩) ?_ ?_
      rotate_left
      ·
       intro w'
       go_simp
       with_reducible rfl
      rotate_left
      ·
       simp only [Act.put, List.setIfInBounds_toArray, List.set_cons_zero, List.set_cons_succ, i64_w, i32_w]
       rfl
      refine pure_ (i := 2) (N := some 38) (v := ?_) (a' := ?_) #[true, true, true, false, false, false] rfl rfl (by kernel_rfl) (fun _ _ _ h => h) (Or.inl ⟨by rfl, ?_⟩) ?_ ?_
      rotate_left
      ·
       intro w'
       go_simp
       with_reducible rfl
      rotate_left
      ·
       simp only [Act.put, List.setIfInBounds_toArray, List.set_cons_zero, List.set_cons_succ, i64_w, i32_w]
       rfl
      refine take_ (i := 3) (N := some 39) (v := ?_) (a' := ?_) #[true, true, true, true, false, false] rfl rfl (by kernel_rfl) (fun _ _ _ h => h) (Or.inl ⟨by rfl, ?_⟩) hHeld ?_ ?_
      rotate_left
      ·
       rintro w' ⟨s0, s1, s2, s3⟩
       go_simp
       with_reducible rfl
      rotate_left
      ·
       simp only [Act.put, List.setIfInBounds_toArray, List.set_cons_zero, List.set_cons_succ, i64_w, i32_w]
       rfl
      refine take_ (i := 4) (N := some 40) (v := ?_) (a' := ?_) #[true, true, true, true, true, false] rfl rfl (by kernel_rfl) (fun _ _ _ h => h) (Or.inl ⟨by rfl, ?_⟩) hHeld ?_ ?_
      rotate_left
      ·
       rintro w' ⟨s0, s1, s2, s3⟩
       go_simp
       with_reducible rfl
      rotate_left
      ·
       simp only [Act.put, List.setIfInBounds_toArray, List.set_cons_zero, List.set_cons_succ, i64_w, i32_w]
       rfl
      refine one_ (i := 5) (N := some 41) #[true, true, true, true, true, true] rfl rfl (by kernel_rfl) (by decide) (fun K hK => ?_)
      refine goes_ Try.func42 (by kernel_rfl) rfl #[.agg #[.int .i64 ((rd_T23 l0 x6_2).f0), .int .i64 ((rd_T23 l0 x6_2).f1)], .agg #[.int .i64 x338000_2, .int .i64 x338001_2]] (by rfl) rfl rfl (by (try simp only [List.map_toArray, List.map_cons, List.map_nil]); first | done | rfl | (simp only [List.length_drop, List.length_take]; rfl)) ?_
      with_reducible refine (dancestudioref03_before.calls ((rd_T23 l0 x6_2).f0) ((rd_T23 l0 x6_2).f1) x338000_2 x338001_2 false _ A15.out).mono ?_
      rintro e w21 ⟨rfl, hb⟩
      refine ⟨_, rfl, ?_⟩
      replace BK337 := mBb BK337 hb; replace HB := mSt HB hb
      (try clear hb)
      (try clear hb2)
      (try clear hk)
      (try clear hi)
      refine hK.out _ _ ⟨blk_cell BK337.out 0, blk_cell BK337.out 1, ((HB.out.cell (World.block_lt_of_cell? w _ hw338_0)).trans hw338_0), ((HB.out.cell (World.block_lt_of_cell? w _ hw338_1)).trans hw338_1)⟩ (fun hHeld => ?_)
      clear hK K
      refine norm_ (a' := ?_) ?_ ?_
      rotate_left
      ·
       show Act.put _ (some 41) _ = _
       simp only [Act.put, List.setIfInBounds_toArray, List.set_cons_zero, List.set_cons_succ, i64_w, i32_w]
       rfl
      refine done_ (by kernel_rfl) ?_
      try go_wp2
      go_roundg k2
      case measure => have := HK1.out; have := HK2.out; omega
      case rel => exact ⟨(wrap64 (x6_2 + 1)), (x338000_2), (x338001_2), (by first | rfl | (simp; done) | (simp [*]; done)), H', ⟨by have := HK1.out; have := HK2.out; omega⟩, ⟨BK337.out⟩, ⟨HB.out⟩⟩
     subst c16
     rw [if_pos rfl] at H
     have H' := Aside0.mk H
     clear H
     try go_wp2
     replace BK337 := Aside0.mk (blk_drew BK337.out); replace HB := Aside0.mk (below_drew1 HB.out)
     have p338 : 0 ≤ (x6_2 : Int) := of_decide_eq_true (by first | (with_reducible assumption) | assumption)
     have q338 : x6_2 < (l0.length : Int) := of_decide_eq_true (by first | (with_reducible assumption) | assumption)
     obtain ⟨ad338, e338, hx338_0, hx338_1⟩ := at_T23 HR0.out x6_2 p338 q338
     have hw338_1 := hx338_1
     have hw338_0 := hx338_0
     obtain rfl : ad336 = ad338 := (by injection e338)
     replace hx338_0 := (HB.out.cell (World.block_lt_of_cell? w _ hx338_0)).trans hx338_0
     replace hx338_1 := (HB.out.cell (World.block_lt_of_cell? w _ hx338_1)).trans hx338_1
     replace p338 := eq_true p338
     replace q338 := eq_true q338
     refine start_ (n := 6) (S := fun w' => w'.cell? ⟨gb337, 0, none⟩ = some (.int .i64 x338000_2) ∧ w'.cell? ⟨gb337, 1, none⟩ = some (.int .i64 x338001_2) ∧ w'.cell? (ad336.add ((x6_2).toNat * 2)) = some (.int .i64 ((rd_T23 l0 x6_2).f0)) ∧ w'.cell? ⟨(ad336.add ((x6_2).toNat * 2)).block, (ad336.add ((x6_2).toNat * 2)).off + 1, none⟩ = some (.int .i64 ((rd_T23 l0 x6_2).f1))) (ds := []) #[false, false, false, false, false, false] (by kernel_rfl) rfl rfl ⟨(blk_cell BK337.out 0).trans rfl, (blk_cell BK337.out 1).trans rfl, ((HB.out.cell (World.block_lt_of_cell? w _ hw338_0)).trans hw338_0), ((HB.out.cell (World.block_lt_of_cell? w _ hw338_1)).trans hw338_1)⟩ (fun hHeld => ?_)
     generalize wr.drew = w17 at BK337 HB hx338_0 hx338_1 hHeld ⊢
     refine pure_ (i := 0) (N := some 36) (v := ?_) (a' := ?_) #[true, false, false, false, false, false] rfl rfl (by kernel_rfl) (fun _ _ _ h => h) (Or.inl ⟨by rfl, ?_⟩) ?_ ?_
     rotate_left
     ·
      intro w'
      go_simp
      with_reducible rfl
     rotate_left
     ·
      simp only [Act.put, List.setIfInBounds_toArray, List.set_cons_zero, List.set_cons_succ, i64_w, i32_w]
      rfl
     refine pure_ (i := 1) (N := some 37) (v := ?_) (a' := ?_) #[true, true, false, false, false, false] rfl rfl (by kernel_rfl) (fun _ _ _ h => h) (Or.inl ⟨by rfl, ?_⟩) ?_ ?_
     rotate_left
     ·
      intro w'
      go_simp
      with_reducible rfl
     rotate_left
     ·
      simp only [Act.put, List.setIfInBounds_toArray, List.set_cons_zero, List.set_cons_succ, i64_w, i32_w]
      rfl
     refine pure_ (i := 2) (N := some 38) (v := ?_) (a' := ?_) #[true, true, true, false, false, false] rfl rfl (by kernel_rfl) (fun _ _ _ h => h) (Or.inl ⟨by rfl, ?_⟩) ?_ ?_
     rotate_left
     ·
      intro w'
      go_simp
      with_reducible rfl
     rotate_left
     ·
      simp only [Act.put, List.setIfInBounds_toArray, List.set_cons_zero, List.set_cons_succ, i64_w, i32_w]
      rfl
     refine take_ (i := 3) (N := some 39) (v := ?_) (a' := ?_) #[true, true, true, true, false, false] rfl rfl (by kernel_rfl) (fun _ _ _ h => h) (Or.inl ⟨by rfl, ?_⟩) hHeld ?_ ?_
     rotate_left
     ·
      rintro w' ⟨s0, s1, s2, s3⟩
      go_simp
      with_reducible rfl
     rotate_left
     ·
      simp only [Act.put, List.setIfInBounds_toArray, List.set_cons_zero, List.set_cons_succ, i64_w, i32_w]
      rfl
     refine take_ (i := 4) (N := some 40) (v := ?_) (a' := ?_) #[true, true, true, true, true, false] rfl rfl (by kernel_rfl) (fun _ _ _ h => h) (Or.inl ⟨by rfl, ?_⟩) hHeld ?_ ?_
     rotate_left
     ·
      rintro w' ⟨s0, s1, s2, s3⟩
      go_simp
      with_reducible rfl
     rotate_left
     ·
      simp only [Act.put, List.setIfInBounds_toArray, List.set_cons_zero, List.set_cons_succ, i64_w, i32_w]
      rfl
     refine one_ (i := 5) (N := some 41) #[true, true, true, true, true, true] rfl rfl (by kernel_rfl) (by decide) (fun K hK => ?_)
     refine goes_ Try.func42 (by kernel_rfl) rfl #[.agg #[.int .i64 ((rd_T23 l0 x6_2).f0), .int .i64 ((rd_T23 l0 x6_2).f1)], .agg #[.int .i64 x338000_2, .int .i64 x338001_2]] (by rfl) rfl rfl (by (try simp only [List.map_toArray, List.map_cons, List.map_nil]); first | done | rfl | (simp only [List.length_drop, List.length_take]; rfl)) ?_
     with_reducible refine (dancestudioref03_before.calls ((rd_T23 l0 x6_2).f0) ((rd_T23 l0 x6_2).f1) x338000_2 x338001_2 true _ A15.out).mono ?_
     rintro e w18 ⟨rfl, hb⟩
     refine ⟨_, rfl, ?_⟩
     replace BK337 := mBb BK337 hb; replace HB := mSt HB hb
     (try clear hb)
     (try clear hb2)
     (try clear hk)
     (try clear hi)
     refine hK.out _ _ ⟨blk_cell BK337.out 0, blk_cell BK337.out 1, ((HB.out.cell (World.block_lt_of_cell? w _ hw338_0)).trans hw338_0), ((HB.out.cell (World.block_lt_of_cell? w _ hw338_1)).trans hw338_1)⟩ (fun hHeld => ?_)
     clear hK K
     refine norm_ (a' := ?_) ?_ ?_
     rotate_left
     ·
      show Act.put _ (some 41) _ = _
      simp only [Act.put, List.setIfInBounds_toArray, List.set_cons_zero, List.set_cons_succ, i64_w, i32_w]
      rfl
     refine done_ (by kernel_rfl) ?_
     have p340 : 0 ≤ (x6_2 : Int) := of_decide_eq_true (by first | (with_reducible assumption) | assumption)
     have q340 : x6_2 < (l0.length : Int) := of_decide_eq_true (by first | (with_reducible assumption) | assumption)
     obtain ⟨ad340, e340, hx340_0, hx340_1⟩ := at_T23 HR0.out x6_2 p340 q340
     obtain rfl : ad336 = ad340 := (by injection e340)
     replace hx340_0 := (HB.out.cell (World.block_lt_of_cell? w _ hx340_0)).trans hx340_0
     replace hx340_1 := (HB.out.cell (World.block_lt_of_cell? w _ hx340_1)).trans hx340_1
     replace p340 := eq_true p340
     replace q340 := eq_true q340
     have hcz19 := blk_cell BK337.out; have hfz19 := blk_frozen BK337.out
     try go_wp2
     go_roundg k2
     case measure => have := HK1.out; have := HK2.out; omega
     case rel => exact ⟨(wrap64 (x6_2 + 1)), ((rd_T23 l0 x6_2).f0), ((rd_T23 l0 x6_2).f1), (by first | rfl | (simp; done) | (simp [*]; done)), H', ⟨by have := HK1.out; have := HK2.out; omega⟩, ⟨by (with_reducible repeat (first | refine blk_drewN ?_ _ | refine blk_drew ?_ | refine blk_alloc ?_ _)); refine blk_put (cs := #[.int .i64 ((rd_T23 l0 x6_2).f0), .int .i64 x338001_2]) ?_ 1 _ rfl; (with_reducible repeat (first | refine blk_drewN ?_ _ | refine blk_drew ?_ | refine blk_alloc ?_ _)); refine blk_put (cs := #[.int .i64 x338000_2, .int .i64 x338001_2]) ?_ 0 _ rfl; (with_reducible repeat (first | refine blk_drewN ?_ _ | refine blk_drew ?_ | refine blk_alloc ?_ _)); exact BK337.out⟩, ⟨by repeat (first | (with_reducible first | exact HB.out | apply below_alloc | apply pw_below_drewN | apply below_drew1 | refine below_set ?_ GE337.out) | exact HB.out)⟩⟩
end Go.Proofs.Ytmilejcbkpkplaa.PAll
-- Written by wip/tools/handprint.py: walks of the functions that the law reaches; Lean checks them.
namespace Go.Proofs.Ytmilejcbkpkplaa.PAll
open Go.RowKit Go.Proofs.YtmilejcbkpkplaaW.PrintWords Go.Proofs.YtmilejcbkpkplaaW.PrintLast Go.Proofs.YtmilejcbkpkplaaW.PrintMore
attribute [local go_sem] max2_int min2_int max_two min_two max_three min_three max_four min_four   -- for this text's walks alone
set_option linter.unusedVariables false
set_option linter.unusedSimpArgs false

/-! ### dancestudioref03_Radius: function 37 -/
def dancestudioref03_Radius.f (a0 : Int) : Option (Bool) := if a0 ≥ 0 then (some (decide (a0 ≤ 32768))) else (some false)
set_option maxHeartbeats 8000000 in
set_option maxRecDepth 100000 in
theorem dancestudioref03_Radius.calls (a0 : Int) (r : Bool) (w : World) (h : dancestudioref03_Radius.f a0 = some r) :
  Calls Try.prog 37 #[.int .i64 a0] w fun e w' => e = .returned (.bool r) ∧ Drawn0 w w' := by
 have H : (if a0 ≥ 0 then (some (decide (a0 ≤ 32768))) else (some false)) = some r := h
 clear h
 by_cases c2 : a0 ≥ 0
 ·
  rw [if_pos c2] at H
  have c2b0 : decide (0 ≤ a0) = true := decide_eq_true c2
  clear c2
  obtain rfl := Option.some.inj H
  go_enter Try.func37, Try.ntmps37
  go_wp2
  go_ret
  exact ⟨by first | rfl | (simp; done) | (simp [*]; done), by repeat (first | exact Drawn0.refl _ | apply Drawn0.step)⟩
 ·
  rw [if_neg c2] at H
  have c2b0 : decide (0 ≤ a0) = false := decide_eq_false c2
  clear c2
  obtain rfl := Option.some.inj H
  go_enter Try.func37, Try.ntmps37
  go_wp2
  go_ret
  exact ⟨by first | rfl | (simp; done) | (simp [*]; done), by repeat (first | exact Drawn0.refl _ | apply Drawn0.step)⟩
end Go.Proofs.Ytmilejcbkpkplaa.PAll
/- Plain facts about rounded quotients, square roots, greatest common divisors and the order of products, without any program. -/
namespace Go.Proofs.Ytmilejcbkpkplaa.MathNum
open Go.RowKit

theorem w64 {n : Int} (h1 : -9223372036854775808 ≤ n) (h2 : n ≤ 9223372036854775807) : wrap64 n = n := by
  unfold wrap64; omega

theorem mul_range {a b A B : Int} (h1 : -A ≤ a) (h2 : a ≤ A) (h3 : 0 ≤ b) (h4 : b ≤ B) : -(A * B) ≤ a * b ∧ a * b ≤ A * B := by
  have hA : 0 ≤ A := by omega
  have k1 : a * b ≤ A * b := Int.mul_le_mul_of_nonneg_right h2 h3
  have k2 : A * b ≤ A * B := Int.mul_le_mul_of_nonneg_left h4 hA
  have k3 : -A * b ≤ a * b := Int.mul_le_mul_of_nonneg_right h1 h3
  have k4 : -A * b = -(A * b) := Int.neg_mul A b
  omega

theorem mul_range2 {a b A B : Int} (h1 : -A ≤ a) (h2 : a ≤ A) (h3 : -B ≤ b) (h4 : b ≤ B) : -(A * B) ≤ a * b ∧ a * b ≤ A * B := by
  rcases Int.le_total 0 b with h | h
  · exact mul_range h1 h2 h h4
  · have := mul_range (a := a) (b := -b) (B := B) h1 h2 (by omega) (by omega)
    rw [Int.mul_neg] at this
    omega

/-- Go's quotient and remainder by a positive number, corrected, are the floor and its remainder. -/
theorem tdiv_floor {a b : Int} (hb : 0 < b) : (a.tmod b < 0 → a.tdiv b - 1 = a / b ∧ a.tmod b + b = a % b) ∧ (¬ a.tmod b < 0 → a.tdiv b = a / b ∧ a.tmod b = a % b) := by
  have e := Int.mul_tdiv_add_tmod a b
  have l := Int.tmod_lt_of_pos a hb
  have l2 : -b < a.tmod b := by
    have := Int.lt_tmod_of_pos a hb
    exact this
  constructor
  · intro h
    have := (Int.ediv_emod_unique (a := a) (b := b) (r := a.tmod b + b) (q := a.tdiv b - 1) hb).mpr ⟨by rw [Int.mul_sub, Int.mul_one]; omega, by omega, by omega⟩
    exact ⟨this.1.symm, this.2.symm⟩
  · intro h
    have := (Int.ediv_emod_unique (a := a) (b := b) (r := a.tmod b) (q := a.tdiv b) hb).mpr ⟨by omega, by omega, l⟩
    exact ⟨this.1.symm, this.2.symm⟩

theorem ediv_range {a b A : Int} (hb : 0 < b) (h1 : -A ≤ a) (h2 : a ≤ A) : -A ≤ a / b ∧ a / b ≤ A := by
  have hA : 0 ≤ A := by omega
  constructor
  · have : -A * b ≤ a := by
      have : -A * b ≤ -A * 1 := Int.mul_le_mul_of_nonpos_left (by omega) (by omega)
      omega
    exact Int.le_ediv_of_mul_le hb this
  · have : a < (A + 1) * b := by
      have : (A + 1) * 1 ≤ (A + 1) * b := Int.mul_le_mul_of_nonneg_left (by omega) (by omega)
      omega
    have := Int.ediv_lt_of_lt_mul hb this
    omega

/-- a / b, rounded to the nearest, halves to the even number, for a positive b. -/
def near (a b : Int) : Int := if 2 * (a % b) > b ∨ 2 * (a % b) = b ∧ (a / b) % 2 ≠ 0 then a / b + 1 else a / b

/-- What 'near' is, by its own words. -/
theorem near_spec {a b : Int} (hb : 0 < b) : ∃ q r : Int, a = b * q + r ∧ 0 ≤ r ∧ r < b ∧ near a b = (if 2 * r > b ∨ 2 * r = b ∧ q % 2 ≠ 0 then q + 1 else q) ∧ q = a / b ∧ r = a % b :=
  ⟨a / b, a % b, (Int.mul_ediv_add_emod a b).symm, Int.emod_nonneg a (by omega), Int.emod_lt_of_pos a hb, rfl, rfl, rfl⟩

theorem near_of {a b q r : Int} (hb : 0 < b) (e : a = b * q + r) (h0 : 0 ≤ r) (h1 : r < b) : near a b = (if 2 * r > b ∨ 2 * r = b ∧ q % 2 ≠ 0 then q + 1 else q) := by
  have := (Int.ediv_emod_unique (a := a) (b := b) (r := r) (q := q) hb).mpr ⟨by omega, h0, h1⟩
  unfold near
  rw [this.1, this.2]

/-- Exact to half a unit, halves to the even number. -/
theorem near_off {a b : Int} (hb : 0 < b) : 2 * (a - near a b * b) ≤ b ∧ -b ≤ 2 * (a - near a b * b) ∧ (2 * (a - near a b * b) = b ∨ 2 * (a - near a b * b) = -b → near a b % 2 = 0) := by
  obtain ⟨q, r, e, h0, h1, hn, _, _⟩ := near_spec (a := a) hb
  rw [hn]
  split
  · have : (q + 1) * b = b * q + b := by rw [Int.add_mul, Int.mul_comm]; omega
    rw [this]; omega
  · have : q * b = b * q := Int.mul_comm q b
    rw [this]; omega

/-- It is the only such number. -/
theorem near_unique {a b n : Int} (hb : 0 < b) (h1 : 2 * (a - n * b) ≤ b) (h2 : -b ≤ 2 * (a - n * b)) (h3 : 2 * (a - n * b) = b ∨ 2 * (a - n * b) = -b → n % 2 = 0) : near a b = n := by
  obtain ⟨g1, g2, g3⟩ := near_off (a := a) hb
  generalize near a b = m at *
  -- m and n differ by at most one
  have k1 : (m - n) * b ≤ b := by rw [Int.sub_mul]; omega
  have k2 : -b ≤ (m - n) * b := by rw [Int.sub_mul]; omega
  have l1 : m - n ≤ 1 := by
    apply Int.not_lt.mp; intro h
    have : 2 * b ≤ (m - n) * b := Int.mul_le_mul_of_nonneg_right (by omega) (by omega)
    omega
  have l2 : -1 ≤ m - n := by
    apply Int.not_lt.mp; intro h
    have : (m - n) * b ≤ -2 * b := Int.mul_le_mul_of_nonneg_right (by omega) (by omega)
    omega
  have h : m = n ∨ m = n + 1 ∨ m = n - 1 := by omega
  rcases h with h | h | h
  · exact h
  · subst h
    rw [Int.add_mul] at *
    have a1 := h3 (Or.inl (by omega))
    have a2 := g3 (Or.inr (by omega))
    omega
  · subst h
    rw [Int.sub_mul] at *
    have a1 := h3 (Or.inr (by omega))
    have a2 := g3 (Or.inl (by omega))
    omega

theorem near_neg {a b : Int} (hb : 0 < b) : near (-a) b = -near a b := by
  obtain ⟨g1, g2, g3⟩ := near_off (a := a) hb
  apply near_unique hb
  · rw [Int.neg_mul]; omega
  · rw [Int.neg_mul]; omega
  · intro h
    rw [Int.neg_mul] at h
    have := g3 (by omega)
    omega

theorem near_exact {b q : Int} (hb : 0 < b) : near (b * q) b = q := by
  rw [near_of hb (q := q) (r := 0) (by omega) (by omega) hb]
  rw [if_neg (by omega)]

theorem near_shift {a b c : Int} (hb : 0 < b) (hc : c % 2 = 0) : near (a + c * b) b = near a b + c := by
  obtain ⟨g1, g2, g3⟩ := near_off (a := a) hb
  apply near_unique hb
  · rw [Int.add_mul]; omega
  · rw [Int.add_mul]; omega
  · intro h
    rw [Int.add_mul] at h
    have := g3 (by omega)
    omega

theorem near_lo {a b m : Int} (hb : 0 < b) (h : m * b ≤ a) : m ≤ near a b := by
  obtain ⟨q, r, e, h0, h1, hn, hq, _⟩ := near_spec (a := a) hb
  have : m ≤ q := by rw [hq]; exact Int.le_ediv_of_mul_le hb h
  rw [hn]; split <;> omega

theorem near_hi {a b m : Int} (hb : 0 < b) (h : a ≤ m * b) : near a b ≤ m := by
  have := near_lo (a := -a) (m := -m) hb (by rw [Int.neg_mul]; omega)
  rw [near_neg hb] at this
  omega

theorem near_range {a b A : Int} (hb : 0 < b) (h1 : -A ≤ a) (h2 : a ≤ A) : -A ≤ near a b ∧ near a b ≤ A := by
  have hA : 0 ≤ A := by omega
  have k : A * 1 ≤ A * b := Int.mul_le_mul_of_nonneg_left (by omega) hA
  exact ⟨near_lo hb (by rw [Int.neg_mul]; omega), near_hi hb (by omega)⟩

/-- -1, 0 or 1, as a is less than, equal to or greater than b. -/
def cmp3 (a b : Int) : Int := if a < b then -1 else if a > b then 1 else 0

theorem cmp3_lt {a b : Int} (h : a < b) : cmp3 a b = -1 := by unfold cmp3; rw [if_pos h]
theorem cmp3_gt {a b : Int} (h : b < a) : cmp3 a b = 1 := by unfold cmp3; rw [if_neg (by omega), if_pos h]
theorem cmp3_eq {a b : Int} (h : a = b) : cmp3 a b = 0 := by unfold cmp3; rw [if_neg (by omega), if_neg (by omega)]
theorem cmp3_swap (a b : Int) : cmp3 b a = -cmp3 a b := by unfold cmp3; split <;> split <;> (try split) <;> omega
theorem cmp3_range (a b : Int) : -1 ≤ cmp3 a b ∧ cmp3 a b ≤ 1 := by unfold cmp3; split <;> (try split) <;> omega
theorem cmp3_cases (a b : Int) : (a < b ∧ cmp3 a b = -1) ∨ (a = b ∧ cmp3 a b = 0) ∨ (b < a ∧ cmp3 a b = 1) := by
  rcases Int.lt_trichotomy a b with h | h | h
  · exact Or.inl ⟨h, cmp3_lt h⟩
  · exact Or.inr (Or.inl ⟨h, cmp3_eq h⟩)
  · exact Or.inr (Or.inr ⟨h, cmp3_gt h⟩)

end Go.Proofs.Ytmilejcbkpkplaa.MathNum
/- Words for what a printed function answers once it has rounds enough. -/
namespace Go.Proofs.Ytmilejcbkpkplaa.EvWords
open Go Go.RowKit Go.Proofs.YtmilejcbkpkplaaW.PrintWords Go.Proofs.YtmilejcbkpkplaaW.PrintLast Go.Proofs.YtmilejcbkpkplaaW.PrintMore Go.Proofs.Ytmilejcbkpkplaa.MathNum

theorem ev_pos {α : Type} {c : Prop} [Decidable c] (h : c) {A B : Nat → Option α} {r : α} (e : Ev A r) : Ev (fun k => if c then A k else B k) r := by
  simp only [if_pos h]; exact e
theorem ev_neg {α : Type} {c : Prop} [Decidable c] (h : ¬ c) {A B : Nat → Option α} {r : α} (e : Ev B r) : Ev (fun k => if c then A k else B k) r := by
  simp only [if_neg h]; exact e
theorem ev_now {α : Type} (r : α) : Ev (fun _ => some r) r := Ev.now r
theorem ev_eq {α : Type} {g : Nat → Option α} {r r' : α} (e : Ev g r) (h : r = r') : Ev g r' := h ▸ e
theorem ev_some {α : Type} {g : Nat → Option α} {r : α} (e : Ev g r) : ∃ k, g k = some r := e.rounds
/-- A step of a loop, or of a join: the number of rounds goes down by one. -/
theorem ev_step {α : Type} {g f : Nat → Option α} {r : α} (h : ∀ k, g (k + 1) = f k) (e : Ev f r) : Ev g r := Ev.step h e
theorem ev_let {α β : Type} {a : α} {f : Nat → α → Option β} {r : β} (e : Ev (fun n => f n a) r) : Ev (fun n => (some a).bind (f n)) r := by
  simpa only [Option.bind_some] using e

/-- A list's element behind a store. -/
theorem rd_set {l : List Int} {i j v : Int} (h0 : 0 ≤ i) (h1 : i < l.length) (hj : 0 ≤ j) : rd (l.set i.toNat v) j = if j = i then v else rd l j := by
  unfold rd
  rw [List.getD_eq_getElem?_getD, List.getElem?_set, List.getD_eq_getElem?_getD]
  by_cases h : j = i
  · subst h
    rw [if_pos rfl, if_pos rfl, if_pos (by omega)]; rfl
  · rw [if_neg (by omega), if_neg h]
theorem rdB_set {l : List Bool} {i j : Int} {v : Bool} (h0 : 0 ≤ i) (h1 : i < l.length) (hj : 0 ≤ j) : rdOf false (l.set i.toNat v) j = if j = i then v else rdOf false l j := by
  unfold rdOf
  rw [List.getD_eq_getElem?_getD, List.getElem?_set, List.getD_eq_getElem?_getD]
  by_cases h : j = i
  · subst h
    rw [if_pos rfl, if_pos rfl, if_pos (by omega)]; rfl
  · rw [if_neg (by omega), if_neg h]
theorem rd_rep {n : Nat} {v j : Int} (h0 : 0 ≤ j) (h1 : j < n) : rd (List.replicate n v) j = v := by
  unfold rd
  rw [List.getD_eq_getElem?_getD, List.getElem?_replicate, if_pos (by omega)]; rfl
theorem rdB_rep {n : Nat} {j : Int} : rdOf false (List.replicate n false) j = false := by
  unfold rdOf
  rw [List.getD_eq_getElem?_getD, List.getElem?_replicate]
  split <;> rfl
end Go.Proofs.Ytmilejcbkpkplaa.EvWords
/- The chapter's examples, and which points and radii are valid. -/
namespace Go.Proofs.Ytmilejcbkpkplaa.PAll
set_option linter.unusedVariables false
open Go Go.RowKit Go.Proofs.YtmilejcbkpkplaaW.PrintWords Go.Proofs.YtmilejcbkpkplaaW.PrintLast Go.Proofs.YtmilejcbkpkplaaW.PrintMore Go.Proofs.Ytmilejcbkpkplaa.MathNum Go.Proofs.Ytmilejcbkpkplaa.EvWords

set_option maxRecDepth 100000 in
theorem awake_ev : Ev (fun k => dancestudiolaw03_awake.f k) true := Ev.of dancestudiolaw03_awake.mono (k := 60) (by decide +kernel)

/-- A number that a coordinate can be. -/
def cOk (x : Int) : Prop := -32768 ≤ x ∧ x ≤ 32768
instance (x : Int) : Decidable (cOk x) := by unfold cOk; exact inferInstance
def pOk (p : S23) : Prop := cOk p.f0 ∧ cOk p.f1
instance (p : S23) : Decidable (pOk p) := by unfold pOk; exact inferInstance
def rOk (r : Int) : Prop := 0 ≤ r ∧ r ≤ 32768
instance (r : Int) : Decidable (rOk r) := by unfold rOk; exact inferInstance

theorem rdT_nat (c : List S23) {i : Nat} (h : i < c.length) : rd_T23 c (i : Int) = c[i] := by
  unfold rd_T23
  rw [List.getD_eq_getElem?_getD, Int.toNat_natCast, List.getElem?_eq_getElem h]; rfl
theorem rd_nat (c : List Int) {i : Nat} (h : i < c.length) : rd c (i : Int) = c[i] := by
  unfold rd
  rw [List.getD_eq_getElem?_getD, Int.toNat_natCast, List.getElem?_eq_getElem h]; rfl

theorem valid_l1 {rs : List Int} (hr : rs.length ≤ 9223372036854775807) (R : Bool) (hy : (∀ r ∈ rs, rOk r) → R = true) (hn : ¬ (∀ r ∈ rs, rOk r) → R = false) (d : Nat) : ∀ i : Nat, i + d = rs.length → (∀ r ∈ rs.take i, rOk r) →
    Ev (fun k => geom_valid.l1 k rs (rs.length : Int) (i : Int)) R := by
  induction d with
  | zero =>
    intro i hi hp
    rw [List.take_of_length_le (by omega)] at hp
    rw [hy hp]
    exact ev_step (fun k => by simp only [geom_valid.l1] <;> exact rfl) (ev_neg (by omega) (ev_now _))
  | succ d ih =>
    intro i hi hp
    have hlt : i < rs.length := by omega
    refine ev_step (fun k => by simp only [geom_valid.l1] <;> exact rfl) (ev_pos (by omega) (ev_pos (by omega) (ev_pos (by omega) ?_)))
    rw [rd_nat rs hlt]
    by_cases h0 : rs[i] < 0
    · rw [hn fun h => by have := (h _ (List.getElem_mem hlt)).1; omega]
      exact ev_pos h0 (ev_now _)
    · refine ev_neg h0 ?_
      by_cases h1 : rs[i] > 32768
      · rw [hn fun h => by have := (h _ (List.getElem_mem hlt)).2; omega]
        exact ev_pos h1 (ev_now _)
      · refine ev_neg h1 ?_
        rw [w64 (by omega) (by omega)]
        refine ih (i + 1) (by omega) (fun r hm => ?_)
        rw [List.take_succ_eq_append_getElem hlt] at hm
        rcases List.mem_append.1 hm with hm | hm
        · exact hp r hm
        · rw [List.mem_singleton.1 hm]; exact ⟨by omega, by omega⟩
theorem valid_l0 {ps : List S23} {rs : List Int} (hp0 : ps.length ≤ 9223372036854775807) (hr : rs.length ≤ 9223372036854775807) (R : Bool) (hy : (∀ p ∈ ps, pOk p) → (∀ r ∈ rs, rOk r) → R = true) (hn : ¬ ((∀ p ∈ ps, pOk p) ∧ (∀ r ∈ rs, rOk r)) → R = false) (d : Nat) :
    ∀ i : Nat, i + d = ps.length → (∀ p ∈ ps.take i, pOk p) → Ev (fun k => geom_valid.l0 k rs ps (ps.length : Int) (i : Int)) R := by
  induction d with
  | zero =>
    intro i hi hp
    rw [List.take_of_length_le (by omega)] at hp
    refine ev_step (fun k => by simp only [geom_valid.l0] <;> exact rfl) (ev_neg (by omega) ?_)
    exact valid_l1 hr R (hy hp) (fun h => hn fun h' => h h'.2) rs.length 0 (by omega) (by simp)
  | succ d ih =>
    intro i hi hp
    have hlt : i < ps.length := by omega
    refine ev_step (fun k => by simp only [geom_valid.l0] <;> exact rfl) (ev_pos (by omega) (ev_pos (by omega) (ev_pos (by omega) ?_)))
    rw [rdT_nat ps hlt]
    have bad : ¬ pOk ps[i] → R = false := fun h => hn fun h' => h (h'.1 _ (List.getElem_mem hlt))
    by_cases h0 : ps[i].f0 < -32768
    · rw [bad fun h => by have := h.1.1; omega]
      exact ev_pos h0 (ev_now _)
    · refine ev_neg h0 ?_
      by_cases h1 : ps[i].f0 > 32768
      · rw [bad fun h => by have := h.1.2; omega]
        exact ev_pos h1 (ev_now _)
      · refine ev_neg h1 ?_
        by_cases h2 : ps[i].f1 < -32768
        · rw [bad fun h => by have := h.2.1; omega]
          exact ev_pos h2 (ev_now _)
        · refine ev_neg h2 ?_
          by_cases h3 : ps[i].f1 > 32768
          · rw [bad fun h => by have := h.2.2; omega]
            exact ev_pos h3 (ev_now _)
          · refine ev_neg h3 ?_
            rw [w64 (by omega) (by omega)]
            refine ih (i + 1) (by omega) (fun p hm => ?_)
            rw [List.take_succ_eq_append_getElem hlt] at hm
            rcases List.mem_append.1 hm with hm | hm
            · exact hp p hm
            · rw [List.mem_singleton.1 hm]; exact ⟨⟨by omega, by omega⟩, ⟨by omega, by omega⟩⟩
theorem valid_ev {ps : List S23} {rs : List Int} (hp : ps.length ≤ 9223372036854775807) (hr : rs.length ≤ 9223372036854775807) : Ev (fun k => geom_valid.f k ps rs) (decide ((∀ p ∈ ps, pOk p) ∧ (∀ r ∈ rs, rOk r))) := by
  simp only [geom_valid.f]
  exact valid_l0 hp hr _ (fun a b => by simpa using ⟨a, b⟩) (fun h => by simpa using h) ps.length 0 (by omega) (by simp)

theorem rValid (x y : Int) : dancestudioref03_Valid.f x y = some (decide (cOk x ∧ cOk y)) := by
  unfold dancestudioref03_Valid.f cOk
  by_cases h1 : x ≥ -32768
  · by_cases h2 : x ≤ 32768
    · by_cases h3 : y ≥ -32768
      · rw [if_pos h1, if_pos h2, if_pos h3]; exact congrArg some (decide_eq_decide.2 (by omega))
      · rw [if_pos h1, if_pos h2, if_neg h3]; exact congrArg some (decide_eq_false (by omega)).symm
    · rw [if_pos h1, if_neg h2]; exact congrArg some (decide_eq_false (by omega)).symm
  · rw [if_neg h1]; exact congrArg some (decide_eq_false (by omega)).symm
theorem rRadius (r : Int) : dancestudioref03_Radius.f r = some (decide (rOk r)) := by
  unfold dancestudioref03_Radius.f rOk
  by_cases h1 : r ≥ 0
  · rw [if_pos h1]; exact congrArg some (decide_eq_decide.2 (by omega))
  · rw [if_neg h1]; exact congrArg some (decide_eq_false (by omega)).symm

theorem minus_ok {a b c d : Int} (ha : cOk a) (hb : cOk b) (hc : cOk c) (hd : cOk d) : geom_minus.f a b c d = some (a - c, b - d) := by
  unfold geom_minus.f cOk at *
  rw [w64 (by omega) (by omega), w64 (by omega) (by omega)]
/-- Products of small numbers. -/
theorem mul_bound {a b m n : Int} (ha : -m ≤ a ∧ a ≤ m) (hb : -n ≤ b ∧ b ≤ n) : -(m * n) ≤ a * b ∧ a * b ≤ m * n := by
  have hm : 0 ≤ m := by omega
  have hn : 0 ≤ n := by omega
  constructor
  · by_cases h : 0 ≤ a
    · have h1 : a * (-n) ≤ a * b := Int.mul_le_mul_of_nonneg_left hb.1 h
      have h2 : a * n ≤ m * n := Int.mul_le_mul_of_nonneg_right ha.2 hn
      have h3 : a * (-n) = -(a * n) := Int.mul_neg a n
      omega
    · have h1 : (-a) * b ≤ (-a) * n := Int.mul_le_mul_of_nonneg_left hb.2 (by omega)
      have h2 : (-a) * n ≤ m * n := Int.mul_le_mul_of_nonneg_right (by omega) hn
      have h3 : (-a) * b = -(a * b) := Int.neg_mul a b
      omega
  · by_cases h : 0 ≤ a
    · have h1 : a * b ≤ a * n := Int.mul_le_mul_of_nonneg_left hb.2 h
      have h2 : a * n ≤ m * n := Int.mul_le_mul_of_nonneg_right ha.2 hn
      omega
    · have h1 : (-a) * (-n) ≤ (-a) * b := Int.mul_le_mul_of_nonneg_left hb.1 (by omega)
      have h2 : (-a) * n ≤ m * n := Int.mul_le_mul_of_nonneg_right (by omega) hn
      have h3 : (-a) * b = -(a * b) := Int.neg_mul a b
      have h4 : (-a) * (-n) = -((-a) * n) := Int.mul_neg (-a) n
      omega
theorem dot_ok {a b c d : Int} (ha : -131072 ≤ a ∧ a ≤ 131072) (hb : -131072 ≤ b ∧ b ≤ 131072) (hc : -131072 ≤ c ∧ c ≤ 131072) (hd : -131072 ≤ d ∧ d ≤ 131072) : geom_dot.f a b c d = some (a * c + b * d) := by
  unfold geom_dot.f
  have h1 := mul_bound ha hc
  have h2 := mul_bound hb hd
  rw [w64 (n := a * c) (by omega) (by omega), w64 (n := b * d) (by omega) (by omega), w64 (by omega) (by omega)]
theorem cross_ok {a b c d : Int} (ha : -131072 ≤ a ∧ a ≤ 131072) (hb : -131072 ≤ b ∧ b ≤ 131072) (hc : -131072 ≤ c ∧ c ≤ 131072) (hd : -131072 ≤ d ∧ d ≤ 131072) : geom_cross.f a b c d = some (a * d - b * c) := by
  unfold geom_cross.f
  have h1 := mul_bound ha hd
  have h2 := mul_bound hb hc
  rw [w64 (n := a * d) (by omega) (by omega), w64 (n := b * c) (by omega) (by omega), w64 (by omega) (by omega)]
theorem square_ok {a b c d : Int} (ha : cOk a) (hb : cOk b) (hc : cOk c) (hd : cOk d) : dancestudioref03_square.f a b c d = some ((a - c) * (a - c) + (b - d) * (b - d)) := by
  unfold dancestudioref03_square.f
  unfold cOk at *
  have x : -131072 ≤ a - c ∧ a - c ≤ 131072 := by omega
  have y : -131072 ≤ b - d ∧ b - d ≤ 131072 := by omega
  have h1 := mul_bound x x
  have h2 := mul_bound y y
  rw [w64 (n := a - c) (by omega) (by omega), w64 (n := b - d) (by omega) (by omega), w64 (n := (a - c) * (a - c)) (by omega) (by omega), w64 (n := (b - d) * (b - d)) (by omega) (by omega), w64 (by omega) (by omega)]
theorem rcross_ok {a b c d e f : Int} (ha : cOk a) (hb : cOk b) (hc : cOk c) (hd : cOk d) (he : cOk e) (hf : cOk f) : dancestudioref03_cross.f a b c d e f = some ((c - a) * (f - b) - (d - b) * (e - a)) := by
  unfold dancestudioref03_cross.f
  unfold cOk at *
  have x : -131072 ≤ c - a ∧ c - a ≤ 131072 := by omega
  have y : -131072 ≤ f - b ∧ f - b ≤ 131072 := by omega
  have z : -131072 ≤ d - b ∧ d - b ≤ 131072 := by omega
  have u : -131072 ≤ e - a ∧ e - a ≤ 131072 := by omega
  have h1 := mul_bound x y
  have h2 := mul_bound z u
  rw [w64 (n := c - a) (by omega) (by omega), w64 (n := f - b) (by omega) (by omega), w64 (n := d - b) (by omega) (by omega), w64 (n := e - a) (by omega) (by omega), w64 (n := (c - a) * (f - b)) (by omega) (by omega), w64 (n := (d - b) * (e - a)) (by omega) (by omega), w64 (by omega) (by omega)]
end Go.Proofs.Ytmilejcbkpkplaa.PAll
/- Plain facts about points, segments, moving discs and convex hulls, over whole numbers, without any program. -/
namespace Go.Proofs.Ytmilejcbkpkplaa.MathGeom
open Go.RowKit Go.Proofs.Ytmilejcbkpkplaa.MathNum

/-- The scalar and the cross product. -/
def dt (a b c d : Int) : Int := a * c + b * d
def cr (a b c d : Int) : Int := a * d - b * c

/-- The sign of the least squared distance of the origin from the segment d, d + v less r2. -/
def nst (dx dy vx vy r2 : Int) : Int :=
  if -(dt dx dy vx vy) ≤ 0 then cmp3 (dt dx dy dx dy) r2
  else if -(dt dx dy vx vy) ≥ dt vx vy vx vy then cmp3 (dt (dx + vx) (dy + vy) (dx + vx) (dy + vy)) r2
  else cmp3 (cr dx dy vx vy * cr dx dy vx vy) (r2 * dt vx vy vx vy)

theorem mul_self_nonneg' (a : Int) : 0 ≤ a * a := by
  rcases Int.le_total 0 a with h | h
  · exact Int.mul_nonneg h h
  · have := Int.mul_nonneg (a := -a) (b := -a) (by omega) (by omega)
    rw [Int.neg_mul_neg] at this; exact this
theorem dt_self (a b : Int) : 0 ≤ dt a b a b := by
  unfold dt
  have h1 := mul_self_nonneg' a
  have h2 := mul_self_nonneg' b
  omega
theorem dt_zero {a b : Int} (h : dt a b a b ≤ 0) : a = 0 ∧ b = 0 := by
  unfold dt at h
  have h1 := mul_self_nonneg' a
  have h2 := mul_self_nonneg' b
  have e1 : a * a = 0 := by omega
  have e2 : b * b = 0 := by omega
  exact ⟨(Int.mul_eq_zero.mp e1).elim id id, (Int.mul_eq_zero.mp e2).elim id id⟩

/-- The segment the other way round. -/
theorem nst_rev (dx dy vx vy r2 : Int) : nst (dx + vx) (dy + vy) (-vx) (-vy) r2 = nst dx dy vx vy r2 := by
  have e1 : -(dt (dx + vx) (dy + vy) (-vx) (-vy)) = dt vx vy vx vy - -(dt dx dy vx vy) := by unfold dt; grind
  have e2 : dt (-vx) (-vy) (-vx) (-vy) = dt vx vy vx vy := by unfold dt; grind
  have e3 : cr (dx + vx) (dy + vy) (-vx) (-vy) = -(cr dx dy vx vy) := by unfold cr; grind
  have e4 : dx + vx + -vx = dx := by omega
  have e5 : dy + vy + -vy = dy := by omega
  unfold nst
  rw [e1, e2, e3, e4, e5]
  generalize ha : -(dt dx dy vx vy) = a at *
  have hL := dt_self vx vy
  by_cases c1 : a ≤ 0
  · rw [if_pos c1]
    by_cases c2 : dt vx vy vx vy - a ≤ 0
    · rw [if_pos c2]
      have hz := dt_zero (a := vx) (b := vy) (by omega)
      rw [hz.1, hz.2]; simp
    · rw [if_neg c2, if_pos (by omega)]
  · rw [if_neg c1]
    by_cases c2 : a ≥ dt vx vy vx vy
    · rw [if_pos c2, if_pos (by omega)]
    · rw [if_neg c2, if_neg (by omega), if_neg (by omega)]
      congr 1; grind
theorem nst_neg (dx dy vx vy r2 : Int) : nst (-dx) (-dy) (-vx) (-vy) r2 = nst dx dy vx vy r2 := by
  have e1 : dt (-dx) (-dy) (-vx) (-vy) = dt dx dy vx vy := by unfold dt; grind
  have e2 : dt (-vx) (-vy) (-vx) (-vy) = dt vx vy vx vy := by unfold dt; grind
  have e3 : cr (-dx) (-dy) (-vx) (-vy) = cr dx dy vx vy := by unfold cr; grind
  have e4 : dt (-dx) (-dy) (-dx) (-dy) = dt dx dy dx dy := by unfold dt; grind
  have e5 : dt (-dx + -vx) (-dy + -vy) (-dx + -vx) (-dy + -vy) = dt (dx + vx) (dy + vy) (dx + vx) (dy + vy) := by unfold dt; grind
  unfold nst
  rw [e1, e2, e3, e4, e5]
/-- Lagrange: the product of the squares is the sum of the squared products. -/
theorem lagrange (a b c d : Int) : dt a b a b * dt c d c d = dt a b c d * dt a b c d + cr a b c d * cr a b c d := by unfold dt cr; grind
theorem cr_shift (dx dy vx vy : Int) : cr (dx + vx) (dy + vy) vx vy = cr dx dy vx vy := by unfold cr; grind

/-- Nearer than the radius at some moment: at an end, or between. -/
theorem nst_touch (dx dy vx vy r2 : Int) : (nst dx dy vx vy r2 < 0) ↔ (dt dx dy dx dy < r2 ∨ dt (dx + vx) (dy + vy) (dx + vx) (dy + vy) < r2 ∨
    (0 < -(dt dx dy vx vy) ∧ -(dt dx dy vx vy) < dt vx vy vx vy ∧ cr dx dy vx vy * cr dx dy vx vy < r2 * dt vx vy vx vy)) := by
  have hend : dt (dx + vx) (dy + vy) (dx + vx) (dy + vy) = dt dx dy dx dy + 2 * dt dx dy vx vy + dt vx vy vx vy := by unfold dt; grind
  have hL := dt_self vx vy
  have neg3 : ∀ a b : Int, cmp3 a b < 0 ↔ a < b := by
    intro a b
    rcases cmp3_cases a b with ⟨h, e⟩ | ⟨h, e⟩ | ⟨h, e⟩ <;> rw [e] <;> omega
  unfold nst
  by_cases c1 : -(dt dx dy vx vy) ≤ 0
  · rw [if_pos c1, neg3]; omega
  · rw [if_neg c1]
    by_cases c2 : -(dt dx dy vx vy) ≥ dt vx vy vx vy
    · rw [if_pos c2, neg3]; omega
    · rw [if_neg c2, neg3]
      constructor
      · intro h; exact Or.inr (Or.inr ⟨by omega, by omega, h⟩)
      · rintro (h | h | ⟨_, _, h⟩)
        · have l := lagrange dx dy vx vy
          have q := mul_self_nonneg' (dt dx dy vx vy)
          have : dt dx dy dx dy * dt vx vy vx vy < r2 * dt vx vy vx vy := Int.mul_lt_mul_of_pos_right h (by omega)
          omega
        · have l := lagrange (dx + vx) (dy + vy) vx vy
          rw [cr_shift] at l
          have q := mul_self_nonneg' (dt (dx + vx) (dy + vy) vx vy)
          have : dt (dx + vx) (dy + vy) (dx + vx) (dy + vy) * dt vx vy vx vy < r2 * dt vx vy vx vy := Int.mul_lt_mul_of_pos_right h (by omega)
          omega
        · exact h

/-- Not nearer than the radius: at no moment k / n. -/
theorem nst_moment {dx dy vx vy r n k : Int} (h : ¬ nst dx dy vx vy (r * r) < 0) (hk : 0 ≤ k) (hn : k ≤ n) :
    (r * n) * (r * n) ≤ (dx * n + vx * k) * (dx * n + vx * k) + (dy * n + vy * k) * (dy * n + vy * k) := by
  have ex : (dx * n + vx * k) * (dx * n + vx * k) + (dy * n + vy * k) * (dy * n + vy * k) = n * n * dt dx dy dx dy + 2 * (n * k) * dt dx dy vx vy + k * k * dt vx vy vx vy := by unfold dt; grind
  have er : (r * n) * (r * n) = n * n * (r * r) := by grind
  have hL := dt_self vx vy
  have nn := mul_self_nonneg' n
  have kk := mul_self_nonneg' k
  have nk : 0 ≤ n * k := Int.mul_nonneg (by omega) hk
  have ge3 : ∀ a b : Int, ¬ cmp3 a b < 0 → b ≤ a := by
    intro a b
    rcases cmp3_cases a b with ⟨h, e⟩ | ⟨h, e⟩ | ⟨h, e⟩ <;> rw [e] <;> omega
  rw [ex, er]
  unfold nst at h
  by_cases c1 : -(dt dx dy vx vy) ≤ 0
  · rw [if_pos c1] at h
    have g := ge3 _ _ h
    have a1 : n * n * (r * r) ≤ n * n * dt dx dy dx dy := Int.mul_le_mul_of_nonneg_left g nn
    have a2 : 0 ≤ n * k * dt dx dy vx vy := Int.mul_nonneg nk (by omega)
    have a3 : 0 ≤ k * k * dt vx vy vx vy := Int.mul_nonneg kk hL
    have a4 : 2 * (n * k) * dt dx dy vx vy = 2 * (n * k * dt dx dy vx vy) := by grind
    omega
  · rw [if_neg c1] at h
    by_cases c2 : -(dt dx dy vx vy) ≥ dt vx vy vx vy
    · rw [if_pos c2] at h
      have g := ge3 _ _ h
      have a1 : n * n * (r * r) ≤ n * n * dt (dx + vx) (dy + vy) (dx + vx) (dy + vy) := Int.mul_le_mul_of_nonneg_left g nn
      have a2 : n * n * dt dx dy dx dy + 2 * (n * k) * dt dx dy vx vy + k * k * dt vx vy vx vy = n * n * dt (dx + vx) (dy + vy) (dx + vx) (dy + vy) + 2 * (n * (n - k) * (-(dt dx dy vx vy) - dt vx vy vx vy)) + (n - k) * (n - k) * dt vx vy vx vy := by unfold dt; grind
      have a3 : 0 ≤ n * (n - k) * (-(dt dx dy vx vy) - dt vx vy vx vy) := Int.mul_nonneg (Int.mul_nonneg (by omega) (by omega)) (by omega)
      have a4 : 0 ≤ (n - k) * (n - k) * dt vx vy vx vy := Int.mul_nonneg (mul_self_nonneg' _) hL
      omega
    · rw [if_neg c2] at h
      have g := ge3 _ _ h
      have hLp : 0 < dt vx vy vx vy := by omega
      apply Int.not_lt.mp
      intro lt
      have b1 := Int.mul_lt_mul_of_pos_right lt hLp
      have b2 : n * n * (r * r * dt vx vy vx vy) ≤ n * n * (cr dx dy vx vy * cr dx dy vx vy) := Int.mul_le_mul_of_nonneg_left g nn
      have b3 : (n * n * dt dx dy dx dy + 2 * (n * k) * dt dx dy vx vy + k * k * dt vx vy vx vy) * dt vx vy vx vy = (n * dt dx dy vx vy + k * dt vx vy vx vy) * (n * dt dx dy vx vy + k * dt vx vy vx vy) + n * n * (cr dx dy vx vy * cr dx dy vx vy) := by unfold dt cr; grind
      have b4 := mul_self_nonneg' (n * dt dx dy vx vy + k * dt vx vy vx vy)
      have b5 : n * n * (r * r) * dt vx vy vx vy = n * n * (r * r * dt vx vy vx vy) := by grind
      omega
end Go.Proofs.Ytmilejcbkpkplaa.MathGeom
/- Convex hulls by turning around the corners: plain facts about lists of points. -/
namespace Go.Proofs.Ytmilejcbkpkplaa.PAll
set_option linter.unusedVariables false
open Go Go.RowKit Go.Proofs.YtmilejcbkpkplaaW.PrintWords Go.Proofs.YtmilejcbkpkplaaW.PrintLast Go.Proofs.YtmilejcbkpkplaaW.PrintMore Go.Proofs.Ytmilejcbkpkplaa.MathNum Go.Proofs.Ytmilejcbkpkplaa.EvWords Go.Proofs.Ytmilejcbkpkplaa.MathGeom

theorem S23_ext {a b : S23} (h0 : a.f0 = b.f0) (h1 : a.f1 = b.f1) : a = b := by cases a; cases b; simp_all
instance : DecidableEq S23 := fun a b => decidable_of_iff (a.f0 = b.f0 ∧ a.f1 = b.f1) ⟨fun h => S23_ext h.1 h.2, fun h => by subst h; exact ⟨rfl, rfl⟩⟩

/-- A half plane with one of its border's rays: the ways from a corner. -/
def HP (d e x y : Int) : Prop := 0 < cr d e x y ∨ cr d e x y = 0 ∧ dt d e x y ≤ 0

/-- What turns and lengths are in the coordinates that d, e spans. -/
theorem rot_cr (d e a b x y : Int) : dt d e d e * cr a b x y = dt d e a b * cr d e x y - cr d e a b * dt d e x y := by unfold dt cr; grind
theorem rot_dt (d e a b x y : Int) : dt d e d e * dt a b x y = dt d e a b * dt d e x y + cr d e a b * cr d e x y := by unfold dt cr; grind
theorem pos_of_mul {D a : Int} (hD : 0 < D) (h : 0 ≤ D * a) : 0 ≤ a := by
  apply Int.not_lt.mp
  intro g
  have := Int.mul_neg_of_pos_of_neg hD g
  omega
theorem HP_nonneg {d e x y : Int} (h : HP d e x y) : 0 ≤ cr d e x y := by rcases h with h | h <;> omega
theorem cr_anti (a b x y : Int) : cr x y a b = -cr a b x y := by unfold cr; grind
theorem dt_comm (a b x y : Int) : dt x y a b = dt a b x y := by unfold dt; grind

/-- In such a half plane turning is an order. -/
theorem turn_trans {d e a b x y p q : Int} (hD : 0 < dt d e d e) (h1 : HP d e a b) (h2 : HP d e x y) (h3 : HP d e p q) (hne : 0 < dt x y x y) (h12 : 0 ≤ cr a b x y) (h23 : 0 ≤ cr x y p q) : 0 ≤ cr a b p q := by
  have r12 := rot_cr d e a b x y
  have r23 := rot_cr d e x y p q
  have r13 := rot_cr d e a b p q
  have r22 := rot_dt d e x y x y
  apply pos_of_mul hD
  have m12 := Int.mul_nonneg (Int.le_of_lt hD) h12
  have m23 := Int.mul_nonneg (Int.le_of_lt hD) h23
  have m22 := Int.mul_pos hD hne
  rw [r12] at m12; rw [r23] at m23; rw [r13]; rw [r22] at m22
  have g1 := HP_nonneg h1
  have g3 := HP_nonneg h3
  have k1 : cr d e a b = 0 → dt d e a b ≤ 0 := fun z => by rcases h1 with h | h <;> omega
  have k2 : cr d e x y = 0 → dt d e x y ≤ 0 := fun z => by rcases h2 with h | h <;> omega
  have k3 : cr d e p q = 0 → dt d e p q ≤ 0 := fun z => by rcases h3 with h | h <;> omega
  have g2 := HP_nonneg h2
  clear r12 r23 r13 r22 h1 h2 h3 h12 h23
  generalize cr d e a b = Y1 at *
  generalize dt d e a b = X1 at *
  generalize cr d e x y = Y2 at *
  generalize dt d e x y = X2 at *
  generalize cr d e p q = Y3 at *
  generalize dt d e p q = X3 at *
  rcases Int.lt_or_eq_of_le g2 with g | g
  · apply pos_of_mul g
    have a1 := Int.mul_nonneg g3 m12
    have a2 := Int.mul_nonneg g1 m23
    have : Y2 * (X1 * Y3 - Y1 * X3) = Y3 * (X1 * Y2 - Y1 * X2) + Y1 * (X2 * Y3 - Y2 * X3) := by grind
    omega
  · have z : Y2 = 0 := g.symm
    subst z
    have x2 : X2 ≤ 0 := k2 rfl
    have x2' : X2 < 0 := by
      rcases Int.lt_or_eq_of_le x2 with h | h
      · exact h
      · subst h; simp at m22
    have y3 : Y3 = 0 := by
      rcases Int.lt_or_eq_of_le g3 with h | h
      · have := Int.mul_neg_of_neg_of_pos x2' h; omega
      · exact h.symm
    subst y3
    have := Int.mul_nonneg g1 (a := Y1) (b := -X3) (by have := k3 rfl; omega)
    rw [Int.mul_neg] at this
    omega
/-- Ways of one line in such a half plane have one direction. -/
theorem same_way {d e a b x y : Int} (hD : 0 < dt d e d e) (h1 : HP d e a b) (h2 : HP d e x y) (hc : cr a b x y = 0) : 0 ≤ dt a b x y := by
  have r := rot_cr d e a b x y
  have s := rot_dt d e a b x y
  apply pos_of_mul hD
  rw [hc, Int.mul_zero] at r
  rw [s]
  have g1 := HP_nonneg h1
  have g2 := HP_nonneg h2
  have k1 : cr d e a b = 0 → dt d e a b ≤ 0 := fun z => by rcases h1 with h | h <;> omega
  have k2 : cr d e x y = 0 → dt d e x y ≤ 0 := fun z => by rcases h2 with h | h <;> omega
  clear s h1 h2 hc
  generalize cr d e a b = Y1 at *
  generalize dt d e a b = X1 at *
  generalize cr d e x y = Y2 at *
  generalize dt d e x y = X2 at *
  have hy := Int.mul_nonneg g1 g2
  have hx : 0 ≤ X1 * X2 := by
    rcases Int.lt_or_eq_of_le g1 with a | a
    · rcases Int.lt_or_eq_of_le g2 with b | b
      · have pp := Int.mul_pos a b
        apply pos_of_mul pp
        have : Y1 * Y2 * (X1 * X2) = (X1 * Y2) * (X1 * Y2) := by
          have : X1 * Y2 = Y1 * X2 := by omega
          have e : Y1 * Y2 * (X1 * X2) = (Y1 * X2) * (X1 * Y2) := by grind
          rw [e, this]
        rw [this]; exact mul_self_nonneg' _
      · have z : Y2 = 0 := b.symm
        subst z
        have : Y1 * X2 = 0 := by omega
        rcases Int.mul_eq_zero.mp this with h | h
        · omega
        · rw [h]; simp
    · have z : Y1 = 0 := a.symm
      subst z
      have : X1 * Y2 = 0 := by omega
      rcases Int.mul_eq_zero.mp this with h | h
      · rw [h]; simp
      · exact Int.mul_nonneg_of_nonpos_of_nonpos (k1 rfl) (k2 h)
  omega

/-- The turn from o to p around c, and the square of a way. -/
def cx (c o p : S23) : Int := cr (o.f0 - c.f0) (o.f1 - c.f1) (p.f0 - c.f0) (p.f1 - c.f1)
def sq (c p : S23) : Int := dt (p.f0 - c.f0) (p.f1 - c.f1) (p.f0 - c.f0) (p.f1 - c.f1)
theorem cx_anti (c o p : S23) : cx c p o = -cx c o p := cr_anti _ _ _ _
theorem sq_nonneg (c p : S23) : 0 ≤ sq c p := dt_self _ _
theorem sq_zero {c p : S23} (h : sq c p ≤ 0) : p = c := by
  have := dt_zero h
  exact S23_ext (by omega) (by omega)
theorem sq_pos {c p : S23} (h : p ≠ c) : 0 < sq c p := by
  have := sq_nonneg c p
  rcases Int.lt_or_eq_of_le this with g | g
  · exact g
  · exact absurd (sq_zero (by omega)) h
theorem sq_self (c : S23) : sq c c = 0 := by unfold sq dt; simp
def better (c o p : S23) : Prop := if o = c then p ≠ c else cx c o p < 0 ∨ cx c o p = 0 ∧ sq c p > sq c o
instance (c o p : S23) : Decidable (better c o p) := by unfold better; exact inferInstance
def step (c o p : S23) : S23 := if better c o p then p else o
def nxt (l : List S23) (c : S23) : S23 := l.foldl (step c) c
/-- Nothing is to the right of the way from c to q, and nothing on it is farther. -/
def Gd (l : List S23) (c q : S23) : Prop := ∀ p ∈ l, 0 ≤ cx c q p ∧ (cx c q p = 0 → sq c p ≤ sq c q)
def Cor (l : List S23) (c : S23) : Prop := ∃ d e : Int, 0 < dt d e d e ∧ ∀ p ∈ l, HP d e (p.f0 - c.f0) (p.f1 - c.f1)

theorem step_good {d e : Int} {c o p : S23} {s : List S23} (hD : 0 < dt d e d e) (hs : ∀ r ∈ s, HP d e (r.f0 - c.f0) (r.f1 - c.f1)) (hp : HP d e (p.f0 - c.f0) (p.f1 - c.f1))
    (h : o = c ∧ (∀ r ∈ s, r = c) ∨ o ∈ s ∧ o ≠ c ∧ Gd s c o) : step c o p = c ∧ (∀ r ∈ s ++ [p], r = c) ∨ step c o p ∈ s ++ [p] ∧ step c o p ≠ c ∧ Gd (s ++ [p]) c (step c o p) := by
  have yes : better c o p → step c o p = p := fun h => by unfold step; rw [if_pos h]
  have no : ¬ better c o p → step c o p = o := fun h => by unfold step; rw [if_neg h]
  unfold better at yes no
  rcases h with ⟨rfl, h⟩ | ⟨ho, hne, hg⟩
  · rw [if_pos rfl] at yes no
    by_cases hp' : p ≠ o
    · rw [yes hp']
      refine Or.inr ⟨by simp, hp', fun r hr => ?_⟩
      rcases List.mem_append.1 hr with hr | hr
      · rw [h r hr]
        have z : cx o p o = 0 := by unfold cx cr; simp
        exact ⟨by omega, fun _ => by rw [sq_self]; exact sq_nonneg _ _⟩
      · rw [List.mem_singleton.1 hr]
        have z : cx o p p = 0 := by unfold cx cr; grind
        exact ⟨by omega, fun _ => Int.le_refl _⟩
    · rw [no hp']
      refine Or.inl ⟨rfl, fun r hr => ?_⟩
      rcases List.mem_append.1 hr with hr | hr
      · exact h r hr
      · rw [List.mem_singleton.1 hr]; exact Decidable.not_not.1 hp'
  · rw [if_neg hne] at yes no
    have so := sq_pos hne
    by_cases hb : cx c o p < 0 ∨ cx c o p = 0 ∧ sq c p > sq c o
    · rw [yes hb]
      have pne : p ≠ c := by
        rintro rfl
        rcases hb with h | h
        · unfold cx cr at h; simp at h
        · rw [sq_self] at h; omega
      have sp := sq_pos pne
      have hpo : 0 ≤ cx c p o := by rw [cx_anti]; omega
      refine Or.inr ⟨by simp, pne, fun r hr => ?_⟩
      rcases List.mem_append.1 hr with hr | hr
      · obtain ⟨g1, g2⟩ := hg r hr
        have t1 : 0 ≤ cx c p r := turn_trans hD hp (hs o ho) (hs r hr) so hpo g1
        refine ⟨t1, fun z => ?_⟩
        rcases Int.lt_or_eq_of_le (sq_nonneg c r) with sr | sr
        · have zr : 0 ≤ cx c r p := by rw [cx_anti]; omega
          rcases hb with h | h
          · have := turn_trans hD (hs o ho) (hs r hr) hp sr g1 zr
            have : 0 ≤ cx c o p := this
            omega
          · have k : 0 ≤ cx c r o := turn_trans hD (hs r hr) hp (hs o ho) sp zr hpo
            rw [cx_anti] at k
            have := g2 (by omega)
            omega
        · omega
      · rw [List.mem_singleton.1 hr]
        have z : cx c p p = 0 := by unfold cx cr; grind
        exact ⟨by omega, fun _ => Int.le_refl _⟩
    · rw [no hb]
      refine Or.inr ⟨by simp [ho], hne, fun r hr => ?_⟩
      rcases List.mem_append.1 hr with hr | hr
      · exact hg r hr
      · rw [List.mem_singleton.1 hr]; exact ⟨by omega, fun z => by omega⟩
theorem fold_good {d e : Int} {c : S23} (hD : 0 < dt d e d e) (t : List S23) : ∀ (s : List S23) (o : S23), (∀ r ∈ s ++ t, HP d e (r.f0 - c.f0) (r.f1 - c.f1)) →
    (o = c ∧ (∀ r ∈ s, r = c) ∨ o ∈ s ∧ o ≠ c ∧ Gd s c o) → (t.foldl (step c) o = c ∧ (∀ r ∈ s ++ t, r = c) ∨ t.foldl (step c) o ∈ s ++ t ∧ t.foldl (step c) o ≠ c ∧ Gd (s ++ t) c (t.foldl (step c) o)) := by
  induction t with
  | nil => intro s o _ h; simpa using h
  | cons p t ih =>
    intro s o hs h
    have := ih (s ++ [p]) (step c o p) (by simpa using hs) (step_good hD (fun r hr => hs r (by simp [hr])) (hs p (by simp)) h)
    simpa using this
/-- The next corner, as seen from a corner. -/
theorem nxt_good {l : List S23} {c : S23} (h : Cor l c) : nxt l c = c ∧ (∀ p ∈ l, p = c) ∨ nxt l c ∈ l ∧ nxt l c ≠ c ∧ Gd l c (nxt l c) := by
  obtain ⟨d, e, hD, hH⟩ := h
  have := fold_good hD l [] c (by simpa using hH) (Or.inl ⟨rfl, by simp⟩)
  simpa [nxt] using this
theorem Cor_next {l : List S23} {c q : S23} (hne : q ≠ c) (h : Gd l c q) : Cor l q := by
  refine ⟨q.f0 - c.f0, q.f1 - c.f1, sq_pos hne, fun p hp => ?_⟩
  obtain ⟨h1, h2⟩ := h p hp
  have e1 : cr (q.f0 - c.f0) (q.f1 - c.f1) (p.f0 - q.f0) (p.f1 - q.f1) = cx c q p := by unfold cx cr; grind
  have e2 : sq c p = dt (p.f0 - q.f0) (p.f1 - q.f1) (p.f0 - q.f0) (p.f1 - q.f1) + 2 * dt (q.f0 - c.f0) (q.f1 - c.f1) (p.f0 - q.f0) (p.f1 - q.f1) + sq c q := by unfold sq dt; grind
  have := dt_self (p.f0 - q.f0) (p.f1 - q.f1)
  unfold HP
  rw [e1]
  rcases Int.lt_or_eq_of_le h1 with g | g
  · exact Or.inl g
  · exact Or.inr ⟨g.symm, by have := h2 g.symm; omega⟩
/-- A corner's way to the next corner is one alone. -/
theorem Gd_uniq {l : List S23} {c q q' : S23} (hc : Cor l c) (hq : q ∈ l) (hq' : q' ∈ l) (h : Gd l c q) (h' : Gd l c q') : q = q' := by
  obtain ⟨d, e, hD, hH⟩ := hc
  obtain ⟨a1, a2⟩ := h q' hq'
  obtain ⟨b1, b2⟩ := h' q hq
  have an := cx_anti c q q'
  have z : cx c q q' = 0 := by omega
  have es : sq c q = sq c q' := by have := a2 z; have := b2 (by omega); omega
  have nn := same_way hD (hH q hq) (hH q' hq') z
  have lg := lagrange (q.f0 - c.f0) (q.f1 - c.f1) (q'.f0 - c.f0) (q'.f1 - c.f1)
  have z' : cr (q.f0 - c.f0) (q.f1 - c.f1) (q'.f0 - c.f0) (q'.f1 - c.f1) = 0 := z
  rw [z'] at lg
  have e1 : sq q' q = sq c q - 2 * dt (q.f0 - c.f0) (q.f1 - c.f1) (q'.f0 - c.f0) (q'.f1 - c.f1) + sq c q' := by unfold sq dt; grind
  change sq c q * sq c q' = _ at lg
  rw [es] at lg e1
  have s0 := sq_nonneg c q'
  generalize dt (q.f0 - c.f0) (q.f1 - c.f1) (q'.f0 - c.f0) (q'.f1 - c.f1) = m at *
  have : sq c q' = m := by
    have f : (sq c q' - m) * (sq c q' + m) = 0 := by grind
    rcases Int.mul_eq_zero.mp f with g | g <;> omega
  exact sq_zero (by omega)
/-- Two corners have no corner in common as the next one. -/
theorem nxt_inj {l : List S23} {a b q : S23} (ha : Cor l a) (hb : Cor l b) (ma : a ∈ l) (mb : b ∈ l) (mq : q ∈ l) (hqa : q ≠ a) (hqb : q ≠ b) (ga : Gd l a q) (gb : Gd l b q) : a = b := by
  apply Classical.byContradiction
  intro hab
  obtain ⟨a1, a2⟩ := ga b mb
  obtain ⟨b1, b2⟩ := gb a ma
  have e1 : cx a q b = -cr (a.f0 - q.f0) (a.f1 - q.f1) (b.f0 - q.f0) (b.f1 - q.f1) := by unfold cx cr; grind
  have e2 : cx b q a = cr (a.f0 - q.f0) (a.f1 - q.f1) (b.f0 - q.f0) (b.f1 - q.f1) := by unfold cx cr; grind
  have z : cr (a.f0 - q.f0) (a.f1 - q.f1) (b.f0 - q.f0) (b.f1 - q.f1) = 0 := by omega
  have n1 := a2 (by omega)
  have n2 := b2 (by omega)
  have pa := sq_pos hqa
  have pb := sq_pos hqb
  have hba : a ≠ b := hab
  have pab := sq_pos hba
  have e3 : sq a b = sq b a := by unfold sq dt; grind
  have e4 : sq b a = sq a q - 2 * dt (a.f0 - q.f0) (a.f1 - q.f1) (b.f0 - q.f0) (b.f1 - q.f1) + sq b q := by unfold sq dt; grind
  have lg := lagrange (a.f0 - q.f0) (a.f1 - q.f1) (b.f0 - q.f0) (b.f1 - q.f1)
  have e5 : dt (a.f0 - q.f0) (a.f1 - q.f1) (a.f0 - q.f0) (a.f1 - q.f1) = sq a q := by unfold sq dt; grind
  have e6 : dt (b.f0 - q.f0) (b.f1 - q.f1) (b.f0 - q.f0) (b.f1 - q.f1) = sq b q := by unfold sq dt; grind
  rw [z, e5, e6] at lg
  -- the corner b sees a and q on one line, not in opposite directions
  obtain ⟨d, e, hD, hH⟩ := hb
  obtain ⟨d', e', hD', hH'⟩ := ha
  have w1 := same_way hD (hH a ma) (hH q mq) (by rw [show cr (a.f0 - b.f0) (a.f1 - b.f1) (q.f0 - b.f0) (q.f1 - b.f1) = -cr (a.f0 - q.f0) (a.f1 - q.f1) (b.f0 - q.f0) (b.f1 - q.f1) by unfold cr; grind]; omega)
  have w2 := same_way hD' (hH' b mb) (hH' q mq) (by rw [show cr (b.f0 - a.f0) (b.f1 - a.f1) (q.f0 - a.f0) (q.f1 - a.f1) = cr (a.f0 - q.f0) (a.f1 - q.f1) (b.f0 - q.f0) (b.f1 - q.f1) by unfold cr; grind]; omega)
  have f1 : dt (a.f0 - b.f0) (a.f1 - b.f1) (q.f0 - b.f0) (q.f1 - b.f1) = sq b q - dt (a.f0 - q.f0) (a.f1 - q.f1) (b.f0 - q.f0) (b.f1 - q.f1) := by unfold sq dt; grind
  have f2 : dt (b.f0 - a.f0) (b.f1 - a.f1) (q.f0 - a.f0) (q.f1 - a.f1) = sq a q - dt (a.f0 - q.f0) (a.f1 - q.f1) (b.f0 - q.f0) (b.f1 - q.f1) := by unfold sq dt; grind
  generalize dt (a.f0 - q.f0) (a.f1 - q.f1) (b.f0 - q.f0) (b.f1 - q.f1) = m at *
  -- m ≤ |u|², m ≤ |v|², m² = |u|² |v|², |v|² ≤ 2 m, |u|² ≤ 2 m
  have m0 : 0 < m := by omega
  have q1 : sq a q * sq b q ≥ m * sq b q := Int.mul_le_mul_of_nonneg_right (by omega) (by omega)
  have q2 : m * m ≤ m * sq b q := Int.mul_le_mul_of_nonneg_left (by omega) (by omega)
  have eqb : sq b q = m := by
    rcases Int.lt_or_eq_of_le (show m ≤ sq b q by omega) with g | g
    · have := Int.mul_lt_mul_of_pos_left g m0; omega
    · exact g.symm
  have eqa : sq a q = m := by
    have : (sq a q - m) * m = 0 := by rw [eqb] at lg; grind
    rcases Int.mul_eq_zero.mp this with g | g <;> omega
  omega

/-- The least point, by its first, then by its second number. -/
def lt2 (a b : S23) : Prop := a.f0 < b.f0 ∨ a.f0 = b.f0 ∧ a.f1 < b.f1
instance (a b : S23) : Decidable (lt2 a b) := by unfold lt2; exact inferInstance
def low (o p : S23) : S23 := if lt2 p o then p else o
theorem lt2_antisymm {a b : S23} (h1 : ¬ lt2 a b) (h2 : ¬ lt2 b a) : a = b := by
  unfold lt2 at *
  exact S23_ext (by omega) (by omega)
theorem low_least (t : List S23) : ∀ (s : List S23) (o : S23), o ∈ s → (∀ r ∈ s, ¬ lt2 r o) → t.foldl low o ∈ s ++ t ∧ ∀ r ∈ s ++ t, ¬ lt2 r (t.foldl low o) := by
  induction t with
  | nil => intro s o h1 h2; simpa using ⟨h1, h2⟩
  | cons p t ih =>
    intro s o h1 h2
    have := ih (s ++ [p]) (low o p) ?_ ?_
    · simpa using this
    · unfold low; split
      · simp
      · simp [h1]
    · intro r hr
      unfold low
      rcases List.mem_append.1 hr with hr | hr
      · have := h2 r hr
        split
        · rename_i hl; unfold lt2 at *; omega
        · exact this
      · rw [List.mem_singleton.1 hr]
        split
        · unfold lt2; omega
        · rename_i hl; exact hl
theorem Cor_first {l : List S23} {c : S23} (h : ∀ r ∈ l, ¬ lt2 r c) : Cor l c := by
  refine ⟨0, -1, by decide, fun p hp => ?_⟩
  have := h p hp
  unfold lt2 at this
  unfold HP cr dt
  omega

/-- What is without repetition in a list is not longer. -/
theorem nodup_len {α : Type} [DecidableEq α] : ∀ {s l : List α}, s.Nodup → (∀ x ∈ s, x ∈ l) → s.length ≤ l.length := by
  intro s
  induction s with
  | nil => intro l _ _; simp
  | cons a t ih =>
    intro l hn hs
    rw [List.nodup_cons] at hn
    have ha : a ∈ l := hs a (by simp)
    have := ih (l := l.erase a) hn.2 (fun x hx => by
      have : x ≠ a := by rintro rfl; exact hn.1 hx
      exact (List.mem_erase_of_ne this).2 (hs x (by simp [hx])))
    have e := List.length_erase_of_mem ha
    have p : 0 < l.length := List.length_pos_of_mem ha
    simp only [List.length_cons]
    omega

/-- The beginning of a walk around the hull. -/
structure Walk (l h : List S23) : Prop where
  ne : 0 < h.length
  nodup : h.Nodup
  sub : ∀ p ∈ h, p ∈ l
  cor : ∀ p ∈ h, Cor l p
  first : ∀ r ∈ l, ¬ lt2 r (h[0]'ne)
  chain : ∀ i (hi : i + 1 < h.length), nxt l h[i] = h[i + 1]
/-- The whole walk: it comes back to its first corner. -/
structure Hulled (l h : List S23) : Prop extends Walk l h where
  back : nxt l (h[h.length - 1]'(by omega)) = h[0]'ne

theorem Walk.len {l h : List S23} (w : Walk l h) : h.length ≤ l.length := nodup_len w.nodup w.sub
theorem Walk.one {l : List S23} {c : S23} (hc : c ∈ l) (h : ∀ r ∈ l, ¬ lt2 r c) : Walk l [c] :=
  ⟨by simp, by simp, by simpa using hc, by simpa using Cor_first h, by simpa using h, fun i hi => by simp at hi⟩
/-- The first corner that comes again is the first one. -/
theorem Walk.again {l h : List S23} {n : Nat} (w : Walk l h) (hn : h.length = n + 1) (hm : nxt l (h[n]'(by omega)) ∈ h) : nxt l (h[n]'(by omega)) = h[0]'(by omega) := by
  obtain ⟨j, hj, ej⟩ := List.getElem_of_mem hm
  cases j with
  | zero => rw [← ej]
  | succ j =>
    have cn := w.cor h[n] (List.getElem_mem _)
    rcases nxt_good cn with ⟨e, all⟩ | ⟨mq, hne, gd⟩
    · rw [e]; exact (all _ (w.sub _ (List.getElem_mem (l := h) (n := 0) (by omega)))).symm
    · have ch := w.chain j hj
      have cj := w.cor h[j] (List.getElem_mem _)
      have ne' : ∀ (a b : Nat) (ha : a < h.length) (hb : b < h.length), a ≠ b → h[a] ≠ h[b] := fun a b ha hb hab e => hab ((List.getElem_inj w.nodup).1 e)
      rcases nxt_good cj with ⟨e, all⟩ | ⟨mq', hne', gd'⟩
      · rw [ch] at e
        exact absurd e (ne' (j + 1) j hj (by omega) (by omega))
      · rw [ch, ej] at gd' hne'
        have := nxt_inj cn cj (w.sub _ (List.getElem_mem _)) (w.sub _ (List.getElem_mem _)) mq hne hne' gd gd'
        exact absurd this (ne' n j (by omega) (by omega) (by omega))
theorem Walk.more {l h : List S23} {n : Nat} (w : Walk l h) (hn : h.length = n + 1) (hm : nxt l (h[n]'(by omega)) ∉ h) : Walk l (h ++ [nxt l (h[n]'(by omega))]) := by
  have cn := w.cor h[n] (List.getElem_mem _)
  rcases nxt_good cn with ⟨e, _⟩ | ⟨mq, hne, gd⟩
  · rw [e] at hm; exact absurd (List.getElem_mem _) hm
  · refine ⟨by simp, ?_, ?_, ?_, ?_, ?_⟩
    · rw [List.nodup_append]
      exact ⟨w.nodup, by simp, fun a ha b hb e => by rw [List.mem_singleton.1 hb] at e; rw [e] at ha; exact hm ha⟩
    · intro p hp
      rcases List.mem_append.1 hp with hp | hp
      · exact w.sub p hp
      · rw [List.mem_singleton.1 hp]; exact mq
    · intro p hp
      rcases List.mem_append.1 hp with hp | hp
      · exact w.cor p hp
      · rw [List.mem_singleton.1 hp]; exact Cor_next hne gd
    · intro r hr
      rw [List.getElem_append_left (by omega)]
      exact w.first r hr
    · intro i hi
      simp only [List.length_append, List.length_singleton] at hi
      rw [List.getElem_append_left (by omega)]
      by_cases c : i + 1 < h.length
      · rw [List.getElem_append_left c]; exact w.chain i c
      · have : i = n := by omega
        subst this
        rw [List.getElem_append_right (by omega)]
        simp
end Go.Proofs.Ytmilejcbkpkplaa.PAll
/- What the printed functions of layer 1 that compare products answer. -/
namespace Go.Proofs.Ytmilejcbkpkplaa.PAll
set_option linter.unusedVariables false
open Go Go.RowKit Go.Proofs.YtmilejcbkpkplaaW.PrintWords Go.Proofs.YtmilejcbkpkplaaW.PrintLast Go.Proofs.YtmilejcbkpkplaaW.PrintMore Go.Proofs.Ytmilejcbkpkplaa.MathNum

/-- A number is from -2^50 to 2^50. -/
def sm (a : Int) : Bool := decide (-1125899906842624 ≤ a) && decide (a ≤ 1125899906842624)
theorem sm_iff {a : Int} : sm a = true ↔ -1125899906842624 ≤ a ∧ a ≤ 1125899906842624 := by unfold sm; simp
theorem sm_false {a : Int} : sm a = false ↔ a < -1125899906842624 ∨ 1125899906842624 < a := by
  rw [← Bool.not_eq_true, sm_iff]; omega
theorem small_step (k : Nat) (l : List Int) (n i : Int) (h1 : i < n) (h0 : 0 ≤ i) (h2 : i < (l.length : Int)) :
    num_small.l0 (k + 1) l n i = if sm (rd l i) = true then num_small.l0 k l n (wrap64 (i + 1)) else some false := by
  simp only [num_small.l0]
  rw [if_pos h1, if_pos h0, if_pos h2]
  by_cases h : sm (rd l i) = true
  · rw [if_pos h]; rw [sm_iff] at h
    rw [if_neg (by omega), if_neg (by omega)]
  · rw [if_neg h]
    rw [Bool.not_eq_true, sm_false] at h
    by_cases h' : rd l i < -1125899906842624
    · rw [if_pos h']
    · rw [if_neg h', if_pos (by omega)]
theorem small4 (k : Nat) (a b c d : Int) : num_small.f (k + 5) [a, b, c, d] = some (sm a && sm b && sm c && sm d) := by
  unfold num_small.f
  rw [small_step (k + 4) [a, b, c, d] _ 0 (by simp) (by omega) (by simp)]
  rw [show wrap64 (0 + 1) = 1 from w64 (by omega) (by omega), show rd [a, b, c, d] 0 = a from rfl]
  rw [small_step (k + 3) [a, b, c, d] _ 1 (by simp) (by omega) (by simp)]
  rw [show wrap64 (1 + 1) = 2 from w64 (by omega) (by omega), show rd [a, b, c, d] 1 = b from rfl]
  rw [small_step (k + 2) [a, b, c, d] _ 2 (by simp) (by omega) (by simp)]
  rw [show wrap64 (2 + 1) = 3 from w64 (by omega) (by omega), show rd [a, b, c, d] 2 = c from rfl]
  rw [small_step (k + 1) [a, b, c, d] _ 3 (by simp) (by omega) (by simp)]
  rw [show wrap64 (3 + 1) = 4 from w64 (by omega) (by omega), show rd [a, b, c, d] 3 = d from rfl]
  simp only [num_small.l0]
  cases sm a <;> cases sm b <;> cases sm c <;> cases sm d <;> simp

/-- The absolute value. -/
def ab (a : Int) : Int := if a < 0 then -a else a
theorem ab_sm {a : Int} (h1 : -1125899906842624 ≤ a) (h2 : a ≤ 1125899906842624) : 0 ≤ ab a ∧ ab a ≤ 1125899906842624 := by
  unfold ab; split <;> omega
theorem abs_some {a : Int} (h1 : -1125899906842624 ≤ a) (h2 : a ≤ 1125899906842624) : num_abs.f a = some (ab a) := by
  unfold num_abs.f mx ab
  rw [w64 (by omega) (by omega)]
  congr 1
  split <;> split <;> omega

theorem order_some (a b : Int) : num_order.f a b = some (cmp3 a b) := by
  unfold num_order.f cmp3
  split
  · rfl
  · split <;> rfl

/-- The product of two small numbers in two parts, as the program writes it. -/
theorem parts {x y : Int} (hx0 : 0 ≤ x) (hx : x ≤ 1125899906842624) (hy0 : 0 ≤ y) (hy : y ≤ 1125899906842624) :
    ∃ hi lo : Int, wrap64 ((wrap64 ((wrap64 ((wrap64 (Int.tdiv x 33554432)) * (wrap64 (Int.tdiv y 33554432)))) + (wrap64 (Int.tdiv (wrap64 ((wrap64 ((wrap64 (Int.tdiv x 33554432)) * (Int.tmod y 33554432))) + (wrap64 ((Int.tmod x 33554432) * (wrap64 (Int.tdiv y 33554432)))))) 33554432)))) + (wrap64 (Int.tdiv (wrap64 ((wrap64 ((Int.tmod x 33554432) * (Int.tmod y 33554432))) + (wrap64 ((Int.tmod (wrap64 ((wrap64 ((wrap64 (Int.tdiv x 33554432)) * (Int.tmod y 33554432))) + (wrap64 ((Int.tmod x 33554432) * (wrap64 (Int.tdiv y 33554432)))))) 33554432) * 33554432)))) 1125899906842624))) = hi ∧
      Int.tmod (wrap64 ((wrap64 ((Int.tmod x 33554432) * (Int.tmod y 33554432))) + (wrap64 ((Int.tmod (wrap64 ((wrap64 ((wrap64 (Int.tdiv x 33554432)) * (Int.tmod y 33554432))) + (wrap64 ((Int.tmod x 33554432) * (wrap64 (Int.tdiv y 33554432)))))) 33554432) * 33554432)))) 1125899906842624 = lo ∧
      0 ≤ lo ∧ lo < 1125899906842624 ∧ 0 ≤ hi ∧ x * y = hi * 1125899906842624 + lo := by
  have e1 : Int.tdiv x 33554432 = x / 33554432 := Int.tdiv_eq_ediv_of_nonneg hx0
  have e2 : Int.tdiv y 33554432 = y / 33554432 := Int.tdiv_eq_ediv_of_nonneg hy0
  have e3 : Int.tmod x 33554432 = x % 33554432 := Int.tmod_eq_emod_of_nonneg hx0
  have e4 : Int.tmod y 33554432 = y % 33554432 := Int.tmod_eq_emod_of_nonneg hy0
  rw [e1, e2, e3, e4]
  have hxe : x = (x / 33554432) * 33554432 + x % 33554432 := by omega
  have hye : y = (y / 33554432) * 33554432 + y % 33554432 := by omega
  have a1 : 0 ≤ x / 33554432 := by omega
  have a2 : x / 33554432 ≤ 33554432 := by omega
  have a3 : 0 ≤ x % 33554432 := by omega
  have a4 : x % 33554432 ≤ 33554431 := by omega
  have b1 : 0 ≤ y / 33554432 := by omega
  have b2 : y / 33554432 ≤ 33554432 := by omega
  have b3 : 0 ≤ y % 33554432 := by omega
  have b4 : y % 33554432 ≤ 33554431 := by omega
  generalize x / 33554432 = xh at *
  generalize x % 33554432 = xl at *
  generalize y / 33554432 = yh at *
  generalize y % 33554432 = yl at *
  rw [w64 (n := xh) (by omega) (by omega), w64 (n := yh) (by omega) (by omega)]
  have m1 := mul_range (a := xh) (b := yh) (A := 33554432) (B := 33554432) (by omega) a2 b1 b2
  have m2 := mul_range (a := xh) (b := yl) (A := 33554432) (B := 33554431) (by omega) a2 b3 b4
  have m3 := mul_range (a := xl) (b := yh) (A := 33554431) (B := 33554432) (by omega) a4 b1 b2
  have m4 := mul_range (a := xl) (b := yl) (A := 33554431) (B := 33554431) (by omega) a4 b3 b4
  have n1 := Int.mul_nonneg a1 b1
  have n2 := Int.mul_nonneg a1 b3
  have n3 := Int.mul_nonneg a3 b1
  have n4 := Int.mul_nonneg a3 b3
  have hp : x * y = (xh * yh) * 1125899906842624 + (xh * yl + xl * yh) * 33554432 + xl * yl := by
    rw [hxe, hye]; grind
  rw [hp]
  clear hp hxe hye
  generalize xh * yh = p1 at *
  generalize xh * yl = p2 at *
  generalize xl * yh = p3 at *
  generalize xl * yl = p4 at *
  rw [w64 (n := p1) (by omega) (by omega), w64 (n := p2) (by omega) (by omega), w64 (n := p3) (by omega) (by omega), w64 (n := p4) (by omega) (by omega)]
  rw [w64 (n := p2 + p3) (by omega) (by omega)]
  have e5 : Int.tdiv (p2 + p3) 33554432 = (p2 + p3) / 33554432 := Int.tdiv_eq_ediv_of_nonneg (by omega)
  have e6 : Int.tmod (p2 + p3) 33554432 = (p2 + p3) % 33554432 := Int.tmod_eq_emod_of_nonneg (by omega)
  rw [e5, e6]
  rw [w64 (n := (p2 + p3) / 33554432) (by omega) (by omega)]
  rw [w64 (n := (p2 + p3) % 33554432 * 33554432) (by omega) (by omega)]
  rw [w64 (n := p4 + (p2 + p3) % 33554432 * 33554432) (by omega) (by omega)]
  have e7 : Int.tdiv (p4 + (p2 + p3) % 33554432 * 33554432) 1125899906842624 = (p4 + (p2 + p3) % 33554432 * 33554432) / 1125899906842624 := Int.tdiv_eq_ediv_of_nonneg (by omega)
  have e8 : Int.tmod (p4 + (p2 + p3) % 33554432 * 33554432) 1125899906842624 = (p4 + (p2 + p3) % 33554432 * 33554432) % 1125899906842624 := Int.tmod_eq_emod_of_nonneg (by omega)
  rw [e7, e8]
  rw [w64 (n := p1 + (p2 + p3) / 33554432) (by omega) (by omega)]
  rw [w64 (n := (p4 + (p2 + p3) % 33554432 * 33554432) / 1125899906842624) (by omega) (by omega)]
  rw [w64 (by omega) (by omega)]
  exact ⟨_, _, rfl, rfl, by omega, by omega, by omega, by omega⟩

theorem times_some (k : Nat) {a b : Int} (ha1 : -1125899906842624 ≤ a) (ha2 : a ≤ 1125899906842624) (hb1 : -1125899906842624 ≤ b) (hb2 : b ≤ 1125899906842624) :
    ∃ s hi lo : Int, num_times.f (k + 1) a b = some (s, hi, lo) ∧ 0 ≤ lo ∧ lo < 1125899906842624 ∧ 0 ≤ hi ∧
      ((s = 0 ∧ a * b = 0 ∧ hi = 0 ∧ lo = 0) ∨ (s = 1 ∧ 0 < a * b ∧ a * b = hi * 1125899906842624 + lo) ∨ (s = -1 ∧ a * b < 0 ∧ -(a * b) = hi * 1125899906842624 + lo)) := by
  unfold num_times.f
  rw [abs_some ha1 ha2, abs_some hb1 hb2]
  simp only [Option.bind_some]
  obtain ⟨x0, x1⟩ := ab_sm ha1 ha2
  obtain ⟨y0, y1⟩ := ab_sm hb1 hb2
  by_cases ca : a = 0
  · refine ⟨0, 0, 0, ?_, by omega, by omega, by omega, Or.inl ⟨rfl, by simp [ca], rfl, rfl⟩⟩
    rw [if_pos (by unfold ab; split <;> omega)]
    simp [num_times.j0]
  · rw [if_neg (by unfold ab; split <;> omega)]
    by_cases cb : b = 0
    · refine ⟨0, 0, 0, ?_, by omega, by omega, by omega, Or.inl ⟨rfl, by simp [cb], rfl, rfl⟩⟩
      have : ab b = 0 := by unfold ab; split <;> omega
      simp [num_times.j0, this]
    · have hb : (ab b == 0) = false := by
        rw [beq_eq_false_iff_ne]; unfold ab; split <;> omega
      rw [hb]
      simp only [num_times.j0]
      rw [if_neg (by simp)]
      obtain ⟨hi, lo, e1, e2, l0, l1, h0, hm⟩ := parts x0 x1 y0 y1
      rw [e1, e2]
      by_cases s1 : a < 0 <;> by_cases s2 : b < 0
      · have : ab a * ab b = a * b := by unfold ab; rw [if_pos s1, if_pos s2]; grind
        have pos : 0 < a * b := Int.mul_pos_of_neg_of_neg s1 s2
        refine ⟨1, hi, lo, ?_, l0, l1, h0, Or.inr (Or.inl ⟨rfl, pos, by omega⟩)⟩
        rw [if_neg (by simp [s1, s2])]
      · have : ab a * ab b = -(a * b) := by unfold ab; rw [if_pos s1, if_neg s2]; grind
        have pos : a * b < 0 := Int.mul_neg_of_neg_of_pos s1 (by omega)
        refine ⟨-1, hi, lo, ?_, l0, l1, h0, Or.inr (Or.inr ⟨rfl, pos, by omega⟩)⟩
        rw [if_pos (by simp [s1]; omega)]
      · have : ab a * ab b = -(a * b) := by unfold ab; rw [if_neg s1, if_pos s2]; grind
        have pos : a * b < 0 := Int.mul_neg_of_pos_of_neg (by omega) s2
        refine ⟨-1, hi, lo, ?_, l0, l1, h0, Or.inr (Or.inr ⟨rfl, pos, by omega⟩)⟩
        rw [if_pos (by simp [s2]; omega)]
      · have : ab a * ab b = a * b := by unfold ab; rw [if_neg s1, if_neg s2]
        have pos : 0 < a * b := Int.mul_pos (by omega) (by omega)
        refine ⟨1, hi, lo, ?_, l0, l1, h0, Or.inr (Or.inl ⟨rfl, pos, by omega⟩)⟩
        rw [if_neg (by simp [s1, s2])]

theorem compare_some (k : Nat) {a b c d : Int} (h : (sm a && sm b && sm c && sm d) = true) : num_Compare.f (k + 5) a b c d = some (cmp3 (a * b) (c * d), 0) := by
  unfold num_Compare.f
  rw [small4, h]
  simp only [Option.bind_some, if_true]
  simp only [Bool.and_eq_true, sm_iff] at h
  obtain ⟨⟨⟨⟨a1, a2⟩, b1, b2⟩, c1, c2⟩, d1, d2⟩ := h
  obtain ⟨s, hi, lo, e1, l0, l1, h0, hs⟩ := times_some (k + 4) a1 a2 b1 b2
  obtain ⟨s', hi', lo', e2, l0', l1', h0', hs'⟩ := times_some (k + 4) c1 c2 d1 d2
  rw [e1, e2]
  simp only [Option.bind_some, order_some]
  generalize a * b = p at *
  generalize c * d = q at *
  rcases hs with ⟨rfl, hp, rfl, rfl⟩ | ⟨rfl, hp, ep⟩ | ⟨rfl, hp, ep⟩ <;> rcases hs' with ⟨rfl, hq, rfl, rfl⟩ | ⟨rfl, hq, eq⟩ | ⟨rfl, hq, eq⟩
  · simp [hp, hq, cmp3, w64]
  · rw [if_neg (by omega), cmp3_lt (by omega), cmp3_lt (by omega)]
  · rw [if_neg (by omega), cmp3_gt (by omega), cmp3_gt (by omega)]
  · rw [if_neg (by omega), cmp3_gt (by omega), cmp3_gt (by omega)]
  · rw [if_pos rfl]
    rcases Int.lt_trichotomy hi hi' with g | g | g
    · rw [if_neg (by omega), cmp3_lt g, cmp3_lt (by omega)]; simp [w64]
    · subst g
      rw [if_pos rfl]
      rcases Int.lt_trichotomy lo lo' with g | g | g
      · rw [cmp3_lt g, cmp3_lt (by omega)]; simp [w64]
      · subst g; rw [cmp3_eq rfl, cmp3_eq (by omega)]; simp [w64]
      · rw [cmp3_gt g, cmp3_gt (by omega)]; simp [w64]
    · rw [if_neg (by omega), cmp3_gt g, cmp3_gt (by omega)]; simp [w64]
  · rw [if_neg (by omega), cmp3_gt (by omega), cmp3_gt (by omega)]
  · rw [if_neg (by omega), cmp3_lt (by omega), cmp3_lt (by omega)]
  · rw [if_neg (by omega), cmp3_lt (by omega), cmp3_lt (by omega)]
  · rw [if_pos rfl]
    rcases Int.lt_trichotomy hi hi' with g | g | g
    · rw [if_neg (by omega), cmp3_lt g, cmp3_gt (by omega)]; simp [w64]
    · subst g
      rw [if_pos rfl]
      rcases Int.lt_trichotomy lo lo' with g | g | g
      · rw [cmp3_lt g, cmp3_gt (by omega)]; simp [w64]
      · subst g; rw [cmp3_eq rfl, cmp3_eq (by omega)]; simp [w64]
      · rw [cmp3_gt g, cmp3_lt (by omega)]; simp [w64]
    · rw [if_neg (by omega), cmp3_gt g, cmp3_lt (by omega)]; simp [w64]
theorem compare_bad (k : Nat) {a b c d : Int} (h : (sm a && sm b && sm c && sm d) = false) : num_Compare.f (k + 5) a b c d = some (0, 1) := by
  unfold num_Compare.f
  rw [small4, h]
  simp
end Go.Proofs.Ytmilejcbkpkplaa.PAll
/- The program's nearest: the sign of the least distance less the radius. -/
namespace Go.Proofs.Ytmilejcbkpkplaa.PAll
set_option linter.unusedVariables false
open Go Go.RowKit Go.Proofs.YtmilejcbkpkplaaW.PrintWords Go.Proofs.YtmilejcbkpkplaaW.PrintLast Go.Proofs.YtmilejcbkpkplaaW.PrintMore Go.Proofs.Ytmilejcbkpkplaa.MathNum Go.Proofs.Ytmilejcbkpkplaa.EvWords Go.Proofs.Ytmilejcbkpkplaa.MathGeom

theorem compare_ev {a b c d : Int} (h1 : sm a = true) (h2 : sm b = true) (h3 : sm c = true) (h4 : sm d = true) : Ev (fun k => num_Compare.f k a b c d) (cmp3 (a * b) (c * d), 0) :=
  Ev.of (num_Compare.mono a b c d) (k := 0 + 5) (compare_some 0 (by simp [h1, h2, h3, h4]))
/-- A number below 2^40. -/
theorem sm_of {a : Int} (h1 : -1099511627776 ≤ a) (h2 : a ≤ 1099511627776) : sm a = true := sm_iff.2 ⟨by omega, by omega⟩

theorem dot_dt {a b c d : Int} (ha : -131072 ≤ a ∧ a ≤ 131072) (hb : -131072 ≤ b ∧ b ≤ 131072) (hc : -131072 ≤ c ∧ c ≤ 131072) (hd : -131072 ≤ d ∧ d ≤ 131072) : geom_dot.f a b c d = some (dt a b c d) ∧ -34359738368 ≤ dt a b c d ∧ dt a b c d ≤ 34359738368 := by
  refine ⟨dot_ok ha hb hc hd, ?_⟩
  unfold dt
  have h1 := mul_bound ha hc
  have h2 := mul_bound hb hd
  omega
theorem cross_cr {a b c d : Int} (ha : -131072 ≤ a ∧ a ≤ 131072) (hb : -131072 ≤ b ∧ b ≤ 131072) (hc : -131072 ≤ c ∧ c ≤ 131072) (hd : -131072 ≤ d ∧ d ≤ 131072) : geom_cross.f a b c d = some (cr a b c d) ∧ -34359738368 ≤ cr a b c d ∧ cr a b c d ≤ 34359738368 := by
  refine ⟨cross_ok ha hb hc hd, ?_⟩
  unfold cr
  have h1 := mul_bound ha hd
  have h2 := mul_bound hb hc
  omega

theorem nearest_ev {dx dy vx vy r2 : Int} (h1 : -131072 ≤ dx ∧ dx ≤ 131072) (h2 : -131072 ≤ dy ∧ dy ≤ 131072) (h3 : -131072 ≤ vx ∧ vx ≤ 131072) (h4 : -131072 ≤ vy ∧ vy ≤ 131072) (h5 : -131072 ≤ dx + vx ∧ dx + vx ≤ 131072) (h6 : -131072 ≤ dy + vy ∧ dy + vy ≤ 131072) (h7 : 0 ≤ r2 ∧ r2 ≤ 1099511627776) :
    Ev (fun k => geom_nearest.f k dx dy vx vy r2) (nst dx dy vx vy r2) := by
  obtain ⟨e1, l1, u1⟩ := dot_dt h1 h2 h3 h4
  obtain ⟨e2, l2, u2⟩ := dot_dt h3 h4 h3 h4
  obtain ⟨e3, l3, u3⟩ := dot_dt h1 h2 h1 h2
  obtain ⟨e4, l4, u4⟩ := dot_dt h5 h6 h5 h6
  obtain ⟨e5, l5, u5⟩ := cross_cr h1 h2 h3 h4
  simp only [geom_nearest.f, e1, e2, e3, e5, Option.bind_some]
  rw [w64 (n := dx + vx) (by omega) (by omega), w64 (n := dy + vy) (by omega) (by omega), w64 (n := -dt dx dy vx vy) (by omega) (by omega), e4]
  simp only [Option.bind_some]
  unfold nst
  have s1 : sm 1 = true := by decide
  have sr : sm r2 = true := sm_of (by omega) (by omega)
  by_cases c1 : -dt dx dy vx vy ≤ 0
  · rw [if_pos c1]
    refine ev_pos c1 ?_
    have := compare_ev (sm_of (a := dt dx dy dx dy) (by omega) (by omega)) s1 sr s1
    rw [Int.mul_one, Int.mul_one] at this
    exact this.bind (ev_now _)
  · rw [if_neg c1]
    refine ev_neg c1 ?_
    by_cases c2 : -dt dx dy vx vy ≥ dt vx vy vx vy
    · rw [if_pos c2]
      refine ev_pos c2 ?_
      have := compare_ev (sm_of (a := dt (dx + vx) (dy + vy) (dx + vx) (dy + vy)) (by omega) (by omega)) s1 sr s1
      rw [Int.mul_one, Int.mul_one] at this
      exact this.bind (ev_now _)
    · rw [if_neg c2]
      refine ev_neg c2 ?_
      have sc := sm_of (a := cr dx dy vx vy) (by omega) (by omega)
      exact (compare_ev sc sc sr (sm_of (a := dt vx vy vx vy) (by omega) (by omega))).bind (ev_now _)

theorem dt_swap (a b c d : Int) : dt (a - c) (b - d) (a - c) (b - d) = dt (c - a) (d - b) (c - a) (d - b) := by unfold dt; grind
end Go.Proofs.Ytmilejcbkpkplaa.PAll
/- The program's and the reference's hull are one list. -/
namespace Go.Proofs.Ytmilejcbkpkplaa.PAll
set_option linter.unusedVariables false
open Go Go.RowKit Go.Proofs.YtmilejcbkpkplaaW.PrintWords Go.Proofs.YtmilejcbkpkplaaW.PrintLast Go.Proofs.YtmilejcbkpkplaaW.PrintMore Go.Proofs.Ytmilejcbkpkplaa.MathNum Go.Proofs.Ytmilejcbkpkplaa.EvWords Go.Proofs.Ytmilejcbkpkplaa.MathGeom

theorem beq_pt (a b : S23) : (a.f0 == b.f0 && (a.f1 == b.f1)) = decide (a = b) := by
  by_cases h : a = b
  · subst h; simp
  · rw [decide_eq_false h]
    by_cases h0 : a.f0 = b.f0
    · by_cases h1 : a.f1 = b.f1
      · exact absurd (S23_ext h0 h1) h
      · simp [h1]
    · simp [h0]
theorem bne_pt (a b : S23) : (!(a.f0 == b.f0) || (!(a.f1 == b.f1))) = !decide (a = b) := by
  rw [← beq_pt, Bool.not_and]
theorem fn1_ok {c o p : S23} (hc : pOk c) (ho : pOk o) (hp : pOk p) : geom_hull_fn1.f c.f0 c.f1 o.f0 o.f1 p.f0 p.f1 = some (decide (better c o p)) := by
  unfold geom_hull_fn1.f better
  rw [beq_pt, bne_pt]
  by_cases h : o = c
  · rw [if_pos (by simpa using h)]
    congr 1
    simp [h]
  · rw [if_neg (by simpa using h), minus_ok ho.1 ho.2 hc.1 hc.2, minus_ok hp.1 hp.2 hc.1 hc.2]
    obtain ⟨c0, c1⟩ := hc
    obtain ⟨o0, o1⟩ := ho
    obtain ⟨p0, p1⟩ := hp
    unfold cOk at *
    simp only [Option.bind_some]
    rw [(cross_cr (a := o.f0 - c.f0) (b := o.f1 - c.f1) (c := p.f0 - c.f0) (d := p.f1 - c.f1) (by omega) (by omega) (by omega) (by omega)).1, (dot_dt (a := o.f0 - c.f0) (b := o.f1 - c.f1) (c := o.f0 - c.f0) (d := o.f1 - c.f1) (by omega) (by omega) (by omega) (by omega)).1, (dot_dt (a := p.f0 - c.f0) (b := p.f1 - c.f1) (c := p.f0 - c.f0) (d := p.f1 - c.f1) (by omega) (by omega) (by omega) (by omega)).1]
    simp only [Option.bind_some]
    change (if cx c o p < 0 then some true else if cx c o p = 0 then some (decide (sq c p > sq c o)) else some false) = _
    simp only [if_neg h]
    by_cases h1 : cx c o p < 0
    · rw [if_pos h1, decide_eq_true (Or.inl h1)]
    · rw [if_neg h1]
      by_cases h2 : cx c o p = 0
      · rw [if_pos h2]; exact congrArg some (decide_eq_decide.2 (by omega))
      · rw [if_neg h2]; exact congrArg some (decide_eq_false (by omega)).symm
theorem step_ok {c o p : S23} (ho : pOk o) (hp : pOk p) : pOk (step c o p) := by unfold step; split <;> assumption
theorem fold_ok {c : S23} : ∀ (t : List S23) (o : S23), pOk o → (∀ p ∈ t, pOk p) → pOk (t.foldl (step c) o) := by
  intro t
  induction t with
  | nil => intro o h _; exact h
  | cons p t ih => intro o h ht; exact ih _ (step_ok h (ht p (by simp))) (fun q hq => ht q (by simp [hq]))
theorem nxt_ok {l : List S23} {c : S23} (h : ∀ p ∈ l, pOk p) (hc : pOk c) : pOk (nxt l c) := fold_ok l c hc h
theorem pt_eta (p : S23) : (⟨p.f0, p.f1⟩ : S23) = p := rfl

/-- The program's search for the next corner. -/
theorem next_ev {l out : List S23} (hl : ∀ p ∈ l, pOk p) (hlen : l.length ≤ 16) {c : S23} (hc : pOk c) {R : List S23} (d : Nat) : ∀ (i : Nat) (o : S23), i + d = l.length → pOk o →
    Ev (fun k => geom_hull.l3 k l out (out.length : Int) 0 ((l.drop i).foldl (step c) o).f0 ((l.drop i).foldl (step c) o).f1) R → Ev (fun k => geom_hull.l2 k l out l (l.length : Int) (i : Int) c.f0 c.f1 o.f0 o.f1) R := by
  induction d with
  | zero =>
    intro i o hi ho h
    rw [List.drop_eq_nil_of_le (by omega)] at h
    exact ev_step (fun k => by simp only [geom_hull.l2] <;> exact rfl) (ev_neg (by omega) h)
  | succ d ih =>
    intro i o hi ho h
    have hlt : i < l.length := by omega
    rw [List.drop_eq_getElem_cons hlt, List.foldl_cons] at h
    have hp := hl l[i] (List.getElem_mem hlt)
    refine ev_step (fun k => by simp only [geom_hull.l2] <;> exact rfl) (ev_pos (by omega) (ev_pos (by omega) (ev_pos (by omega) ?_)))
    rw [rdT_nat l hlt, fn1_ok hc ho hp]
    simp only [Option.bind_some]
    rw [w64 (n := (i : Int) + 1) (by omega) (by omega)]
    have := ih (i + 1) (step c o l[i]) (by omega) (step_ok ho hp) h
    by_cases hb : better c o l[i]
    · rw [show step c o l[i] = l[i] by unfold step; rw [if_pos hb]] at this
      exact ev_pos (by simpa using hb) this
    · rw [show step c o l[i] = o by unfold step; rw [if_neg hb]] at this
      exact ev_neg (by simpa using hb) this
/-- The program's search for a corner that was there already. -/
theorem seen_ev {l out : List S23} (hlen : out.length ≤ 16) {q : S23} {R : List S23} (hy : q ∈ out → R = out) (hn : q ∉ out → Ev (fun k => geom_hull.l1 k l (out ++ [q])) R) (d : Nat) : ∀ (i : Nat), i + d = out.length → q ∉ out.take i →
    Ev (fun k => geom_hull.l3 k l out (out.length : Int) (i : Int) q.f0 q.f1) R := by
  induction d with
  | zero =>
    intro i hi h
    rw [List.take_of_length_le (by omega)] at h
    exact ev_step (fun k => by simp only [geom_hull.l3] <;> exact rfl) (ev_neg (by omega) (ev_pos (by omega) (hn h)))
  | succ d ih =>
    intro i hi h
    have hlt : i < out.length := by omega
    refine ev_step (fun k => by simp only [geom_hull.l3] <;> exact rfl) (ev_pos (by omega) (ev_pos (by omega) (ev_pos (by omega) ?_)))
    rw [rdT_nat out hlt, beq_pt]
    by_cases he : out[i] = q
    · rw [hy (he ▸ List.getElem_mem hlt)]
      exact ev_pos (by simpa using he) (ev_now _)
    · refine ev_neg (by simpa using he) ?_
      rw [w64 (by omega) (by omega)]
      refine ih (i + 1) (by omega) ?_
      rw [List.take_succ_eq_append_getElem hlt]
      simp only [List.mem_append, List.mem_singleton, not_or]
      exact ⟨h, fun e => he e.symm⟩

/-- The reference's search. -/
theorem rcross_cx {c o p : S23} (hc : pOk c) (ho : pOk o) (hp : pOk p) : dancestudioref03_cross.f c.f0 c.f1 o.f0 o.f1 p.f0 p.f1 = some (cx c o p) := rcross_ok hc.1 hc.2 ho.1 ho.2 hp.1 hp.2
theorem rsq {c p : S23} (hc : pOk c) (hp : pOk p) : dancestudioref03_square.f c.f0 c.f1 p.f0 p.f1 = some (sq c p) := by
  rw [square_ok hc.1 hc.2 hp.1 hp.2]; unfold sq dt; congr 1; grind
theorem better_self (c o : S23) : ¬ better c o c := by
  unfold better
  split
  · simp
  · have := sq_nonneg c o
    have z : cx c o c = 0 := by unfold cx cr; simp
    rw [sq_self]; omega
theorem rnext_ev0 {l : List S23} (hl : ∀ p ∈ l, pOk p) (hlen : l.length ≤ 16) {c : S23} (hc : pOk c) (d : Nat) : ∀ (i : Nat) (o : S23), i + d = l.length → pOk o →
    Ev (fun k => dancestudioref03_next.l0 k l (i : Int) c.f0 c.f1 o.f0 o.f1) (((l.drop i).foldl (step c) o).f0, ((l.drop i).foldl (step c) o).f1) := by
  induction d with
  | zero =>
    intro i o hi ho
    rw [List.drop_eq_nil_of_le (by omega)]
    exact ev_step (fun k => by simp only [dancestudioref03_next.l0] <;> exact rfl) (ev_neg (by omega) (ev_now _))
  | succ d ih =>
    intro i o hi ho
    have hlt : i < l.length := by omega
    rw [List.drop_eq_getElem_cons hlt, List.foldl_cons]
    have hp := hl l[i] (List.getElem_mem hlt)
    have go := ih (i + 1) (step c o l[i]) (by omega) (step_ok ho hp)
    refine ev_step (fun k => by simp only [dancestudioref03_next.l0] <;> exact rfl) (ev_pos (by omega) (ev_pos (by omega) ?_))
    rw [rdT_nat l hlt, beq_pt]
    by_cases he : l[i] = c
    · refine ev_pos (by simpa using he) ?_
      rw [w64 (by omega) (by omega)]
      rw [show step c o l[i] = o by unfold step; rw [if_neg (by rw [he]; exact better_self c o)]] at go ⊢
      exact go
    · refine ev_neg (by simpa using he) ?_
      rw [rcross_cx hc ho hp, rsq hc hp, rsq hc ho, beq_pt]
      simp only [Option.bind_some]
      have yes : better c o l[i] → Ev (fun k => dancestudioref03_next.j1 k l (i : Int) true c.f0 c.f1 o.f0 o.f1) (((l.drop (i + 1)).foldl (step c) (step c o l[i])).f0, ((l.drop (i + 1)).foldl (step c) (step c o l[i])).f1) := fun hb => by
        refine ev_step (fun k => by simp only [dancestudioref03_next.j1] <;> exact rfl) (ev_pos (show true = true from rfl) (ev_pos (by omega) (ev_pos (by omega) ?_)))
        rw [rdT_nat l hlt, w64 (by omega) (by omega)]
        rw [show step c o l[i] = l[i] by unfold step; rw [if_pos hb]] at go ⊢
        exact go
      have no : ¬ better c o l[i] → Ev (fun k => dancestudioref03_next.j1 k l (i : Int) false c.f0 c.f1 o.f0 o.f1) (((l.drop (i + 1)).foldl (step c) (step c o l[i])).f0, ((l.drop (i + 1)).foldl (step c) (step c o l[i])).f1) := fun hb => by
        refine ev_step (fun k => by simp only [dancestudioref03_next.j1] <;> exact rfl) (ev_neg (by simp) ?_)
        rw [w64 (by omega) (by omega)]
        rw [show step c o l[i] = o by unfold step; rw [if_neg hb]] at go ⊢
        exact go
      unfold better at yes no
      by_cases ho' : o = c
      · rw [if_pos ho'] at yes
        exact ev_pos (by simpa using ho') (yes he)
      · rw [if_neg ho'] at yes no
        refine ev_neg (by simpa using ho') ?_
        by_cases h1 : cx c o l[i] < 0
        · exact ev_pos h1 (yes (Or.inl h1))
        · refine ev_neg h1 ?_
          by_cases h2 : cx c o l[i] = 0
          · refine ev_pos h2 ?_
            by_cases h3 : sq c l[i] > sq c o
            · rw [decide_eq_true h3]; exact yes (Or.inr ⟨h2, h3⟩)
            · rw [decide_eq_false h3]; exact no (by omega)
          · exact ev_neg h2 (no (by omega))
theorem rnext_ev {l : List S23} (hl : ∀ p ∈ l, pOk p) (hlen : l.length ≤ 16) {c : S23} (hc : pOk c) : Ev (fun k => dancestudioref03_next.f k l c.f0 c.f1) ((nxt l c).f0, (nxt l c).f1) := by
  simp only [dancestudioref03_next.f]
  exact rnext_ev0 hl hlen hc l.length 0 c (by omega) hc

/-- Both walks come around, and are one list. -/
theorem hull_both {l : List S23} (hl : ∀ p ∈ l, pOk p) (hlen : l.length ≤ 16) (d : Nat) : ∀ (h : List S23) (n : Nat) (w : Walk l h) (hn : h.length = n + 1) (_ : h.length + d = l.length),
    ∃ H, Hulled l H ∧ Ev (fun k => geom_hull.l1 k l h) H ∧ Ev (fun k => dancestudioref03_Hull.l2 k l h (h[0]'w.ne).f0 (h[0]'w.ne).f1 (nxt l (h[n]'(by omega))).f0 (nxt l (h[n]'(by omega))).f1) (H, 0) := by
  have l1 : ∀ (h : List S23) (n : Nat) (w : Walk l h) (hn : h.length = n + 1) (R : List S23), (nxt l (h[n]'(by omega)) ∈ h → R = h) → (nxt l (h[n]'(by omega)) ∉ h → Ev (fun k => geom_hull.l1 k l (h ++ [nxt l (h[n]'(by omega))])) R) → Ev (fun k => geom_hull.l1 k l h) R := by
    intro h n w hn R hy hno
    have wl := w.len
    have on := hl _ (w.sub (h[n]'(by omega)) (List.getElem_mem _))
    refine ev_step (fun k => by simp only [geom_hull.l1] <;> exact rfl) ?_
    rw [show wrap64 ((h.length : Int) - 1) = (n : Int) by rw [w64 (by omega) (by omega)]; omega]
    refine ev_pos (by omega) (ev_pos (by omega) ?_)
    rw [rdT_nat h (by omega)]
    refine next_ev hl hlen on l.length 0 _ (by omega) on ?_
    exact seen_ev (by omega) hy hno h.length 0 (by omega) (by simp)
  induction d with
  | zero =>
    intro h n w hn hd
    have hm : nxt l (h[n]'(by omega)) ∈ h := by
      apply Classical.byContradiction
      intro hm
      have := (w.more hn hm).len
      simp at this; omega
    have ag := w.again hn hm
    refine ⟨h, ⟨w, ?_⟩, l1 h n w hn h (fun _ => rfl) (fun x => absurd hm x), ?_⟩
    · simp only [hn, Nat.add_sub_cancel]; exact ag
    · rw [ag]
      refine ev_step (fun k => by simp only [dancestudioref03_Hull.l2] <;> exact rfl) (ev_neg (by rw [bne_pt]; simp) (ev_now _))
  | succ d ih =>
    intro h n w hn hd
    by_cases hm : nxt l (h[n]'(by omega)) ∈ h
    · have ag := w.again hn hm
      refine ⟨h, ⟨w, ?_⟩, l1 h n w hn h (fun _ => rfl) (fun x => absurd hm x), ?_⟩
      · simp only [hn, Nat.add_sub_cancel]; exact ag
      · rw [ag]
        refine ev_step (fun k => by simp only [dancestudioref03_Hull.l2] <;> exact rfl) (ev_neg (by rw [bne_pt]; simp) (ev_now _))
    · have w' := w.more hn hm
      obtain ⟨H, hH, e1, e2⟩ := ih _ (n + 1) w' (by simp [hn]) (by simp; omega)
      refine ⟨H, hH, l1 h n w hn H (fun x => absurd x hm) (fun _ => e1), ?_⟩
      have hne : nxt l (h[n]'(by omega)) ≠ h[0]'w.ne := fun e => hm (e ▸ List.getElem_mem _)
      have okq := nxt_ok (c := h[n]'(by omega)) hl (hl _ (w.sub _ (List.getElem_mem _)))
      refine ev_step (fun k => by simp only [dancestudioref03_Hull.l2] <;> exact rfl) (ev_pos (by rw [bne_pt]; simpa using hne) (ev_pos (by omega) ?_))
      refine Ev.bind (rnext_ev hl hlen okq) ?_
      have g0 : (h ++ [nxt l (h[n]'(by omega))])[0]'w'.ne = h[0]'w.ne := List.getElem_append_left _
      have g1 : (h ++ [nxt l (h[n]'(by omega))])[n + 1]'(by simp; omega) = nxt l (h[n]'(by omega)) := by rw [List.getElem_append_right (by omega)]; simp [hn]
      rw [g0, g1] at e2
      exact e2

/-- The first corner: the least point. -/
theorem first_ev {l : List S23} (hlen : l.length ≤ 16) {R : List S23} (d : Nat) : ∀ (i : Nat) (o : S23), i + d = l.length → Ev (fun k => geom_hull.l1 k l [(l.drop i).foldl low o]) R →
    Ev (fun k => geom_hull.l0 k l l (l.length : Int) (i : Int) o.f0 o.f1) R := by
  induction d with
  | zero =>
    intro i o hi h
    rw [List.drop_eq_nil_of_le (by omega)] at h
    exact ev_step (fun k => by simp only [geom_hull.l0] <;> exact rfl) (ev_neg (by omega) h)
  | succ d ih =>
    intro i o hi h
    have hlt : i < l.length := by omega
    rw [List.drop_eq_getElem_cons hlt, List.foldl_cons] at h
    have go := ih (i + 1) (low o l[i]) (by omega) h
    refine ev_step (fun k => by simp only [geom_hull.l0] <;> exact rfl) (ev_pos (by omega) (ev_pos (by omega) (ev_pos (by omega) ?_)))
    rw [rdT_nat l hlt, w64 (by omega) (by omega)]
    have yes : lt2 l[i] o → low o l[i] = l[i] := fun h => by unfold low; rw [if_pos h]
    have no : ¬ lt2 l[i] o → low o l[i] = o := fun h => by unfold low; rw [if_neg h]
    unfold lt2 at yes no
    by_cases h1 : l[i].f0 < o.f0
    · rw [yes (Or.inl h1)] at go; exact ev_pos h1 go
    · refine ev_neg h1 ?_
      by_cases h2 : l[i].f0 = o.f0
      · refine ev_pos h2 ?_
        by_cases h3 : l[i].f1 < o.f1
        · rw [yes (Or.inr ⟨h2, h3⟩)] at go; exact ev_pos h3 go
        · rw [no (by omega)] at go; exact ev_neg h3 go
      · rw [no (by omega)] at go; exact ev_neg h2 go
theorem rbefore (a b : S23) : dancestudioref03_before.f a.f0 a.f1 b.f0 b.f1 = some (decide (lt2 a b)) := by
  unfold dancestudioref03_before.f lt2
  by_cases h1 : a.f0 < b.f0
  · rw [if_pos h1]; exact congrArg some (decide_eq_true (Or.inl h1)).symm
  · rw [if_neg h1]
    by_cases h2 : a.f0 = b.f0
    · rw [if_pos h2]; exact congrArg some (decide_eq_decide.2 (by omega))
    · rw [if_neg h2]; exact congrArg some (decide_eq_false (by omega)).symm
theorem rfirst_ev {l : List S23} (hl : ∀ p ∈ l, pOk p) (hlen : l.length ≤ 16) {R : List S23 × Int} (d : Nat) : ∀ (i : Nat) (o : S23), i + d = l.length → pOk ((l.drop i).foldl low o) →
    Ev (fun k => dancestudioref03_Hull.l2 k l [(l.drop i).foldl low o] ((l.drop i).foldl low o).f0 ((l.drop i).foldl low o).f1 (nxt l ((l.drop i).foldl low o)).f0 (nxt l ((l.drop i).foldl low o)).f1) R →
    Ev (fun k => dancestudioref03_Hull.l1 k l (i : Int) o.f0 o.f1) R := by
  induction d with
  | zero =>
    intro i o hi ho h
    rw [List.drop_eq_nil_of_le (by omega)] at h ho
    exact ev_step (fun k => by simp only [dancestudioref03_Hull.l1] <;> exact rfl) (ev_neg (by omega) (Ev.bind (rnext_ev hl hlen ho) h))
  | succ d ih =>
    intro i o hi ho h
    have hlt : i < l.length := by omega
    rw [List.drop_eq_getElem_cons hlt, List.foldl_cons] at h ho
    have go := ih (i + 1) (low o l[i]) (by omega) ho h
    refine ev_step (fun k => by simp only [dancestudioref03_Hull.l1] <;> exact rfl) (ev_pos (by omega) (ev_pos (by omega) ?_))
    rw [rdT_nat l hlt, rbefore, w64 (by omega) (by omega)]
    simp only [Option.bind_some]
    by_cases h1 : lt2 l[i] o
    · rw [show low o l[i] = l[i] by unfold low; rw [if_pos h1]] at go; exact ev_pos (by simpa using h1) go
    · rw [show low o l[i] = o by unfold low; rw [if_neg h1]] at go; exact ev_neg (by simpa using h1) go

/-- The hull of valid points. -/
theorem hull_ev {l : List S23} (hl : ∀ p ∈ l, pOk p) (hlen : l.length ≤ 16) : ∃ H, (l = [] ∧ H = [] ∨ Hulled l H) ∧ Ev (fun k => geom_hull.f k l) H ∧
    Ev (fun k => if (l.length : Int) = 0 then (some (([] : List (S23)), (0 : Int))) else (if 0 < (l.length : Int) then (dancestudioref03_Hull.l1 k l 0 ((rd_T23 l 0).f0) ((rd_T23 l 0).f1)) else (none))) (H, 0) := by
  cases l with
  | nil => exact ⟨[], Or.inl ⟨rfl, rfl⟩, by simp only [geom_hull.f]; exact ev_pos (by simp) (ev_now _), ev_pos (by simp) (ev_now _)⟩
  | cons a t =>
    have ll := low_least (a :: t) [a] a (by simp) (fun r hr => by rw [List.mem_singleton.1 hr]; unfold lt2; omega)
    generalize hc : (a :: t).foldl low a = c at ll
    have mc : c ∈ a :: t := by simpa using ll.1
    have w := Walk.one (l := a :: t) mc (fun r hr => ll.2 r (List.mem_append.2 (Or.inr hr)))
    obtain ⟨H, hH, e1, e2⟩ := hull_both hl hlen t.length [c] 0 w rfl (by simp; omega)
    refine ⟨H, Or.inr hH, ?_, ?_⟩
    · simp only [geom_hull.f]
      refine ev_neg (by simp only [List.length_cons]; omega) (ev_pos (by simp only [List.length_cons]; omega) ?_)
      exact first_ev hlen (a :: t).length 0 a (by omega) (by simpa only [List.drop_zero, hc] using e1)
    · refine ev_neg (by simp only [List.length_cons]; omega) (ev_pos (by simp only [List.length_cons]; omega) ?_)
      exact rfirst_ev hl hlen (a :: t).length 0 a (by omega) (by simpa only [List.drop_zero, hc] using hl c mc) (by rw [List.drop_zero, hc]; exact e2)
end Go.Proofs.Ytmilejcbkpkplaa.PAll
/- Hull of the program and of the reference, with their errors. -/
namespace Go.Proofs.Ytmilejcbkpkplaa.PAll
set_option linter.unusedVariables false
open Go Go.RowKit Go.Proofs.YtmilejcbkpkplaaW.PrintWords Go.Proofs.YtmilejcbkpkplaaW.PrintLast Go.Proofs.YtmilejcbkpkplaaW.PrintMore Go.Proofs.Ytmilejcbkpkplaa.MathNum Go.Proofs.Ytmilejcbkpkplaa.EvWords Go.Proofs.Ytmilejcbkpkplaa.MathGeom

theorem rvalid_ev {l : List S23} (hlen : l.length ≤ 16) {R : List S23 × Int} (hy : (∀ p ∈ l, pOk p) → Ev (fun k => if (l.length : Int) = 0 then (some (([] : List (S23)), (0 : Int))) else (if 0 < (l.length : Int) then (dancestudioref03_Hull.l1 k l 0 ((rd_T23 l 0).f0) ((rd_T23 l 0).f1)) else (none))) R)
    (hn : ¬ (∀ p ∈ l, pOk p) → R = ([], 1)) (d : Nat) : ∀ i : Nat, i + d = l.length → (∀ p ∈ l.take i, pOk p) → Ev (fun k => dancestudioref03_Hull.l0 k l (i : Int)) R := by
  induction d with
  | zero =>
    intro i hi h
    rw [List.take_of_length_le (by omega)] at h
    exact ev_step (fun k => by simp only [dancestudioref03_Hull.l0] <;> exact rfl) (ev_neg (by omega) (hy h))
  | succ d ih =>
    intro i hi h
    have hlt : i < l.length := by omega
    refine ev_step (fun k => by simp only [dancestudioref03_Hull.l0] <;> exact rfl) (ev_pos (by omega) (ev_pos (by omega) ?_))
    rw [rdT_nat l hlt, rValid]
    simp only [Option.bind_some]
    by_cases hp : pOk l[i]
    · refine ev_pos (decide_eq_true hp) ?_
      rw [w64 (by omega) (by omega)]
      refine ih (i + 1) (by omega) (fun p hm => ?_)
      rw [List.take_succ_eq_append_getElem hlt] at hm
      rcases List.mem_append.1 hm with hm | hm
      · exact h p hm
      · rw [List.mem_singleton.1 hm]; exact hp
    · rw [hn fun x => hp (x _ (List.getElem_mem hlt))]
      exact ev_neg (by simpa [pOk] using hp) (ev_now _)
/-- What both Hulls answer. -/
inductive HullR (l : List S23) : List S23 × Int → Prop
  | full (h : 16 < l.length) : HullR l ([], 3)
  | range (h : l.length ≤ 16) (h' : ¬ ∀ p ∈ l, pOk p) : HullR l ([], 1)
  | none (h : l = []) (e : Ev (fun k => geom_hull.f k l) []) : HullR l ([], 0)
  | ok {H : List S23} (h : l.length ≤ 16) (h' : ∀ p ∈ l, pOk p) (hh : Hulled l H) (e : Ev (fun k => geom_hull.f k l) H) : HullR l (H, 0)
theorem check_full {l : List S23} (h : 16 < l.length) : Ev (fun k => geom_check.f k l) 3 := by
  simp only [geom_check.f]; exact ev_pos (by omega) (ev_now _)
theorem check_ok {l : List S23} (h : l.length ≤ 16) (hv : ∀ p ∈ l, pOk p) : Ev (fun k => geom_check.f k l) 0 := by
  have v := valid_ev (ps := l) (rs := []) (by omega) (by simp)
  simp only [geom_check.f]; exact ev_neg (by omega) (Ev.bind v (ev_pos (by simpa using hv) (ev_now _)))
theorem check_bad {l : List S23} (h : l.length ≤ 16) (hv : ¬ ∀ p ∈ l, pOk p) : Ev (fun k => geom_check.f k l) 1 := by
  have v := valid_ev (ps := l) (rs := []) (by omega) (by simp)
  simp only [geom_check.f]; exact ev_neg (by omega) (Ev.bind v (ev_neg (fun x => hv (of_decide_eq_true x).1) (ev_now _)))
theorem hulls_ev (l : List S23) (hl : l.length ≤ 1000) : ∃ R, HullR l R ∧ Ev (fun k => geom_Hull.f k l) R ∧ Ev (fun k => dancestudioref03_Hull.f k l) R := by
  by_cases h : 16 < l.length
  · refine ⟨([], 3), .full h, ?_, ?_⟩
    · simp only [geom_Hull.f]
      exact Ev.bind (check_full h) (ev_neg (by decide) (ev_now _))
    · simp only [dancestudioref03_Hull.f]
      exact ev_pos (by omega) (ev_now _)
  · have hlen : l.length ≤ 16 := by omega
    by_cases hv : ∀ p ∈ l, pOk p
    · obtain ⟨H, hH, e1, e2⟩ := hull_ev hv hlen
      refine ⟨(H, 0), ?_, ?_, ?_⟩
      · rcases hH with ⟨rfl, rfl⟩ | hH
        · exact .none rfl e1
        · exact .ok hlen hv hH e1
      · simp only [geom_Hull.f]
        exact Ev.bind (check_ok hlen hv) (ev_pos rfl (Ev.bind e1 (ev_now _)))
      · simp only [dancestudioref03_Hull.f]
        refine ev_neg (by omega) ?_
        exact rvalid_ev hlen (fun _ => e2) (fun x => absurd hv x) l.length 0 (by omega) (by simp)
    · refine ⟨([], 1), .range hlen hv, ?_, ?_⟩
      · simp only [geom_Hull.f]
        exact Ev.bind (check_bad hlen hv) (ev_neg (by decide) (ev_now _))
      · simp only [dancestudioref03_Hull.f]
        refine ev_neg (by omega) ?_
        exact rvalid_ev hlen (fun x => absurd x hv) (fun _ => rfl) l.length 0 (by omega) (by simp)
theorem same_l {a : List S23} (ha : a.length ≤ 1000) (d : Nat) : ∀ i : Nat, i + d = a.length → Ev (fun k => dancestudioref03_Same.l0 k a a (i : Int)) true := by
  induction d with
  | zero => intro i hi; exact ev_step (fun k => by simp only [dancestudioref03_Same.l0] <;> exact rfl) (ev_neg (by omega) (ev_now _))
  | succ d ih =>
    intro i hi
    refine ev_step (fun k => by simp only [dancestudioref03_Same.l0] <;> exact rfl) (ev_pos (by omega) (ev_pos (by omega) (ev_pos (by omega) (ev_neg (by rw [bne_pt]; simp) ?_))))
    rw [w64 (by omega) (by omega)]
    exact ih (i + 1) (by omega)
theorem same_ev {a : List S23} (ha : a.length ≤ 1000) : Ev (fun k => dancestudioref03_Same.f k a a) true := by
  simp only [dancestudioref03_Same.f]
  exact ev_pos trivial (same_l ha a.length 0 (by omega))
theorem HullR.len {l : List S23} {R : List S23 × Int} (h : HullR l R) : R.1.length ≤ 16 := by
  cases h with
  | full => simp
  | range => simp
  | none => simp
  | ok hl _ hh _ => exact Nat.le_trans hh.toWalk.len hl
end Go.Proofs.Ytmilejcbkpkplaa.PAll
/- Inside of the program and of the reference. -/
namespace Go.Proofs.Ytmilejcbkpkplaa.PAll
set_option linter.unusedVariables false
open Go Go.RowKit Go.Proofs.YtmilejcbkpkplaaW.PrintWords Go.Proofs.YtmilejcbkpkplaaW.PrintLast Go.Proofs.YtmilejcbkpkplaaW.PrintMore Go.Proofs.Ytmilejcbkpkplaa.MathNum Go.Proofs.Ytmilejcbkpkplaa.EvWords Go.Proofs.Ytmilejcbkpkplaa.MathGeom

/-- No side of the hull has the point to its right. -/
def sides (p : S23) (H : List S23) : Prop := ∀ i, i < H.length → 0 ≤ cx (rd_T23 H (i : Int)) (rd_T23 H (((i + 1) % H.length : Nat) : Int)) p
instance (p : S23) (H : List S23) : Decidable (sides p H) := by unfold sides; exact inferInstance
def inside (p : S23) (H : List S23) : Bool :=
  if H.length = 0 then false else if H.length < 3 then decide (nst ((rd_T23 H 0).f0 - p.f0) ((rd_T23 H 0).f1 - p.f1) ((rd_T23 H ((H.length - 1 : Nat) : Int)).f0 - (rd_T23 H 0).f0) ((rd_T23 H ((H.length - 1 : Nat) : Int)).f1 - (rd_T23 H 0).f1) 0 ≤ 0) else decide (sides p H)
def insV (p : S23) (R : List S23 × Int) : Bool × Int := if R.2 = 0 then (if pOk p then (inside p R.1, 0) else (false, 1)) else (false, R.2)

theorem rdT_ok {H : List S23} (h : ∀ p ∈ H, pOk p) {i : Nat} (hi : i < H.length) : pOk (rd_T23 H (i : Int)) := by
  rw [rdT_nat H hi]; exact h _ (List.getElem_mem hi)
theorem tmod_next {n i : Nat} (hn : 0 < n) (hs : n ≤ 16) (hi : i < n) : Int.tmod (wrap64 ((i : Int) + 1)) (n : Int) = (((i + 1) % n : Nat) : Int) := by
  rw [w64 (by omega) (by omega)]; rfl
theorem sides_ev {p : S23} {H : List S23} (hp : pOk p) (hH : ∀ q ∈ H, pOk q) (hlen : H.length ≤ 16) {R : Bool × Int} (hR : R = (decide (sides p H), 0)) (d : Nat) : ∀ i : Nat, i + d = H.length → (∀ j, j < i → 0 ≤ cx (rd_T23 H (j : Int)) (rd_T23 H (((j + 1) % H.length : Nat) : Int)) p) →
    Ev (fun k => geom_Inside.l0 k H H (H.length : Int) (i : Int) p.f0 p.f1) R := by
  induction d with
  | zero =>
    intro i hi h
    rw [hR, decide_eq_true (show sides p H from fun j hj => h j (by omega))]
    exact ev_step (fun k => by simp only [geom_Inside.l0] <;> exact rfl) (ev_neg (by omega) (ev_now _))
  | succ d ih =>
    intro i hi h
    have hlt : i < H.length := by omega
    have hm : (i + 1) % H.length < H.length := Nat.mod_lt _ (by omega)
    have oa := rdT_ok hH hlt
    have ob := rdT_ok hH hm
    refine ev_step (fun k => by simp only [geom_Inside.l0] <;> exact rfl) (ev_pos (by omega) (ev_pos (by omega) (ev_pos (by omega) (ev_neg (by omega) ?_))))
    rw [tmod_next (by omega) hlen hlt]
    refine ev_pos (by omega) (ev_pos (by omega) ?_)
    rw [minus_ok ob.1 ob.2 oa.1 oa.2, minus_ok hp.1 hp.2 oa.1 oa.2]
    simp only [Option.bind_some]
    have e : geom_cross.f ((rd_T23 H (((i + 1) % H.length : Nat) : Int)).f0 - (rd_T23 H (i : Int)).f0) ((rd_T23 H (((i + 1) % H.length : Nat) : Int)).f1 - (rd_T23 H (i : Int)).f1) (p.f0 - (rd_T23 H (i : Int)).f0) (p.f1 - (rd_T23 H (i : Int)).f1) = some (cx (rd_T23 H (i : Int)) (rd_T23 H (((i + 1) % H.length : Nat) : Int)) p) := by
      obtain ⟨a1, a2⟩ := oa
      obtain ⟨b1, b2⟩ := ob
      obtain ⟨p1, p2⟩ := hp
      unfold cOk at *
      exact (cross_cr (by omega) (by omega) (by omega) (by omega)).1
    rw [e]
    simp only [Option.bind_some]
    by_cases hc : cx (rd_T23 H (i : Int)) (rd_T23 H (((i + 1) % H.length : Nat) : Int)) p < 0
    · rw [hR, decide_eq_false fun x => by have := x i hlt; omega]
      exact ev_pos hc (ev_now _)
    · refine ev_neg hc ?_
      rw [w64 (by omega) (by omega)]
      refine ih (i + 1) (by omega) (fun j hj => ?_)
      by_cases hj' : j = i
      · subst hj'; omega
      · exact h j (by omega)
theorem HullR.pts {l : List S23} {R : List S23 × Int} (h : HullR l R) : ∀ p ∈ R.1, pOk p := by
  cases h with
  | full => simp
  | range => simp
  | none => simp
  | ok _ hv hh _ => intro p hp; exact hv p (hh.sub p hp)
theorem inside_some {p : S23} {H : List S23} (hp : pOk p) (hH : ∀ q ∈ H, pOk q) (hlen : H.length ≤ 16) : Ev (fun k => if (H.length : Int) = 0 then (some (false, (0 : Int))) else (if (H.length : Int) < 3 then (if 0 < (H.length : Int) then ((geom_minus.f ((rd_T23 H 0).f0) ((rd_T23 H 0).f1) p.f0 p.f1).bind fun bt264 => (if 0 ≤ (wrap64 ((H.length : Int) - 1)) then (if (wrap64 ((H.length : Int) - 1)) < (H.length : Int) then ((geom_minus.f ((rd_T23 H (wrap64 ((H.length : Int) - 1))).f0) ((rd_T23 H (wrap64 ((H.length : Int) - 1))).f1) ((rd_T23 H 0).f0) ((rd_T23 H 0).f1)).bind fun bt268 => ((geom_nearest.f k bt264.1 bt264.2 bt268.1 bt268.2 0).bind fun t270 => (some (decide (t270 ≤ 0), 0)))) else (none)) else (none))) else (none)) else (geom_Inside.l0 k H H (H.length : Int) 0 p.f0 p.f1))) (inside p H, 0) := by
  unfold inside
  by_cases h0 : H.length = 0
  · rw [if_pos h0]; exact ev_pos (by omega) (ev_now _)
  · rw [if_neg h0]
    refine ev_neg (by omega) ?_
    by_cases h3 : H.length < 3
    · rw [if_pos h3]
      refine ev_pos (by omega) (ev_pos (by omega) ?_)
      rw [show wrap64 ((H.length : Int) - 1) = ((H.length - 1 : Nat) : Int) by rw [w64 (by omega) (by omega)]; omega]
      have oa : pOk (rd_T23 H 0) := rdT_ok hH (i := 0) (by omega)
      have ob := rdT_ok hH (i := H.length - 1) (by omega)
      rw [minus_ok oa.1 oa.2 hp.1 hp.2, minus_ok ob.1 ob.2 oa.1 oa.2]
      simp only [Option.bind_some]
      refine ev_pos (by omega) (ev_pos (by omega) ?_)
      obtain ⟨a1, a2⟩ := oa
      obtain ⟨b1, b2⟩ := ob
      obtain ⟨p1, p2⟩ := hp
      unfold cOk at *
      exact (nearest_ev (by omega) (by omega) (by omega) (by omega) (by omega) (by omega) (by omega)).bind (ev_now _)
    · rw [if_neg h3]
      refine ev_neg (by omega) ?_
      exact sides_ev hp hH hlen rfl H.length 0 (by omega) (fun j hj => by omega)
theorem inside_ev {l : List S23} (p : S23) {R : List S23 × Int} (h : HullR l R) (hl : l.length ≤ 1000) : Ev (fun k => geom_Inside.f k p.f0 p.f1 l) (insV p R) := by
  have vp := valid_ev (ps := [(⟨p.f0, p.f1⟩ : S23)]) (rs := []) (by simp) (by simp)
  have vl := valid_ev (ps := l) (rs := []) (by omega) (by simp)
  have e0 : ∀ x y : Int, Ev (fun k => geom_Inside.j0 k l true x y) (false, 1) := fun x y => ev_step (fun k => by simp only [geom_Inside.j0] <;> exact rfl) (ev_pos (show true = true from rfl) (ev_now _))
  have e1 : ∀ {H : List S23}, pOk p → (∀ q ∈ H, pOk q) → H.length ≤ 16 → Ev (fun k => geom_hull.f k l) H → Ev (fun k => geom_Inside.j0 k l false p.f0 p.f1) (inside p H, 0) := fun hp hH hlen e =>
    ev_step (fun k => by simp only [geom_Inside.j0] <;> exact rfl) (ev_neg (by simp) (Ev.bind e (inside_some hp hH hlen)))
  have key : ∀ {H : List S23}, l.length ≤ 16 → (∀ q ∈ l, pOk q) → (∀ q ∈ H, pOk q) → H.length ≤ 16 → Ev (fun k => geom_hull.f k l) H → Ev (fun k => geom_Inside.f k p.f0 p.f1 l) (if pOk p then (inside p H, 0) else (false, 1)) := by
    intro H h1 h2 h3 h4 e
    simp only [geom_Inside.f]
    refine ev_neg (by omega) ?_
    by_cases hp : pOk p
    · rw [if_pos hp]
      refine Ev.bind vp (ev_pos (by simpa [pOk] using hp) (Ev.bind vl ?_))
      rw [show (!decide ((∀ p ∈ l, pOk p) ∧ ∀ r ∈ ([] : List Int), rOk r)) = false by simpa using h2]
      exact e1 hp h3 h4 e
    · rw [if_neg hp]
      exact Ev.bind vp (ev_neg (by simpa [pOk] using hp) (e0 _ _))
  have lenH := h.len
  have ptsH := h.pts
  unfold insV
  cases h with
  | full h =>
    simp only [geom_Inside.f]
    exact ev_pos (by omega) (ev_now _)
  | range h hv =>
    simp only [geom_Inside.f]
    refine ev_neg (by omega) ?_
    by_cases hp : pOk p
    · refine Ev.bind vp (ev_pos (by simpa [pOk] using hp) (Ev.bind vl ?_))
      rw [show (!decide ((∀ p ∈ l, pOk p) ∧ ∀ r ∈ ([] : List Int), rOk r)) = true by simpa using hv]
      exact e0 _ _
    · exact Ev.bind vp (ev_neg (by simpa [pOk] using hp) (e0 _ _))
  | none h e => subst h; exact key (by simp) (by simp) ptsH lenH e
  | ok h hv hh e => exact key h hv ptsH lenH e
end Go.Proofs.Ytmilejcbkpkplaa.PAll
