/- Texts of the proof, laid end to end. -/
import Derived.RowKit
import Derived.SizedLaws
import Derived.ChangeSlices
import Derived.WideShapes
import Derived.Test.YtmilejcbkpkplaaBS1
import Derived.Test.YtmilejcbkpkplaaBS3
import Derived.Test.YtmilejcbkpkplaaBS5
import Derived.Test.YtmilejcbkpkplaaBS6
-- Written by wip/tools/handprint.py: walks of the functions that the law reaches; Lean checks them.
namespace Go.Proofs.Ytmilejcbkpkplaa.PAll
open Go.RowKit Go.Proofs.YtmilejcbkpkplaaW.PrintWords Go.Proofs.YtmilejcbkpkplaaW.PrintLast Go.Proofs.YtmilejcbkpkplaaW.PrintMore
attribute [local go_sem] max2_int min2_int max_two min_two max_three min_three max_four min_four   -- for this text's walks alone
set_option linter.unusedVariables false
set_option linter.unusedSimpArgs false

/-! ### dancestudioref03_Valid: function 31 -/
def dancestudioref03_Valid.f (a0_0 : Int) (a0_1 : Int) : Option (Bool) := if a0_0 ≥ (-32768) then (if a0_0 ≤ 32768 then (if a0_1 ≥ (-32768) then (some (decide (a0_1 ≤ 32768))) else (some false)) else (some false)) else (some false)
set_option maxHeartbeats 8000000 in
set_option maxRecDepth 100000 in
theorem dancestudioref03_Valid.calls (a0_0 : Int) (a0_1 : Int) (r : Bool) (w : World) (h : dancestudioref03_Valid.f a0_0 a0_1 = some r) :
  Calls Try.prog 31 #[.agg #[.int .i64 a0_0, .int .i64 a0_1]] w fun e w' => e = .returned (.bool r) ∧ Below w.heap.size w w' := by
 have hu23 := Try.underlying23
 have HB := Aside0.mk (Below.refl w.heap.size w)
 have H : (if a0_0 ≥ (-32768) then (if a0_0 ≤ 32768 then (if a0_1 ≥ (-32768) then (some (decide (a0_1 ≤ 32768))) else (some false)) else (some false)) else (some false)) = some r := h
 clear h
 by_cases c2 : a0_0 ≥ (-32768)
 ·
  rw [if_pos c2] at H
  have c2b0 : decide ((-32768) ≤ a0_0) = true := decide_eq_true c2
  clear c2
  by_cases c3 : a0_0 ≤ 32768
  ·
   rw [if_pos c3] at H
   have c3b0 : decide (a0_0 ≤ 32768) = true := decide_eq_true c3
   clear c3
   by_cases c4 : a0_1 ≥ (-32768)
   ·
    rw [if_pos c4] at H
    have c4b0 : decide ((-32768) ≤ a0_1) = true := decide_eq_true c4
    clear c4
    obtain rfl := Option.some.inj H
    go_enter Try.func31, Try.ntmps31
    go_wp2_with (first | ((with_reducible refine gate_dst (N := 1) rfl ?_); refine box_event ?hg (N := 1) ?hd (cs := #[.int .i64 a0_0, .int .i64 a0_1]) (t := 23) ?hr ?_; (case hd => rfl); (case hg => rfl); (case hr => first | (go_simp; done) | (go_simp; rfl)); intro gb119 hg w5 hbox hb; have n0_ := Aside0.mk (below_step (by repeat (first | (with_reducible first | exact HB.out | apply below_alloc | apply pw_below_drewN | apply below_drew1) | exact HB.out)) hb); have n1_ := Aside0.mk (hbox); have n2_ := Aside0.mk ((by rw [hg]; exact (below_size (by repeat (first | (with_reducible first | exact HB.out | apply below_alloc | apply pw_below_drewN | apply below_drew1) | exact HB.out))) : w.heap.size ≤ gb119)); have n3_ := Aside0.mk ((by rw [hg]; exact (below_size (by repeat (first | (with_reducible first | exact HB.out | apply below_alloc | apply pw_below_drewN | apply below_drew1) | exact HB.out))) : w.heap.size ≤ gb119)); clear HB; have HB := n0_; have BK119 := n1_; have GW119 := n2_; have GE119 := n3_; clear n0_ n1_ n2_ n3_; clear hb hbox hg; have hcz6_0 : w5.cell? ⟨gb119, 0, none⟩ = some (.int .i64 a0_0) := (blk_cell BK119.out 0).trans rfl; have hcz6_1 : w5.cell? ⟨gb119, 1, none⟩ = some (.int .i64 a0_1) := (blk_cell BK119.out 1).trans rfl; have hfz6_0 := blk_frozen BK119.out 0; have hfz6_1 := blk_frozen BK119.out 1))
    go_ret
    exact ⟨by first | rfl | (simp [errW_none, errW_some] <;> rfl) | (simp [*, errW_none, errW_some] <;> rfl), by repeat (first | (with_reducible first | exact HB.out | apply below_alloc | apply pw_below_drewN | apply below_drew1 | refine below_set ?_ GE119.out) | exact HB.out)⟩
   ·
    rw [if_neg c4] at H
    have c4b0 : decide ((-32768) ≤ a0_1) = false := decide_eq_false c4
    clear c4
    obtain rfl := Option.some.inj H
    go_enter Try.func31, Try.ntmps31
    go_wp2_with (first | ((with_reducible refine gate_dst (N := 1) rfl ?_); refine box_event ?hg (N := 1) ?hd (cs := #[.int .i64 a0_0, .int .i64 a0_1]) (t := 23) ?hr ?_; (case hd => rfl); (case hg => rfl); (case hr => first | (go_simp; done) | (go_simp; rfl)); intro gb119 hg w7 hbox hb; have n0_ := Aside0.mk (below_step (by repeat (first | (with_reducible first | exact HB.out | apply below_alloc | apply pw_below_drewN | apply below_drew1) | exact HB.out)) hb); have n1_ := Aside0.mk (hbox); have n2_ := Aside0.mk ((by rw [hg]; exact (below_size (by repeat (first | (with_reducible first | exact HB.out | apply below_alloc | apply pw_below_drewN | apply below_drew1) | exact HB.out))) : w.heap.size ≤ gb119)); have n3_ := Aside0.mk ((by rw [hg]; exact (below_size (by repeat (first | (with_reducible first | exact HB.out | apply below_alloc | apply pw_below_drewN | apply below_drew1) | exact HB.out))) : w.heap.size ≤ gb119)); clear HB; have HB := n0_; have BK119 := n1_; have GW119 := n2_; have GE119 := n3_; clear n0_ n1_ n2_ n3_; clear hb hbox hg; have hcz8_0 : w7.cell? ⟨gb119, 0, none⟩ = some (.int .i64 a0_0) := (blk_cell BK119.out 0).trans rfl; have hcz8_1 : w7.cell? ⟨gb119, 1, none⟩ = some (.int .i64 a0_1) := (blk_cell BK119.out 1).trans rfl; have hfz8_0 := blk_frozen BK119.out 0; have hfz8_1 := blk_frozen BK119.out 1))
    go_ret
    exact ⟨by first | rfl | (simp [errW_none, errW_some] <;> rfl) | (simp [*, errW_none, errW_some] <;> rfl), by repeat (first | (with_reducible first | exact HB.out | apply below_alloc | apply pw_below_drewN | apply below_drew1 | refine below_set ?_ GE119.out) | exact HB.out)⟩
  ·
   rw [if_neg c3] at H
   have c3b0 : decide (a0_0 ≤ 32768) = false := decide_eq_false c3
   clear c3
   obtain rfl := Option.some.inj H
   go_enter Try.func31, Try.ntmps31
   go_wp2_with (first | ((with_reducible refine gate_dst (N := 1) rfl ?_); refine box_event ?hg (N := 1) ?hd (cs := #[.int .i64 a0_0, .int .i64 a0_1]) (t := 23) ?hr ?_; (case hd => rfl); (case hg => rfl); (case hr => first | (go_simp; done) | (go_simp; rfl)); intro gb119 hg w9 hbox hb; have n0_ := Aside0.mk (below_step (by repeat (first | (with_reducible first | exact HB.out | apply below_alloc | apply pw_below_drewN | apply below_drew1) | exact HB.out)) hb); have n1_ := Aside0.mk (hbox); have n2_ := Aside0.mk ((by rw [hg]; exact (below_size (by repeat (first | (with_reducible first | exact HB.out | apply below_alloc | apply pw_below_drewN | apply below_drew1) | exact HB.out))) : w.heap.size ≤ gb119)); have n3_ := Aside0.mk ((by rw [hg]; exact (below_size (by repeat (first | (with_reducible first | exact HB.out | apply below_alloc | apply pw_below_drewN | apply below_drew1) | exact HB.out))) : w.heap.size ≤ gb119)); clear HB; have HB := n0_; have BK119 := n1_; have GW119 := n2_; have GE119 := n3_; clear n0_ n1_ n2_ n3_; clear hb hbox hg; have hcz10_0 : w9.cell? ⟨gb119, 0, none⟩ = some (.int .i64 a0_0) := (blk_cell BK119.out 0).trans rfl; have hcz10_1 : w9.cell? ⟨gb119, 1, none⟩ = some (.int .i64 a0_1) := (blk_cell BK119.out 1).trans rfl; have hfz10_0 := blk_frozen BK119.out 0; have hfz10_1 := blk_frozen BK119.out 1))
   go_ret
   exact ⟨by first | rfl | (simp [errW_none, errW_some] <;> rfl) | (simp [*, errW_none, errW_some] <;> rfl), by repeat (first | (with_reducible first | exact HB.out | apply below_alloc | apply pw_below_drewN | apply below_drew1 | refine below_set ?_ GE119.out) | exact HB.out)⟩
 ·
  rw [if_neg c2] at H
  have c2b0 : decide ((-32768) ≤ a0_0) = false := decide_eq_false c2
  clear c2
  obtain rfl := Option.some.inj H
  go_enter Try.func31, Try.ntmps31
  go_wp2_with (first | ((with_reducible refine gate_dst (N := 1) rfl ?_); refine box_event ?hg (N := 1) ?hd (cs := #[.int .i64 a0_0, .int .i64 a0_1]) (t := 23) ?hr ?_; (case hd => rfl); (case hg => rfl); (case hr => first | (go_simp; done) | (go_simp; rfl)); intro gb119 hg w11 hbox hb; have n0_ := Aside0.mk (below_step (by repeat (first | (with_reducible first | exact HB.out | apply below_alloc | apply pw_below_drewN | apply below_drew1) | exact HB.out)) hb); have n1_ := Aside0.mk (hbox); have n2_ := Aside0.mk ((by rw [hg]; exact (below_size (by repeat (first | (with_reducible first | exact HB.out | apply below_alloc | apply pw_below_drewN | apply below_drew1) | exact HB.out))) : w.heap.size ≤ gb119)); have n3_ := Aside0.mk ((by rw [hg]; exact (below_size (by repeat (first | (with_reducible first | exact HB.out | apply below_alloc | apply pw_below_drewN | apply below_drew1) | exact HB.out))) : w.heap.size ≤ gb119)); clear HB; have HB := n0_; have BK119 := n1_; have GW119 := n2_; have GE119 := n3_; clear n0_ n1_ n2_ n3_; clear hb hbox hg; have hcz12_0 : w11.cell? ⟨gb119, 0, none⟩ = some (.int .i64 a0_0) := (blk_cell BK119.out 0).trans rfl; have hcz12_1 : w11.cell? ⟨gb119, 1, none⟩ = some (.int .i64 a0_1) := (blk_cell BK119.out 1).trans rfl; have hfz12_0 := blk_frozen BK119.out 0; have hfz12_1 := blk_frozen BK119.out 1))
  go_ret
  exact ⟨by first | rfl | (simp [errW_none, errW_some] <;> rfl) | (simp [*, errW_none, errW_some] <;> rfl), by repeat (first | (with_reducible first | exact HB.out | apply below_alloc | apply pw_below_drewN | apply below_drew1 | refine below_set ?_ GE119.out) | exact HB.out)⟩
end Go.Proofs.Ytmilejcbkpkplaa.PAll
-- Written by wip/tools/handprint.py: walks of the functions that the law reaches; Lean checks them.
namespace Go.Proofs.Ytmilejcbkpkplaa.PAll
open Go.RowKit Go.Proofs.YtmilejcbkpkplaaW.PrintWords Go.Proofs.YtmilejcbkpkplaaW.PrintLast Go.Proofs.YtmilejcbkpkplaaW.PrintMore
attribute [local go_sem] max2_int min2_int max_two min_two max_three min_three max_four min_four   -- for this text's walks alone
set_option linter.unusedVariables false
set_option linter.unusedSimpArgs false

/-! ### dancestudioref03_square: function 32 -/
def dancestudioref03_square.f (a0_0 : Int) (a0_1 : Int) (a1_0 : Int) (a1_1 : Int) : Option (Int) := some (wrap64 ((wrap64 ((wrap64 (a0_0 - a1_0)) * (wrap64 (a0_0 - a1_0)))) + (wrap64 ((wrap64 (a0_1 - a1_1)) * (wrap64 (a0_1 - a1_1))))))
set_option maxHeartbeats 8000000 in
set_option maxRecDepth 100000 in
theorem dancestudioref03_square.calls (a0_0 : Int) (a0_1 : Int) (a1_0 : Int) (a1_1 : Int) (r : Int) (w : World) (h : dancestudioref03_square.f a0_0 a0_1 a1_0 a1_1 = some r) :
  Calls Try.prog 32 #[.agg #[.int .i64 a0_0, .int .i64 a0_1], .agg #[.int .i64 a1_0, .int .i64 a1_1]] w fun e w' => e = .returned (.int .i64 r) ∧ Below w.heap.size w w' := by
 have hu23 := Try.underlying23
 have HB := Aside0.mk (Below.refl w.heap.size w)
 have H : (some (wrap64 ((wrap64 ((wrap64 (a0_0 - a1_0)) * (wrap64 (a0_0 - a1_0)))) + (wrap64 ((wrap64 (a0_1 - a1_1)) * (wrap64 (a0_1 - a1_1))))))) = some r := h
 clear h
 obtain rfl := Option.some.inj H
 go_enter Try.func32, Try.ntmps32
 go_wp2_with (first | ((with_reducible refine gate_dst (N := 2) rfl ?_); refine box_event ?hg (N := 2) ?hd (cs := #[.int .i64 a0_0, .int .i64 a0_1]) (t := 23) ?hr ?_; (case hd => rfl); (case hg => rfl); (case hr => first | (go_simp; done) | (go_simp; rfl)); intro gb120 hg w3 hbox hb; have n0_ := Aside0.mk (below_step (by repeat (first | (with_reducible first | exact HB.out | apply below_alloc | apply pw_below_drewN | apply below_drew1) | exact HB.out)) hb); have n1_ := Aside0.mk (hbox); have n2_ := Aside0.mk ((by rw [hg]; exact (below_size (by repeat (first | (with_reducible first | exact HB.out | apply below_alloc | apply pw_below_drewN | apply below_drew1) | exact HB.out))) : w.heap.size ≤ gb120)); have n3_ := Aside0.mk ((by rw [hg]; exact (below_size (by repeat (first | (with_reducible first | exact HB.out | apply below_alloc | apply pw_below_drewN | apply below_drew1) | exact HB.out))) : w.heap.size ≤ gb120)); clear HB; have HB := n0_; have BK120 := n1_; have GW120 := n2_; have GE120 := n3_; clear n0_ n1_ n2_ n3_; clear hb hbox hg) | ((with_reducible refine gate_dst (N := 3) rfl ?_); refine box_event ?hg (N := 3) ?hd (cs := #[.int .i64 a1_0, .int .i64 a1_1]) (t := 23) ?hr ?_; (case hd => rfl); (case hg => rfl); (case hr => first | (go_simp; done) | (go_simp; rfl)); intro gb121 hg w4 hbox hb; have n0_ := Aside0.mk (blk_below (g := gb120) (o := .cells #[.int .i64 a0_0, .int .i64 a0_1] 23 (0, 0)) (by (with_reducible repeat (first | refine blk_drewN ?_ _ | refine blk_drew ?_ | refine blk_alloc ?_ _)); exact BK120.out) hb); have n1_ := Aside0.mk (below_step (by repeat (first | (with_reducible first | exact HB.out | apply below_alloc | apply pw_below_drewN | apply below_drew1 | refine below_set ?_ GE120.out) | exact HB.out)) hb); have n2_ := Aside0.mk (hbox); have n3_ := Aside0.mk ((by rw [hg]; exact (below_size (by repeat (first | (with_reducible first | exact HB.out | apply below_alloc | apply pw_below_drewN | apply below_drew1 | refine below_set ?_ GE120.out) | exact HB.out))) : w.heap.size ≤ gb121)); have n4_ := Aside0.mk ((by rw [hg]; exact (below_size (by repeat (first | (with_reducible first | exact HB.out | apply below_alloc | apply pw_below_drewN | apply below_drew1 | refine below_set ?_ GE120.out) | exact HB.out))) : w.heap.size ≤ gb121)); have n5_ := Aside0.mk ((by rw [hg]; exact Nat.ne_of_lt (blk_lt (g := gb120) (o := .cells #[.int .i64 a0_0, .int .i64 a0_1] 23 (0, 0)) (by (with_reducible repeat (first | refine blk_drewN ?_ _ | refine blk_drew ?_ | refine blk_alloc ?_ _)); exact BK120.out)) : gb120 ≠ gb121)); have n6_ := Aside0.mk ((by rw [hg]; exact Nat.ne_of_gt (blk_lt (g := gb120) (o := .cells #[.int .i64 a0_0, .int .i64 a0_1] 23 (0, 0)) (by (with_reducible repeat (first | refine blk_drewN ?_ _ | refine blk_drew ?_ | refine blk_alloc ?_ _)); exact BK120.out)) : gb121 ≠ gb120)); clear BK120; clear HB; have BK120 := n0_; have HB := n1_; have BK121 := n2_; have GW121 := n3_; have GE121 := n4_; have NB120_121 := n5_; have NB121_120 := n6_; clear n0_ n1_ n2_ n3_ n4_ n5_ n6_; clear hb hbox hg; have hnb5 := NB120_121.out; have hnc5 := NB121_120.out; have hcz6_0 : w4.cell? ⟨gb120, 0, none⟩ = some (.int .i64 a0_0) := (blk_cell BK120.out 0).trans rfl; have hcz6_1 : w4.cell? ⟨gb120, 1, none⟩ = some (.int .i64 a0_1) := (blk_cell BK120.out 1).trans rfl; have hfz6_0 := blk_frozen BK120.out 0; have hfz6_1 := blk_frozen BK120.out 1; have hcz7_0 : w4.cell? ⟨gb121, 0, none⟩ = some (.int .i64 a1_0) := (blk_cell BK121.out 0).trans rfl; have hcz7_1 : w4.cell? ⟨gb121, 1, none⟩ = some (.int .i64 a1_1) := (blk_cell BK121.out 1).trans rfl; have hfz7_0 := blk_frozen BK121.out 0; have hfz7_1 := blk_frozen BK121.out 1))
 go_ret
 exact ⟨by first | rfl | (simp [errW_none, errW_some] <;> rfl) | (simp [*, errW_none, errW_some] <;> rfl), by repeat (first | (with_reducible first | exact HB.out | apply below_alloc | apply pw_below_drewN | apply below_drew1 | refine below_set ?_ GE120.out | refine below_set ?_ GE121.out) | exact HB.out)⟩
end Go.Proofs.Ytmilejcbkpkplaa.PAll
-- Written by wip/tools/handprint.py: walks of the functions that the law reaches; Lean checks them.
namespace Go.Proofs.Ytmilejcbkpkplaa.PAll
open Go.RowKit Go.Proofs.YtmilejcbkpkplaaW.PrintWords Go.Proofs.YtmilejcbkpkplaaW.PrintLast Go.Proofs.YtmilejcbkpkplaaW.PrintMore
attribute [local go_sem] max2_int min2_int max_two min_two max_three min_three max_four min_four   -- for this text's walks alone
set_option linter.unusedVariables false
set_option linter.unusedSimpArgs false

/-! ### dancestudioref03_cross: function 34 -/
def dancestudioref03_cross.f (a0_0 : Int) (a0_1 : Int) (a1_0 : Int) (a1_1 : Int) (a2_0 : Int) (a2_1 : Int) : Option (Int) := some (wrap64 ((wrap64 ((wrap64 (a1_0 - a0_0)) * (wrap64 (a2_1 - a0_1)))) - (wrap64 ((wrap64 (a1_1 - a0_1)) * (wrap64 (a2_0 - a0_0))))))
set_option maxHeartbeats 8000000 in
set_option maxRecDepth 100000 in
theorem dancestudioref03_cross.calls (a0_0 : Int) (a0_1 : Int) (a1_0 : Int) (a1_1 : Int) (a2_0 : Int) (a2_1 : Int) (r : Int) (w : World) (h : dancestudioref03_cross.f a0_0 a0_1 a1_0 a1_1 a2_0 a2_1 = some r) :
  Calls Try.prog 34 #[.agg #[.int .i64 a0_0, .int .i64 a0_1], .agg #[.int .i64 a1_0, .int .i64 a1_1], .agg #[.int .i64 a2_0, .int .i64 a2_1]] w fun e w' => e = .returned (.int .i64 r) ∧ Below w.heap.size w w' := by
 have hu23 := Try.underlying23
 have HB := Aside0.mk (Below.refl w.heap.size w)
 have H : (some (wrap64 ((wrap64 ((wrap64 (a1_0 - a0_0)) * (wrap64 (a2_1 - a0_1)))) - (wrap64 ((wrap64 (a1_1 - a0_1)) * (wrap64 (a2_0 - a0_0))))))) = some r := h
 clear h
 obtain rfl := Option.some.inj H
 go_enter Try.func34, Try.ntmps34
 go_wp2_with (first | ((with_reducible refine gate_dst (N := 3) rfl ?_); refine box_event ?hg (N := 3) ?hd (cs := #[.int .i64 a0_0, .int .i64 a0_1]) (t := 23) ?hr ?_; (case hd => rfl); (case hg => rfl); (case hr => first | (go_simp; done) | (go_simp; rfl)); intro gb141 hg w4 hbox hb; have n0_ := Aside0.mk (below_step (by repeat (first | (with_reducible first | exact HB.out | apply below_alloc | apply pw_below_drewN | apply below_drew1) | exact HB.out)) hb); have n1_ := Aside0.mk (hbox); have n2_ := Aside0.mk ((by rw [hg]; exact (below_size (by repeat (first | (with_reducible first | exact HB.out | apply below_alloc | apply pw_below_drewN | apply below_drew1) | exact HB.out))) : w.heap.size ≤ gb141)); have n3_ := Aside0.mk ((by rw [hg]; exact (below_size (by repeat (first | (with_reducible first | exact HB.out | apply below_alloc | apply pw_below_drewN | apply below_drew1) | exact HB.out))) : w.heap.size ≤ gb141)); clear HB; have HB := n0_; have BK141 := n1_; have GW141 := n2_; have GE141 := n3_; clear n0_ n1_ n2_ n3_; clear hb hbox hg) | ((with_reducible refine gate_dst (N := 4) rfl ?_); refine box_event ?hg (N := 4) ?hd (cs := #[.int .i64 a1_0, .int .i64 a1_1]) (t := 23) ?hr ?_; (case hd => rfl); (case hg => rfl); (case hr => first | (go_simp; done) | (go_simp; rfl)); intro gb142 hg w5 hbox hb; have n0_ := Aside0.mk (blk_below (g := gb141) (o := .cells #[.int .i64 a0_0, .int .i64 a0_1] 23 (0, 0)) (by (with_reducible repeat (first | refine blk_drewN ?_ _ | refine blk_drew ?_ | refine blk_alloc ?_ _)); exact BK141.out) hb); have n1_ := Aside0.mk (below_step (by repeat (first | (with_reducible first | exact HB.out | apply below_alloc | apply pw_below_drewN | apply below_drew1 | refine below_set ?_ GE141.out) | exact HB.out)) hb); have n2_ := Aside0.mk (hbox); have n3_ := Aside0.mk ((by rw [hg]; exact (below_size (by repeat (first | (with_reducible first | exact HB.out | apply below_alloc | apply pw_below_drewN | apply below_drew1 | refine below_set ?_ GE141.out) | exact HB.out))) : w.heap.size ≤ gb142)); have n4_ := Aside0.mk ((by rw [hg]; exact (below_size (by repeat (first | (with_reducible first | exact HB.out | apply below_alloc | apply pw_below_drewN | apply below_drew1 | refine below_set ?_ GE141.out) | exact HB.out))) : w.heap.size ≤ gb142)); have n5_ := Aside0.mk ((by rw [hg]; exact Nat.ne_of_lt (blk_lt (g := gb141) (o := .cells #[.int .i64 a0_0, .int .i64 a0_1] 23 (0, 0)) (by (with_reducible repeat (first | refine blk_drewN ?_ _ | refine blk_drew ?_ | refine blk_alloc ?_ _)); exact BK141.out)) : gb141 ≠ gb142)); have n6_ := Aside0.mk ((by rw [hg]; exact Nat.ne_of_gt (blk_lt (g := gb141) (o := .cells #[.int .i64 a0_0, .int .i64 a0_1] 23 (0, 0)) (by (with_reducible repeat (first | refine blk_drewN ?_ _ | refine blk_drew ?_ | refine blk_alloc ?_ _)); exact BK141.out)) : gb142 ≠ gb141)); clear BK141; clear HB; have BK141 := n0_; have HB := n1_; have BK142 := n2_; have GW142 := n3_; have GE142 := n4_; have NB141_142 := n5_; have NB142_141 := n6_; clear n0_ n1_ n2_ n3_ n4_ n5_ n6_; clear hb hbox hg) | ((with_reducible refine gate_dst (N := 5) rfl ?_); refine box_event ?hg (N := 5) ?hd (cs := #[.int .i64 a2_0, .int .i64 a2_1]) (t := 23) ?hr ?_; (case hd => rfl); (case hg => rfl); (case hr => first | (go_simp; done) | (go_simp; rfl)); intro gb143 hg w6 hbox hb; have n0_ := Aside0.mk (blk_below (g := gb141) (o := .cells #[.int .i64 a0_0, .int .i64 a0_1] 23 (0, 0)) (by (with_reducible repeat (first | refine blk_drewN ?_ _ | refine blk_drew ?_ | refine blk_alloc ?_ _)); exact BK141.out) hb); have n1_ := Aside0.mk (blk_below (g := gb142) (o := .cells #[.int .i64 a1_0, .int .i64 a1_1] 23 (0, 0)) (by (with_reducible repeat (first | refine blk_drewN ?_ _ | refine blk_drew ?_ | refine blk_alloc ?_ _)); exact BK142.out) hb); have n2_ := Aside0.mk (below_step (by repeat (first | (with_reducible first | exact HB.out | apply below_alloc | apply pw_below_drewN | apply below_drew1 | refine below_set ?_ GE141.out | refine below_set ?_ GE142.out) | exact HB.out)) hb); have n3_ := Aside0.mk (hbox); have n4_ := Aside0.mk ((by rw [hg]; exact (below_size (by repeat (first | (with_reducible first | exact HB.out | apply below_alloc | apply pw_below_drewN | apply below_drew1 | refine below_set ?_ GE141.out | refine below_set ?_ GE142.out) | exact HB.out))) : w.heap.size ≤ gb143)); have n5_ := Aside0.mk ((by rw [hg]; exact (below_size (by repeat (first | (with_reducible first | exact HB.out | apply below_alloc | apply pw_below_drewN | apply below_drew1 | refine below_set ?_ GE141.out | refine below_set ?_ GE142.out) | exact HB.out))) : w.heap.size ≤ gb143)); have n6_ := Aside0.mk ((by rw [hg]; exact Nat.ne_of_lt (blk_lt (g := gb141) (o := .cells #[.int .i64 a0_0, .int .i64 a0_1] 23 (0, 0)) (by (with_reducible repeat (first | refine blk_drewN ?_ _ | refine blk_drew ?_ | refine blk_alloc ?_ _)); exact BK141.out)) : gb141 ≠ gb143)); have n7_ := Aside0.mk ((by rw [hg]; exact Nat.ne_of_gt (blk_lt (g := gb141) (o := .cells #[.int .i64 a0_0, .int .i64 a0_1] 23 (0, 0)) (by (with_reducible repeat (first | refine blk_drewN ?_ _ | refine blk_drew ?_ | refine blk_alloc ?_ _)); exact BK141.out)) : gb143 ≠ gb141)); have n8_ := Aside0.mk ((by rw [hg]; exact Nat.ne_of_lt (blk_lt (g := gb142) (o := .cells #[.int .i64 a1_0, .int .i64 a1_1] 23 (0, 0)) (by (with_reducible repeat (first | refine blk_drewN ?_ _ | refine blk_drew ?_ | refine blk_alloc ?_ _)); exact BK142.out)) : gb142 ≠ gb143)); have n9_ := Aside0.mk ((by rw [hg]; exact Nat.ne_of_gt (blk_lt (g := gb142) (o := .cells #[.int .i64 a1_0, .int .i64 a1_1] 23 (0, 0)) (by (with_reducible repeat (first | refine blk_drewN ?_ _ | refine blk_drew ?_ | refine blk_alloc ?_ _)); exact BK142.out)) : gb143 ≠ gb142)); clear BK141; clear BK142; clear HB; have BK141 := n0_; have BK142 := n1_; have HB := n2_; have BK143 := n3_; have GW143 := n4_; have GE143 := n5_; have NB141_143 := n6_; have NB143_141 := n7_; have NB142_143 := n8_; have NB143_142 := n9_; clear n0_ n1_ n2_ n3_ n4_ n5_ n6_ n7_ n8_ n9_; clear hb hbox hg; have hnb7 := NB142_141.out; have hnc7 := NB141_142.out; have hnb8 := NB142_143.out; have hnc8 := NB143_142.out; have hcz9_0 : w6.cell? ⟨gb142, 0, none⟩ = some (.int .i64 a1_0) := (blk_cell BK142.out 0).trans rfl; have hcz9_1 : w6.cell? ⟨gb142, 1, none⟩ = some (.int .i64 a1_1) := (blk_cell BK142.out 1).trans rfl; have hfz9_0 := blk_frozen BK142.out 0; have hfz9_1 := blk_frozen BK142.out 1; have hnb10 := NB141_143.out; have hnc10 := NB143_141.out; have hcz11_0 : w6.cell? ⟨gb141, 0, none⟩ = some (.int .i64 a0_0) := (blk_cell BK141.out 0).trans rfl; have hcz11_1 : w6.cell? ⟨gb141, 1, none⟩ = some (.int .i64 a0_1) := (blk_cell BK141.out 1).trans rfl; have hfz11_0 := blk_frozen BK141.out 0; have hfz11_1 := blk_frozen BK141.out 1; have hcz12_0 : w6.cell? ⟨gb143, 0, none⟩ = some (.int .i64 a2_0) := (blk_cell BK143.out 0).trans rfl; have hcz12_1 : w6.cell? ⟨gb143, 1, none⟩ = some (.int .i64 a2_1) := (blk_cell BK143.out 1).trans rfl; have hfz12_0 := blk_frozen BK143.out 0; have hfz12_1 := blk_frozen BK143.out 1))
 go_ret
 exact ⟨by first | rfl | (simp [errW_none, errW_some] <;> rfl) | (simp [*, errW_none, errW_some] <;> rfl), by repeat (first | (with_reducible first | exact HB.out | apply below_alloc | apply pw_below_drewN | apply below_drew1 | refine below_set ?_ GE141.out | refine below_set ?_ GE142.out | refine below_set ?_ GE143.out) | exact HB.out)⟩
end Go.Proofs.Ytmilejcbkpkplaa.PAll
-- Written by wip/tools/handprint.py: walks of the functions that the law reaches; Lean checks them.
namespace Go.Proofs.Ytmilejcbkpkplaa.PAll
open Go.RowKit Go.Proofs.YtmilejcbkpkplaaW.PrintWords Go.Proofs.YtmilejcbkpkplaaW.PrintLast Go.Proofs.YtmilejcbkpkplaaW.PrintMore
attribute [local go_sem] max2_int min2_int max_two min_two max_three min_three max_four min_four   -- for this text's walks alone
set_option linter.unusedVariables false
set_option linter.unusedSimpArgs false

/-! ### dancestudioref03_Radius: function 37 -/
def dancestudioref03_Radius.f (a0 : Int) : Option (Bool) := if a0 ≥ 0 then (some (decide (a0 ≤ 32768))) else (some false)
set_option maxHeartbeats 8000000 in
set_option maxRecDepth 100000 in
theorem dancestudioref03_Radius.calls (a0 : Int) (r : Bool) (w : World) (h : dancestudioref03_Radius.f a0 = some r) :
  Calls Try.prog 37 #[.int .i64 a0] w fun e w' => e = .returned (.bool r) ∧ Drawn0 w w' := by
 have H : (if a0 ≥ 0 then (some (decide (a0 ≤ 32768))) else (some false)) = some r := h
 clear h
 by_cases c2 : a0 ≥ 0
 ·
  rw [if_pos c2] at H
  have c2b0 : decide (0 ≤ a0) = true := decide_eq_true c2
  clear c2
  obtain rfl := Option.some.inj H
  go_enter Try.func37, Try.ntmps37
  go_wp2
  go_ret
  exact ⟨by first | rfl | (simp; done) | (simp [*]; done), by repeat (first | exact Drawn0.refl _ | apply Drawn0.step)⟩
 ·
  rw [if_neg c2] at H
  have c2b0 : decide (0 ≤ a0) = false := decide_eq_false c2
  clear c2
  obtain rfl := Option.some.inj H
  go_enter Try.func37, Try.ntmps37
  go_wp2
  go_ret
  exact ⟨by first | rfl | (simp; done) | (simp [*]; done), by repeat (first | exact Drawn0.refl _ | apply Drawn0.step)⟩
end Go.Proofs.Ytmilejcbkpkplaa.PAll
/- Plain facts about rounded quotients, square roots, greatest common divisors and the order of products, without any program. -/
namespace Go.Proofs.Ytmilejcbkpkplaa.MathNum
open Go.RowKit

theorem w64 {n : Int} (h1 : -9223372036854775808 ≤ n) (h2 : n ≤ 9223372036854775807) : wrap64 n = n := by
  unfold wrap64; omega

theorem mul_range {a b A B : Int} (h1 : -A ≤ a) (h2 : a ≤ A) (h3 : 0 ≤ b) (h4 : b ≤ B) : -(A * B) ≤ a * b ∧ a * b ≤ A * B := by
  have hA : 0 ≤ A := by omega
  have k1 : a * b ≤ A * b := Int.mul_le_mul_of_nonneg_right h2 h3
  have k2 : A * b ≤ A * B := Int.mul_le_mul_of_nonneg_left h4 hA
  have k3 : -A * b ≤ a * b := Int.mul_le_mul_of_nonneg_right h1 h3
  have k4 : -A * b = -(A * b) := Int.neg_mul A b
  omega

theorem mul_range2 {a b A B : Int} (h1 : -A ≤ a) (h2 : a ≤ A) (h3 : -B ≤ b) (h4 : b ≤ B) : -(A * B) ≤ a * b ∧ a * b ≤ A * B := by
  rcases Int.le_total 0 b with h | h
  · exact mul_range h1 h2 h h4
  · have := mul_range (a := a) (b := -b) (B := B) h1 h2 (by omega) (by omega)
    rw [Int.mul_neg] at this
    omega

/-- Go's quotient and remainder by a positive number, corrected, are the floor and its remainder. -/
theorem tdiv_floor {a b : Int} (hb : 0 < b) : (a.tmod b < 0 → a.tdiv b - 1 = a / b ∧ a.tmod b + b = a % b) ∧ (¬ a.tmod b < 0 → a.tdiv b = a / b ∧ a.tmod b = a % b) := by
  have e := Int.mul_tdiv_add_tmod a b
  have l := Int.tmod_lt_of_pos a hb
  have l2 : -b < a.tmod b := by
    have := Int.lt_tmod_of_pos a hb
    exact this
  constructor
  · intro h
    have := (Int.ediv_emod_unique (a := a) (b := b) (r := a.tmod b + b) (q := a.tdiv b - 1) hb).mpr ⟨by rw [Int.mul_sub, Int.mul_one]; omega, by omega, by omega⟩
    exact ⟨this.1.symm, this.2.symm⟩
  · intro h
    have := (Int.ediv_emod_unique (a := a) (b := b) (r := a.tmod b) (q := a.tdiv b) hb).mpr ⟨by omega, by omega, l⟩
    exact ⟨this.1.symm, this.2.symm⟩

theorem ediv_range {a b A : Int} (hb : 0 < b) (h1 : -A ≤ a) (h2 : a ≤ A) : -A ≤ a / b ∧ a / b ≤ A := by
  have hA : 0 ≤ A := by omega
  constructor
  · have : -A * b ≤ a := by
      have : -A * b ≤ -A * 1 := Int.mul_le_mul_of_nonpos_left (by omega) (by omega)
      omega
    exact Int.le_ediv_of_mul_le hb this
  · have : a < (A + 1) * b := by
      have : (A + 1) * 1 ≤ (A + 1) * b := Int.mul_le_mul_of_nonneg_left (by omega) (by omega)
      omega
    have := Int.ediv_lt_of_lt_mul hb this
    omega

/-- a / b, rounded to the nearest, halves to the even number, for a positive b. -/
def near (a b : Int) : Int := if 2 * (a % b) > b ∨ 2 * (a % b) = b ∧ (a / b) % 2 ≠ 0 then a / b + 1 else a / b

/-- What 'near' is, by its own words. -/
theorem near_spec {a b : Int} (hb : 0 < b) : ∃ q r : Int, a = b * q + r ∧ 0 ≤ r ∧ r < b ∧ near a b = (if 2 * r > b ∨ 2 * r = b ∧ q % 2 ≠ 0 then q + 1 else q) ∧ q = a / b ∧ r = a % b :=
  ⟨a / b, a % b, (Int.mul_ediv_add_emod a b).symm, Int.emod_nonneg a (by omega), Int.emod_lt_of_pos a hb, rfl, rfl, rfl⟩

theorem near_of {a b q r : Int} (hb : 0 < b) (e : a = b * q + r) (h0 : 0 ≤ r) (h1 : r < b) : near a b = (if 2 * r > b ∨ 2 * r = b ∧ q % 2 ≠ 0 then q + 1 else q) := by
  have := (Int.ediv_emod_unique (a := a) (b := b) (r := r) (q := q) hb).mpr ⟨by omega, h0, h1⟩
  unfold near
  rw [this.1, this.2]

/-- Exact to half a unit, halves to the even number. -/
theorem near_off {a b : Int} (hb : 0 < b) : 2 * (a - near a b * b) ≤ b ∧ -b ≤ 2 * (a - near a b * b) ∧ (2 * (a - near a b * b) = b ∨ 2 * (a - near a b * b) = -b → near a b % 2 = 0) := by
  obtain ⟨q, r, e, h0, h1, hn, _, _⟩ := near_spec (a := a) hb
  rw [hn]
  split
  · have : (q + 1) * b = b * q + b := by rw [Int.add_mul, Int.mul_comm]; omega
    rw [this]; omega
  · have : q * b = b * q := Int.mul_comm q b
    rw [this]; omega

/-- It is the only such number. -/
theorem near_unique {a b n : Int} (hb : 0 < b) (h1 : 2 * (a - n * b) ≤ b) (h2 : -b ≤ 2 * (a - n * b)) (h3 : 2 * (a - n * b) = b ∨ 2 * (a - n * b) = -b → n % 2 = 0) : near a b = n := by
  obtain ⟨g1, g2, g3⟩ := near_off (a := a) hb
  generalize near a b = m at *
  -- m and n differ by at most one
  have k1 : (m - n) * b ≤ b := by rw [Int.sub_mul]; omega
  have k2 : -b ≤ (m - n) * b := by rw [Int.sub_mul]; omega
  have l1 : m - n ≤ 1 := by
    apply Int.not_lt.mp; intro h
    have : 2 * b ≤ (m - n) * b := Int.mul_le_mul_of_nonneg_right (by omega) (by omega)
    omega
  have l2 : -1 ≤ m - n := by
    apply Int.not_lt.mp; intro h
    have : (m - n) * b ≤ -2 * b := Int.mul_le_mul_of_nonneg_right (by omega) (by omega)
    omega
  have h : m = n ∨ m = n + 1 ∨ m = n - 1 := by omega
  rcases h with h | h | h
  · exact h
  · subst h
    rw [Int.add_mul] at *
    have a1 := h3 (Or.inl (by omega))
    have a2 := g3 (Or.inr (by omega))
    omega
  · subst h
    rw [Int.sub_mul] at *
    have a1 := h3 (Or.inr (by omega))
    have a2 := g3 (Or.inl (by omega))
    omega

theorem near_neg {a b : Int} (hb : 0 < b) : near (-a) b = -near a b := by
  obtain ⟨g1, g2, g3⟩ := near_off (a := a) hb
  apply near_unique hb
  · rw [Int.neg_mul]; omega
  · rw [Int.neg_mul]; omega
  · intro h
    rw [Int.neg_mul] at h
    have := g3 (by omega)
    omega

theorem near_exact {b q : Int} (hb : 0 < b) : near (b * q) b = q := by
  rw [near_of hb (q := q) (r := 0) (by omega) (by omega) hb]
  rw [if_neg (by omega)]

theorem near_shift {a b c : Int} (hb : 0 < b) (hc : c % 2 = 0) : near (a + c * b) b = near a b + c := by
  obtain ⟨g1, g2, g3⟩ := near_off (a := a) hb
  apply near_unique hb
  · rw [Int.add_mul]; omega
  · rw [Int.add_mul]; omega
  · intro h
    rw [Int.add_mul] at h
    have := g3 (by omega)
    omega

theorem near_lo {a b m : Int} (hb : 0 < b) (h : m * b ≤ a) : m ≤ near a b := by
  obtain ⟨q, r, e, h0, h1, hn, hq, _⟩ := near_spec (a := a) hb
  have : m ≤ q := by rw [hq]; exact Int.le_ediv_of_mul_le hb h
  rw [hn]; split <;> omega

theorem near_hi {a b m : Int} (hb : 0 < b) (h : a ≤ m * b) : near a b ≤ m := by
  have := near_lo (a := -a) (m := -m) hb (by rw [Int.neg_mul]; omega)
  rw [near_neg hb] at this
  omega

theorem near_range {a b A : Int} (hb : 0 < b) (h1 : -A ≤ a) (h2 : a ≤ A) : -A ≤ near a b ∧ near a b ≤ A := by
  have hA : 0 ≤ A := by omega
  have k : A * 1 ≤ A * b := Int.mul_le_mul_of_nonneg_left (by omega) hA
  exact ⟨near_lo hb (by rw [Int.neg_mul]; omega), near_hi hb (by omega)⟩

/-- -1, 0 or 1, as a is less than, equal to or greater than b. -/
def cmp3 (a b : Int) : Int := if a < b then -1 else if a > b then 1 else 0

theorem cmp3_lt {a b : Int} (h : a < b) : cmp3 a b = -1 := by unfold cmp3; rw [if_pos h]
theorem cmp3_gt {a b : Int} (h : b < a) : cmp3 a b = 1 := by unfold cmp3; rw [if_neg (by omega), if_pos h]
theorem cmp3_eq {a b : Int} (h : a = b) : cmp3 a b = 0 := by unfold cmp3; rw [if_neg (by omega), if_neg (by omega)]
theorem cmp3_swap (a b : Int) : cmp3 b a = -cmp3 a b := by unfold cmp3; split <;> split <;> (try split) <;> omega
theorem cmp3_range (a b : Int) : -1 ≤ cmp3 a b ∧ cmp3 a b ≤ 1 := by unfold cmp3; split <;> (try split) <;> omega
theorem cmp3_cases (a b : Int) : (a < b ∧ cmp3 a b = -1) ∨ (a = b ∧ cmp3 a b = 0) ∨ (b < a ∧ cmp3 a b = 1) := by
  rcases Int.lt_trichotomy a b with h | h | h
  · exact Or.inl ⟨h, cmp3_lt h⟩
  · exact Or.inr (Or.inl ⟨h, cmp3_eq h⟩)
  · exact Or.inr (Or.inr ⟨h, cmp3_gt h⟩)

end Go.Proofs.Ytmilejcbkpkplaa.MathNum
/- Words for what a printed function answers once it has rounds enough. -/
namespace Go.Proofs.Ytmilejcbkpkplaa.EvWords
open Go Go.RowKit Go.Proofs.YtmilejcbkpkplaaW.PrintWords Go.Proofs.YtmilejcbkpkplaaW.PrintLast Go.Proofs.YtmilejcbkpkplaaW.PrintMore Go.Proofs.Ytmilejcbkpkplaa.MathNum

theorem ev_pos {α : Type} {c : Prop} [Decidable c] (h : c) {A B : Nat → Option α} {r : α} (e : Ev A r) : Ev (fun k => if c then A k else B k) r := by
  simp only [if_pos h]; exact e
theorem ev_neg {α : Type} {c : Prop} [Decidable c] (h : ¬ c) {A B : Nat → Option α} {r : α} (e : Ev B r) : Ev (fun k => if c then A k else B k) r := by
  simp only [if_neg h]; exact e
theorem ev_now {α : Type} (r : α) : Ev (fun _ => some r) r := Ev.now r
theorem ev_eq {α : Type} {g : Nat → Option α} {r r' : α} (e : Ev g r) (h : r = r') : Ev g r' := h ▸ e
theorem ev_some {α : Type} {g : Nat → Option α} {r : α} (e : Ev g r) : ∃ k, g k = some r := e.rounds
/-- A step of a loop, or of a join: the number of rounds goes down by one. -/
theorem ev_step {α : Type} {g f : Nat → Option α} {r : α} (h : ∀ k, g (k + 1) = f k) (e : Ev f r) : Ev g r := Ev.step h e
theorem ev_let {α β : Type} {a : α} {f : Nat → α → Option β} {r : β} (e : Ev (fun n => f n a) r) : Ev (fun n => (some a).bind (f n)) r := by
  simpa only [Option.bind_some] using e

/-- A list's element behind a store. -/
theorem rd_set {l : List Int} {i j v : Int} (h0 : 0 ≤ i) (h1 : i < l.length) (hj : 0 ≤ j) : rd (l.set i.toNat v) j = if j = i then v else rd l j := by
  unfold rd
  rw [List.getD_eq_getElem?_getD, List.getElem?_set, List.getD_eq_getElem?_getD]
  by_cases h : j = i
  · subst h
    rw [if_pos rfl, if_pos rfl, if_pos (by omega)]; rfl
  · rw [if_neg (by omega), if_neg h]
theorem rdB_set {l : List Bool} {i j : Int} {v : Bool} (h0 : 0 ≤ i) (h1 : i < l.length) (hj : 0 ≤ j) : rdOf false (l.set i.toNat v) j = if j = i then v else rdOf false l j := by
  unfold rdOf
  rw [List.getD_eq_getElem?_getD, List.getElem?_set, List.getD_eq_getElem?_getD]
  by_cases h : j = i
  · subst h
    rw [if_pos rfl, if_pos rfl, if_pos (by omega)]; rfl
  · rw [if_neg (by omega), if_neg h]
theorem rd_rep {n : Nat} {v j : Int} (h0 : 0 ≤ j) (h1 : j < n) : rd (List.replicate n v) j = v := by
  unfold rd
  rw [List.getD_eq_getElem?_getD, List.getElem?_replicate, if_pos (by omega)]; rfl
theorem rdB_rep {n : Nat} {j : Int} : rdOf false (List.replicate n false) j = false := by
  unfold rdOf
  rw [List.getD_eq_getElem?_getD, List.getElem?_replicate]
  split <;> rfl
end Go.Proofs.Ytmilejcbkpkplaa.EvWords
/- The chapter's examples, and which points and radii are valid. -/
namespace Go.Proofs.Ytmilejcbkpkplaa.PAll
set_option linter.unusedVariables false
open Go Go.RowKit Go.Proofs.YtmilejcbkpkplaaW.PrintWords Go.Proofs.YtmilejcbkpkplaaW.PrintLast Go.Proofs.YtmilejcbkpkplaaW.PrintMore Go.Proofs.Ytmilejcbkpkplaa.MathNum Go.Proofs.Ytmilejcbkpkplaa.EvWords

set_option maxRecDepth 100000 in
theorem awake_ev : Ev (fun k => dancestudiolaw03_awake.f k) true := Ev.of dancestudiolaw03_awake.mono (k := 60) (by decide +kernel)

/-- A number that a coordinate can be. -/
def cOk (x : Int) : Prop := -32768 ≤ x ∧ x ≤ 32768
instance (x : Int) : Decidable (cOk x) := by unfold cOk; exact inferInstance
def pOk (p : S23) : Prop := cOk p.f0 ∧ cOk p.f1
instance (p : S23) : Decidable (pOk p) := by unfold pOk; exact inferInstance
def rOk (r : Int) : Prop := 0 ≤ r ∧ r ≤ 32768
instance (r : Int) : Decidable (rOk r) := by unfold rOk; exact inferInstance

theorem rdT_nat (c : List S23) {i : Nat} (h : i < c.length) : rd_T23 c (i : Int) = c[i] := by
  unfold rd_T23
  rw [List.getD_eq_getElem?_getD, Int.toNat_natCast, List.getElem?_eq_getElem h]; rfl
theorem rd_nat (c : List Int) {i : Nat} (h : i < c.length) : rd c (i : Int) = c[i] := by
  unfold rd
  rw [List.getD_eq_getElem?_getD, Int.toNat_natCast, List.getElem?_eq_getElem h]; rfl

theorem valid_l1 {rs : List Int} (hr : rs.length ≤ 9223372036854775807) (R : Bool) (hy : (∀ r ∈ rs, rOk r) → R = true) (hn : ¬ (∀ r ∈ rs, rOk r) → R = false) (d : Nat) : ∀ i : Nat, i + d = rs.length → (∀ r ∈ rs.take i, rOk r) →
    Ev (fun k => geom_valid.l1 k rs (rs.length : Int) (i : Int)) R := by
  induction d with
  | zero =>
    intro i hi hp
    rw [List.take_of_length_le (by omega)] at hp
    rw [hy hp]
    exact ev_step (fun k => by simp only [geom_valid.l1] <;> exact rfl) (ev_neg (by omega) (ev_now _))
  | succ d ih =>
    intro i hi hp
    have hlt : i < rs.length := by omega
    refine ev_step (fun k => by simp only [geom_valid.l1] <;> exact rfl) (ev_pos (by omega) (ev_pos (by omega) (ev_pos (by omega) ?_)))
    rw [rd_nat rs hlt]
    by_cases h0 : rs[i] < 0
    · rw [hn fun h => by have := (h _ (List.getElem_mem hlt)).1; omega]
      exact ev_pos h0 (ev_now _)
    · refine ev_neg h0 ?_
      by_cases h1 : rs[i] > 32768
      · rw [hn fun h => by have := (h _ (List.getElem_mem hlt)).2; omega]
        exact ev_pos h1 (ev_now _)
      · refine ev_neg h1 ?_
        rw [w64 (by omega) (by omega)]
        refine ih (i + 1) (by omega) (fun r hm => ?_)
        rw [List.take_succ_eq_append_getElem hlt] at hm
        rcases List.mem_append.1 hm with hm | hm
        · exact hp r hm
        · rw [List.mem_singleton.1 hm]; exact ⟨by omega, by omega⟩
theorem valid_l0 {ps : List S23} {rs : List Int} (hp0 : ps.length ≤ 9223372036854775807) (hr : rs.length ≤ 9223372036854775807) (R : Bool) (hy : (∀ p ∈ ps, pOk p) → (∀ r ∈ rs, rOk r) → R = true) (hn : ¬ ((∀ p ∈ ps, pOk p) ∧ (∀ r ∈ rs, rOk r)) → R = false) (d : Nat) :
    ∀ i : Nat, i + d = ps.length → (∀ p ∈ ps.take i, pOk p) → Ev (fun k => geom_valid.l0 k rs ps (ps.length : Int) (i : Int)) R := by
  induction d with
  | zero =>
    intro i hi hp
    rw [List.take_of_length_le (by omega)] at hp
    refine ev_step (fun k => by simp only [geom_valid.l0] <;> exact rfl) (ev_neg (by omega) ?_)
    exact valid_l1 hr R (hy hp) (fun h => hn fun h' => h h'.2) rs.length 0 (by omega) (by simp)
  | succ d ih =>
    intro i hi hp
    have hlt : i < ps.length := by omega
    refine ev_step (fun k => by simp only [geom_valid.l0] <;> exact rfl) (ev_pos (by omega) (ev_pos (by omega) (ev_pos (by omega) ?_)))
    rw [rdT_nat ps hlt]
    have bad : ¬ pOk ps[i] → R = false := fun h => hn fun h' => h (h'.1 _ (List.getElem_mem hlt))
    by_cases h0 : ps[i].f0 < -32768
    · rw [bad fun h => by have := h.1.1; omega]
      exact ev_pos h0 (ev_now _)
    · refine ev_neg h0 ?_
      by_cases h1 : ps[i].f0 > 32768
      · rw [bad fun h => by have := h.1.2; omega]
        exact ev_pos h1 (ev_now _)
      · refine ev_neg h1 ?_
        by_cases h2 : ps[i].f1 < -32768
        · rw [bad fun h => by have := h.2.1; omega]
          exact ev_pos h2 (ev_now _)
        · refine ev_neg h2 ?_
          by_cases h3 : ps[i].f1 > 32768
          · rw [bad fun h => by have := h.2.2; omega]
            exact ev_pos h3 (ev_now _)
          · refine ev_neg h3 ?_
            rw [w64 (by omega) (by omega)]
            refine ih (i + 1) (by omega) (fun p hm => ?_)
            rw [List.take_succ_eq_append_getElem hlt] at hm
            rcases List.mem_append.1 hm with hm | hm
            · exact hp p hm
            · rw [List.mem_singleton.1 hm]; exact ⟨⟨by omega, by omega⟩, ⟨by omega, by omega⟩⟩
theorem valid_ev {ps : List S23} {rs : List Int} (hp : ps.length ≤ 9223372036854775807) (hr : rs.length ≤ 9223372036854775807) : Ev (fun k => geom_valid.f k ps rs) (decide ((∀ p ∈ ps, pOk p) ∧ (∀ r ∈ rs, rOk r))) := by
  simp only [geom_valid.f]
  exact valid_l0 hp hr _ (fun a b => by simpa using ⟨a, b⟩) (fun h => by simpa using h) ps.length 0 (by omega) (by simp)

theorem rValid (x y : Int) : dancestudioref03_Valid.f x y = some (decide (cOk x ∧ cOk y)) := by
  unfold dancestudioref03_Valid.f cOk
  by_cases h1 : x ≥ -32768
  · by_cases h2 : x ≤ 32768
    · by_cases h3 : y ≥ -32768
      · rw [if_pos h1, if_pos h2, if_pos h3]; exact congrArg some (decide_eq_decide.2 (by omega))
      · rw [if_pos h1, if_pos h2, if_neg h3]; exact congrArg some (decide_eq_false (by omega)).symm
    · rw [if_pos h1, if_neg h2]; exact congrArg some (decide_eq_false (by omega)).symm
  · rw [if_neg h1]; exact congrArg some (decide_eq_false (by omega)).symm
theorem rRadius (r : Int) : dancestudioref03_Radius.f r = some (decide (rOk r)) := by
  unfold dancestudioref03_Radius.f rOk
  by_cases h1 : r ≥ 0
  · rw [if_pos h1]; exact congrArg some (decide_eq_decide.2 (by omega))
  · rw [if_neg h1]; exact congrArg some (decide_eq_false (by omega)).symm

theorem minus_ok {a b c d : Int} (ha : cOk a) (hb : cOk b) (hc : cOk c) (hd : cOk d) : geom_minus.f a b c d = some (a - c, b - d) := by
  unfold geom_minus.f cOk at *
  rw [w64 (by omega) (by omega), w64 (by omega) (by omega)]
/-- Products of small numbers. -/
theorem mul_bound {a b m n : Int} (ha : -m ≤ a ∧ a ≤ m) (hb : -n ≤ b ∧ b ≤ n) : -(m * n) ≤ a * b ∧ a * b ≤ m * n := by
  have hm : 0 ≤ m := by omega
  have hn : 0 ≤ n := by omega
  constructor
  · by_cases h : 0 ≤ a
    · have h1 : a * (-n) ≤ a * b := Int.mul_le_mul_of_nonneg_left hb.1 h
      have h2 : a * n ≤ m * n := Int.mul_le_mul_of_nonneg_right ha.2 hn
      have h3 : a * (-n) = -(a * n) := Int.mul_neg a n
      omega
    · have h1 : (-a) * b ≤ (-a) * n := Int.mul_le_mul_of_nonneg_left hb.2 (by omega)
      have h2 : (-a) * n ≤ m * n := Int.mul_le_mul_of_nonneg_right (by omega) hn
      have h3 : (-a) * b = -(a * b) := Int.neg_mul a b
      omega
  · by_cases h : 0 ≤ a
    · have h1 : a * b ≤ a * n := Int.mul_le_mul_of_nonneg_left hb.2 h
      have h2 : a * n ≤ m * n := Int.mul_le_mul_of_nonneg_right ha.2 hn
      omega
    · have h1 : (-a) * (-n) ≤ (-a) * b := Int.mul_le_mul_of_nonneg_left hb.1 (by omega)
      have h2 : (-a) * n ≤ m * n := Int.mul_le_mul_of_nonneg_right (by omega) hn
      have h3 : (-a) * b = -(a * b) := Int.neg_mul a b
      have h4 : (-a) * (-n) = -((-a) * n) := Int.mul_neg (-a) n
      omega
theorem dot_ok {a b c d : Int} (ha : -131072 ≤ a ∧ a ≤ 131072) (hb : -131072 ≤ b ∧ b ≤ 131072) (hc : -131072 ≤ c ∧ c ≤ 131072) (hd : -131072 ≤ d ∧ d ≤ 131072) : geom_dot.f a b c d = some (a * c + b * d) := by
  unfold geom_dot.f
  have h1 := mul_bound ha hc
  have h2 := mul_bound hb hd
  rw [w64 (n := a * c) (by omega) (by omega), w64 (n := b * d) (by omega) (by omega), w64 (by omega) (by omega)]
theorem cross_ok {a b c d : Int} (ha : -131072 ≤ a ∧ a ≤ 131072) (hb : -131072 ≤ b ∧ b ≤ 131072) (hc : -131072 ≤ c ∧ c ≤ 131072) (hd : -131072 ≤ d ∧ d ≤ 131072) : geom_cross.f a b c d = some (a * d - b * c) := by
  unfold geom_cross.f
  have h1 := mul_bound ha hd
  have h2 := mul_bound hb hc
  rw [w64 (n := a * d) (by omega) (by omega), w64 (n := b * c) (by omega) (by omega), w64 (by omega) (by omega)]
theorem square_ok {a b c d : Int} (ha : cOk a) (hb : cOk b) (hc : cOk c) (hd : cOk d) : dancestudioref03_square.f a b c d = some ((a - c) * (a - c) + (b - d) * (b - d)) := by
  unfold dancestudioref03_square.f
  unfold cOk at *
  have x : -131072 ≤ a - c ∧ a - c ≤ 131072 := by omega
  have y : -131072 ≤ b - d ∧ b - d ≤ 131072 := by omega
  have h1 := mul_bound x x
  have h2 := mul_bound y y
  rw [w64 (n := a - c) (by omega) (by omega), w64 (n := b - d) (by omega) (by omega), w64 (n := (a - c) * (a - c)) (by omega) (by omega), w64 (n := (b - d) * (b - d)) (by omega) (by omega), w64 (by omega) (by omega)]
theorem rcross_ok {a b c d e f : Int} (ha : cOk a) (hb : cOk b) (hc : cOk c) (hd : cOk d) (he : cOk e) (hf : cOk f) : dancestudioref03_cross.f a b c d e f = some ((c - a) * (f - b) - (d - b) * (e - a)) := by
  unfold dancestudioref03_cross.f
  unfold cOk at *
  have x : -131072 ≤ c - a ∧ c - a ≤ 131072 := by omega
  have y : -131072 ≤ f - b ∧ f - b ≤ 131072 := by omega
  have z : -131072 ≤ d - b ∧ d - b ≤ 131072 := by omega
  have u : -131072 ≤ e - a ∧ e - a ≤ 131072 := by omega
  have h1 := mul_bound x y
  have h2 := mul_bound z u
  rw [w64 (n := c - a) (by omega) (by omega), w64 (n := f - b) (by omega) (by omega), w64 (n := d - b) (by omega) (by omega), w64 (n := e - a) (by omega) (by omega), w64 (n := (c - a) * (f - b)) (by omega) (by omega), w64 (n := (d - b) * (e - a)) (by omega) (by omega), w64 (by omega) (by omega)]
end Go.Proofs.Ytmilejcbkpkplaa.PAll
/- Plain facts about points, segments, moving discs and convex hulls, over whole numbers, without any program. -/
namespace Go.Proofs.Ytmilejcbkpkplaa.MathGeom
open Go.RowKit Go.Proofs.Ytmilejcbkpkplaa.MathNum

/-- The scalar and the cross product. -/
def dt (a b c d : Int) : Int := a * c + b * d
def cr (a b c d : Int) : Int := a * d - b * c

/-- The sign of the least squared distance of the origin from the segment d, d + v less r2. -/
def nst (dx dy vx vy r2 : Int) : Int :=
  if -(dt dx dy vx vy) ≤ 0 then cmp3 (dt dx dy dx dy) r2
  else if -(dt dx dy vx vy) ≥ dt vx vy vx vy then cmp3 (dt (dx + vx) (dy + vy) (dx + vx) (dy + vy)) r2
  else cmp3 (cr dx dy vx vy * cr dx dy vx vy) (r2 * dt vx vy vx vy)

theorem mul_self_nonneg' (a : Int) : 0 ≤ a * a := by
  rcases Int.le_total 0 a with h | h
  · exact Int.mul_nonneg h h
  · have := Int.mul_nonneg (a := -a) (b := -a) (by omega) (by omega)
    rw [Int.neg_mul_neg] at this; exact this
theorem dt_self (a b : Int) : 0 ≤ dt a b a b := by
  unfold dt
  have h1 := mul_self_nonneg' a
  have h2 := mul_self_nonneg' b
  omega
theorem dt_zero {a b : Int} (h : dt a b a b ≤ 0) : a = 0 ∧ b = 0 := by
  unfold dt at h
  have h1 := mul_self_nonneg' a
  have h2 := mul_self_nonneg' b
  have e1 : a * a = 0 := by omega
  have e2 : b * b = 0 := by omega
  exact ⟨(Int.mul_eq_zero.mp e1).elim id id, (Int.mul_eq_zero.mp e2).elim id id⟩

/-- The segment the other way round. -/
theorem nst_rev (dx dy vx vy r2 : Int) : nst (dx + vx) (dy + vy) (-vx) (-vy) r2 = nst dx dy vx vy r2 := by
  have e1 : -(dt (dx + vx) (dy + vy) (-vx) (-vy)) = dt vx vy vx vy - -(dt dx dy vx vy) := by unfold dt; grind
  have e2 : dt (-vx) (-vy) (-vx) (-vy) = dt vx vy vx vy := by unfold dt; grind
  have e3 : cr (dx + vx) (dy + vy) (-vx) (-vy) = -(cr dx dy vx vy) := by unfold cr; grind
  have e4 : dx + vx + -vx = dx := by omega
  have e5 : dy + vy + -vy = dy := by omega
  unfold nst
  rw [e1, e2, e3, e4, e5]
  generalize ha : -(dt dx dy vx vy) = a at *
  have hL := dt_self vx vy
  by_cases c1 : a ≤ 0
  · rw [if_pos c1]
    by_cases c2 : dt vx vy vx vy - a ≤ 0
    · rw [if_pos c2]
      have hz := dt_zero (a := vx) (b := vy) (by omega)
      rw [hz.1, hz.2]; simp
    · rw [if_neg c2, if_pos (by omega)]
  · rw [if_neg c1]
    by_cases c2 : a ≥ dt vx vy vx vy
    · rw [if_pos c2, if_pos (by omega)]
    · rw [if_neg c2, if_neg (by omega), if_neg (by omega)]
      congr 1; grind
theorem nst_neg (dx dy vx vy r2 : Int) : nst (-dx) (-dy) (-vx) (-vy) r2 = nst dx dy vx vy r2 := by
  have e1 : dt (-dx) (-dy) (-vx) (-vy) = dt dx dy vx vy := by unfold dt; grind
  have e2 : dt (-vx) (-vy) (-vx) (-vy) = dt vx vy vx vy := by unfold dt; grind
  have e3 : cr (-dx) (-dy) (-vx) (-vy) = cr dx dy vx vy := by unfold cr; grind
  have e4 : dt (-dx) (-dy) (-dx) (-dy) = dt dx dy dx dy := by unfold dt; grind
  have e5 : dt (-dx + -vx) (-dy + -vy) (-dx + -vx) (-dy + -vy) = dt (dx + vx) (dy + vy) (dx + vx) (dy + vy) := by unfold dt; grind
  unfold nst
  rw [e1, e2, e3, e4, e5]
/-- Lagrange: the product of the squares is the sum of the squared products. -/
theorem lagrange (a b c d : Int) : dt a b a b * dt c d c d = dt a b c d * dt a b c d + cr a b c d * cr a b c d := by unfold dt cr; grind
theorem cr_shift (dx dy vx vy : Int) : cr (dx + vx) (dy + vy) vx vy = cr dx dy vx vy := by unfold cr; grind

/-- Nearer than the radius at some moment: at an end, or between. -/
theorem nst_touch (dx dy vx vy r2 : Int) : (nst dx dy vx vy r2 < 0) ↔ (dt dx dy dx dy < r2 ∨ dt (dx + vx) (dy + vy) (dx + vx) (dy + vy) < r2 ∨
    (0 < -(dt dx dy vx vy) ∧ -(dt dx dy vx vy) < dt vx vy vx vy ∧ cr dx dy vx vy * cr dx dy vx vy < r2 * dt vx vy vx vy)) := by
  have hend : dt (dx + vx) (dy + vy) (dx + vx) (dy + vy) = dt dx dy dx dy + 2 * dt dx dy vx vy + dt vx vy vx vy := by unfold dt; grind
  have hL := dt_self vx vy
  have neg3 : ∀ a b : Int, cmp3 a b < 0 ↔ a < b := by
    intro a b
    rcases cmp3_cases a b with ⟨h, e⟩ | ⟨h, e⟩ | ⟨h, e⟩ <;> rw [e] <;> omega
  unfold nst
  by_cases c1 : -(dt dx dy vx vy) ≤ 0
  · rw [if_pos c1, neg3]; omega
  · rw [if_neg c1]
    by_cases c2 : -(dt dx dy vx vy) ≥ dt vx vy vx vy
    · rw [if_pos c2, neg3]; omega
    · rw [if_neg c2, neg3]
      constructor
      · intro h; exact Or.inr (Or.inr ⟨by omega, by omega, h⟩)
      · rintro (h | h | ⟨_, _, h⟩)
        · have l := lagrange dx dy vx vy
          have q := mul_self_nonneg' (dt dx dy vx vy)
          have : dt dx dy dx dy * dt vx vy vx vy < r2 * dt vx vy vx vy := Int.mul_lt_mul_of_pos_right h (by omega)
          omega
        · have l := lagrange (dx + vx) (dy + vy) vx vy
          rw [cr_shift] at l
          have q := mul_self_nonneg' (dt (dx + vx) (dy + vy) vx vy)
          have : dt (dx + vx) (dy + vy) (dx + vx) (dy + vy) * dt vx vy vx vy < r2 * dt vx vy vx vy := Int.mul_lt_mul_of_pos_right h (by omega)
          omega
        · exact h

/-- Not nearer than the radius: at no moment k / n. -/
theorem nst_moment {dx dy vx vy r n k : Int} (h : ¬ nst dx dy vx vy (r * r) < 0) (hk : 0 ≤ k) (hn : k ≤ n) :
    (r * n) * (r * n) ≤ (dx * n + vx * k) * (dx * n + vx * k) + (dy * n + vy * k) * (dy * n + vy * k) := by
  have ex : (dx * n + vx * k) * (dx * n + vx * k) + (dy * n + vy * k) * (dy * n + vy * k) = n * n * dt dx dy dx dy + 2 * (n * k) * dt dx dy vx vy + k * k * dt vx vy vx vy := by unfold dt; grind
  have er : (r * n) * (r * n) = n * n * (r * r) := by grind
  have hL := dt_self vx vy
  have nn := mul_self_nonneg' n
  have kk := mul_self_nonneg' k
  have nk : 0 ≤ n * k := Int.mul_nonneg (by omega) hk
  have ge3 : ∀ a b : Int, ¬ cmp3 a b < 0 → b ≤ a := by
    intro a b
    rcases cmp3_cases a b with ⟨h, e⟩ | ⟨h, e⟩ | ⟨h, e⟩ <;> rw [e] <;> omega
  rw [ex, er]
  unfold nst at h
  by_cases c1 : -(dt dx dy vx vy) ≤ 0
  · rw [if_pos c1] at h
    have g := ge3 _ _ h
    have a1 : n * n * (r * r) ≤ n * n * dt dx dy dx dy := Int.mul_le_mul_of_nonneg_left g nn
    have a2 : 0 ≤ n * k * dt dx dy vx vy := Int.mul_nonneg nk (by omega)
    have a3 : 0 ≤ k * k * dt vx vy vx vy := Int.mul_nonneg kk hL
    have a4 : 2 * (n * k) * dt dx dy vx vy = 2 * (n * k * dt dx dy vx vy) := by grind
    omega
  · rw [if_neg c1] at h
    by_cases c2 : -(dt dx dy vx vy) ≥ dt vx vy vx vy
    · rw [if_pos c2] at h
      have g := ge3 _ _ h
      have a1 : n * n * (r * r) ≤ n * n * dt (dx + vx) (dy + vy) (dx + vx) (dy + vy) := Int.mul_le_mul_of_nonneg_left g nn
      have a2 : n * n * dt dx dy dx dy + 2 * (n * k) * dt dx dy vx vy + k * k * dt vx vy vx vy = n * n * dt (dx + vx) (dy + vy) (dx + vx) (dy + vy) + 2 * (n * (n - k) * (-(dt dx dy vx vy) - dt vx vy vx vy)) + (n - k) * (n - k) * dt vx vy vx vy := by unfold dt; grind
      have a3 : 0 ≤ n * (n - k) * (-(dt dx dy vx vy) - dt vx vy vx vy) := Int.mul_nonneg (Int.mul_nonneg (by omega) (by omega)) (by omega)
      have a4 : 0 ≤ (n - k) * (n - k) * dt vx vy vx vy := Int.mul_nonneg (mul_self_nonneg' _) hL
      omega
    · rw [if_neg c2] at h
      have g := ge3 _ _ h
      have hLp : 0 < dt vx vy vx vy := by omega
      apply Int.not_lt.mp
      intro lt
      have b1 := Int.mul_lt_mul_of_pos_right lt hLp
      have b2 : n * n * (r * r * dt vx vy vx vy) ≤ n * n * (cr dx dy vx vy * cr dx dy vx vy) := Int.mul_le_mul_of_nonneg_left g nn
      have b3 : (n * n * dt dx dy dx dy + 2 * (n * k) * dt dx dy vx vy + k * k * dt vx vy vx vy) * dt vx vy vx vy = (n * dt dx dy vx vy + k * dt vx vy vx vy) * (n * dt dx dy vx vy + k * dt vx vy vx vy) + n * n * (cr dx dy vx vy * cr dx dy vx vy) := by unfold dt cr; grind
      have b4 := mul_self_nonneg' (n * dt dx dy vx vy + k * dt vx vy vx vy)
      have b5 : n * n * (r * r) * dt vx vy vx vy = n * n * (r * r * dt vx vy vx vy) := by grind
      omega
end Go.Proofs.Ytmilejcbkpkplaa.MathGeom
/- What the printed functions of layer 1 that compare products answer. -/
namespace Go.Proofs.Ytmilejcbkpkplaa.PAll
set_option linter.unusedVariables false
open Go Go.RowKit Go.Proofs.YtmilejcbkpkplaaW.PrintWords Go.Proofs.YtmilejcbkpkplaaW.PrintLast Go.Proofs.YtmilejcbkpkplaaW.PrintMore Go.Proofs.Ytmilejcbkpkplaa.MathNum

/-- A number is from -2^50 to 2^50. -/
def sm (a : Int) : Bool := decide (-1125899906842624 ≤ a) && decide (a ≤ 1125899906842624)
theorem sm_iff {a : Int} : sm a = true ↔ -1125899906842624 ≤ a ∧ a ≤ 1125899906842624 := by unfold sm; simp
theorem sm_false {a : Int} : sm a = false ↔ a < -1125899906842624 ∨ 1125899906842624 < a := by
  rw [← Bool.not_eq_true, sm_iff]; omega
theorem small_step (k : Nat) (l : List Int) (n i : Int) (h1 : i < n) (h0 : 0 ≤ i) (h2 : i < (l.length : Int)) :
    num_small.l0 (k + 1) l n i = if sm (rd l i) = true then num_small.l0 k l n (wrap64 (i + 1)) else some false := by
  simp only [num_small.l0]
  rw [if_pos h1, if_pos h0, if_pos h2]
  by_cases h : sm (rd l i) = true
  · rw [if_pos h]; rw [sm_iff] at h
    rw [if_neg (by omega), if_neg (by omega)]
  · rw [if_neg h]
    rw [Bool.not_eq_true, sm_false] at h
    by_cases h' : rd l i < -1125899906842624
    · rw [if_pos h']
    · rw [if_neg h', if_pos (by omega)]
theorem small4 (k : Nat) (a b c d : Int) : num_small.f (k + 5) [a, b, c, d] = some (sm a && sm b && sm c && sm d) := by
  unfold num_small.f
  rw [small_step (k + 4) [a, b, c, d] _ 0 (by simp) (by omega) (by simp)]
  rw [show wrap64 (0 + 1) = 1 from w64 (by omega) (by omega), show rd [a, b, c, d] 0 = a from rfl]
  rw [small_step (k + 3) [a, b, c, d] _ 1 (by simp) (by omega) (by simp)]
  rw [show wrap64 (1 + 1) = 2 from w64 (by omega) (by omega), show rd [a, b, c, d] 1 = b from rfl]
  rw [small_step (k + 2) [a, b, c, d] _ 2 (by simp) (by omega) (by simp)]
  rw [show wrap64 (2 + 1) = 3 from w64 (by omega) (by omega), show rd [a, b, c, d] 2 = c from rfl]
  rw [small_step (k + 1) [a, b, c, d] _ 3 (by simp) (by omega) (by simp)]
  rw [show wrap64 (3 + 1) = 4 from w64 (by omega) (by omega), show rd [a, b, c, d] 3 = d from rfl]
  simp only [num_small.l0]
  cases sm a <;> cases sm b <;> cases sm c <;> cases sm d <;> simp

/-- The absolute value. -/
def ab (a : Int) : Int := if a < 0 then -a else a
theorem ab_sm {a : Int} (h1 : -1125899906842624 ≤ a) (h2 : a ≤ 1125899906842624) : 0 ≤ ab a ∧ ab a ≤ 1125899906842624 := by
  unfold ab; split <;> omega
theorem abs_some {a : Int} (h1 : -1125899906842624 ≤ a) (h2 : a ≤ 1125899906842624) : num_abs.f a = some (ab a) := by
  unfold num_abs.f mx ab
  rw [w64 (by omega) (by omega)]
  congr 1
  split <;> split <;> omega

theorem order_some (a b : Int) : num_order.f a b = some (cmp3 a b) := by
  unfold num_order.f cmp3
  split
  · rfl
  · split <;> rfl

/-- The product of two small numbers in two parts, as the program writes it. -/
theorem parts {x y : Int} (hx0 : 0 ≤ x) (hx : x ≤ 1125899906842624) (hy0 : 0 ≤ y) (hy : y ≤ 1125899906842624) :
    ∃ hi lo : Int, wrap64 ((wrap64 ((wrap64 ((wrap64 (Int.tdiv x 33554432)) * (wrap64 (Int.tdiv y 33554432)))) + (wrap64 (Int.tdiv (wrap64 ((wrap64 ((wrap64 (Int.tdiv x 33554432)) * (Int.tmod y 33554432))) + (wrap64 ((Int.tmod x 33554432) * (wrap64 (Int.tdiv y 33554432)))))) 33554432)))) + (wrap64 (Int.tdiv (wrap64 ((wrap64 ((Int.tmod x 33554432) * (Int.tmod y 33554432))) + (wrap64 ((Int.tmod (wrap64 ((wrap64 ((wrap64 (Int.tdiv x 33554432)) * (Int.tmod y 33554432))) + (wrap64 ((Int.tmod x 33554432) * (wrap64 (Int.tdiv y 33554432)))))) 33554432) * 33554432)))) 1125899906842624))) = hi ∧
      Int.tmod (wrap64 ((wrap64 ((Int.tmod x 33554432) * (Int.tmod y 33554432))) + (wrap64 ((Int.tmod (wrap64 ((wrap64 ((wrap64 (Int.tdiv x 33554432)) * (Int.tmod y 33554432))) + (wrap64 ((Int.tmod x 33554432) * (wrap64 (Int.tdiv y 33554432)))))) 33554432) * 33554432)))) 1125899906842624 = lo ∧
      0 ≤ lo ∧ lo < 1125899906842624 ∧ 0 ≤ hi ∧ x * y = hi * 1125899906842624 + lo := by
  have e1 : Int.tdiv x 33554432 = x / 33554432 := Int.tdiv_eq_ediv_of_nonneg hx0
  have e2 : Int.tdiv y 33554432 = y / 33554432 := Int.tdiv_eq_ediv_of_nonneg hy0
  have e3 : Int.tmod x 33554432 = x % 33554432 := Int.tmod_eq_emod_of_nonneg hx0
  have e4 : Int.tmod y 33554432 = y % 33554432 := Int.tmod_eq_emod_of_nonneg hy0
  rw [e1, e2, e3, e4]
  have hxe : x = (x / 33554432) * 33554432 + x % 33554432 := by omega
  have hye : y = (y / 33554432) * 33554432 + y % 33554432 := by omega
  have a1 : 0 ≤ x / 33554432 := by omega
  have a2 : x / 33554432 ≤ 33554432 := by omega
  have a3 : 0 ≤ x % 33554432 := by omega
  have a4 : x % 33554432 ≤ 33554431 := by omega
  have b1 : 0 ≤ y / 33554432 := by omega
  have b2 : y / 33554432 ≤ 33554432 := by omega
  have b3 : 0 ≤ y % 33554432 := by omega
  have b4 : y % 33554432 ≤ 33554431 := by omega
  generalize x / 33554432 = xh at *
  generalize x % 33554432 = xl at *
  generalize y / 33554432 = yh at *
  generalize y % 33554432 = yl at *
  rw [w64 (n := xh) (by omega) (by omega), w64 (n := yh) (by omega) (by omega)]
  have m1 := mul_range (a := xh) (b := yh) (A := 33554432) (B := 33554432) (by omega) a2 b1 b2
  have m2 := mul_range (a := xh) (b := yl) (A := 33554432) (B := 33554431) (by omega) a2 b3 b4
  have m3 := mul_range (a := xl) (b := yh) (A := 33554431) (B := 33554432) (by omega) a4 b1 b2
  have m4 := mul_range (a := xl) (b := yl) (A := 33554431) (B := 33554431) (by omega) a4 b3 b4
  have n1 := Int.mul_nonneg a1 b1
  have n2 := Int.mul_nonneg a1 b3
  have n3 := Int.mul_nonneg a3 b1
  have n4 := Int.mul_nonneg a3 b3
  have hp : x * y = (xh * yh) * 1125899906842624 + (xh * yl + xl * yh) * 33554432 + xl * yl := by
    rw [hxe, hye]; grind
  rw [hp]
  clear hp hxe hye
  generalize xh * yh = p1 at *
  generalize xh * yl = p2 at *
  generalize xl * yh = p3 at *
  generalize xl * yl = p4 at *
  rw [w64 (n := p1) (by omega) (by omega), w64 (n := p2) (by omega) (by omega), w64 (n := p3) (by omega) (by omega), w64 (n := p4) (by omega) (by omega)]
  rw [w64 (n := p2 + p3) (by omega) (by omega)]
  have e5 : Int.tdiv (p2 + p3) 33554432 = (p2 + p3) / 33554432 := Int.tdiv_eq_ediv_of_nonneg (by omega)
  have e6 : Int.tmod (p2 + p3) 33554432 = (p2 + p3) % 33554432 := Int.tmod_eq_emod_of_nonneg (by omega)
  rw [e5, e6]
  rw [w64 (n := (p2 + p3) / 33554432) (by omega) (by omega)]
  rw [w64 (n := (p2 + p3) % 33554432 * 33554432) (by omega) (by omega)]
  rw [w64 (n := p4 + (p2 + p3) % 33554432 * 33554432) (by omega) (by omega)]
  have e7 : Int.tdiv (p4 + (p2 + p3) % 33554432 * 33554432) 1125899906842624 = (p4 + (p2 + p3) % 33554432 * 33554432) / 1125899906842624 := Int.tdiv_eq_ediv_of_nonneg (by omega)
  have e8 : Int.tmod (p4 + (p2 + p3) % 33554432 * 33554432) 1125899906842624 = (p4 + (p2 + p3) % 33554432 * 33554432) % 1125899906842624 := Int.tmod_eq_emod_of_nonneg (by omega)
  rw [e7, e8]
  rw [w64 (n := p1 + (p2 + p3) / 33554432) (by omega) (by omega)]
  rw [w64 (n := (p4 + (p2 + p3) % 33554432 * 33554432) / 1125899906842624) (by omega) (by omega)]
  rw [w64 (by omega) (by omega)]
  exact ⟨_, _, rfl, rfl, by omega, by omega, by omega, by omega⟩

theorem times_some (k : Nat) {a b : Int} (ha1 : -1125899906842624 ≤ a) (ha2 : a ≤ 1125899906842624) (hb1 : -1125899906842624 ≤ b) (hb2 : b ≤ 1125899906842624) :
    ∃ s hi lo : Int, num_times.f (k + 1) a b = some (s, hi, lo) ∧ 0 ≤ lo ∧ lo < 1125899906842624 ∧ 0 ≤ hi ∧
      ((s = 0 ∧ a * b = 0 ∧ hi = 0 ∧ lo = 0) ∨ (s = 1 ∧ 0 < a * b ∧ a * b = hi * 1125899906842624 + lo) ∨ (s = -1 ∧ a * b < 0 ∧ -(a * b) = hi * 1125899906842624 + lo)) := by
  unfold num_times.f
  rw [abs_some ha1 ha2, abs_some hb1 hb2]
  simp only [Option.bind_some]
  obtain ⟨x0, x1⟩ := ab_sm ha1 ha2
  obtain ⟨y0, y1⟩ := ab_sm hb1 hb2
  by_cases ca : a = 0
  · refine ⟨0, 0, 0, ?_, by omega, by omega, by omega, Or.inl ⟨rfl, by simp [ca], rfl, rfl⟩⟩
    rw [if_pos (by unfold ab; split <;> omega)]
    simp [num_times.j0]
  · rw [if_neg (by unfold ab; split <;> omega)]
    by_cases cb : b = 0
    · refine ⟨0, 0, 0, ?_, by omega, by omega, by omega, Or.inl ⟨rfl, by simp [cb], rfl, rfl⟩⟩
      have : ab b = 0 := by unfold ab; split <;> omega
      simp [num_times.j0, this]
    · have hb : (ab b == 0) = false := by
        rw [beq_eq_false_iff_ne]; unfold ab; split <;> omega
      rw [hb]
      simp only [num_times.j0]
      rw [if_neg (by simp)]
      obtain ⟨hi, lo, e1, e2, l0, l1, h0, hm⟩ := parts x0 x1 y0 y1
      rw [e1, e2]
      by_cases s1 : a < 0 <;> by_cases s2 : b < 0
      · have : ab a * ab b = a * b := by unfold ab; rw [if_pos s1, if_pos s2]; grind
        have pos : 0 < a * b := Int.mul_pos_of_neg_of_neg s1 s2
        refine ⟨1, hi, lo, ?_, l0, l1, h0, Or.inr (Or.inl ⟨rfl, pos, by omega⟩)⟩
        rw [if_neg (by simp [s1, s2])]
      · have : ab a * ab b = -(a * b) := by unfold ab; rw [if_pos s1, if_neg s2]; grind
        have pos : a * b < 0 := Int.mul_neg_of_neg_of_pos s1 (by omega)
        refine ⟨-1, hi, lo, ?_, l0, l1, h0, Or.inr (Or.inr ⟨rfl, pos, by omega⟩)⟩
        rw [if_pos (by simp [s1]; omega)]
      · have : ab a * ab b = -(a * b) := by unfold ab; rw [if_neg s1, if_pos s2]; grind
        have pos : a * b < 0 := Int.mul_neg_of_pos_of_neg (by omega) s2
        refine ⟨-1, hi, lo, ?_, l0, l1, h0, Or.inr (Or.inr ⟨rfl, pos, by omega⟩)⟩
        rw [if_pos (by simp [s2]; omega)]
      · have : ab a * ab b = a * b := by unfold ab; rw [if_neg s1, if_neg s2]
        have pos : 0 < a * b := Int.mul_pos (by omega) (by omega)
        refine ⟨1, hi, lo, ?_, l0, l1, h0, Or.inr (Or.inl ⟨rfl, pos, by omega⟩)⟩
        rw [if_neg (by simp [s1, s2])]

theorem compare_some (k : Nat) {a b c d : Int} (h : (sm a && sm b && sm c && sm d) = true) : num_Compare.f (k + 5) a b c d = some (cmp3 (a * b) (c * d), 0) := by
  unfold num_Compare.f
  rw [small4, h]
  simp only [Option.bind_some, if_true]
  simp only [Bool.and_eq_true, sm_iff] at h
  obtain ⟨⟨⟨⟨a1, a2⟩, b1, b2⟩, c1, c2⟩, d1, d2⟩ := h
  obtain ⟨s, hi, lo, e1, l0, l1, h0, hs⟩ := times_some (k + 4) a1 a2 b1 b2
  obtain ⟨s', hi', lo', e2, l0', l1', h0', hs'⟩ := times_some (k + 4) c1 c2 d1 d2
  rw [e1, e2]
  simp only [Option.bind_some, order_some]
  generalize a * b = p at *
  generalize c * d = q at *
  rcases hs with ⟨rfl, hp, rfl, rfl⟩ | ⟨rfl, hp, ep⟩ | ⟨rfl, hp, ep⟩ <;> rcases hs' with ⟨rfl, hq, rfl, rfl⟩ | ⟨rfl, hq, eq⟩ | ⟨rfl, hq, eq⟩
  · simp [hp, hq, cmp3, w64]
  · rw [if_neg (by omega), cmp3_lt (by omega), cmp3_lt (by omega)]
  · rw [if_neg (by omega), cmp3_gt (by omega), cmp3_gt (by omega)]
  · rw [if_neg (by omega), cmp3_gt (by omega), cmp3_gt (by omega)]
  · rw [if_pos rfl]
    rcases Int.lt_trichotomy hi hi' with g | g | g
    · rw [if_neg (by omega), cmp3_lt g, cmp3_lt (by omega)]; simp [w64]
    · subst g
      rw [if_pos rfl]
      rcases Int.lt_trichotomy lo lo' with g | g | g
      · rw [cmp3_lt g, cmp3_lt (by omega)]; simp [w64]
      · subst g; rw [cmp3_eq rfl, cmp3_eq (by omega)]; simp [w64]
      · rw [cmp3_gt g, cmp3_gt (by omega)]; simp [w64]
    · rw [if_neg (by omega), cmp3_gt g, cmp3_gt (by omega)]; simp [w64]
  · rw [if_neg (by omega), cmp3_gt (by omega), cmp3_gt (by omega)]
  · rw [if_neg (by omega), cmp3_lt (by omega), cmp3_lt (by omega)]
  · rw [if_neg (by omega), cmp3_lt (by omega), cmp3_lt (by omega)]
  · rw [if_pos rfl]
    rcases Int.lt_trichotomy hi hi' with g | g | g
    · rw [if_neg (by omega), cmp3_lt g, cmp3_gt (by omega)]; simp [w64]
    · subst g
      rw [if_pos rfl]
      rcases Int.lt_trichotomy lo lo' with g | g | g
      · rw [cmp3_lt g, cmp3_gt (by omega)]; simp [w64]
      · subst g; rw [cmp3_eq rfl, cmp3_eq (by omega)]; simp [w64]
      · rw [cmp3_gt g, cmp3_lt (by omega)]; simp [w64]
    · rw [if_neg (by omega), cmp3_gt g, cmp3_lt (by omega)]; simp [w64]
theorem compare_bad (k : Nat) {a b c d : Int} (h : (sm a && sm b && sm c && sm d) = false) : num_Compare.f (k + 5) a b c d = some (0, 1) := by
  unfold num_Compare.f
  rw [small4, h]
  simp
end Go.Proofs.Ytmilejcbkpkplaa.PAll
/- The program's nearest: the sign of the least distance less the radius. -/
namespace Go.Proofs.Ytmilejcbkpkplaa.PAll
set_option linter.unusedVariables false
open Go Go.RowKit Go.Proofs.YtmilejcbkpkplaaW.PrintWords Go.Proofs.YtmilejcbkpkplaaW.PrintLast Go.Proofs.YtmilejcbkpkplaaW.PrintMore Go.Proofs.Ytmilejcbkpkplaa.MathNum Go.Proofs.Ytmilejcbkpkplaa.EvWords Go.Proofs.Ytmilejcbkpkplaa.MathGeom

theorem compare_ev {a b c d : Int} (h1 : sm a = true) (h2 : sm b = true) (h3 : sm c = true) (h4 : sm d = true) : Ev (fun k => num_Compare.f k a b c d) (cmp3 (a * b) (c * d), 0) :=
  Ev.of (num_Compare.mono a b c d) (k := 0 + 5) (compare_some 0 (by simp [h1, h2, h3, h4]))
/-- A number below 2^40. -/
theorem sm_of {a : Int} (h1 : -1099511627776 ≤ a) (h2 : a ≤ 1099511627776) : sm a = true := sm_iff.2 ⟨by omega, by omega⟩

theorem dot_dt {a b c d : Int} (ha : -131072 ≤ a ∧ a ≤ 131072) (hb : -131072 ≤ b ∧ b ≤ 131072) (hc : -131072 ≤ c ∧ c ≤ 131072) (hd : -131072 ≤ d ∧ d ≤ 131072) : geom_dot.f a b c d = some (dt a b c d) ∧ -34359738368 ≤ dt a b c d ∧ dt a b c d ≤ 34359738368 := by
  refine ⟨dot_ok ha hb hc hd, ?_⟩
  unfold dt
  have h1 := mul_bound ha hc
  have h2 := mul_bound hb hd
  omega
theorem cross_cr {a b c d : Int} (ha : -131072 ≤ a ∧ a ≤ 131072) (hb : -131072 ≤ b ∧ b ≤ 131072) (hc : -131072 ≤ c ∧ c ≤ 131072) (hd : -131072 ≤ d ∧ d ≤ 131072) : geom_cross.f a b c d = some (cr a b c d) ∧ -34359738368 ≤ cr a b c d ∧ cr a b c d ≤ 34359738368 := by
  refine ⟨cross_ok ha hb hc hd, ?_⟩
  unfold cr
  have h1 := mul_bound ha hd
  have h2 := mul_bound hb hc
  omega

theorem nearest_ev {dx dy vx vy r2 : Int} (h1 : -131072 ≤ dx ∧ dx ≤ 131072) (h2 : -131072 ≤ dy ∧ dy ≤ 131072) (h3 : -131072 ≤ vx ∧ vx ≤ 131072) (h4 : -131072 ≤ vy ∧ vy ≤ 131072) (h5 : -131072 ≤ dx + vx ∧ dx + vx ≤ 131072) (h6 : -131072 ≤ dy + vy ∧ dy + vy ≤ 131072) (h7 : 0 ≤ r2 ∧ r2 ≤ 1099511627776) :
    Ev (fun k => geom_nearest.f k dx dy vx vy r2) (nst dx dy vx vy r2) := by
  obtain ⟨e1, l1, u1⟩ := dot_dt h1 h2 h3 h4
  obtain ⟨e2, l2, u2⟩ := dot_dt h3 h4 h3 h4
  obtain ⟨e3, l3, u3⟩ := dot_dt h1 h2 h1 h2
  obtain ⟨e4, l4, u4⟩ := dot_dt h5 h6 h5 h6
  obtain ⟨e5, l5, u5⟩ := cross_cr h1 h2 h3 h4
  simp only [geom_nearest.f, e1, e2, e3, e5, Option.bind_some]
  rw [w64 (n := dx + vx) (by omega) (by omega), w64 (n := dy + vy) (by omega) (by omega), w64 (n := -dt dx dy vx vy) (by omega) (by omega), e4]
  simp only [Option.bind_some]
  unfold nst
  have s1 : sm 1 = true := by decide
  have sr : sm r2 = true := sm_of (by omega) (by omega)
  by_cases c1 : -dt dx dy vx vy ≤ 0
  · rw [if_pos c1]
    refine ev_pos c1 ?_
    have := compare_ev (sm_of (a := dt dx dy dx dy) (by omega) (by omega)) s1 sr s1
    rw [Int.mul_one, Int.mul_one] at this
    exact this.bind (ev_now _)
  · rw [if_neg c1]
    refine ev_neg c1 ?_
    by_cases c2 : -dt dx dy vx vy ≥ dt vx vy vx vy
    · rw [if_pos c2]
      refine ev_pos c2 ?_
      have := compare_ev (sm_of (a := dt (dx + vx) (dy + vy) (dx + vx) (dy + vy)) (by omega) (by omega)) s1 sr s1
      rw [Int.mul_one, Int.mul_one] at this
      exact this.bind (ev_now _)
    · rw [if_neg c2]
      refine ev_neg c2 ?_
      have sc := sm_of (a := cr dx dy vx vy) (by omega) (by omega)
      exact (compare_ev sc sc sr (sm_of (a := dt vx vy vx vy) (by omega) (by omega))).bind (ev_now _)

theorem dt_swap (a b c d : Int) : dt (a - c) (b - d) (a - c) (b - d) = dt (c - a) (d - b) (c - a) (d - b) := by unfold dt; grind
end Go.Proofs.Ytmilejcbkpkplaa.PAll
/- Near of the program. -/
namespace Go.Proofs.Ytmilejcbkpkplaa.PAll
set_option linter.unusedVariables false
open Go Go.RowKit Go.Proofs.YtmilejcbkpkplaaW.PrintWords Go.Proofs.YtmilejcbkpkplaaW.PrintLast Go.Proofs.YtmilejcbkpkplaaW.PrintMore Go.Proofs.Ytmilejcbkpkplaa.MathNum Go.Proofs.Ytmilejcbkpkplaa.EvWords Go.Proofs.Ytmilejcbkpkplaa.MathGeom

/-- Whether a disc of the radius r at p reaches the segment from a to b. -/
def nearV (p0 p1 a0 a1 b0 b1 r : Int) : Bool × Int :=
  if (cOk p0 ∧ cOk p1) ∧ (cOk a0 ∧ cOk a1) ∧ (cOk b0 ∧ cOk b1) ∧ rOk r then (decide (nst (a0 - p0) (a1 - p1) (b0 - a0) (b1 - a1) (r * r) ≤ 0), 0) else (false, 1)
theorem near_ev (p0 p1 a0 a1 b0 b1 r : Int) : Ev (fun k => geom_Near.f k p0 p1 a0 a1 b0 b1 r) (nearV p0 p1 a0 a1 b0 b1 r) := by
  have v := valid_ev (ps := [(⟨p0, p1⟩ : S23), (⟨a0, a1⟩ : S23), (⟨b0, b1⟩ : S23)]) (rs := [r]) (by simp) (by simp)
  simp only [geom_Near.f]
  unfold nearV
  by_cases h : (cOk p0 ∧ cOk p1) ∧ (cOk a0 ∧ cOk a1) ∧ (cOk b0 ∧ cOk b1) ∧ rOk r
  · rw [if_pos h]
    refine Ev.bind v (ev_pos (by simpa [pOk, and_assoc] using h) ?_)
    obtain ⟨⟨p, p'⟩, ⟨a, a'⟩, ⟨b, b'⟩, hr⟩ := h
    rw [minus_ok a a' p p', minus_ok b b' a a']
    unfold cOk rOk at *
    simp only [Option.bind_some]
    have rr := mul_bound (a := r) (b := r) (m := 32768) (n := 32768) (by omega) (by omega)
    have r0 := Int.mul_nonneg hr.1 hr.1
    rw [w64 (n := r * r) (by omega) (by omega)]
    exact (nearest_ev (by omega) (by omega) (by omega) (by omega) (by omega) (by omega) (by omega)).bind (ev_now _)
  · rw [if_neg h]
    exact Ev.bind v (ev_neg (by simpa [pOk, and_assoc] using h) (ev_now _))

theorem nearV_rev (p0 p1 a0 a1 b0 b1 r : Int) : nearV p0 p1 b0 b1 a0 a1 r = nearV p0 p1 a0 a1 b0 b1 r := by
  unfold nearV
  have := nst_rev (a0 - p0) (a1 - p1) (b0 - a0) (b1 - a1) (r * r)
  rw [show a0 - p0 + (b0 - a0) = b0 - p0 by omega, show a1 - p1 + (b1 - a1) = b1 - p1 by omega, show -(b0 - a0) = a0 - b0 by omega, show -(b1 - a1) = a1 - b1 by omega] at this
  rw [this]
  by_cases h : (cOk p0 ∧ cOk p1) ∧ (cOk a0 ∧ cOk a1) ∧ (cOk b0 ∧ cOk b1) ∧ rOk r
  · rw [if_pos h, if_pos ⟨h.1, h.2.2.1, h.2.1, h.2.2.2⟩]
  · rw [if_neg h, if_neg fun x => h ⟨x.1, x.2.2.1, x.2.1, x.2.2.2⟩]

end Go.Proofs.Ytmilejcbkpkplaa.PAll
/- Touch of the program. -/
namespace Go.Proofs.Ytmilejcbkpkplaa.PAll
set_option linter.unusedVariables false
open Go Go.RowKit Go.Proofs.YtmilejcbkpkplaaW.PrintWords Go.Proofs.YtmilejcbkpkplaaW.PrintLast Go.Proofs.YtmilejcbkpkplaaW.PrintMore Go.Proofs.Ytmilejcbkpkplaa.MathNum Go.Proofs.Ytmilejcbkpkplaa.EvWords Go.Proofs.Ytmilejcbkpkplaa.MathGeom

/-- Whether a moving disc can be: its ends and its radius. -/
def mOk (a0 a1 b0 b1 r : Int) : Prop := (cOk a0 ∧ cOk a1) ∧ (cOk b0 ∧ cOk b1) ∧ rOk r
instance (a0 a1 b0 b1 r : Int) : Decidable (mOk a0 a1 b0 b1 r) := by unfold mOk; exact inferInstance
def touchV (a0 a1 a2 a3 a4 b0 b1 b2 b3 b4 : Int) : Bool × Int :=
  if mOk a0 a1 a2 a3 a4 ∧ mOk b0 b1 b2 b3 b4 then (decide (nst (a0 - b0) (a1 - b1) ((a2 - a0) - (b2 - b0)) ((a3 - a1) - (b3 - b1)) ((a4 + b4) * (a4 + b4)) < 0), 0) else (false, 1)
theorem touch_ev (a0 a1 a2 a3 a4 b0 b1 b2 b3 b4 : Int) : Ev (fun k => geom_Touch.f k a0 a1 a2 a3 a4 b0 b1 b2 b3 b4) (touchV a0 a1 a2 a3 a4 b0 b1 b2 b3 b4) := by
  have v := valid_ev (ps := [(⟨a0, a1⟩ : S23), (⟨a2, a3⟩ : S23), (⟨b0, b1⟩ : S23), (⟨b2, b3⟩ : S23)]) (rs := [a4, b4]) (by simp) (by simp)
  simp only [geom_Touch.f]
  unfold touchV mOk
  by_cases h : ((cOk a0 ∧ cOk a1) ∧ (cOk a2 ∧ cOk a3) ∧ rOk a4) ∧ ((cOk b0 ∧ cOk b1) ∧ (cOk b2 ∧ cOk b3) ∧ rOk b4)
  · rw [if_pos h]
    obtain ⟨⟨⟨p, p'⟩, ⟨a, a'⟩, hr⟩, ⟨⟨q, q'⟩, ⟨b, b'⟩, hs⟩⟩ := h
    refine Ev.bind v (ev_pos (by simp [pOk, p, p', a, a', hr, q, q', b, b', hs]) ?_)
    rw [minus_ok p p' q q', minus_ok a a' p p', minus_ok b b' q q']
    unfold cOk rOk at *
    simp only [Option.bind_some]
    have em : geom_minus.f (a2 - a0) (a3 - a1) (b2 - b0) (b3 - b1) = some ((a2 - a0) - (b2 - b0), (a3 - a1) - (b3 - b1)) := by
      unfold geom_minus.f
      rw [w64 (by omega) (by omega), w64 (by omega) (by omega)]
    rw [em]
    simp only [Option.bind_some]
    have rr := mul_bound (a := a4 + b4) (b := a4 + b4) (m := 65536) (n := 65536) (by omega) (by omega)
    have r0 := Int.mul_nonneg (a := a4 + b4) (b := a4 + b4) (by omega) (by omega)
    rw [w64 (n := a4 + b4) (by omega) (by omega), w64 (n := (a4 + b4) * (a4 + b4)) (by omega) (by omega)]
    exact (nearest_ev (by omega) (by omega) (by omega) (by omega) (by omega) (by omega) (by omega)).bind (ev_now _)
  · rw [if_neg h]
    refine Ev.bind v (ev_neg (fun x => h ?_) (ev_now _))
    simp [pOk] at x
    exact ⟨⟨x.1.1, x.1.2.1, x.2.1⟩, ⟨x.1.2.2.1, x.1.2.2.2, x.2.2⟩⟩
theorem touchV_swap (a0 a1 a2 a3 a4 b0 b1 b2 b3 b4 : Int) : touchV b0 b1 b2 b3 b4 a0 a1 a2 a3 a4 = touchV a0 a1 a2 a3 a4 b0 b1 b2 b3 b4 := by
  unfold touchV
  have := nst_neg (a0 - b0) (a1 - b1) ((a2 - a0) - (b2 - b0)) ((a3 - a1) - (b3 - b1)) ((a4 + b4) * (a4 + b4))
  rw [show -(a0 - b0) = b0 - a0 by omega, show -(a1 - b1) = b1 - a1 by omega, show -((a2 - a0) - (b2 - b0)) = (b2 - b0) - (a2 - a0) by omega, show -((a3 - a1) - (b3 - b1)) = (b3 - b1) - (a3 - a1) by omega] at this
  rw [show (b4 + a4) = a4 + b4 by omega, this]
  by_cases h : mOk a0 a1 a2 a3 a4 ∧ mOk b0 b1 b2 b3 b4
  · rw [if_pos h, if_pos h.symm]
  · rw [if_neg h, if_neg fun x => h x.symm]
theorem touchV_rev (a0 a1 a2 a3 a4 b0 b1 b2 b3 b4 : Int) : touchV a2 a3 a0 a1 a4 b2 b3 b0 b1 b4 = touchV a0 a1 a2 a3 a4 b0 b1 b2 b3 b4 := by
  unfold touchV
  have := nst_rev (a0 - b0) (a1 - b1) ((a2 - a0) - (b2 - b0)) ((a3 - a1) - (b3 - b1)) ((a4 + b4) * (a4 + b4))
  rw [show a0 - b0 + ((a2 - a0) - (b2 - b0)) = a2 - b2 by omega, show a1 - b1 + ((a3 - a1) - (b3 - b1)) = a3 - b3 by omega, show -((a2 - a0) - (b2 - b0)) = (a0 - a2) - (b0 - b2) by omega, show -((a3 - a1) - (b3 - b1)) = (a1 - a3) - (b1 - b3) by omega] at this
  rw [this]
  have sy : ∀ x0 x1 x2 x3 x4 : Int, mOk x2 x3 x0 x1 x4 ↔ mOk x0 x1 x2 x3 x4 := by
    intro x0 x1 x2 x3 x4; unfold mOk; exact ⟨fun h => ⟨h.2.1, h.1, h.2.2⟩, fun h => ⟨h.2.1, h.1, h.2.2⟩⟩
  simp only [sy]
end Go.Proofs.Ytmilejcbkpkplaa.PAll
/- GeomShifts: plain law. -/
namespace Go.Proofs.Ytmilejcbkpkplaa.PAll
set_option linter.unusedVariables false
open Go Go.RowKit Go.Proofs.YtmilejcbkpkplaaW.PrintWords Go.Proofs.YtmilejcbkpkplaaW.PrintLast Go.Proofs.YtmilejcbkpkplaaW.PrintMore Go.Proofs.Ytmilejcbkpkplaa.MathNum Go.Proofs.Ytmilejcbkpkplaa.EvWords Go.Proofs.Ytmilejcbkpkplaa.MathGeom

theorem dist2_ok {a b c d : Int} (h1 : cOk a) (h2 : cOk b) (h3 : cOk c) (h4 : cOk d) : Ev (fun k => geom_Dist2.f k a b c d) (dt (a - c) (b - d) (a - c) (b - d), 0) := by
  have v := valid_ev (ps := [(⟨a, b⟩ : S23), (⟨c, d⟩ : S23)]) (rs := []) (by simp) (by simp)
  simp only [geom_Dist2.f]
  refine Ev.bind v (ev_pos (by simp [pOk, h1, h2, h3, h4]) ?_)
  rw [minus_ok h1 h2 h3 h4]
  unfold cOk at *
  simp only [Option.bind_some]
  rw [(dot_dt (by omega) (by omega) (by omega) (by omega)).1]
  exact ev_now _
theorem cross_ok3 {a b c d e f : Int} (h1 : cOk a) (h2 : cOk b) (h3 : cOk c) (h4 : cOk d) (h5 : cOk e) (h6 : cOk f) : Ev (fun k => geom_Cross.f k a b c d e f) (cr (c - a) (d - b) (e - a) (f - b), 0) := by
  have v := valid_ev (ps := [(⟨a, b⟩ : S23), (⟨c, d⟩ : S23), (⟨e, f⟩ : S23)]) (rs := []) (by simp) (by simp)
  simp only [geom_Cross.f]
  refine Ev.bind v (ev_pos (by simp [pOk, h1, h2, h3, h4, h5, h6]) ?_)
  rw [minus_ok h3 h4 h1 h2, minus_ok h5 h6 h1 h2]
  unfold cOk at *
  simp only [Option.bind_some]
  rw [(cross_cr (by omega) (by omega) (by omega) (by omega)).1]
  exact ev_now _

def sOk (x : Int) : Prop := -16384 ≤ x ∧ x ≤ 16384
instance (x : Int) : Decidable (sOk x) := by unfold sOk; exact inferInstance
theorem small_some (x y : Int) : dancestudiolaw03_small.f x y = some (decide (sOk x ∧ sOk y)) := by
  unfold dancestudiolaw03_small.f sOk
  by_cases h1 : x ≥ -16384
  · by_cases h2 : x ≤ 16384
    · by_cases h3 : y ≥ -16384
      · rw [if_pos h1, if_pos h2, if_pos h3]; exact congrArg some (decide_eq_decide.2 (by omega))
      · rw [if_pos h1, if_pos h2, if_neg h3]; exact congrArg some (decide_eq_false (by omega)).symm
    · rw [if_pos h1, if_neg h2]; exact congrArg some (decide_eq_false (by omega)).symm
  · rw [if_neg h1]; exact congrArg some (decide_eq_false (by omega)).symm

theorem shifts_out (a b c d e f g h i s t : Int) : Ev (fun k => dancestudiolaw03_GeomShifts.j0 k true a b c d e f g h i s t) true :=
  ev_step (fun k => by simp only [dancestudiolaw03_GeomShifts.j0] <;> exact rfl) (ev_pos (show true = true from rfl) (Ev.bind awake_ev (ev_now _)))
theorem shift_ok {x s : Int} (h : sOk x) (h' : sOk s) : cOk x ∧ cOk (x + s) ∧ wrap64 (x + s) = x + s := by
  unfold sOk cOk at *
  exact ⟨by omega, by omega, w64 (by omega) (by omega)⟩
theorem shift_sub (x y s : Int) : x + s - (y + s) = x - y := by omega

theorem pure_GeomShifts (a : Int) (_ : (Lit.int .i64 a).wf = true) (b : Int) (_ : (Lit.int .i64 b).wf = true) (c : Int) (_ : (Lit.int .i64 c).wf = true) (d : Int) (_ : (Lit.int .i64 d).wf = true) (e : Int) (_ : (Lit.int .i64 e).wf = true) (f : Int) (_ : (Lit.int .i64 f).wf = true) (g : Int) (_ : (Lit.int .i64 g).wf = true) (h : Int) (_ : (Lit.int .i64 h).wf = true) (i : Int) (_ : (Lit.int .i64 i).wf = true) (s : Int) (_ : (Lit.int .i64 s).wf = true) (t : Int) (_ : (Lit.int .i64 t).wf = true) :
    ∃ k, dancestudiolaw03_GeomShifts.f k a b c d e f g h i s t = some true := by
  refine ev_some ?_
  simp only [dancestudiolaw03_GeomShifts.f, small_some, Option.bind_some]
  by_cases h1 : sOk a ∧ sOk b
  · refine ev_pos (by simpa using h1) ?_
    by_cases h2 : sOk c ∧ sOk d
    · refine ev_pos (by simpa using h2) ?_
      by_cases h3 : sOk e ∧ sOk f
      · refine ev_pos (by simpa using h3) ?_
        by_cases h4 : sOk h ∧ sOk i
        · refine ev_pos (by simpa using h4) ?_
          by_cases h5 : sOk s ∧ sOk t
          · rw [decide_eq_true h5]
            obtain ⟨a1, a2, a3⟩ := shift_ok h1.1 h5.1
            obtain ⟨b1, b2, b3⟩ := shift_ok h1.2 h5.2
            obtain ⟨c1, c2, c3⟩ := shift_ok h2.1 h5.1
            obtain ⟨d1, d2, d3⟩ := shift_ok h2.2 h5.2
            obtain ⟨e1, e2, e3⟩ := shift_ok h3.1 h5.1
            obtain ⟨f1, f2, f3⟩ := shift_ok h3.2 h5.2
            obtain ⟨x1, x2, x3⟩ := shift_ok h4.1 h5.1
            obtain ⟨y1, y2, y3⟩ := shift_ok h4.2 h5.2
            refine ev_step (fun k => by simp only [dancestudiolaw03_GeomShifts.j0, dancestudiolaw03_shifted.f, Option.bind_some] <;> exact rfl) (ev_neg (by simp) ?_)
            rw [a3, b3, c3, d3, e3, f3, x3, y3]
            have eN : nearV (a + s) (b + t) (c + s) (d + t) (e + s) (f + t) g = nearV a b c d e f g := by
              unfold nearV
              simp only [shift_sub, a1, a2, b1, b2, c1, c2, d1, d2, e1, e2, f1, f2, true_and, and_true]
            have eT : touchV (a + s) (b + t) (c + s) (d + t) g (e + s) (f + t) (h + s) (i + t) g = touchV a b c d g e f h i g := by
              unfold touchV mOk
              simp only [shift_sub, a1, a2, b1, b2, c1, c2, d1, d2, e1, e2, f1, f2, x1, x2, y1, y2, true_and, and_true]
            have n1 := near_ev a b c d e f g
            have n2 := near_ev (a + s) (b + t) (c + s) (d + t) (e + s) (f + t) g
            have t1 := touch_ev a b c d g e f h i g
            have t2 := touch_ev (a + s) (b + t) (c + s) (d + t) g (e + s) (f + t) (h + s) (i + t) g
            rw [eN] at n2
            rw [eT] at t2
            refine Ev.bind n1 (Ev.bind n2 (Ev.bind t1 (Ev.bind t2 (ev_neg (by simp) (ev_pos rfl (ev_neg (by simp) ?_))))))
            rw [bne_self_eq_false]
            refine ev_step (fun k => by simp only [dancestudiolaw03_GeomShifts.j1] <;> exact rfl) (ev_neg (by simp) ?_)
            refine Ev.bind (dist2_ok a1 b1 x1 y1) (Ev.bind (dist2_ok x2 y2 a2 b2) (Ev.bind (cross_ok3 a1 b1 c1 d1 x1 y1) (Ev.bind (cross_ok3 a2 b2 x2 y2 c2 d2) ?_)))
            simp only [shift_sub]
            have q1 : dt (a - h) (b - i) (a - h) (b - i) = dt (h - a) (i - b) (h - a) (i - b) := dt_swap _ _ _ _
            have q2 : cr (h - a) (i - b) (c - a) (d - b) = -cr (c - a) (d - b) (h - a) (i - b) := by unfold cr; grind
            have q3 : wrap64 (-cr (h - a) (i - b) (c - a) (d - b)) = cr (c - a) (d - b) (h - a) (i - b) := by
              unfold sOk at *
              have := (cross_cr (a := h - a) (b := i - b) (c := c - a) (d := d - b) (by omega) (by omega) (by omega) (by omega)).2
              rw [w64 (by omega) (by omega), q2]; omega
            exact ev_pos q1 (ev_pos q3.symm (ev_pos trivial (ev_pos trivial (ev_pos trivial (ev_pos trivial (Ev.bind awake_ev (ev_now _)))))))
          · rw [decide_eq_false h5]; exact shifts_out ..
        · exact ev_neg (by simpa using h4) (shifts_out ..)
      · exact ev_neg (by simpa using h3) (shifts_out ..)
    · exact ev_neg (by simpa using h2) (shifts_out ..)
  · exact ev_neg (by simpa using h1) (shifts_out ..)
end Go.Proofs.Ytmilejcbkpkplaa.PAll
/- What the rows of laws over structs and arrays of whole numbers take: the argument's cells are whole numbers. -/
namespace Go.Proofs.Ytmilejcbkpkplaa.AggWords
open Go Go.RowKit Go.ChangeShapes Go.WideShapes

def cellsOfInts : List IntKind → List Int → List Value
  | k :: ks, z :: zs => .int k z :: cellsOfInts ks zs
  | _, _ => []
theorem cell_int {P : Program} {W : World} {base : Nat} {t : TypeId} {k : IntKind} {v : Value} (ht : P.underlying t = some (.int k)) (h : Cell.okWide P W .any base t v) : ∃ z, v = .int k z ∧ (Lit.int k z).wf = true := by
  simp only [ht, Cell.okWide] at h
  cases v <;> simp_all [Cell.ok, Lit.wf, IntKind.has]
theorem row_ints {P : Program} {W : World} {base : Nat} : ∀ (ts : List TypeId) (ks : List IntKind) (cs : List Value), cs.length = ts.length → ts.map P.underlying = ks.map (fun k => some (.int k)) →
    (∀ (i : Nat) v, cs[i]? = some v → ∃ u, ts[i]? = some u ∧ Cell.okWide P W .any base u v) → ∃ zs, zs.length = ks.length ∧ cs = cellsOfInts ks zs ∧ ∀ (i : Nat) k z, ks[i]? = some k → zs[i]? = some z → (Lit.int k z).wf = true := by
  intro ts
  induction ts with
  | nil =>
    intro ks cs hl hk _
    cases ks with
    | nil => exact ⟨[], rfl, List.eq_nil_of_length_eq_zero hl, fun i k z h => by simp at h⟩
    | cons k ks => simp at hk
  | cons t ts ih =>
    intro ks cs hl hk h
    cases ks with
    | nil => simp at hk
    | cons k ks =>
      cases cs with
      | nil => simp at hl
      | cons v cs =>
        simp only [List.map_cons, List.cons.injEq] at hk
        obtain ⟨u, hu, hv⟩ := h 0 v rfl
        simp only [List.getElem?_cons_zero, Option.some.injEq] at hu
        subst hu
        obtain ⟨z, rfl, hw⟩ := cell_int hk.1 hv
        obtain ⟨zs, hz, e, hws⟩ := ih ks cs (by simpa using hl) hk.2 (fun i v hi => h (i + 1) v (by simpa using hi))
        refine ⟨z :: zs, by simp [hz], by rw [e]; rfl, fun i k' z' h1 h2 => ?_⟩
        cases i with
        | zero => simp only [List.getElem?_cons_zero, Option.some.injEq] at h1 h2; subst h1 h2; exact hw
        | succ i => exact hws i k' z' (by simpa using h1) (by simpa using h2)
theorem open_cells {P : Program} {W : World} {base : Nat} {t : TypeId} {v : Value} {ts : List TypeId} {ks : List IntKind} (hu : (∃ fs, P.underlying t = some (.struct fs)) ∨ ∃ e n, P.underlying t = some (.array e n)) (ht : P.cellTypes P.depth t = some ts) (hC : P.cellsOf t = ts.length)
    (hk : ts.map P.underlying = ks.map (fun k => some (.int k))) (h : Value.okWide P W .any base t v) : ∃ zs, zs.length = ks.length ∧ v = .agg (cellsOfInts ks zs).toArray ∧ ∀ (i : Nat) k z, ks[i]? = some k → zs[i]? = some z → (Lit.int k z).wf = true := by
  have h' : ∃ cs, v = .agg cs ∧ cs.size = P.cellsOf t ∧ Row.okWide P W .any base t cs := by
    rcases hu with ⟨fs, hu⟩ | ⟨e, n, hu⟩ <;> (simp only [Value.okWide, hu] at h; exact h)
  obtain ⟨cs, rfl, hsz, ts', ht', _, hc⟩ := h'
  rw [ht] at ht'
  obtain rfl := Option.some.inj ht'
  obtain ⟨zs, hz, e, hw⟩ := row_ints ts ks cs.toList (by rw [Array.length_toList, hsz, hC]) hk (fun i v hi => by
    rw [Array.getElem?_toList] at hi
    obtain ⟨u, h1, h2⟩ := hc i v hi
    have : i < cs.size := by
      apply Classical.byContradiction
      intro hno
      rw [Array.getElem?_eq_none (by omega)] at hi
      cases hi
    rw [Nat.mod_eq_of_lt (by omega)] at h1
    exact ⟨u, h1, h2⟩)
  exact ⟨zs, hz, by rw [← e], hw⟩
theorem list_cons {n : Nat} {zs : List Int} (h : zs.length = n + 1) : ∃ a l, zs = a :: l ∧ l.length = n := by
  cases zs with
  | nil => simp at h
  | cons a l => exact ⟨a, l, rfl, by simpa using h⟩
end Go.Proofs.Ytmilejcbkpkplaa.AggWords
