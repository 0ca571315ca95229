-- Written by wip/tools/handprint.py: walks of the functions that the law reaches; Lean checks them.
import Derived.Test.YtjppjppapdflmaaPAllx0
import Derived.Test.YtjppjppapdflmaaRPg
import Derived.Test.YtjppjppapdflmaaPAllf15
import Derived.Test.YtjppjppapdflmaaPAllf16
import Derived.Test.YtjppjppapdflmaaPAllf18
import Derived.Test.YtjppjppapdflmaaRPm
namespace Go.Proofs.Ytjppjppapdflmaa.PAll
open Go.RowKit Go.Proofs.YtjppjppapdflmaaW.PrintWords Go.Proofs.YtjppjppapdflmaaW.PrintLast Go.Proofs.YtjppjppapdflmaaW.PrintMore
attribute [local go_sem] max2_int min2_int max_two min_two max_three min_three max_four min_four   -- for this text's walks alone
set_option linter.unusedVariables false
set_option linter.unusedSimpArgs false

/-! ### dancestudiolaw50_RehearseLeast: function 6 -/
mutual
def dancestudiolaw50_RehearseLeast.j0 : Nat → List (S48) → Bool → List (S53) → List (S55) → List (S59) → Int → Option (Bool)
 | 0, _, _, _, _, _, _ => none
 | k + 1, x1, x30, x578000, x578001, x578002, x578003 => if x30 = true then ((dancestudiolaw50_awake.f k).bind fun t578 => (some t578)) else ((dancestudiolaw50_of.f).bind fun t579 => ((rehearse_Plan.f k x578000 x578001 x578002 x578003).bind fun bt580 => ((dancestudiolaw50_of.f).bind fun t584 => ((rehearse_Check.f k x578000 x578001 x578002 x578003).bind fun t585 => ((dancestudiolaw50_of.f).bind fun t586 => ((rehearse_End.f k x578000 x578001 x578002 x578003 x1).bind fun bt587 => (if t585 = 0 then (if bt580.2 = 0 then ((dancestudiolaw50_of.f).bind fun t591 => ((rehearse_End.f k x578000 x578001 x578002 x578003 bt580.1).bind fun bt592 => ((dancestudiolaw50_of.f).bind fun t594 => ((rehearse_Least.f k x578000 x578001 x578002 x578003).bind fun bt595 => (if bt592.2 = 0 then (if bt595.2 = 0 then ((dancestudiolaw50_of.f).bind fun t597 => ((rehearse_Valid.f k x578000 x578001 x578002 x578003 bt580.1).bind fun t598 => (if t598 = 0 then (if bt592.1 < bt595.1 then (dancestudiolaw50_RehearseLeast.j1 k x1 bt580.1 bt587.1 bt587.2 bt592.1 true) else (if bt592.1 > x578003 then (dancestudiolaw50_RehearseLeast.j1 k x1 bt580.1 bt587.1 bt587.2 bt592.1 true) else (dancestudiolaw50_RehearseLeast.j1 k x1 bt580.1 bt587.1 bt587.2 bt592.1 ((bt580.1.length : Int) != (x578000.length : Int))))) else (dancestudiolaw50_RehearseLeast.j1 k x1 bt580.1 bt587.1 bt587.2 bt592.1 true)))) else (dancestudiolaw50_RehearseLeast.j1 k x1 bt580.1 bt587.1 bt587.2 bt592.1 true)) else (dancestudiolaw50_RehearseLeast.j1 k x1 bt580.1 bt587.1 bt587.2 bt592.1 true)))))) else (if (bt580.1.length : Int) = 0 then (if bt580.2 = 42 then (if bt587.2 = 0 then (none) else ((dancestudiolaw50_awake.f k).bind fun t590 => (some t590))) else (none)) else (none))) else (if (bt580.1.length : Int) = 0 then (if bt580.2 = t585 then (if bt587.1 = 0 then (if bt587.2 = t585 then ((dancestudiolaw50_awake.f k).bind fun t589 => (some t589)) else (none)) else (none)) else (none)) else (none)))))))))
def dancestudiolaw50_RehearseLeast.j1 : Nat → List (S48) → List (S48) → Int → Int → Int → Bool → Option (Bool)
 | 0, _, _, _, _, _, _ => none
 | k + 1, x1, x5, x8, x9, x10, x130 => if x130 = true then (none) else (if x9 = 0 then (dancestudiolaw50_RehearseLeast.j2 k x1 x5 x8 x10 (decide (x8 > x10))) else (dancestudiolaw50_RehearseLeast.j2 k x1 x5 x8 x10 true))
def dancestudiolaw50_RehearseLeast.j2 : Nat → List (S48) → List (S48) → Int → Int → Bool → Option (Bool)
 | 0, _, _, _, _, _ => none
 | k + 1, x1, x5, x8, x10, x137 => if x137 = true then ((dancestudiolaw50_awake.f k).bind fun t599 => (some t599)) else (if x8 < x10 then (dancestudiolaw50_RehearseLeast.j3 k x1 x5 true) else (dancestudiolaw50_RehearseLeast.j3 k x1 x5 ((x1.length : Int) != (x5.length : Int))))
def dancestudiolaw50_RehearseLeast.j3 : Nat → List (S48) → List (S48) → Bool → Option (Bool)
 | 0, _, _, _ => none
 | k + 1, x1, x5, x148 => if x148 = true then (none) else (dancestudiolaw50_RehearseLeast.l0 k x1 x5 0)
def dancestudiolaw50_RehearseLeast.l0 : Nat → List (S48) → List (S48) → Int → Option (Bool)
 | 0, _, _, _ => none
 | k + 1, x1, x5, x14 => if x14 < (x1.length : Int) then (if 0 ≤ x14 then (if x14 < (x5.length : Int) then (if ((rd_T48 x5 x14).f2) = ((rd_T48 x1 x14).f2) then (dancestudiolaw50_RehearseLeast.l0 k x1 x5 (wrap64 (x14 + 1))) else (if ((rd_T48 x5 x14).f2) < ((rd_T48 x1 x14).f2) then ((dancestudiolaw50_awake.f k).bind fun t604 => (some t604)) else (none))) else (none)) else (none)) else (dancestudiolaw50_RehearseLeast.l1 k x1 x5 0)
def dancestudiolaw50_RehearseLeast.l1 : Nat → List (S48) → List (S48) → Int → Option (Bool)
 | 0, _, _, _ => none
 | k + 1, x1, x5, x15 => if x15 < (x1.length : Int) then (if 0 ≤ x15 then (if x15 < (x5.length : Int) then (if ((rd_T48 x5 x15).f1) = ((rd_T48 x1 x15).f1) then (dancestudiolaw50_RehearseLeast.l1 k x1 x5 (wrap64 (x15 + 1))) else (if ((rd_T48 x5 x15).f1) < ((rd_T48 x1 x15).f1) then ((dancestudiolaw50_awake.f k).bind fun t609 => (some t609)) else (none))) else (none)) else (none)) else ((dancestudiolaw50_awake.f k).bind fun t610 => (some t610))
end
def dancestudiolaw50_RehearseLeast.f (k : Nat) (l0_0 : List (S53)) (l0_1 : List (S55)) (l0_2 : List (S59)) (a0_3 : Int) (l1 : List (S48)) : Option (Bool) := if (l0_0.length : Int) > 5 then (dancestudiolaw50_RehearseLeast.j0 k l1 true l0_0 l0_1 l0_2 a0_3) else (if a0_3 > 6 then (dancestudiolaw50_RehearseLeast.j0 k l1 true l0_0 l0_1 l0_2 a0_3) else (dancestudiolaw50_RehearseLeast.j0 k l1 (decide ((l0_2.length : Int) > 20)) l0_0 l0_1 l0_2 a0_3))
def dancestudiolaw50_RehearseLeast.T21 : Bool × List (List Nat × List Nat) := (true, [([], []), ([], []), ([0, 1], [0, 1]), ([2], [2]), ([3], [3]), ([], []), ([], []), ([5, 6], [5, 6]), ([7], [7]), ([8], [8]), ([4, 9], [4, 9])])
def dancestudiolaw50_RehearseLeast.B21 : List Nat := [0, 0, 3, 7, 15, 0, 0, 96, 224, 480, 1023]
theorem dancestudiolaw50_RehearseLeast.tab21 : rtab .any (opsOf Try.f6 21) = dancestudiolaw50_RehearseLeast.T21 := by kernel_rfl
theorem dancestudiolaw50_RehearseLeast.bits21 : waitsOk dancestudiolaw50_RehearseLeast.T21.2 dancestudiolaw50_RehearseLeast.B21 = true := by kernel_rfl
def dancestudiolaw50_RehearseLeast.T22 : Bool × List (List Nat × List Nat) := (true, [([], []), ([], []), ([0, 1], [0, 1]), ([2], [2]), ([3], [3]), ([], []), ([], []), ([5, 6], [5, 6]), ([7], [7]), ([8], [8]), ([4, 9], [4, 9]), ([10], [10]), ([11, 11], [11]), ([11, 12], [11, 12]), ([13, 12, 0, 1, 2, 3, 4, 5, 6, 7, 8, 9, 10, 11, 12, 13], [13])])
def dancestudiolaw50_RehearseLeast.B22 : List Nat := [0, 0, 3, 7, 15, 0, 0, 96, 224, 480, 1023, 2047, 4095, 8191, 16383]
theorem dancestudiolaw50_RehearseLeast.tab22 : rtab .any (opsOf Try.f6 22) = dancestudiolaw50_RehearseLeast.T22 := by kernel_rfl
theorem dancestudiolaw50_RehearseLeast.bits22 : waitsOk dancestudiolaw50_RehearseLeast.T22.2 dancestudiolaw50_RehearseLeast.B22 = true := by kernel_rfl
def dancestudiolaw50_RehearseLeast.T26 : Bool × List (List Nat × List Nat) := (true, [([], []), ([], []), ([0, 1], [0, 1]), ([2], [2]), ([3], [3]), ([], []), ([], []), ([5, 6], [5, 6]), ([7], [7]), ([8], [8]), ([4, 9], [4, 9])])
def dancestudiolaw50_RehearseLeast.B26 : List Nat := [0, 0, 3, 7, 15, 0, 0, 96, 224, 480, 1023]
theorem dancestudiolaw50_RehearseLeast.tab26 : rtab .any (opsOf Try.f6 26) = dancestudiolaw50_RehearseLeast.T26 := by kernel_rfl
theorem dancestudiolaw50_RehearseLeast.bits26 : waitsOk dancestudiolaw50_RehearseLeast.T26.2 dancestudiolaw50_RehearseLeast.B26 = true := by kernel_rfl
def dancestudiolaw50_RehearseLeast.T27 : Bool × List (List Nat × List Nat) := (true, [([], []), ([], []), ([0, 1], [0, 1]), ([2], [2]), ([3], [3]), ([], []), ([], []), ([5, 6], [5, 6]), ([7], [7]), ([8], [8]), ([4, 9], [4, 9]), ([10], [10]), ([11, 11], [11]), ([11, 12], [11, 12]), ([13, 12, 0, 1, 2, 3, 4, 5, 6, 7, 8, 9, 10, 11, 12, 13], [13])])
def dancestudiolaw50_RehearseLeast.B27 : List Nat := [0, 0, 3, 7, 15, 0, 0, 96, 224, 480, 1023, 2047, 4095, 8191, 16383]
theorem dancestudiolaw50_RehearseLeast.tab27 : rtab .any (opsOf Try.f6 27) = dancestudiolaw50_RehearseLeast.T27 := by kernel_rfl
theorem dancestudiolaw50_RehearseLeast.bits27 : waitsOk dancestudiolaw50_RehearseLeast.T27.2 dancestudiolaw50_RehearseLeast.B27 = true := by kernel_rfl
set_option maxHeartbeats 8000000 in
set_option maxRecDepth 100000 in
theorem dancestudiolaw50_RehearseLeast.calls (k : Nat) (A0_0 : Option Addr) (c0_0 : Nat) (l0_0 : List (S53)) (A0_1 : Option Addr) (c0_1 : Nat) (l0_1 : List (S55)) (A0_2 : Option Addr) (c0_2 : Nat) (l0_2 : List (S59)) (a0_3 : Int) (A1 : Option Addr) (c1 : Nat) (l1 : List (S48)) (r : Bool) (w : World) (hr0_0 : Kd.C k53 w A0_0 l0_0.length l0_0) (hc0_0 : l0_0.length ≤ c0_0) (hr0_1 : Kd.C k55 w A0_1 l0_1.length l0_1) (hc0_1 : l0_1.length ≤ c0_1) (hr0_2 : Kd.C k59 w A0_2 l0_2.length l0_2) (hc0_2 : l0_2.length ≤ c0_2) (hr1 : Kd.C k48 w A1 l1.length l1) (hc1 : l1.length ≤ c1) (hmx : Mx w) (h : dancestudiolaw50_RehearseLeast.f k l0_0 l0_1 l0_2 a0_3 l1 = some r) :
  Calls Try.prog 6 #[.agg #[.slice A0_0 l0_0.length c0_0, .slice A0_1 l0_1.length c0_1, .slice A0_2 l0_2.length c0_2, .int .i64 a0_3], .slice A1 l1.length c1] w fun e w' => e = .returned (.bool r) ∧ Below w.heap.size w w' := by
 have HMX_ := Aside0.mk hmx
 clear hmx
 have hu30 := Try.underlying26
 have HR0_0 := Aside0.mk hr0_0
 have HC0_0 := Aside0.mk hc0_0
 clear hr0_0 hc0_0
 have HR0_1 := Aside0.mk hr0_1
 have HC0_1 := Aside0.mk hc0_1
 clear hr0_1 hc0_1
 have HR0_2 := Aside0.mk hr0_2
 have HC0_2 := Aside0.mk hc0_2
 clear hr0_2 hc0_2
 have HR1 := Aside0.mk hr1
 have HC1 := Aside0.mk hc1
 clear hr1 hc1
 have HB := Aside0.mk (Below.refl w.heap.size w)
 have H : (if (l0_0.length : Int) > 5 then (dancestudiolaw50_RehearseLeast.j0 k l1 true l0_0 l0_1 l0_2 a0_3) else (if a0_3 > 6 then (dancestudiolaw50_RehearseLeast.j0 k l1 true l0_0 l0_1 l0_2 a0_3) else (dancestudiolaw50_RehearseLeast.j0 k l1 (decide ((l0_2.length : Int) > 20)) l0_0 l0_1 l0_2 a0_3))) = some r := h
 clear h
 have HC3 := Aside0.mk H
 clear H
 go_enter Try.func6, Try.ntmps6
 go_upto_region 1 with (first | ((with_reducible refine gate_dst (N := 2) rfl ?_); (try (refine gate_guard (by rfl) ?_; dsimp only)); refine box_event ?hg (N := 2) ?hd (cs := #[.slice A0_0 l0_0.length c0_0, .slice A0_1 l0_1.length c0_1, .slice A0_2 l0_2.length c0_2, .int .i64 a0_3]) (t := 26) ?hr ?_; (case hd => rfl); (case hg => rfl); (case hr => first | (go_simp; done) | (go_simp; rfl)); intro gb577 hg w4 hbox hb; have n0_ := Aside0.mk (below_step (by repeat (first | (with_reducible first | exact HB.out | apply below_alloc | apply pw_below_drewN | apply below_drew1) | exact HB.out)) hb); have n1_ := Aside0.mk (hbox); have n2_ := Aside0.mk ((by rw [hg]; exact (below_size (by repeat (first | (with_reducible first | exact HB.out | apply below_alloc | apply pw_below_drewN | apply below_drew1) | exact HB.out))) : w.heap.size ≤ gb577)); have n3_ := Aside0.mk ((by rw [hg]; exact (below_size (by repeat (first | (with_reducible first | exact HB.out | apply below_alloc | apply pw_below_drewN | apply below_drew1) | exact HB.out))) : w.heap.size ≤ gb577)); clear HB; have HB := n0_; have BK577 := n1_; have GW577 := n2_; have GE577 := n3_; clear n0_ n1_ n2_ n3_; clear hb hbox hg))
 (try simp only [Act.put, List.setIfInBounds_toArray, List.set_cons_zero, List.set_cons_succ])
 go_cut [30] (fun v30 wc => ∃ (kq : Nat) (x30_2 : Bool), v30 = .bool x30_2 ∧ Aside0 (dancestudiolaw50_RehearseLeast.j0 kq l1 x30_2 l0_0 l0_1 l0_2 a0_3 = some r) ∧ Aside0 (kq ≤ k) ∧ Aside0 (wc.heap[gb577]? = some (.cells #[(.slice A0_0 l0_0.length c0_0), (.slice A0_1 l0_1.length c0_1), (.slice A0_2 l0_2.length c0_2), .int .i64 a0_3] 26 (0, 0))) ∧ Aside0 (Below w.heap.size w wc))
 case first => as_aux_lemma =>
  have H := HC3.out
  clear HC3
  by_cases c5 : (l0_0.length : Int) > 5
  ·
   rw [if_pos c5] at H
   have c5b0 : decide (5 < (l0_0.length : Int)) = true := decide_eq_true c5
   have c5b1 : decide (5 < l0_0.length) = true := decide_eq_true (by omega)
   clear c5
   (first | rw [c5b0] | (simp only [i64_w, i32_w]; rw [c5b0]) | skip)
   have H' := Aside0.mk H
   clear H
   have hcz6_0 : w4.cell? ⟨gb577, 0, none⟩ = some (.slice A0_0 l0_0.length c0_0) := (blk_cell BK577.out 0).trans rfl
   have hcz6_1 : w4.cell? ⟨gb577, 1, none⟩ = some (.slice A0_1 l0_1.length c0_1) := (blk_cell BK577.out 1).trans rfl
   have hcz6_2 : w4.cell? ⟨gb577, 2, none⟩ = some (.slice A0_2 l0_2.length c0_2) := (blk_cell BK577.out 2).trans rfl
   have hcz6_3 : w4.cell? ⟨gb577, 3, none⟩ = some (.int .i64 a0_3) := (blk_cell BK577.out 3).trans rfl
   have hfz6_0 := blk_frozen BK577.out 0
   have hfz6_1 := blk_frozen BK577.out 1
   have hfz6_2 := blk_frozen BK577.out 2
   have hfz6_3 := blk_frozen BK577.out 3
   go_wp2
   go_meet
   case rel => exact ⟨_, (true), (by first | rfl | (simp; done) | (simp [*]; done)), H', ⟨by first | omega | exact Nat.le_refl _⟩, ⟨by (with_reducible repeat (first | refine blk_drewN ?_ _ | refine blk_drew ?_ | refine blk_alloc ?_ _)); exact BK577.out⟩, ⟨by repeat (first | (with_reducible first | exact HB.out | apply below_alloc | apply pw_below_drewN | apply below_drew1 | refine below_set ?_ GE577.out) | exact HB.out)⟩⟩
  ·
   rw [if_neg c5] at H
   have c5b0 : decide (5 < (l0_0.length : Int)) = false := decide_eq_false c5
   have c5b1 : decide (5 < l0_0.length) = false := decide_eq_false (by omega)
   clear c5
   (first | rw [c5b0] | (simp only [i64_w, i32_w]; rw [c5b0]) | skip)
   by_cases c7 : a0_3 > 6
   ·
    rw [if_pos c7] at H
    have c7b0 : decide (6 < a0_3) = true := decide_eq_true c7
    clear c7
    have H' := Aside0.mk H
    clear H
    have hcz8_0 : w4.cell? ⟨gb577, 0, none⟩ = some (.slice A0_0 l0_0.length c0_0) := (blk_cell BK577.out 0).trans rfl
    have hcz8_1 : w4.cell? ⟨gb577, 1, none⟩ = some (.slice A0_1 l0_1.length c0_1) := (blk_cell BK577.out 1).trans rfl
    have hcz8_2 : w4.cell? ⟨gb577, 2, none⟩ = some (.slice A0_2 l0_2.length c0_2) := (blk_cell BK577.out 2).trans rfl
    have hcz8_3 : w4.cell? ⟨gb577, 3, none⟩ = some (.int .i64 a0_3) := (blk_cell BK577.out 3).trans rfl
    have hfz8_0 := blk_frozen BK577.out 0
    have hfz8_1 := blk_frozen BK577.out 1
    have hfz8_2 := blk_frozen BK577.out 2
    have hfz8_3 := blk_frozen BK577.out 3
    go_wp2
    go_meet
    case rel => exact ⟨_, (true), (by first | rfl | (simp; done) | (simp [*]; done)), H', ⟨by first | omega | exact Nat.le_refl _⟩, ⟨by (with_reducible repeat (first | refine blk_drewN ?_ _ | refine blk_drew ?_ | refine blk_alloc ?_ _)); exact BK577.out⟩, ⟨by repeat (first | (with_reducible first | exact HB.out | apply below_alloc | apply pw_below_drewN | apply below_drew1 | refine below_set ?_ GE577.out) | exact HB.out)⟩⟩
   ·
    rw [if_neg c7] at H
    have c7b0 : decide (6 < a0_3) = false := decide_eq_false c7
    clear c7
    have H' := Aside0.mk H
    clear H
    have hcz9_0 : w4.cell? ⟨gb577, 0, none⟩ = some (.slice A0_0 l0_0.length c0_0) := (blk_cell BK577.out 0).trans rfl
    have hcz9_1 : w4.cell? ⟨gb577, 1, none⟩ = some (.slice A0_1 l0_1.length c0_1) := (blk_cell BK577.out 1).trans rfl
    have hcz9_2 : w4.cell? ⟨gb577, 2, none⟩ = some (.slice A0_2 l0_2.length c0_2) := (blk_cell BK577.out 2).trans rfl
    have hcz9_3 : w4.cell? ⟨gb577, 3, none⟩ = some (.int .i64 a0_3) := (blk_cell BK577.out 3).trans rfl
    have hfz9_0 := blk_frozen BK577.out 0
    have hfz9_1 := blk_frozen BK577.out 1
    have hfz9_2 := blk_frozen BK577.out 2
    have hfz9_3 := blk_frozen BK577.out 3
    go_wp2
    go_meet
    case rel => exact ⟨_, (decide ((l0_2.length : Int) > 20)), (by first | rfl | (simp; done) | (simp [*]; done)), H', ⟨by first | omega | exact Nat.le_refl _⟩, ⟨by (with_reducible repeat (first | refine blk_drewN ?_ _ | refine blk_drew ?_ | refine blk_alloc ?_ _)); exact BK577.out⟩, ⟨by repeat (first | (with_reducible first | exact HB.out | apply below_alloc | apply pw_below_drewN | apply below_drew1 | refine below_set ?_ GE577.out) | exact HB.out)⟩⟩
 case rest => as_aux_lemma =>
  clear HC3
  try clear c1
  try clear p2
  try clear c5
  try clear c5b0
  try clear c5b1
  try clear c6
  try clear c7
  try clear c7b0
  try clear hcz6_0
  try clear hcz6_1
  try clear hcz6_2
  try clear hcz6_3
  try clear hcz8_0
  try clear hcz8_1
  try clear hcz8_2
  try clear hcz8_3
  try clear hcz9_0
  try clear hcz9_1
  try clear hcz9_2
  try clear hcz9_3
  try clear hfz6_0
  try clear hfz6_1
  try clear hfz6_2
  try clear hfz6_3
  try clear hfz8_0
  try clear hfz8_1
  try clear hfz8_2
  try clear hfz8_3
  try clear hfz9_0
  try clear hfz9_1
  try clear hfz9_2
  try clear hfz9_3
  obtain ⟨kq, x30_2, rfl, HA, HJ2, BK577, HB⟩ := hcut
  cases kq with
  | zero => exact absurd HA.out (by simp [dancestudiolaw50_RehearseLeast.j0])
  | succ kj2 =>
   have H := HA.out
   clear HA
   simp only [dancestudiolaw50_RehearseLeast.j0] at H
   by_cases c10 : x30_2 = true
   ·
    subst c10
    have H1 : ((dancestudiolaw50_awake.f kj2).bind fun t578 => (some t578)) = some r := by rw [if_pos rfl] at H; exact H
    clear H
    have H := H1
    clear H1
    replace H := Option.bind_eq_some_iff.mp H
    obtain ⟨t578, A110, H⟩ := H
    replace H : (some t578) = some r := H
    have A11 := Aside0.mk A110
    clear A110
    obtain rfl := Option.some.inj H
    go_wp2_with (first | ((with_reducible refine gate_callee (f := 15) rfl ?_); refine goesL_ (some 31) rfl rfl Try.func15 (by kernel_rfl) rfl #[] rfl (by (try simp only [List.map_toArray, List.map_cons, List.map_nil]); first | done | rfl | (simp only [List.length_drop, List.length_take]; rfl)) ?_; (with_reducible refine (dancestudiolaw50_awake.calls kj2  t578 _ ?sidem_ A11.out).mono ?_); (case sidem_ => first | ((repeat (first | exact HMX_.out | apply Mx.drewN | apply Mx.drew)); done) | (refine Mx.below HMX_.out ?_; (repeat (first | (with_reducible first | exact HB.out | apply below_alloc | apply pw_below_drewN | apply below_drew1 | refine below_set ?_ (Aside0.out (by assumption))) | exact HB.out)); done)); rintro e w12 ⟨rfl, hb⟩; refine ⟨_, rfl, ?_⟩; have n0_ := Aside0.mk (blk_below (g := gb577) (o := .cells #[.slice A0_0 l0_0.length c0_0, .slice A0_1 l0_1.length c0_1, .slice A0_2 l0_2.length c0_2, .int .i64 a0_3] 26 (0, 0)) (by (with_reducible repeat (first | refine blk_drewN ?_ _ | refine blk_drew ?_ | refine blk_alloc ?_ _)); exact BK577.out) hb); have n1_ := Aside0.mk (below_step (by repeat (first | (with_reducible first | exact HB.out | apply below_alloc | apply pw_below_drewN | apply below_drew1 | refine below_set ?_ GE577.out) | exact HB.out)) hb); clear BK577; clear HB; have BK577 := n0_; have HB := n1_; clear n0_ n1_; (try clear hb); (try clear hb2); (try clear hk); (try clear hi)))
    go_ret
    exact ⟨by first | rfl | (simp [errW_none, errW_some] <;> rfl) | (simp [*, errW_none, errW_some] <;> rfl), by repeat (first | (with_reducible first | exact HB.out | apply below_alloc | apply pw_below_drewN | apply below_drew1 | refine below_set ?_ GE577.out) | exact HB.out)⟩
   ·
    replace c10 := Bool.eq_false_iff.mpr c10
    subst c10
    have H1 : ((dancestudiolaw50_of.f).bind fun t579 => ((rehearse_Plan.f kj2 l0_0 l0_1 l0_2 a0_3).bind fun bt580 => ((dancestudiolaw50_of.f).bind fun t584 => ((rehearse_Check.f kj2 l0_0 l0_1 l0_2 a0_3).bind fun t585 => ((dancestudiolaw50_of.f).bind fun t586 => ((rehearse_End.f kj2 l0_0 l0_1 l0_2 a0_3 l1).bind fun bt587 => (if t585 = 0 then (if bt580.2 = 0 then ((dancestudiolaw50_of.f).bind fun t591 => ((rehearse_End.f kj2 l0_0 l0_1 l0_2 a0_3 bt580.1).bind fun bt592 => ((dancestudiolaw50_of.f).bind fun t594 => ((rehearse_Least.f kj2 l0_0 l0_1 l0_2 a0_3).bind fun bt595 => (if bt592.2 = 0 then (if bt595.2 = 0 then ((dancestudiolaw50_of.f).bind fun t597 => ((rehearse_Valid.f kj2 l0_0 l0_1 l0_2 a0_3 bt580.1).bind fun t598 => (if t598 = 0 then (if bt592.1 < bt595.1 then (dancestudiolaw50_RehearseLeast.j1 kj2 l1 bt580.1 bt587.1 bt587.2 bt592.1 true) else (if bt592.1 > a0_3 then (dancestudiolaw50_RehearseLeast.j1 kj2 l1 bt580.1 bt587.1 bt587.2 bt592.1 true) else (dancestudiolaw50_RehearseLeast.j1 kj2 l1 bt580.1 bt587.1 bt587.2 bt592.1 ((bt580.1.length : Int) != (l0_0.length : Int))))) else (dancestudiolaw50_RehearseLeast.j1 kj2 l1 bt580.1 bt587.1 bt587.2 bt592.1 true)))) else (dancestudiolaw50_RehearseLeast.j1 kj2 l1 bt580.1 bt587.1 bt587.2 bt592.1 true)) else (dancestudiolaw50_RehearseLeast.j1 kj2 l1 bt580.1 bt587.1 bt587.2 bt592.1 true)))))) else (if (bt580.1.length : Int) = 0 then (if bt580.2 = 42 then (if bt587.2 = 0 then (none) else ((dancestudiolaw50_awake.f kj2).bind fun t590 => (some t590))) else (none)) else (none))) else (if (bt580.1.length : Int) = 0 then (if bt580.2 = t585 then (if bt587.1 = 0 then (if bt587.2 = t585 then ((dancestudiolaw50_awake.f kj2).bind fun t589 => (some t589)) else (none)) else (none)) else (none)) else (none))))))))) = some r := by rw [if_neg (show ¬ (false = true) by decide)] at H; exact H
    clear H
    have H := H1
    clear H1
    replace H := Option.bind_eq_some_iff.mp H
    obtain ⟨t579, A130, H⟩ := H
    replace H : ((rehearse_Plan.f kj2 l0_0 l0_1 l0_2 a0_3).bind fun bt580 => ((dancestudiolaw50_of.f).bind fun t584 => ((rehearse_Check.f kj2 l0_0 l0_1 l0_2 a0_3).bind fun t585 => ((dancestudiolaw50_of.f).bind fun t586 => ((rehearse_End.f kj2 l0_0 l0_1 l0_2 a0_3 l1).bind fun bt587 => (if t585 = 0 then (if bt580.2 = 0 then ((dancestudiolaw50_of.f).bind fun t591 => ((rehearse_End.f kj2 l0_0 l0_1 l0_2 a0_3 bt580.1).bind fun bt592 => ((dancestudiolaw50_of.f).bind fun t594 => ((rehearse_Least.f kj2 l0_0 l0_1 l0_2 a0_3).bind fun bt595 => (if bt592.2 = 0 then (if bt595.2 = 0 then ((dancestudiolaw50_of.f).bind fun t597 => ((rehearse_Valid.f kj2 l0_0 l0_1 l0_2 a0_3 bt580.1).bind fun t598 => (if t598 = 0 then (if bt592.1 < bt595.1 then (dancestudiolaw50_RehearseLeast.j1 kj2 l1 bt580.1 bt587.1 bt587.2 bt592.1 true) else (if bt592.1 > a0_3 then (dancestudiolaw50_RehearseLeast.j1 kj2 l1 bt580.1 bt587.1 bt587.2 bt592.1 true) else (dancestudiolaw50_RehearseLeast.j1 kj2 l1 bt580.1 bt587.1 bt587.2 bt592.1 ((bt580.1.length : Int) != (l0_0.length : Int))))) else (dancestudiolaw50_RehearseLeast.j1 kj2 l1 bt580.1 bt587.1 bt587.2 bt592.1 true)))) else (dancestudiolaw50_RehearseLeast.j1 kj2 l1 bt580.1 bt587.1 bt587.2 bt592.1 true)) else (dancestudiolaw50_RehearseLeast.j1 kj2 l1 bt580.1 bt587.1 bt587.2 bt592.1 true)))))) else (if (bt580.1.length : Int) = 0 then (if bt580.2 = 42 then (if bt587.2 = 0 then (none) else ((dancestudiolaw50_awake.f kj2).bind fun t590 => (some t590))) else (none)) else (none))) else (if (bt580.1.length : Int) = 0 then (if bt580.2 = t585 then (if bt587.1 = 0 then (if bt587.2 = t585 then ((dancestudiolaw50_awake.f kj2).bind fun t589 => (some t589)) else (none)) else (none)) else (none)) else (none)))))))) = some r := H
    have A13 := Aside0.mk A130
    clear A130
    replace H := Option.bind_eq_some_iff.mp H
    obtain ⟨⟨t580, t583⟩, A140, H⟩ := H
    replace H : ((dancestudiolaw50_of.f).bind fun t584 => ((rehearse_Check.f kj2 l0_0 l0_1 l0_2 a0_3).bind fun t585 => ((dancestudiolaw50_of.f).bind fun t586 => ((rehearse_End.f kj2 l0_0 l0_1 l0_2 a0_3 l1).bind fun bt587 => (if t585 = 0 then (if t583 = 0 then ((dancestudiolaw50_of.f).bind fun t591 => ((rehearse_End.f kj2 l0_0 l0_1 l0_2 a0_3 t580).bind fun bt592 => ((dancestudiolaw50_of.f).bind fun t594 => ((rehearse_Least.f kj2 l0_0 l0_1 l0_2 a0_3).bind fun bt595 => (if bt592.2 = 0 then (if bt595.2 = 0 then ((dancestudiolaw50_of.f).bind fun t597 => ((rehearse_Valid.f kj2 l0_0 l0_1 l0_2 a0_3 t580).bind fun t598 => (if t598 = 0 then (if bt592.1 < bt595.1 then (dancestudiolaw50_RehearseLeast.j1 kj2 l1 t580 bt587.1 bt587.2 bt592.1 true) else (if bt592.1 > a0_3 then (dancestudiolaw50_RehearseLeast.j1 kj2 l1 t580 bt587.1 bt587.2 bt592.1 true) else (dancestudiolaw50_RehearseLeast.j1 kj2 l1 t580 bt587.1 bt587.2 bt592.1 ((t580.length : Int) != (l0_0.length : Int))))) else (dancestudiolaw50_RehearseLeast.j1 kj2 l1 t580 bt587.1 bt587.2 bt592.1 true)))) else (dancestudiolaw50_RehearseLeast.j1 kj2 l1 t580 bt587.1 bt587.2 bt592.1 true)) else (dancestudiolaw50_RehearseLeast.j1 kj2 l1 t580 bt587.1 bt587.2 bt592.1 true)))))) else (if (t580.length : Int) = 0 then (if t583 = 42 then (if bt587.2 = 0 then (none) else ((dancestudiolaw50_awake.f kj2).bind fun t590 => (some t590))) else (none)) else (none))) else (if (t580.length : Int) = 0 then (if t583 = t585 then (if bt587.1 = 0 then (if bt587.2 = t585 then ((dancestudiolaw50_awake.f kj2).bind fun t589 => (some t589)) else (none)) else (none)) else (none)) else (none))))))) = some r := H
    have A14 := Aside0.mk A140
    clear A140
    replace H := Option.bind_eq_some_iff.mp H
    obtain ⟨t584, A150, H⟩ := H
    replace H : ((rehearse_Check.f kj2 l0_0 l0_1 l0_2 a0_3).bind fun t585 => ((dancestudiolaw50_of.f).bind fun t586 => ((rehearse_End.f kj2 l0_0 l0_1 l0_2 a0_3 l1).bind fun bt587 => (if t585 = 0 then (if t583 = 0 then ((dancestudiolaw50_of.f).bind fun t591 => ((rehearse_End.f kj2 l0_0 l0_1 l0_2 a0_3 t580).bind fun bt592 => ((dancestudiolaw50_of.f).bind fun t594 => ((rehearse_Least.f kj2 l0_0 l0_1 l0_2 a0_3).bind fun bt595 => (if bt592.2 = 0 then (if bt595.2 = 0 then ((dancestudiolaw50_of.f).bind fun t597 => ((rehearse_Valid.f kj2 l0_0 l0_1 l0_2 a0_3 t580).bind fun t598 => (if t598 = 0 then (if bt592.1 < bt595.1 then (dancestudiolaw50_RehearseLeast.j1 kj2 l1 t580 bt587.1 bt587.2 bt592.1 true) else (if bt592.1 > a0_3 then (dancestudiolaw50_RehearseLeast.j1 kj2 l1 t580 bt587.1 bt587.2 bt592.1 true) else (dancestudiolaw50_RehearseLeast.j1 kj2 l1 t580 bt587.1 bt587.2 bt592.1 ((t580.length : Int) != (l0_0.length : Int))))) else (dancestudiolaw50_RehearseLeast.j1 kj2 l1 t580 bt587.1 bt587.2 bt592.1 true)))) else (dancestudiolaw50_RehearseLeast.j1 kj2 l1 t580 bt587.1 bt587.2 bt592.1 true)) else (dancestudiolaw50_RehearseLeast.j1 kj2 l1 t580 bt587.1 bt587.2 bt592.1 true)))))) else (if (t580.length : Int) = 0 then (if t583 = 42 then (if bt587.2 = 0 then (none) else ((dancestudiolaw50_awake.f kj2).bind fun t590 => (some t590))) else (none)) else (none))) else (if (t580.length : Int) = 0 then (if t583 = t585 then (if bt587.1 = 0 then (if bt587.2 = t585 then ((dancestudiolaw50_awake.f kj2).bind fun t589 => (some t589)) else (none)) else (none)) else (none)) else (none)))))) = some r := H
    have A15 := Aside0.mk A150
    clear A150
    replace H := Option.bind_eq_some_iff.mp H
    obtain ⟨t585, A160, H⟩ := H
    replace H : ((dancestudiolaw50_of.f).bind fun t586 => ((rehearse_End.f kj2 l0_0 l0_1 l0_2 a0_3 l1).bind fun bt587 => (if t585 = 0 then (if t583 = 0 then ((dancestudiolaw50_of.f).bind fun t591 => ((rehearse_End.f kj2 l0_0 l0_1 l0_2 a0_3 t580).bind fun bt592 => ((dancestudiolaw50_of.f).bind fun t594 => ((rehearse_Least.f kj2 l0_0 l0_1 l0_2 a0_3).bind fun bt595 => (if bt592.2 = 0 then (if bt595.2 = 0 then ((dancestudiolaw50_of.f).bind fun t597 => ((rehearse_Valid.f kj2 l0_0 l0_1 l0_2 a0_3 t580).bind fun t598 => (if t598 = 0 then (if bt592.1 < bt595.1 then (dancestudiolaw50_RehearseLeast.j1 kj2 l1 t580 bt587.1 bt587.2 bt592.1 true) else (if bt592.1 > a0_3 then (dancestudiolaw50_RehearseLeast.j1 kj2 l1 t580 bt587.1 bt587.2 bt592.1 true) else (dancestudiolaw50_RehearseLeast.j1 kj2 l1 t580 bt587.1 bt587.2 bt592.1 ((t580.length : Int) != (l0_0.length : Int))))) else (dancestudiolaw50_RehearseLeast.j1 kj2 l1 t580 bt587.1 bt587.2 bt592.1 true)))) else (dancestudiolaw50_RehearseLeast.j1 kj2 l1 t580 bt587.1 bt587.2 bt592.1 true)) else (dancestudiolaw50_RehearseLeast.j1 kj2 l1 t580 bt587.1 bt587.2 bt592.1 true)))))) else (if (t580.length : Int) = 0 then (if t583 = 42 then (if bt587.2 = 0 then (none) else ((dancestudiolaw50_awake.f kj2).bind fun t590 => (some t590))) else (none)) else (none))) else (if (t580.length : Int) = 0 then (if t583 = t585 then (if bt587.1 = 0 then (if bt587.2 = t585 then ((dancestudiolaw50_awake.f kj2).bind fun t589 => (some t589)) else (none)) else (none)) else (none)) else (none))))) = some r := H
    have A16 := Aside0.mk A160
    clear A160
    replace H := Option.bind_eq_some_iff.mp H
    obtain ⟨t586, A170, H⟩ := H
    replace H : ((rehearse_End.f kj2 l0_0 l0_1 l0_2 a0_3 l1).bind fun bt587 => (if t585 = 0 then (if t583 = 0 then ((dancestudiolaw50_of.f).bind fun t591 => ((rehearse_End.f kj2 l0_0 l0_1 l0_2 a0_3 t580).bind fun bt592 => ((dancestudiolaw50_of.f).bind fun t594 => ((rehearse_Least.f kj2 l0_0 l0_1 l0_2 a0_3).bind fun bt595 => (if bt592.2 = 0 then (if bt595.2 = 0 then ((dancestudiolaw50_of.f).bind fun t597 => ((rehearse_Valid.f kj2 l0_0 l0_1 l0_2 a0_3 t580).bind fun t598 => (if t598 = 0 then (if bt592.1 < bt595.1 then (dancestudiolaw50_RehearseLeast.j1 kj2 l1 t580 bt587.1 bt587.2 bt592.1 true) else (if bt592.1 > a0_3 then (dancestudiolaw50_RehearseLeast.j1 kj2 l1 t580 bt587.1 bt587.2 bt592.1 true) else (dancestudiolaw50_RehearseLeast.j1 kj2 l1 t580 bt587.1 bt587.2 bt592.1 ((t580.length : Int) != (l0_0.length : Int))))) else (dancestudiolaw50_RehearseLeast.j1 kj2 l1 t580 bt587.1 bt587.2 bt592.1 true)))) else (dancestudiolaw50_RehearseLeast.j1 kj2 l1 t580 bt587.1 bt587.2 bt592.1 true)) else (dancestudiolaw50_RehearseLeast.j1 kj2 l1 t580 bt587.1 bt587.2 bt592.1 true)))))) else (if (t580.length : Int) = 0 then (if t583 = 42 then (if bt587.2 = 0 then (none) else ((dancestudiolaw50_awake.f kj2).bind fun t590 => (some t590))) else (none)) else (none))) else (if (t580.length : Int) = 0 then (if t583 = t585 then (if bt587.1 = 0 then (if bt587.2 = t585 then ((dancestudiolaw50_awake.f kj2).bind fun t589 => (some t589)) else (none)) else (none)) else (none)) else (none)))) = some r := H
    have A17 := Aside0.mk A170
    clear A170
    replace H := Option.bind_eq_some_iff.mp H
    obtain ⟨⟨t587, t588⟩, A180, H⟩ := H
    replace H : (if t585 = 0 then (if t583 = 0 then ((dancestudiolaw50_of.f).bind fun t591 => ((rehearse_End.f kj2 l0_0 l0_1 l0_2 a0_3 t580).bind fun bt592 => ((dancestudiolaw50_of.f).bind fun t594 => ((rehearse_Least.f kj2 l0_0 l0_1 l0_2 a0_3).bind fun bt595 => (if bt592.2 = 0 then (if bt595.2 = 0 then ((dancestudiolaw50_of.f).bind fun t597 => ((rehearse_Valid.f kj2 l0_0 l0_1 l0_2 a0_3 t580).bind fun t598 => (if t598 = 0 then (if bt592.1 < bt595.1 then (dancestudiolaw50_RehearseLeast.j1 kj2 l1 t580 t587 t588 bt592.1 true) else (if bt592.1 > a0_3 then (dancestudiolaw50_RehearseLeast.j1 kj2 l1 t580 t587 t588 bt592.1 true) else (dancestudiolaw50_RehearseLeast.j1 kj2 l1 t580 t587 t588 bt592.1 ((t580.length : Int) != (l0_0.length : Int))))) else (dancestudiolaw50_RehearseLeast.j1 kj2 l1 t580 t587 t588 bt592.1 true)))) else (dancestudiolaw50_RehearseLeast.j1 kj2 l1 t580 t587 t588 bt592.1 true)) else (dancestudiolaw50_RehearseLeast.j1 kj2 l1 t580 t587 t588 bt592.1 true)))))) else (if (t580.length : Int) = 0 then (if t583 = 42 then (if t588 = 0 then (none) else ((dancestudiolaw50_awake.f kj2).bind fun t590 => (some t590))) else (none)) else (none))) else (if (t580.length : Int) = 0 then (if t583 = t585 then (if t587 = 0 then (if t588 = t585 then ((dancestudiolaw50_awake.f kj2).bind fun t589 => (some t589)) else (none)) else (none)) else (none)) else (none))) = some r := H
    have A18 := Aside0.mk A180
    clear A180
    by_cases c19 : t585 = 0
    ·
     rw [if_pos c19] at H
     have c19b0 : (t585 == 0) = true := beq_iff_eq.mpr c19
     have c19b1 : (t585 != 0) = false := bne_eq_false_iff_eq.mpr c19
     clear c19
     by_cases c20 : t583 = 0
     ·
      rw [if_pos c20] at H
      have c20b0 : (t583 == 0) = true := beq_iff_eq.mpr c20
      have c20b1 : (t583 != 0) = false := bne_eq_false_iff_eq.mpr c20
      clear c20
      replace H := Option.bind_eq_some_iff.mp H
      obtain ⟨t591, A210, H⟩ := H
      replace H : ((rehearse_End.f kj2 l0_0 l0_1 l0_2 a0_3 t580).bind fun bt592 => ((dancestudiolaw50_of.f).bind fun t594 => ((rehearse_Least.f kj2 l0_0 l0_1 l0_2 a0_3).bind fun bt595 => (if bt592.2 = 0 then (if bt595.2 = 0 then ((dancestudiolaw50_of.f).bind fun t597 => ((rehearse_Valid.f kj2 l0_0 l0_1 l0_2 a0_3 t580).bind fun t598 => (if t598 = 0 then (if bt592.1 < bt595.1 then (dancestudiolaw50_RehearseLeast.j1 kj2 l1 t580 t587 t588 bt592.1 true) else (if bt592.1 > a0_3 then (dancestudiolaw50_RehearseLeast.j1 kj2 l1 t580 t587 t588 bt592.1 true) else (dancestudiolaw50_RehearseLeast.j1 kj2 l1 t580 t587 t588 bt592.1 ((t580.length : Int) != (l0_0.length : Int))))) else (dancestudiolaw50_RehearseLeast.j1 kj2 l1 t580 t587 t588 bt592.1 true)))) else (dancestudiolaw50_RehearseLeast.j1 kj2 l1 t580 t587 t588 bt592.1 true)) else (dancestudiolaw50_RehearseLeast.j1 kj2 l1 t580 t587 t588 bt592.1 true))))) = some r := H
      have A21 := Aside0.mk A210
      clear A210
      replace H := Option.bind_eq_some_iff.mp H
      obtain ⟨⟨t592, t593⟩, A220, H⟩ := H
      replace H : ((dancestudiolaw50_of.f).bind fun t594 => ((rehearse_Least.f kj2 l0_0 l0_1 l0_2 a0_3).bind fun bt595 => (if t593 = 0 then (if bt595.2 = 0 then ((dancestudiolaw50_of.f).bind fun t597 => ((rehearse_Valid.f kj2 l0_0 l0_1 l0_2 a0_3 t580).bind fun t598 => (if t598 = 0 then (if t592 < bt595.1 then (dancestudiolaw50_RehearseLeast.j1 kj2 l1 t580 t587 t588 t592 true) else (if t592 > a0_3 then (dancestudiolaw50_RehearseLeast.j1 kj2 l1 t580 t587 t588 t592 true) else (dancestudiolaw50_RehearseLeast.j1 kj2 l1 t580 t587 t588 t592 ((t580.length : Int) != (l0_0.length : Int))))) else (dancestudiolaw50_RehearseLeast.j1 kj2 l1 t580 t587 t588 t592 true)))) else (dancestudiolaw50_RehearseLeast.j1 kj2 l1 t580 t587 t588 t592 true)) else (dancestudiolaw50_RehearseLeast.j1 kj2 l1 t580 t587 t588 t592 true)))) = some r := H
      have A22 := Aside0.mk A220
      clear A220
      replace H := Option.bind_eq_some_iff.mp H
      obtain ⟨t594, A230, H⟩ := H
      replace H : ((rehearse_Least.f kj2 l0_0 l0_1 l0_2 a0_3).bind fun bt595 => (if t593 = 0 then (if bt595.2 = 0 then ((dancestudiolaw50_of.f).bind fun t597 => ((rehearse_Valid.f kj2 l0_0 l0_1 l0_2 a0_3 t580).bind fun t598 => (if t598 = 0 then (if t592 < bt595.1 then (dancestudiolaw50_RehearseLeast.j1 kj2 l1 t580 t587 t588 t592 true) else (if t592 > a0_3 then (dancestudiolaw50_RehearseLeast.j1 kj2 l1 t580 t587 t588 t592 true) else (dancestudiolaw50_RehearseLeast.j1 kj2 l1 t580 t587 t588 t592 ((t580.length : Int) != (l0_0.length : Int))))) else (dancestudiolaw50_RehearseLeast.j1 kj2 l1 t580 t587 t588 t592 true)))) else (dancestudiolaw50_RehearseLeast.j1 kj2 l1 t580 t587 t588 t592 true)) else (dancestudiolaw50_RehearseLeast.j1 kj2 l1 t580 t587 t588 t592 true))) = some r := H
      have A23 := Aside0.mk A230
      clear A230
      replace H := Option.bind_eq_some_iff.mp H
      obtain ⟨⟨t595, t596⟩, A240, H⟩ := H
      replace H : (if t593 = 0 then (if t596 = 0 then ((dancestudiolaw50_of.f).bind fun t597 => ((rehearse_Valid.f kj2 l0_0 l0_1 l0_2 a0_3 t580).bind fun t598 => (if t598 = 0 then (if t592 < t595 then (dancestudiolaw50_RehearseLeast.j1 kj2 l1 t580 t587 t588 t592 true) else (if t592 > a0_3 then (dancestudiolaw50_RehearseLeast.j1 kj2 l1 t580 t587 t588 t592 true) else (dancestudiolaw50_RehearseLeast.j1 kj2 l1 t580 t587 t588 t592 ((t580.length : Int) != (l0_0.length : Int))))) else (dancestudiolaw50_RehearseLeast.j1 kj2 l1 t580 t587 t588 t592 true)))) else (dancestudiolaw50_RehearseLeast.j1 kj2 l1 t580 t587 t588 t592 true)) else (dancestudiolaw50_RehearseLeast.j1 kj2 l1 t580 t587 t588 t592 true)) = some r := H
      have A24 := Aside0.mk A240
      clear A240
      have HC25 := Aside0.mk H
      clear H
      have hcz26_0 : wc.cell? ⟨gb577, 0, none⟩ = some (.slice A0_0 l0_0.length c0_0) := (blk_cell BK577.out 0).trans rfl
      have hcz26_1 : wc.cell? ⟨gb577, 1, none⟩ = some (.slice A0_1 l0_1.length c0_1) := (blk_cell BK577.out 1).trans rfl
      have hcz26_2 : wc.cell? ⟨gb577, 2, none⟩ = some (.slice A0_2 l0_2.length c0_2) := (blk_cell BK577.out 2).trans rfl
      have hcz26_3 : wc.cell? ⟨gb577, 3, none⟩ = some (.int .i64 a0_3) := (blk_cell BK577.out 3).trans rfl
      have hfz26_0 := blk_frozen BK577.out 0
      have hfz26_1 := blk_frozen BK577.out 1
      have hfz26_2 := blk_frozen BK577.out 2
      have hfz26_3 := blk_frozen BK577.out 3
      go_upto_region 12 with (first | ((with_reducible refine gate_dst (N := 95) rfl ?_); refine goesL_ (some 95) rfl rfl Try.func11 (by kernel_rfl) rfl #[.agg #[.slice A0_0 l0_0.length c0_0, .slice A0_1 l0_1.length c0_1, .slice A0_2 l0_2.length c0_2, .int .i64 a0_3]] rfl (by (try simp only [List.map_toArray, List.map_cons, List.map_nil]); first | done | rfl | (simp only [List.length_drop, List.length_take]; rfl)) ?_; (with_reducible refine (dancestudiolaw50_of.calls  t594 _ A23.out).mono ?_); rintro e w40 ⟨rfl, hb⟩; refine ⟨_, rfl, ?_⟩; have n0_ := Aside0.mk (Kd.R_below (by (with_reducible repeat (first | apply Kd.R_alloc | apply Kd.R_drewN | apply Kd.R_drew)); exact HO582.out) hb); have n1_ := Aside0.mk (blk_below (g := gb577) (o := .cells #[.slice A0_0 l0_0.length c0_0, .slice A0_1 l0_1.length c0_1, .slice A0_2 l0_2.length c0_2, .int .i64 a0_3] 26 (0, 0)) (by (with_reducible repeat (first | refine blk_drewN ?_ _ | refine blk_drew ?_ | refine blk_alloc ?_ _)); exact BK577.out) hb); have n2_ := Aside0.mk (below_step (by repeat (first | (with_reducible first | exact HB.out | apply below_alloc | apply pw_below_drewN | apply below_drew1 | refine below_set ?_ GE577.out) | exact HB.out)) hb); clear HO582; clear BK577; clear HB; have HO582 := n0_; have BK577 := n1_; have HB := n2_; clear n0_ n1_ n2_; (try clear hb); (try clear hb2); (try clear hk); (try clear hi)) | ((with_reducible refine gate_callee (f := 21) rfl ?_); refine goesL_ (some 35) rfl rfl Try.func21 (by kernel_rfl) rfl #[.agg #[.slice A0_0 l0_0.length c0_0, .slice A0_1 l0_1.length c0_1, .slice A0_2 l0_2.length c0_2, .int .i64 a0_3]] rfl (by (try simp only [List.map_toArray, List.map_cons, List.map_nil]); first | done | rfl | (simp only [List.length_drop, List.length_take]; rfl)) ?_; (with_reducible refine (rehearse_Plan.calls kj2 _ _ l0_0 _ _ l0_1 _ _ l0_2 a0_3 t580 t583 _ ?side1 ?side2 ?side3 ?side4 ?side5 ?side6 ?sidem_ A14.out).mono ?_); (case sidem_ => first | ((repeat (first | exact HMX_.out | apply Mx.drewN | apply Mx.drew)); done) | (refine Mx.below HMX_.out ?_; (repeat (first | (with_reducible first | exact HB.out | apply below_alloc | apply pw_below_drewN | apply below_drew1 | refine below_set ?_ (Aside0.out (by assumption))) | exact HB.out)); done)); (case side1 => repeat (first | exact (Kd.C_below HR0_0.out HB.out) | (with_reducible refine Kd.C_alloc ?_ _) | (with_reducible refine Kd.C_drewN ?_ _) | (with_reducible refine Kd.C_drew ?_))); (case side2 => exact HC0_0.out); (case side3 => repeat (first | exact (Kd.C_below HR0_1.out HB.out) | (with_reducible refine Kd.C_alloc ?_ _) | (with_reducible refine Kd.C_drewN ?_ _) | (with_reducible refine Kd.C_drew ?_))); (case side4 => exact HC0_1.out); (case side5 => repeat (first | exact (Kd.C_below HR0_2.out HB.out) | (with_reducible refine Kd.C_alloc ?_ _) | (with_reducible refine Kd.C_drewN ?_ _) | (with_reducible refine Kd.C_drew ?_))); (case side6 => exact HC0_2.out); rintro e w28 ⟨v581, rfl, ho0, hb⟩; refine ⟨_, rfl, ?_⟩; have n0_ := Aside0.mk (Kd.R_lower ho0 (below_size (by repeat (first | (with_reducible first | exact HB.out | apply below_alloc | apply pw_below_drewN | apply below_drew1 | refine below_set ?_ GE577.out) | exact HB.out)))); have n1_ := Aside0.mk (blk_below (g := gb577) (o := .cells #[.slice A0_0 l0_0.length c0_0, .slice A0_1 l0_1.length c0_1, .slice A0_2 l0_2.length c0_2, .int .i64 a0_3] 26 (0, 0)) (by (with_reducible repeat (first | refine blk_drewN ?_ _ | refine blk_drew ?_ | refine blk_alloc ?_ _)); exact BK577.out) hb); have n2_ := Aside0.mk (below_step (by repeat (first | (with_reducible first | exact HB.out | apply below_alloc | apply pw_below_drewN | apply below_drew1 | refine below_set ?_ GE577.out) | exact HB.out)) hb); clear BK577; clear HB; have HO582 := n0_; have BK577 := n1_; have HB := n2_; clear n0_ n1_ n2_; (try clear hb); (try clear hb2); (try clear hk); (try clear hi); (try clear ho0); have hcz29_0 : w28.cell? ⟨gb577, 0, none⟩ = some (.slice A0_0 l0_0.length c0_0) := (blk_cell BK577.out 0).trans rfl; have hcz29_1 : w28.cell? ⟨gb577, 1, none⟩ = some (.slice A0_1 l0_1.length c0_1) := (blk_cell BK577.out 1).trans rfl; have hcz29_2 : w28.cell? ⟨gb577, 2, none⟩ = some (.slice A0_2 l0_2.length c0_2) := (blk_cell BK577.out 2).trans rfl; have hcz29_3 : w28.cell? ⟨gb577, 3, none⟩ = some (.int .i64 a0_3) := (blk_cell BK577.out 3).trans rfl; have hfz29_0 := blk_frozen BK577.out 0; have hfz29_1 := blk_frozen BK577.out 1; have hfz29_2 := blk_frozen BK577.out 2; have hfz29_3 := blk_frozen BK577.out 3) | ((with_reducible refine gate_dst (N := 88) rfl ?_); refine goesL_ (some 88) rfl rfl Try.func11 (by kernel_rfl) rfl #[.agg #[.slice A0_0 l0_0.length c0_0, .slice A0_1 l0_1.length c0_1, .slice A0_2 l0_2.length c0_2, .int .i64 a0_3]] rfl (by (try simp only [List.map_toArray, List.map_cons, List.map_nil]); first | done | rfl | (simp only [List.length_drop, List.length_take]; rfl)) ?_; (with_reducible refine (dancestudiolaw50_of.calls  t591 _ A21.out).mono ?_); rintro e w36 ⟨rfl, hb⟩; refine ⟨_, rfl, ?_⟩; have n0_ := Aside0.mk (Kd.R_below (by (with_reducible repeat (first | apply Kd.R_alloc | apply Kd.R_drewN | apply Kd.R_drew)); exact HO582.out) hb); have n1_ := Aside0.mk (blk_below (g := gb577) (o := .cells #[.slice A0_0 l0_0.length c0_0, .slice A0_1 l0_1.length c0_1, .slice A0_2 l0_2.length c0_2, .int .i64 a0_3] 26 (0, 0)) (by (with_reducible repeat (first | refine blk_drewN ?_ _ | refine blk_drew ?_ | refine blk_alloc ?_ _)); exact BK577.out) hb); have n2_ := Aside0.mk (below_step (by repeat (first | (with_reducible first | exact HB.out | apply below_alloc | apply pw_below_drewN | apply below_drew1 | refine below_set ?_ GE577.out) | exact HB.out)) hb); clear HO582; clear BK577; clear HB; have HO582 := n0_; have BK577 := n1_; have HB := n2_; clear n0_ n1_ n2_; (try clear hb); (try clear hb2); (try clear hk); (try clear hi); obtain ⟨Ao37, co37, eo37⟩ := Kd.R_slice HO582.out; subst eo37) | ((with_reducible refine gate_callee (f := 13) rfl ?_); refine goesL_ (some 40) rfl rfl Try.func13 (by kernel_rfl) rfl #[.agg #[.slice A0_0 l0_0.length c0_0, .slice A0_1 l0_1.length c0_1, .slice A0_2 l0_2.length c0_2, .int .i64 a0_3]] rfl (by (try simp only [List.map_toArray, List.map_cons, List.map_nil]); first | done | rfl | (simp only [List.length_drop, List.length_take]; rfl)) ?_; (with_reducible refine (rehearse_Check.calls kj2 _ _ l0_0 _ _ l0_1 _ _ l0_2 a0_3 t585 _ ?side1 ?side2 ?side3 ?side4 ?side5 ?side6 ?sidem_ A16.out).mono ?_); (case sidem_ => first | ((repeat (first | exact HMX_.out | apply Mx.drewN | apply Mx.drew)); done) | (refine Mx.below HMX_.out ?_; (repeat (first | (with_reducible first | exact HB.out | apply below_alloc | apply pw_below_drewN | apply below_drew1 | refine below_set ?_ (Aside0.out (by assumption))) | exact HB.out)); done)); (case side1 => repeat (first | exact (Kd.C_below HR0_0.out HB.out) | (with_reducible refine Kd.C_alloc ?_ _) | (with_reducible refine Kd.C_drewN ?_ _) | (with_reducible refine Kd.C_drew ?_))); (case side2 => exact HC0_0.out); (case side3 => repeat (first | exact (Kd.C_below HR0_1.out HB.out) | (with_reducible refine Kd.C_alloc ?_ _) | (with_reducible refine Kd.C_drewN ?_ _) | (with_reducible refine Kd.C_drew ?_))); (case side4 => exact HC0_1.out); (case side5 => repeat (first | exact (Kd.C_below HR0_2.out HB.out) | (with_reducible refine Kd.C_alloc ?_ _) | (with_reducible refine Kd.C_drewN ?_ _) | (with_reducible refine Kd.C_drew ?_))); (case side6 => exact HC0_2.out); rintro e w31 ⟨rfl, hb⟩; refine ⟨_, rfl, ?_⟩; have n0_ := Aside0.mk (Kd.R_below (by (with_reducible repeat (first | apply Kd.R_alloc | apply Kd.R_drewN | apply Kd.R_drew)); exact HO582.out) hb); have n1_ := Aside0.mk (blk_below (g := gb577) (o := .cells #[.slice A0_0 l0_0.length c0_0, .slice A0_1 l0_1.length c0_1, .slice A0_2 l0_2.length c0_2, .int .i64 a0_3] 26 (0, 0)) (by (with_reducible repeat (first | refine blk_drewN ?_ _ | refine blk_drew ?_ | refine blk_alloc ?_ _)); exact BK577.out) hb); have n2_ := Aside0.mk (below_step (by repeat (first | (with_reducible first | exact HB.out | apply below_alloc | apply pw_below_drewN | apply below_drew1 | refine below_set ?_ GE577.out) | exact HB.out)) hb); clear HO582; clear BK577; clear HB; have HO582 := n0_; have BK577 := n1_; have HB := n2_; clear n0_ n1_ n2_; (try clear hb); (try clear hb2); (try clear hk); (try clear hi); have hcz32_0 : w31.cell? ⟨gb577, 0, none⟩ = some (.slice A0_0 l0_0.length c0_0) := (blk_cell BK577.out 0).trans rfl; have hcz32_1 : w31.cell? ⟨gb577, 1, none⟩ = some (.slice A0_1 l0_1.length c0_1) := (blk_cell BK577.out 1).trans rfl; have hcz32_2 : w31.cell? ⟨gb577, 2, none⟩ = some (.slice A0_2 l0_2.length c0_2) := (blk_cell BK577.out 2).trans rfl; have hcz32_3 : w31.cell? ⟨gb577, 3, none⟩ = some (.int .i64 a0_3) := (blk_cell BK577.out 3).trans rfl; have hfz32_0 := blk_frozen BK577.out 0; have hfz32_1 := blk_frozen BK577.out 1; have hfz32_2 := blk_frozen BK577.out 2; have hfz32_3 := blk_frozen BK577.out 3) | ((with_reducible refine gate_dst (N := 43) rfl ?_); refine goesL_ (some 43) rfl rfl Try.func11 (by kernel_rfl) rfl #[.agg #[.slice A0_0 l0_0.length c0_0, .slice A0_1 l0_1.length c0_1, .slice A0_2 l0_2.length c0_2, .int .i64 a0_3]] rfl (by (try simp only [List.map_toArray, List.map_cons, List.map_nil]); first | done | rfl | (simp only [List.length_drop, List.length_take]; rfl)) ?_; (with_reducible refine (dancestudiolaw50_of.calls  t586 _ A17.out).mono ?_); rintro e w33 ⟨rfl, hb⟩; refine ⟨_, rfl, ?_⟩; have n0_ := Aside0.mk (Kd.R_below (by (with_reducible repeat (first | apply Kd.R_alloc | apply Kd.R_drewN | apply Kd.R_drew)); exact HO582.out) hb); have n1_ := Aside0.mk (blk_below (g := gb577) (o := .cells #[.slice A0_0 l0_0.length c0_0, .slice A0_1 l0_1.length c0_1, .slice A0_2 l0_2.length c0_2, .int .i64 a0_3] 26 (0, 0)) (by (with_reducible repeat (first | refine blk_drewN ?_ _ | refine blk_drew ?_ | refine blk_alloc ?_ _)); exact BK577.out) hb); have n2_ := Aside0.mk (below_step (by repeat (first | (with_reducible first | exact HB.out | apply below_alloc | apply pw_below_drewN | apply below_drew1 | refine below_set ?_ GE577.out) | exact HB.out)) hb); clear HO582; clear BK577; clear HB; have HO582 := n0_; have BK577 := n1_; have HB := n2_; clear n0_ n1_ n2_; (try clear hb); (try clear hb2); (try clear hk); (try clear hi)) | ((with_reducible refine gate_callee (f := 16) rfl ?_); refine goesL_ (some 90) rfl rfl Try.func16 (by kernel_rfl) rfl #[.agg #[.slice A0_0 l0_0.length c0_0, .slice A0_1 l0_1.length c0_1, .slice A0_2 l0_2.length c0_2, .int .i64 a0_3], .slice Ao37 t580.length co37] rfl (by (try simp only [List.map_toArray, List.map_cons, List.map_nil]); first | done | rfl | (simp only [List.length_drop, List.length_take]; rfl)) ?_; (with_reducible refine (rehearse_End.calls kj2 _ _ l0_0 _ _ l0_1 _ _ l0_2 a0_3 _ _ t580 t592 t593 _ ?side1 ?side2 ?side3 ?side4 ?side5 ?side6 ?side7 ?side8 ?sidem_ A22.out).mono ?_); (case sidem_ => first | ((repeat (first | exact HMX_.out | apply Mx.drewN | apply Mx.drew)); done) | (refine Mx.below HMX_.out ?_; (repeat (first | (with_reducible first | exact HB.out | apply below_alloc | apply pw_below_drewN | apply below_drew1 | refine below_set ?_ (Aside0.out (by assumption))) | exact HB.out)); done)); (case side1 => repeat (first | exact (Kd.C_below HR0_0.out HB.out) | (with_reducible refine Kd.C_alloc ?_ _) | (with_reducible refine Kd.C_drewN ?_ _) | (with_reducible refine Kd.C_drew ?_))); (case side2 => exact HC0_0.out); (case side3 => repeat (first | exact (Kd.C_below HR0_1.out HB.out) | (with_reducible refine Kd.C_alloc ?_ _) | (with_reducible refine Kd.C_drewN ?_ _) | (with_reducible refine Kd.C_drew ?_))); (case side4 => exact HC0_1.out); (case side5 => repeat (first | exact (Kd.C_below HR0_2.out HB.out) | (with_reducible refine Kd.C_alloc ?_ _) | (with_reducible refine Kd.C_drewN ?_ _) | (with_reducible refine Kd.C_drew ?_))); (case side6 => exact HC0_2.out); (case side7 => repeat (first | exact (Kd.R_reads' HO582.out).2.2 | (with_reducible refine Kd.C_alloc ?_ _) | (with_reducible refine Kd.C_drewN ?_ _) | (with_reducible refine Kd.C_drew ?_))); (case side8 => exact (Kd.R_reads' HO582.out).2.1); rintro e w38 ⟨rfl, hb⟩; refine ⟨_, rfl, ?_⟩; have n0_ := Aside0.mk (Kd.R_below (by (with_reducible repeat (first | apply Kd.R_alloc | apply Kd.R_drewN | apply Kd.R_drew)); exact HO582.out) hb); have n1_ := Aside0.mk (blk_below (g := gb577) (o := .cells #[.slice A0_0 l0_0.length c0_0, .slice A0_1 l0_1.length c0_1, .slice A0_2 l0_2.length c0_2, .int .i64 a0_3] 26 (0, 0)) (by (with_reducible repeat (first | refine blk_drewN ?_ _ | refine blk_drew ?_ | refine blk_alloc ?_ _)); exact BK577.out) hb); have n2_ := Aside0.mk (below_step (by repeat (first | (with_reducible first | exact HB.out | apply below_alloc | apply pw_below_drewN | apply below_drew1 | refine below_set ?_ GE577.out) | exact HB.out)) hb); clear HO582; clear BK577; clear HB; have HO582 := n0_; have BK577 := n1_; have HB := n2_; clear n0_ n1_ n2_; (try clear hb); (try clear hb2); (try clear hk); (try clear hi); have hcz39_0 : w38.cell? ⟨gb577, 0, none⟩ = some (.slice A0_0 l0_0.length c0_0) := (blk_cell BK577.out 0).trans rfl; have hcz39_1 : w38.cell? ⟨gb577, 1, none⟩ = some (.slice A0_1 l0_1.length c0_1) := (blk_cell BK577.out 1).trans rfl; have hcz39_2 : w38.cell? ⟨gb577, 2, none⟩ = some (.slice A0_2 l0_2.length c0_2) := (blk_cell BK577.out 2).trans rfl; have hcz39_3 : w38.cell? ⟨gb577, 3, none⟩ = some (.int .i64 a0_3) := (blk_cell BK577.out 3).trans rfl; have hfz39_0 := blk_frozen BK577.out 0; have hfz39_1 := blk_frozen BK577.out 1; have hfz39_2 := blk_frozen BK577.out 2; have hfz39_3 := blk_frozen BK577.out 3) | ((with_reducible refine gate_dst (N := 39) rfl ?_); refine goesL_ (some 39) rfl rfl Try.func11 (by kernel_rfl) rfl #[.agg #[.slice A0_0 l0_0.length c0_0, .slice A0_1 l0_1.length c0_1, .slice A0_2 l0_2.length c0_2, .int .i64 a0_3]] rfl (by (try simp only [List.map_toArray, List.map_cons, List.map_nil]); first | done | rfl | (simp only [List.length_drop, List.length_take]; rfl)) ?_; (with_reducible refine (dancestudiolaw50_of.calls  t584 _ A15.out).mono ?_); rintro e w30 ⟨rfl, hb⟩; refine ⟨_, rfl, ?_⟩; have n0_ := Aside0.mk (Kd.R_below (by (with_reducible repeat (first | apply Kd.R_alloc | apply Kd.R_drewN | apply Kd.R_drew)); exact HO582.out) hb); have n1_ := Aside0.mk (blk_below (g := gb577) (o := .cells #[.slice A0_0 l0_0.length c0_0, .slice A0_1 l0_1.length c0_1, .slice A0_2 l0_2.length c0_2, .int .i64 a0_3] 26 (0, 0)) (by (with_reducible repeat (first | refine blk_drewN ?_ _ | refine blk_drew ?_ | refine blk_alloc ?_ _)); exact BK577.out) hb); have n2_ := Aside0.mk (below_step (by repeat (first | (with_reducible first | exact HB.out | apply below_alloc | apply pw_below_drewN | apply below_drew1 | refine below_set ?_ GE577.out) | exact HB.out)) hb); clear HO582; clear BK577; clear HB; have HO582 := n0_; have BK577 := n1_; have HB := n2_; clear n0_ n1_ n2_; (try clear hb); (try clear hb2); (try clear hk); (try clear hi)) | ((with_reducible refine gate_callee (f := 16) rfl ?_); refine goesL_ (some 45) rfl rfl Try.func16 (by kernel_rfl) rfl #[.agg #[.slice A0_0 l0_0.length c0_0, .slice A0_1 l0_1.length c0_1, .slice A0_2 l0_2.length c0_2, .int .i64 a0_3], .slice A1 l1.length c1] rfl (by (try simp only [List.map_toArray, List.map_cons, List.map_nil]); first | done | rfl | (simp only [List.length_drop, List.length_take]; rfl)) ?_; (with_reducible refine (rehearse_End.calls kj2 _ _ l0_0 _ _ l0_1 _ _ l0_2 a0_3 _ _ l1 t587 t588 _ ?side1 ?side2 ?side3 ?side4 ?side5 ?side6 ?side7 ?side8 ?sidem_ A18.out).mono ?_); (case sidem_ => first | ((repeat (first | exact HMX_.out | apply Mx.drewN | apply Mx.drew)); done) | (refine Mx.below HMX_.out ?_; (repeat (first | (with_reducible first | exact HB.out | apply below_alloc | apply pw_below_drewN | apply below_drew1 | refine below_set ?_ (Aside0.out (by assumption))) | exact HB.out)); done)); (case side1 => repeat (first | exact (Kd.C_below HR0_0.out HB.out) | (with_reducible refine Kd.C_alloc ?_ _) | (with_reducible refine Kd.C_drewN ?_ _) | (with_reducible refine Kd.C_drew ?_))); (case side2 => exact HC0_0.out); (case side3 => repeat (first | exact (Kd.C_below HR0_1.out HB.out) | (with_reducible refine Kd.C_alloc ?_ _) | (with_reducible refine Kd.C_drewN ?_ _) | (with_reducible refine Kd.C_drew ?_))); (case side4 => exact HC0_1.out); (case side5 => repeat (first | exact (Kd.C_below HR0_2.out HB.out) | (with_reducible refine Kd.C_alloc ?_ _) | (with_reducible refine Kd.C_drewN ?_ _) | (with_reducible refine Kd.C_drew ?_))); (case side6 => exact HC0_2.out); (case side7 => repeat (first | exact (Kd.C_below HR1.out HB.out) | (with_reducible refine Kd.C_alloc ?_ _) | (with_reducible refine Kd.C_drewN ?_ _) | (with_reducible refine Kd.C_drew ?_))); (case side8 => exact HC1.out); rintro e w34 ⟨rfl, hb⟩; refine ⟨_, rfl, ?_⟩; have n0_ := Aside0.mk (Kd.R_below (by (with_reducible repeat (first | apply Kd.R_alloc | apply Kd.R_drewN | apply Kd.R_drew)); exact HO582.out) hb); have n1_ := Aside0.mk (blk_below (g := gb577) (o := .cells #[.slice A0_0 l0_0.length c0_0, .slice A0_1 l0_1.length c0_1, .slice A0_2 l0_2.length c0_2, .int .i64 a0_3] 26 (0, 0)) (by (with_reducible repeat (first | refine blk_drewN ?_ _ | refine blk_drew ?_ | refine blk_alloc ?_ _)); exact BK577.out) hb); have n2_ := Aside0.mk (below_step (by repeat (first | (with_reducible first | exact HB.out | apply below_alloc | apply pw_below_drewN | apply below_drew1 | refine below_set ?_ GE577.out) | exact HB.out)) hb); clear HO582; clear BK577; clear HB; have HO582 := n0_; have BK577 := n1_; have HB := n2_; clear n0_ n1_ n2_; (try clear hb); (try clear hb2); (try clear hk); (try clear hi); have hcz35_0 : w34.cell? ⟨gb577, 0, none⟩ = some (.slice A0_0 l0_0.length c0_0) := (blk_cell BK577.out 0).trans rfl; have hcz35_1 : w34.cell? ⟨gb577, 1, none⟩ = some (.slice A0_1 l0_1.length c0_1) := (blk_cell BK577.out 1).trans rfl; have hcz35_2 : w34.cell? ⟨gb577, 2, none⟩ = some (.slice A0_2 l0_2.length c0_2) := (blk_cell BK577.out 2).trans rfl; have hcz35_3 : w34.cell? ⟨gb577, 3, none⟩ = some (.int .i64 a0_3) := (blk_cell BK577.out 3).trans rfl; have hfz35_0 := blk_frozen BK577.out 0; have hfz35_1 := blk_frozen BK577.out 1; have hfz35_2 := blk_frozen BK577.out 2; have hfz35_3 := blk_frozen BK577.out 3) | ((with_reducible refine gate_dst (N := 34) rfl ?_); refine goesL_ (some 34) rfl rfl Try.func11 (by kernel_rfl) rfl #[.agg #[.slice A0_0 l0_0.length c0_0, .slice A0_1 l0_1.length c0_1, .slice A0_2 l0_2.length c0_2, .int .i64 a0_3]] rfl (by (try simp only [List.map_toArray, List.map_cons, List.map_nil]); first | done | rfl | (simp only [List.length_drop, List.length_take]; rfl)) ?_; (with_reducible refine (dancestudiolaw50_of.calls  t579 _ A13.out).mono ?_); rintro e w27 ⟨rfl, hb⟩; refine ⟨_, rfl, ?_⟩; have n0_ := Aside0.mk (blk_below (g := gb577) (o := .cells #[.slice A0_0 l0_0.length c0_0, .slice A0_1 l0_1.length c0_1, .slice A0_2 l0_2.length c0_2, .int .i64 a0_3] 26 (0, 0)) (by (with_reducible repeat (first | refine blk_drewN ?_ _ | refine blk_drew ?_ | refine blk_alloc ?_ _)); exact BK577.out) hb); have n1_ := Aside0.mk (below_step (by repeat (first | (with_reducible first | exact HB.out | apply below_alloc | apply pw_below_drewN | apply below_drew1 | refine below_set ?_ GE577.out) | exact HB.out)) hb); clear BK577; clear HB; have BK577 := n0_; have HB := n1_; clear n0_ n1_; (try clear hb); (try clear hb2); (try clear hk); (try clear hi)) | ((with_reducible refine gate_callee (f := 10) rfl ?_); refine goesL_ (some 96) rfl rfl Try.func10 (by kernel_rfl) rfl #[.agg #[.slice A0_0 l0_0.length c0_0, .slice A0_1 l0_1.length c0_1, .slice A0_2 l0_2.length c0_2, .int .i64 a0_3]] rfl (by (try simp only [List.map_toArray, List.map_cons, List.map_nil]); first | done | rfl | (simp only [List.length_drop, List.length_take]; rfl)) ?_; (with_reducible refine (rehearse_Least.calls kj2 _ _ l0_0 _ _ l0_1 _ _ l0_2 a0_3 t595 t596 _ ?side1 ?side2 ?side3 ?side4 ?side5 ?side6 ?sidem_ A24.out).mono ?_); (case sidem_ => first | ((repeat (first | exact HMX_.out | apply Mx.drewN | apply Mx.drew)); done) | (refine Mx.below HMX_.out ?_; (repeat (first | (with_reducible first | exact HB.out | apply below_alloc | apply pw_below_drewN | apply below_drew1 | refine below_set ?_ (Aside0.out (by assumption))) | exact HB.out)); done)); (case side1 => repeat (first | exact (Kd.C_below HR0_0.out HB.out) | (with_reducible refine Kd.C_alloc ?_ _) | (with_reducible refine Kd.C_drewN ?_ _) | (with_reducible refine Kd.C_drew ?_))); (case side2 => exact HC0_0.out); (case side3 => repeat (first | exact (Kd.C_below HR0_1.out HB.out) | (with_reducible refine Kd.C_alloc ?_ _) | (with_reducible refine Kd.C_drewN ?_ _) | (with_reducible refine Kd.C_drew ?_))); (case side4 => exact HC0_1.out); (case side5 => repeat (first | exact (Kd.C_below HR0_2.out HB.out) | (with_reducible refine Kd.C_alloc ?_ _) | (with_reducible refine Kd.C_drewN ?_ _) | (with_reducible refine Kd.C_drew ?_))); (case side6 => exact HC0_2.out); rintro e w41 ⟨rfl, hb⟩; refine ⟨_, rfl, ?_⟩; have n0_ := Aside0.mk (Kd.R_below (by (with_reducible repeat (first | apply Kd.R_alloc | apply Kd.R_drewN | apply Kd.R_drew)); exact HO582.out) hb); have n1_ := Aside0.mk (blk_below (g := gb577) (o := .cells #[.slice A0_0 l0_0.length c0_0, .slice A0_1 l0_1.length c0_1, .slice A0_2 l0_2.length c0_2, .int .i64 a0_3] 26 (0, 0)) (by (with_reducible repeat (first | refine blk_drewN ?_ _ | refine blk_drew ?_ | refine blk_alloc ?_ _)); exact BK577.out) hb); have n2_ := Aside0.mk (below_step (by repeat (first | (with_reducible first | exact HB.out | apply below_alloc | apply pw_below_drewN | apply below_drew1 | refine below_set ?_ GE577.out) | exact HB.out)) hb); clear HO582; clear BK577; clear HB; have HO582 := n0_; have BK577 := n1_; have HB := n2_; clear n0_ n1_ n2_; (try clear hb); (try clear hb2); (try clear hk); (try clear hi)))
      (try simp only [Act.put, List.setIfInBounds_toArray, List.set_cons_zero, List.set_cons_succ])
      go_cut [130] (fun v130 wc => ∃ (kq : Nat) (x130_24 : Bool), v130 = .bool x130_24 ∧ Aside0 (dancestudiolaw50_RehearseLeast.j1 kq l1 t580 t587 t588 t592 x130_24 = some r) ∧ Aside0 (kq ≤ kj2) ∧ Aside0 (Kd.R k48 48 wc w.heap.size (fun _ => True) (.slice Ao37 t580.length co37) t580) ∧ Aside0 (wc.heap[gb577]? = some (.cells #[(.slice A0_0 l0_0.length c0_0), (.slice A0_1 l0_1.length c0_1), (.slice A0_2 l0_2.length c0_2), .int .i64 a0_3] 26 (0, 0))) ∧ Aside0 (Below w.heap.size w wc))
      case first => as_aux_lemma =>
       have H := HC25.out
       clear HC25
       by_cases c42 : t593 = 0
       ·
        rw [if_pos c42] at H
        have c42b0 : (t593 == 0) = true := beq_iff_eq.mpr c42
        have c42b1 : (t593 != 0) = false := bne_eq_false_iff_eq.mpr c42
        clear c42
        (first | rw [c42b0] | (simp only [i64_w, i32_w]; rw [c42b0]) | skip)
        by_cases c43 : t596 = 0
        ·
         rw [if_pos c43] at H
         have c43b0 : (t596 == 0) = true := beq_iff_eq.mpr c43
         have c43b1 : (t596 != 0) = false := bne_eq_false_iff_eq.mpr c43
         clear c43
         replace H := Option.bind_eq_some_iff.mp H
         obtain ⟨t597, A440, H⟩ := H
         replace H : ((rehearse_Valid.f kj2 l0_0 l0_1 l0_2 a0_3 t580).bind fun t598 => (if t598 = 0 then (if t592 < t595 then (dancestudiolaw50_RehearseLeast.j1 kj2 l1 t580 t587 t588 t592 true) else (if t592 > a0_3 then (dancestudiolaw50_RehearseLeast.j1 kj2 l1 t580 t587 t588 t592 true) else (dancestudiolaw50_RehearseLeast.j1 kj2 l1 t580 t587 t588 t592 ((t580.length : Int) != (l0_0.length : Int))))) else (dancestudiolaw50_RehearseLeast.j1 kj2 l1 t580 t587 t588 t592 true))) = some r := H
         have A44 := Aside0.mk A440
         clear A440
         replace H := Option.bind_eq_some_iff.mp H
         obtain ⟨t598, A450, H⟩ := H
         replace H : (if t598 = 0 then (if t592 < t595 then (dancestudiolaw50_RehearseLeast.j1 kj2 l1 t580 t587 t588 t592 true) else (if t592 > a0_3 then (dancestudiolaw50_RehearseLeast.j1 kj2 l1 t580 t587 t588 t592 true) else (dancestudiolaw50_RehearseLeast.j1 kj2 l1 t580 t587 t588 t592 ((t580.length : Int) != (l0_0.length : Int))))) else (dancestudiolaw50_RehearseLeast.j1 kj2 l1 t580 t587 t588 t592 true)) = some r := H
         have A45 := Aside0.mk A450
         clear A450
         by_cases c46 : t598 = 0
         ·
          rw [if_pos c46] at H
          have c46b0 : (t598 == 0) = true := beq_iff_eq.mpr c46
          have c46b1 : (t598 != 0) = false := bne_eq_false_iff_eq.mpr c46
          clear c46
          by_cases c47 : t592 < t595
          ·
           rw [if_pos c47] at H
           have c47b0 : decide (t592 < t595) = true := decide_eq_true c47
           clear c47
           have H' := Aside0.mk H
           clear H
           have hcz48_0 : w41.cell? ⟨gb577, 0, none⟩ = some (.slice A0_0 l0_0.length c0_0) := (blk_cell BK577.out 0).trans rfl
           have hcz48_1 : w41.cell? ⟨gb577, 1, none⟩ = some (.slice A0_1 l0_1.length c0_1) := (blk_cell BK577.out 1).trans rfl
           have hcz48_2 : w41.cell? ⟨gb577, 2, none⟩ = some (.slice A0_2 l0_2.length c0_2) := (blk_cell BK577.out 2).trans rfl
           have hcz48_3 : w41.cell? ⟨gb577, 3, none⟩ = some (.int .i64 a0_3) := (blk_cell BK577.out 3).trans rfl
           have hfz48_0 := blk_frozen BK577.out 0
           have hfz48_1 := blk_frozen BK577.out 1
           have hfz48_2 := blk_frozen BK577.out 2
           have hfz48_3 := blk_frozen BK577.out 3
           go_wp2_with (first | (go_at_call 11; (with_reducible refine (dancestudiolaw50_of.calls  t597 _ A44.out).mono ?_); rintro e w49 ⟨rfl, hb⟩; have n0_ := Aside0.mk (Kd.R_below (by (with_reducible repeat (first | apply Kd.R_alloc | apply Kd.R_drewN | apply Kd.R_drew)); exact HO582.out) hb); have n1_ := Aside0.mk (blk_below (g := gb577) (o := .cells #[.slice A0_0 l0_0.length c0_0, .slice A0_1 l0_1.length c0_1, .slice A0_2 l0_2.length c0_2, .int .i64 a0_3] 26 (0, 0)) (by (with_reducible repeat (first | refine blk_drewN ?_ _ | refine blk_drew ?_ | refine blk_alloc ?_ _)); exact BK577.out) hb); have n2_ := Aside0.mk (below_step (by repeat (first | (with_reducible first | exact HB.out | apply below_alloc | apply pw_below_drewN | apply below_drew1 | refine below_set ?_ GE577.out) | exact HB.out)) hb); clear HO582; clear BK577; clear HB; have HO582 := n0_; have BK577 := n1_; have HB := n2_; clear n0_ n1_ n2_; (try clear hb); (try clear hb2); (try clear hk); (try clear hi)) | (go_at_call 18; (with_reducible refine (rehearse_Valid.calls kj2 _ _ l0_0 _ _ l0_1 _ _ l0_2 a0_3 _ _ t580 t598 _ ?side1 ?side2 ?side3 ?side4 ?side5 ?side6 ?side7 ?side8 ?sidem_ A45.out).mono ?_); (case sidem_ => first | ((repeat (first | exact HMX_.out | apply Mx.drewN | apply Mx.drew)); done) | (refine Mx.below HMX_.out ?_; (repeat (first | (with_reducible first | exact HB.out | apply below_alloc | apply pw_below_drewN | apply below_drew1 | refine below_set ?_ (Aside0.out (by assumption))) | exact HB.out)); done)); (case side1 => repeat (first | exact (Kd.C_below HR0_0.out HB.out) | (with_reducible refine Kd.C_alloc ?_ _) | (with_reducible refine Kd.C_drewN ?_ _) | (with_reducible refine Kd.C_drew ?_))); (case side2 => exact HC0_0.out); (case side3 => repeat (first | exact (Kd.C_below HR0_1.out HB.out) | (with_reducible refine Kd.C_alloc ?_ _) | (with_reducible refine Kd.C_drewN ?_ _) | (with_reducible refine Kd.C_drew ?_))); (case side4 => exact HC0_1.out); (case side5 => repeat (first | exact (Kd.C_below HR0_2.out HB.out) | (with_reducible refine Kd.C_alloc ?_ _) | (with_reducible refine Kd.C_drewN ?_ _) | (with_reducible refine Kd.C_drew ?_))); (case side6 => exact HC0_2.out); (case side7 => repeat (first | exact (Kd.R_reads' HO582.out).2.2 | (with_reducible refine Kd.C_alloc ?_ _) | (with_reducible refine Kd.C_drewN ?_ _) | (with_reducible refine Kd.C_drew ?_))); (case side8 => exact (Kd.R_reads' HO582.out).2.1); rintro e w50 ⟨rfl, hb⟩; have n0_ := Aside0.mk (Kd.R_below (by (with_reducible repeat (first | apply Kd.R_alloc | apply Kd.R_drewN | apply Kd.R_drew)); exact HO582.out) hb); have n1_ := Aside0.mk (blk_below (g := gb577) (o := .cells #[.slice A0_0 l0_0.length c0_0, .slice A0_1 l0_1.length c0_1, .slice A0_2 l0_2.length c0_2, .int .i64 a0_3] 26 (0, 0)) (by (with_reducible repeat (first | refine blk_drewN ?_ _ | refine blk_drew ?_ | refine blk_alloc ?_ _)); exact BK577.out) hb); have n2_ := Aside0.mk (below_step (by repeat (first | (with_reducible first | exact HB.out | apply below_alloc | apply pw_below_drewN | apply below_drew1 | refine below_set ?_ GE577.out) | exact HB.out)) hb); clear HO582; clear BK577; clear HB; have HO582 := n0_; have BK577 := n1_; have HB := n2_; clear n0_ n1_ n2_; (try clear hb); (try clear hb2); (try clear hk); (try clear hi)))
           go_meet
           case rel => exact ⟨_, (true), (by first | rfl | (simp; done) | (simp [*]; done)), H', ⟨by have := HJ2.out; first | omega | exact Nat.le_refl _⟩, ⟨by (with_reducible repeat (first | apply Kd.R_alloc | apply Kd.R_drewN | apply Kd.R_drew)); exact HO582.out⟩, ⟨by (with_reducible repeat (first | refine blk_drewN ?_ _ | refine blk_drew ?_ | refine blk_alloc ?_ _)); exact BK577.out⟩, ⟨by repeat (first | (with_reducible first | exact HB.out | apply below_alloc | apply pw_below_drewN | apply below_drew1 | refine below_set ?_ GE577.out) | exact HB.out)⟩⟩
          ·
           rw [if_neg c47] at H
           have c47b0 : decide (t592 < t595) = false := decide_eq_false c47
           clear c47
           by_cases c51 : t592 > a0_3
           ·
            rw [if_pos c51] at H
            have c51b0 : decide (a0_3 < t592) = true := decide_eq_true c51
            clear c51
            have H' := Aside0.mk H
            clear H
            have hcz52_0 : w41.cell? ⟨gb577, 0, none⟩ = some (.slice A0_0 l0_0.length c0_0) := (blk_cell BK577.out 0).trans rfl
            have hcz52_1 : w41.cell? ⟨gb577, 1, none⟩ = some (.slice A0_1 l0_1.length c0_1) := (blk_cell BK577.out 1).trans rfl
            have hcz52_2 : w41.cell? ⟨gb577, 2, none⟩ = some (.slice A0_2 l0_2.length c0_2) := (blk_cell BK577.out 2).trans rfl
            have hcz52_3 : w41.cell? ⟨gb577, 3, none⟩ = some (.int .i64 a0_3) := (blk_cell BK577.out 3).trans rfl
            have hfz52_0 := blk_frozen BK577.out 0
            have hfz52_1 := blk_frozen BK577.out 1
            have hfz52_2 := blk_frozen BK577.out 2
            have hfz52_3 := blk_frozen BK577.out 3
            go_wp2_with (first | (go_at_call 11; (with_reducible refine (dancestudiolaw50_of.calls  t597 _ A44.out).mono ?_); rintro e w53 ⟨rfl, hb⟩; have n0_ := Aside0.mk (Kd.R_below (by (with_reducible repeat (first | apply Kd.R_alloc | apply Kd.R_drewN | apply Kd.R_drew)); exact HO582.out) hb); have n1_ := Aside0.mk (blk_below (g := gb577) (o := .cells #[.slice A0_0 l0_0.length c0_0, .slice A0_1 l0_1.length c0_1, .slice A0_2 l0_2.length c0_2, .int .i64 a0_3] 26 (0, 0)) (by (with_reducible repeat (first | refine blk_drewN ?_ _ | refine blk_drew ?_ | refine blk_alloc ?_ _)); exact BK577.out) hb); have n2_ := Aside0.mk (below_step (by repeat (first | (with_reducible first | exact HB.out | apply below_alloc | apply pw_below_drewN | apply below_drew1 | refine below_set ?_ GE577.out) | exact HB.out)) hb); clear HO582; clear BK577; clear HB; have HO582 := n0_; have BK577 := n1_; have HB := n2_; clear n0_ n1_ n2_; (try clear hb); (try clear hb2); (try clear hk); (try clear hi)) | (go_at_call 18; (with_reducible refine (rehearse_Valid.calls kj2 _ _ l0_0 _ _ l0_1 _ _ l0_2 a0_3 _ _ t580 t598 _ ?side1 ?side2 ?side3 ?side4 ?side5 ?side6 ?side7 ?side8 ?sidem_ A45.out).mono ?_); (case sidem_ => first | ((repeat (first | exact HMX_.out | apply Mx.drewN | apply Mx.drew)); done) | (refine Mx.below HMX_.out ?_; (repeat (first | (with_reducible first | exact HB.out | apply below_alloc | apply pw_below_drewN | apply below_drew1 | refine below_set ?_ (Aside0.out (by assumption))) | exact HB.out)); done)); (case side1 => repeat (first | exact (Kd.C_below HR0_0.out HB.out) | (with_reducible refine Kd.C_alloc ?_ _) | (with_reducible refine Kd.C_drewN ?_ _) | (with_reducible refine Kd.C_drew ?_))); (case side2 => exact HC0_0.out); (case side3 => repeat (first | exact (Kd.C_below HR0_1.out HB.out) | (with_reducible refine Kd.C_alloc ?_ _) | (with_reducible refine Kd.C_drewN ?_ _) | (with_reducible refine Kd.C_drew ?_))); (case side4 => exact HC0_1.out); (case side5 => repeat (first | exact (Kd.C_below HR0_2.out HB.out) | (with_reducible refine Kd.C_alloc ?_ _) | (with_reducible refine Kd.C_drewN ?_ _) | (with_reducible refine Kd.C_drew ?_))); (case side6 => exact HC0_2.out); (case side7 => repeat (first | exact (Kd.R_reads' HO582.out).2.2 | (with_reducible refine Kd.C_alloc ?_ _) | (with_reducible refine Kd.C_drewN ?_ _) | (with_reducible refine Kd.C_drew ?_))); (case side8 => exact (Kd.R_reads' HO582.out).2.1); rintro e w54 ⟨rfl, hb⟩; have n0_ := Aside0.mk (Kd.R_below (by (with_reducible repeat (first | apply Kd.R_alloc | apply Kd.R_drewN | apply Kd.R_drew)); exact HO582.out) hb); have n1_ := Aside0.mk (blk_below (g := gb577) (o := .cells #[.slice A0_0 l0_0.length c0_0, .slice A0_1 l0_1.length c0_1, .slice A0_2 l0_2.length c0_2, .int .i64 a0_3] 26 (0, 0)) (by (with_reducible repeat (first | refine blk_drewN ?_ _ | refine blk_drew ?_ | refine blk_alloc ?_ _)); exact BK577.out) hb); have n2_ := Aside0.mk (below_step (by repeat (first | (with_reducible first | exact HB.out | apply below_alloc | apply pw_below_drewN | apply below_drew1 | refine below_set ?_ GE577.out) | exact HB.out)) hb); clear HO582; clear BK577; clear HB; have HO582 := n0_; have BK577 := n1_; have HB := n2_; clear n0_ n1_ n2_; (try clear hb); (try clear hb2); (try clear hk); (try clear hi); have hcz55_0 : w54.cell? ⟨gb577, 0, none⟩ = some (.slice A0_0 l0_0.length c0_0) := (blk_cell BK577.out 0).trans rfl; have hcz55_1 : w54.cell? ⟨gb577, 1, none⟩ = some (.slice A0_1 l0_1.length c0_1) := (blk_cell BK577.out 1).trans rfl; have hcz55_2 : w54.cell? ⟨gb577, 2, none⟩ = some (.slice A0_2 l0_2.length c0_2) := (blk_cell BK577.out 2).trans rfl; have hcz55_3 : w54.cell? ⟨gb577, 3, none⟩ = some (.int .i64 a0_3) := (blk_cell BK577.out 3).trans rfl; have hfz55_0 := blk_frozen BK577.out 0; have hfz55_1 := blk_frozen BK577.out 1; have hfz55_2 := blk_frozen BK577.out 2; have hfz55_3 := blk_frozen BK577.out 3))
            go_meet
            case rel => exact ⟨_, (true), (by first | rfl | (simp; done) | (simp [*]; done)), H', ⟨by have := HJ2.out; first | omega | exact Nat.le_refl _⟩, ⟨by (with_reducible repeat (first | apply Kd.R_alloc | apply Kd.R_drewN | apply Kd.R_drew)); exact HO582.out⟩, ⟨by (with_reducible repeat (first | refine blk_drewN ?_ _ | refine blk_drew ?_ | refine blk_alloc ?_ _)); exact BK577.out⟩, ⟨by repeat (first | (with_reducible first | exact HB.out | apply below_alloc | apply pw_below_drewN | apply below_drew1 | refine below_set ?_ GE577.out) | exact HB.out)⟩⟩
           ·
            rw [if_neg c51] at H
            have c51b0 : decide (a0_3 < t592) = false := decide_eq_false c51
            clear c51
            have H' := Aside0.mk H
            clear H
            have hcz56_0 : w41.cell? ⟨gb577, 0, none⟩ = some (.slice A0_0 l0_0.length c0_0) := (blk_cell BK577.out 0).trans rfl
            have hcz56_1 : w41.cell? ⟨gb577, 1, none⟩ = some (.slice A0_1 l0_1.length c0_1) := (blk_cell BK577.out 1).trans rfl
            have hcz56_2 : w41.cell? ⟨gb577, 2, none⟩ = some (.slice A0_2 l0_2.length c0_2) := (blk_cell BK577.out 2).trans rfl
            have hcz56_3 : w41.cell? ⟨gb577, 3, none⟩ = some (.int .i64 a0_3) := (blk_cell BK577.out 3).trans rfl
            have hfz56_0 := blk_frozen BK577.out 0
            have hfz56_1 := blk_frozen BK577.out 1
            have hfz56_2 := blk_frozen BK577.out 2
            have hfz56_3 := blk_frozen BK577.out 3
            go_wp2_with (first | (go_at_call 11; (with_reducible refine (dancestudiolaw50_of.calls  t597 _ A44.out).mono ?_); rintro e w57 ⟨rfl, hb⟩; have n0_ := Aside0.mk (Kd.R_below (by (with_reducible repeat (first | apply Kd.R_alloc | apply Kd.R_drewN | apply Kd.R_drew)); exact HO582.out) hb); have n1_ := Aside0.mk (blk_below (g := gb577) (o := .cells #[.slice A0_0 l0_0.length c0_0, .slice A0_1 l0_1.length c0_1, .slice A0_2 l0_2.length c0_2, .int .i64 a0_3] 26 (0, 0)) (by (with_reducible repeat (first | refine blk_drewN ?_ _ | refine blk_drew ?_ | refine blk_alloc ?_ _)); exact BK577.out) hb); have n2_ := Aside0.mk (below_step (by repeat (first | (with_reducible first | exact HB.out | apply below_alloc | apply pw_below_drewN | apply below_drew1 | refine below_set ?_ GE577.out) | exact HB.out)) hb); clear HO582; clear BK577; clear HB; have HO582 := n0_; have BK577 := n1_; have HB := n2_; clear n0_ n1_ n2_; (try clear hb); (try clear hb2); (try clear hk); (try clear hi)) | (go_at_call 18; (with_reducible refine (rehearse_Valid.calls kj2 _ _ l0_0 _ _ l0_1 _ _ l0_2 a0_3 _ _ t580 t598 _ ?side1 ?side2 ?side3 ?side4 ?side5 ?side6 ?side7 ?side8 ?sidem_ A45.out).mono ?_); (case sidem_ => first | ((repeat (first | exact HMX_.out | apply Mx.drewN | apply Mx.drew)); done) | (refine Mx.below HMX_.out ?_; (repeat (first | (with_reducible first | exact HB.out | apply below_alloc | apply pw_below_drewN | apply below_drew1 | refine below_set ?_ (Aside0.out (by assumption))) | exact HB.out)); done)); (case side1 => repeat (first | exact (Kd.C_below HR0_0.out HB.out) | (with_reducible refine Kd.C_alloc ?_ _) | (with_reducible refine Kd.C_drewN ?_ _) | (with_reducible refine Kd.C_drew ?_))); (case side2 => exact HC0_0.out); (case side3 => repeat (first | exact (Kd.C_below HR0_1.out HB.out) | (with_reducible refine Kd.C_alloc ?_ _) | (with_reducible refine Kd.C_drewN ?_ _) | (with_reducible refine Kd.C_drew ?_))); (case side4 => exact HC0_1.out); (case side5 => repeat (first | exact (Kd.C_below HR0_2.out HB.out) | (with_reducible refine Kd.C_alloc ?_ _) | (with_reducible refine Kd.C_drewN ?_ _) | (with_reducible refine Kd.C_drew ?_))); (case side6 => exact HC0_2.out); (case side7 => repeat (first | exact (Kd.R_reads' HO582.out).2.2 | (with_reducible refine Kd.C_alloc ?_ _) | (with_reducible refine Kd.C_drewN ?_ _) | (with_reducible refine Kd.C_drew ?_))); (case side8 => exact (Kd.R_reads' HO582.out).2.1); rintro e w58 ⟨rfl, hb⟩; have n0_ := Aside0.mk (Kd.R_below (by (with_reducible repeat (first | apply Kd.R_alloc | apply Kd.R_drewN | apply Kd.R_drew)); exact HO582.out) hb); have n1_ := Aside0.mk (blk_below (g := gb577) (o := .cells #[.slice A0_0 l0_0.length c0_0, .slice A0_1 l0_1.length c0_1, .slice A0_2 l0_2.length c0_2, .int .i64 a0_3] 26 (0, 0)) (by (with_reducible repeat (first | refine blk_drewN ?_ _ | refine blk_drew ?_ | refine blk_alloc ?_ _)); exact BK577.out) hb); have n2_ := Aside0.mk (below_step (by repeat (first | (with_reducible first | exact HB.out | apply below_alloc | apply pw_below_drewN | apply below_drew1 | refine below_set ?_ GE577.out) | exact HB.out)) hb); clear HO582; clear BK577; clear HB; have HO582 := n0_; have BK577 := n1_; have HB := n2_; clear n0_ n1_ n2_; (try clear hb); (try clear hb2); (try clear hk); (try clear hi); have hcz59_0 : w58.cell? ⟨gb577, 0, none⟩ = some (.slice A0_0 l0_0.length c0_0) := (blk_cell BK577.out 0).trans rfl; have hcz59_1 : w58.cell? ⟨gb577, 1, none⟩ = some (.slice A0_1 l0_1.length c0_1) := (blk_cell BK577.out 1).trans rfl; have hcz59_2 : w58.cell? ⟨gb577, 2, none⟩ = some (.slice A0_2 l0_2.length c0_2) := (blk_cell BK577.out 2).trans rfl; have hcz59_3 : w58.cell? ⟨gb577, 3, none⟩ = some (.int .i64 a0_3) := (blk_cell BK577.out 3).trans rfl; have hfz59_0 := blk_frozen BK577.out 0; have hfz59_1 := blk_frozen BK577.out 1; have hfz59_2 := blk_frozen BK577.out 2; have hfz59_3 := blk_frozen BK577.out 3))
            go_meet
            case rel => exact ⟨_, (((t580.length : Int) != (l0_0.length : Int))), (by first | rfl | (simp; done) | (simp [*]; done)), H', ⟨by have := HJ2.out; first | omega | exact Nat.le_refl _⟩, ⟨by (with_reducible repeat (first | apply Kd.R_alloc | apply Kd.R_drewN | apply Kd.R_drew)); exact HO582.out⟩, ⟨by (with_reducible repeat (first | refine blk_drewN ?_ _ | refine blk_drew ?_ | refine blk_alloc ?_ _)); exact BK577.out⟩, ⟨by repeat (first | (with_reducible first | exact HB.out | apply below_alloc | apply pw_below_drewN | apply below_drew1 | refine below_set ?_ GE577.out) | exact HB.out)⟩⟩
         ·
          rw [if_neg c46] at H
          have c46b0 : (t598 == 0) = false := beq_eq_false_iff_ne.mpr c46
          have c46b1 : (t598 != 0) = true := bne_iff_ne.mpr c46
          have H' := Aside0.mk H
          clear H
          have hcz60_0 : w41.cell? ⟨gb577, 0, none⟩ = some (.slice A0_0 l0_0.length c0_0) := (blk_cell BK577.out 0).trans rfl
          have hcz60_1 : w41.cell? ⟨gb577, 1, none⟩ = some (.slice A0_1 l0_1.length c0_1) := (blk_cell BK577.out 1).trans rfl
          have hcz60_2 : w41.cell? ⟨gb577, 2, none⟩ = some (.slice A0_2 l0_2.length c0_2) := (blk_cell BK577.out 2).trans rfl
          have hcz60_3 : w41.cell? ⟨gb577, 3, none⟩ = some (.int .i64 a0_3) := (blk_cell BK577.out 3).trans rfl
          have hfz60_0 := blk_frozen BK577.out 0
          have hfz60_1 := blk_frozen BK577.out 1
          have hfz60_2 := blk_frozen BK577.out 2
          have hfz60_3 := blk_frozen BK577.out 3
          go_wp2_with (first | (go_at_call 11; (with_reducible refine (dancestudiolaw50_of.calls  t597 _ A44.out).mono ?_); rintro e w61 ⟨rfl, hb⟩; have n0_ := Aside0.mk (Kd.R_below (by (with_reducible repeat (first | apply Kd.R_alloc | apply Kd.R_drewN | apply Kd.R_drew)); exact HO582.out) hb); have n1_ := Aside0.mk (blk_below (g := gb577) (o := .cells #[.slice A0_0 l0_0.length c0_0, .slice A0_1 l0_1.length c0_1, .slice A0_2 l0_2.length c0_2, .int .i64 a0_3] 26 (0, 0)) (by (with_reducible repeat (first | refine blk_drewN ?_ _ | refine blk_drew ?_ | refine blk_alloc ?_ _)); exact BK577.out) hb); have n2_ := Aside0.mk (below_step (by repeat (first | (with_reducible first | exact HB.out | apply below_alloc | apply pw_below_drewN | apply below_drew1 | refine below_set ?_ GE577.out) | exact HB.out)) hb); clear HO582; clear BK577; clear HB; have HO582 := n0_; have BK577 := n1_; have HB := n2_; clear n0_ n1_ n2_; (try clear hb); (try clear hb2); (try clear hk); (try clear hi)) | (go_at_call 18; (with_reducible refine (rehearse_Valid.calls kj2 _ _ l0_0 _ _ l0_1 _ _ l0_2 a0_3 _ _ t580 t598 _ ?side1 ?side2 ?side3 ?side4 ?side5 ?side6 ?side7 ?side8 ?sidem_ A45.out).mono ?_); (case sidem_ => first | ((repeat (first | exact HMX_.out | apply Mx.drewN | apply Mx.drew)); done) | (refine Mx.below HMX_.out ?_; (repeat (first | (with_reducible first | exact HB.out | apply below_alloc | apply pw_below_drewN | apply below_drew1 | refine below_set ?_ (Aside0.out (by assumption))) | exact HB.out)); done)); (case side1 => repeat (first | exact (Kd.C_below HR0_0.out HB.out) | (with_reducible refine Kd.C_alloc ?_ _) | (with_reducible refine Kd.C_drewN ?_ _) | (with_reducible refine Kd.C_drew ?_))); (case side2 => exact HC0_0.out); (case side3 => repeat (first | exact (Kd.C_below HR0_1.out HB.out) | (with_reducible refine Kd.C_alloc ?_ _) | (with_reducible refine Kd.C_drewN ?_ _) | (with_reducible refine Kd.C_drew ?_))); (case side4 => exact HC0_1.out); (case side5 => repeat (first | exact (Kd.C_below HR0_2.out HB.out) | (with_reducible refine Kd.C_alloc ?_ _) | (with_reducible refine Kd.C_drewN ?_ _) | (with_reducible refine Kd.C_drew ?_))); (case side6 => exact HC0_2.out); (case side7 => repeat (first | exact (Kd.R_reads' HO582.out).2.2 | (with_reducible refine Kd.C_alloc ?_ _) | (with_reducible refine Kd.C_drewN ?_ _) | (with_reducible refine Kd.C_drew ?_))); (case side8 => exact (Kd.R_reads' HO582.out).2.1); rintro e w62 ⟨rfl, hb⟩; have n0_ := Aside0.mk (Kd.R_below (by (with_reducible repeat (first | apply Kd.R_alloc | apply Kd.R_drewN | apply Kd.R_drew)); exact HO582.out) hb); have n1_ := Aside0.mk (blk_below (g := gb577) (o := .cells #[.slice A0_0 l0_0.length c0_0, .slice A0_1 l0_1.length c0_1, .slice A0_2 l0_2.length c0_2, .int .i64 a0_3] 26 (0, 0)) (by (with_reducible repeat (first | refine blk_drewN ?_ _ | refine blk_drew ?_ | refine blk_alloc ?_ _)); exact BK577.out) hb); have n2_ := Aside0.mk (below_step (by repeat (first | (with_reducible first | exact HB.out | apply below_alloc | apply pw_below_drewN | apply below_drew1 | refine below_set ?_ GE577.out) | exact HB.out)) hb); clear HO582; clear BK577; clear HB; have HO582 := n0_; have BK577 := n1_; have HB := n2_; clear n0_ n1_ n2_; (try clear hb); (try clear hb2); (try clear hk); (try clear hi)))
          go_meet
          case rel => exact ⟨_, (true), (by first | rfl | (simp; done) | (simp [*]; done)), H', ⟨by have := HJ2.out; first | omega | exact Nat.le_refl _⟩, ⟨by (with_reducible repeat (first | apply Kd.R_alloc | apply Kd.R_drewN | apply Kd.R_drew)); exact HO582.out⟩, ⟨by (with_reducible repeat (first | refine blk_drewN ?_ _ | refine blk_drew ?_ | refine blk_alloc ?_ _)); exact BK577.out⟩, ⟨by repeat (first | (with_reducible first | exact HB.out | apply below_alloc | apply pw_below_drewN | apply below_drew1 | refine below_set ?_ GE577.out) | exact HB.out)⟩⟩
        ·
         rw [if_neg c43] at H
         have c43b0 : (t596 == 0) = false := beq_eq_false_iff_ne.mpr c43
         have c43b1 : (t596 != 0) = true := bne_iff_ne.mpr c43
         have H' := Aside0.mk H
         clear H
         go_wp2
         go_meet
         case rel => exact ⟨_, (true), (by first | rfl | (simp; done) | (simp [*]; done)), H', ⟨by have := HJ2.out; first | omega | exact Nat.le_refl _⟩, ⟨by (with_reducible repeat (first | apply Kd.R_alloc | apply Kd.R_drewN | apply Kd.R_drew)); exact HO582.out⟩, ⟨by (with_reducible repeat (first | refine blk_drewN ?_ _ | refine blk_drew ?_ | refine blk_alloc ?_ _)); exact BK577.out⟩, ⟨by repeat (first | (with_reducible first | exact HB.out | apply below_alloc | apply pw_below_drewN | apply below_drew1 | refine below_set ?_ GE577.out) | exact HB.out)⟩⟩
       ·
        rw [if_neg c42] at H
        have c42b0 : (t593 == 0) = false := beq_eq_false_iff_ne.mpr c42
        have c42b1 : (t593 != 0) = true := bne_iff_ne.mpr c42
        (first | rw [c42b0] | (simp only [i64_w, i32_w]; rw [c42b0]) | skip)
        have H' := Aside0.mk H
        clear H
        go_wp2
        go_meet
        case rel => exact ⟨_, (true), (by first | rfl | (simp; done) | (simp [*]; done)), H', ⟨by have := HJ2.out; first | omega | exact Nat.le_refl _⟩, ⟨by (with_reducible repeat (first | apply Kd.R_alloc | apply Kd.R_drewN | apply Kd.R_drew)); exact HO582.out⟩, ⟨by (with_reducible repeat (first | refine blk_drewN ?_ _ | refine blk_drew ?_ | refine blk_alloc ?_ _)); exact BK577.out⟩, ⟨by repeat (first | (with_reducible first | exact HB.out | apply below_alloc | apply pw_below_drewN | apply below_drew1 | refine below_set ?_ GE577.out) | exact HB.out)⟩⟩
      case rest => as_aux_lemma =>
       clear HC25
       try clear c1
       try clear c2
       try clear p2
       try clear c4
       try clear c5
       try clear c5b0
       try clear c5b1
       try clear c6
       try clear c7
       try clear c7b0
       try clear c10
       try clear c11
       try clear c13
       try clear c15
       try clear c16
       try clear c19
       try clear c19b0
       try clear c19b1
       try clear c20
       try clear c20b0
       try clear c20b1
       try clear c21
       try clear c42
       try clear c42b0
       try clear c42b1
       try clear c43
       try clear c43b0
       try clear c43b1
       try clear c46
       try clear c46b0
       try clear c46b1
       try clear c47
       try clear c47b0
       try clear c51
       try clear c51b0
       try clear hcz26_0
       try clear hcz26_1
       try clear hcz26_2
       try clear hcz26_3
       try clear hcz29_0
       try clear hcz29_1
       try clear hcz29_2
       try clear hcz29_3
       try clear hcz32_0
       try clear hcz32_1
       try clear hcz32_2
       try clear hcz32_3
       try clear hcz35_0
       try clear hcz35_1
       try clear hcz35_2
       try clear hcz35_3
       try clear hcz39_0
       try clear hcz39_1
       try clear hcz39_2
       try clear hcz39_3
       try clear hcz48_0
       try clear hcz48_1
       try clear hcz48_2
       try clear hcz48_3
       try clear hcz52_0
       try clear hcz52_1
       try clear hcz52_2
       try clear hcz52_3
       try clear hcz55_0
       try clear hcz55_1
       try clear hcz55_2
       try clear hcz55_3
       try clear hcz56_0
       try clear hcz56_1
       try clear hcz56_2
       try clear hcz56_3
       try clear hcz59_0
       try clear hcz59_1
       try clear hcz59_2
       try clear hcz59_3
       try clear hcz60_0
       try clear hcz60_1
       try clear hcz60_2
       try clear hcz60_3
       try clear hcz6_0
       try clear hcz6_1
       try clear hcz6_2
       try clear hcz6_3
       try clear hcz8_0
       try clear hcz8_1
       try clear hcz8_2
       try clear hcz8_3
       try clear hcz9_0
       try clear hcz9_1
       try clear hcz9_2
       try clear hcz9_3
       try clear hfz26_0
       try clear hfz26_1
       try clear hfz26_2
       try clear hfz26_3
       try clear hfz29_0
       try clear hfz29_1
       try clear hfz29_2
       try clear hfz29_3
       try clear hfz32_0
       try clear hfz32_1
       try clear hfz32_2
       try clear hfz32_3
       try clear hfz35_0
       try clear hfz35_1
       try clear hfz35_2
       try clear hfz35_3
       try clear hfz39_0
       try clear hfz39_1
       try clear hfz39_2
       try clear hfz39_3
       try clear hfz48_0
       try clear hfz48_1
       try clear hfz48_2
       try clear hfz48_3
       try clear hfz52_0
       try clear hfz52_1
       try clear hfz52_2
       try clear hfz52_3
       try clear hfz55_0
       try clear hfz55_1
       try clear hfz55_2
       try clear hfz55_3
       try clear hfz56_0
       try clear hfz56_1
       try clear hfz56_2
       try clear hfz56_3
       try clear hfz59_0
       try clear hfz59_1
       try clear hfz59_2
       try clear hfz59_3
       try clear hfz60_0
       try clear hfz60_1
       try clear hfz60_2
       try clear hfz60_3
       try clear hfz6_0
       try clear hfz6_1
       try clear hfz6_2
       try clear hfz6_3
       try clear hfz8_0
       try clear hfz8_1
       try clear hfz8_2
       try clear hfz8_3
       try clear hfz9_0
       try clear hfz9_1
       try clear hfz9_2
       try clear hfz9_3
       try clear p2
       obtain ⟨kq, x130_24, rfl, HA, HJ24, HO_5, BK577, HB⟩ := hcut
       cases kq with
       | zero => exact absurd HA.out (by simp [dancestudiolaw50_RehearseLeast.j1])
       | succ kj24 =>
        have H := HA.out
        clear HA
        simp only [dancestudiolaw50_RehearseLeast.j1] at H
        by_cases c63 : x130_24 = true
        ·
         subst c63
         have H1 : (none) = some r := by rw [if_pos rfl] at H; exact H
         clear H
         have H := H1
         clear H1
         exact absurd H (by simp)
        ·
         replace c63 := Bool.eq_false_iff.mpr c63
         subst c63
         have H1 : (if t588 = 0 then (dancestudiolaw50_RehearseLeast.j2 kj24 l1 t580 t587 t592 (decide (t587 > t592))) else (dancestudiolaw50_RehearseLeast.j2 kj24 l1 t580 t587 t592 true)) = some r := by rw [if_neg (show ¬ (false = true) by decide)] at H; exact H
         clear H
         have H := H1
         clear H1
         have HC64 := Aside0.mk H
         clear H
         go_upto_region 14 with (fail)
         go_cut [137] (fun v137 wc => ∃ (kq : Nat) (x137_63 : Bool), v137 = .bool x137_63 ∧ Aside0 (dancestudiolaw50_RehearseLeast.j2 kq l1 t580 t587 t592 x137_63 = some r) ∧ Aside0 (kq ≤ kj24) ∧ Aside0 (Kd.R k48 48 wc w.heap.size (fun _ => True) (.slice Ao37 t580.length co37) t580) ∧ Aside0 (wc.heap[gb577]? = some (.cells #[(.slice A0_0 l0_0.length c0_0), (.slice A0_1 l0_1.length c0_1), (.slice A0_2 l0_2.length c0_2), .int .i64 a0_3] 26 (0, 0))) ∧ Aside0 (Below w.heap.size w wc))
         case first => as_aux_lemma =>
          have H := HC64.out
          clear HC64
          by_cases c65 : t588 = 0
          ·
           rw [if_pos c65] at H
           have c65b0 : (t588 == 0) = true := beq_iff_eq.mpr c65
           have c65b1 : (t588 != 0) = false := bne_eq_false_iff_eq.mpr c65
           clear c65
           (first | rw [c65b0] | (simp only [i64_w, i32_w]; rw [c65b0]) | skip)
           have H' := Aside0.mk H
           clear H
           go_wp2
           go_meet
           case rel => exact ⟨_, (decide (t587 > t592)), (by first | rfl | (simp; done) | (simp [*]; done)), H', ⟨by have := HJ2.out; have := HJ24.out; first | omega | exact Nat.le_refl _⟩, ⟨by (with_reducible repeat (first | apply Kd.R_alloc | apply Kd.R_drewN | apply Kd.R_drew)); exact HO_5.out⟩, ⟨by (with_reducible repeat (first | refine blk_drewN ?_ _ | refine blk_drew ?_ | refine blk_alloc ?_ _)); exact BK577.out⟩, ⟨by repeat (first | (with_reducible first | exact HB.out | apply below_alloc | apply pw_below_drewN | apply below_drew1 | refine below_set ?_ GE577.out) | exact HB.out)⟩⟩
          ·
           rw [if_neg c65] at H
           have c65b0 : (t588 == 0) = false := beq_eq_false_iff_ne.mpr c65
           have c65b1 : (t588 != 0) = true := bne_iff_ne.mpr c65
           (first | rw [c65b0] | (simp only [i64_w, i32_w]; rw [c65b0]) | skip)
           have H' := Aside0.mk H
           clear H
           go_wp2
           go_meet
           case rel => exact ⟨_, (true), (by first | rfl | (simp; done) | (simp [*]; done)), H', ⟨by have := HJ2.out; have := HJ24.out; first | omega | exact Nat.le_refl _⟩, ⟨by (with_reducible repeat (first | apply Kd.R_alloc | apply Kd.R_drewN | apply Kd.R_drew)); exact HO_5.out⟩, ⟨by (with_reducible repeat (first | refine blk_drewN ?_ _ | refine blk_drew ?_ | refine blk_alloc ?_ _)); exact BK577.out⟩, ⟨by repeat (first | (with_reducible first | exact HB.out | apply below_alloc | apply pw_below_drewN | apply below_drew1 | refine below_set ?_ GE577.out) | exact HB.out)⟩⟩
         case rest => as_aux_lemma =>
          clear HC64
          try clear c1
          try clear c2
          try clear p2
          try clear c4
          try clear c5
          try clear c5b0
          try clear c5b1
          try clear c6
          try clear c7
          try clear c7b0
          try clear c10
          try clear c11
          try clear c13
          try clear c15
          try clear c16
          try clear c19
          try clear c19b0
          try clear c19b1
          try clear c20
          try clear c20b0
          try clear c20b1
          try clear c21
          try clear c42
          try clear c42b0
          try clear c42b1
          try clear c43
          try clear c43b0
          try clear c43b1
          try clear c46
          try clear c46b0
          try clear c46b1
          try clear c47
          try clear c47b0
          try clear c51
          try clear c51b0
          try clear c63
          try clear c65
          try clear c65b0
          try clear c65b1
          try clear hcz26_0
          try clear hcz26_1
          try clear hcz26_2
          try clear hcz26_3
          try clear hcz29_0
          try clear hcz29_1
          try clear hcz29_2
          try clear hcz29_3
          try clear hcz32_0
          try clear hcz32_1
          try clear hcz32_2
          try clear hcz32_3
          try clear hcz35_0
          try clear hcz35_1
          try clear hcz35_2
          try clear hcz35_3
          try clear hcz39_0
          try clear hcz39_1
          try clear hcz39_2
          try clear hcz39_3
          try clear hcz48_0
          try clear hcz48_1
          try clear hcz48_2
          try clear hcz48_3
          try clear hcz52_0
          try clear hcz52_1
          try clear hcz52_2
          try clear hcz52_3
          try clear hcz55_0
          try clear hcz55_1
          try clear hcz55_2
          try clear hcz55_3
          try clear hcz56_0
          try clear hcz56_1
          try clear hcz56_2
          try clear hcz56_3
          try clear hcz59_0
          try clear hcz59_1
          try clear hcz59_2
          try clear hcz59_3
          try clear hcz60_0
          try clear hcz60_1
          try clear hcz60_2
          try clear hcz60_3
          try clear hcz6_0
          try clear hcz6_1
          try clear hcz6_2
          try clear hcz6_3
          try clear hcz8_0
          try clear hcz8_1
          try clear hcz8_2
          try clear hcz8_3
          try clear hcz9_0
          try clear hcz9_1
          try clear hcz9_2
          try clear hcz9_3
          try clear hfz26_0
          try clear hfz26_1
          try clear hfz26_2
          try clear hfz26_3
          try clear hfz29_0
          try clear hfz29_1
          try clear hfz29_2
          try clear hfz29_3
          try clear hfz32_0
          try clear hfz32_1
          try clear hfz32_2
          try clear hfz32_3
          try clear hfz35_0
          try clear hfz35_1
          try clear hfz35_2
          try clear hfz35_3
          try clear hfz39_0
          try clear hfz39_1
          try clear hfz39_2
          try clear hfz39_3
          try clear hfz48_0
          try clear hfz48_1
          try clear hfz48_2
          try clear hfz48_3
          try clear hfz52_0
          try clear hfz52_1
          try clear hfz52_2
          try clear hfz52_3
          try clear hfz55_0
          try clear hfz55_1
          try clear hfz55_2
          try clear hfz55_3
          try clear hfz56_0
          try clear hfz56_1
          try clear hfz56_2
          try clear hfz56_3
          try clear hfz59_0
          try clear hfz59_1
          try clear hfz59_2
          try clear hfz59_3
          try clear hfz60_0
          try clear hfz60_1
          try clear hfz60_2
          try clear hfz60_3
          try clear hfz6_0
          try clear hfz6_1
          try clear hfz6_2
          try clear hfz6_3
          try clear hfz8_0
          try clear hfz8_1
          try clear hfz8_2
          try clear hfz8_3
          try clear hfz9_0
          try clear hfz9_1
          try clear hfz9_2
          try clear hfz9_3
          try clear p2
          obtain ⟨kq, x137_63, rfl, HA, HJ63, HO_5, BK577, HB⟩ := hcut
          cases kq with
          | zero => exact absurd HA.out (by simp [dancestudiolaw50_RehearseLeast.j2])
          | succ kj63 =>
           have H := HA.out
           clear HA
           simp only [dancestudiolaw50_RehearseLeast.j2] at H
           by_cases c66 : x137_63 = true
           ·
            subst c66
            have H1 : ((dancestudiolaw50_awake.f kj63).bind fun t599 => (some t599)) = some r := by rw [if_pos rfl] at H; exact H
            clear H
            have H := H1
            clear H1
            replace H := Option.bind_eq_some_iff.mp H
            obtain ⟨t599, A670, H⟩ := H
            replace H : (some t599) = some r := H
            have A67 := Aside0.mk A670
            clear A670
            obtain rfl := Option.some.inj H
            go_wp2_with (first | ((with_reducible refine gate_callee (f := 15) rfl ?_); refine goesL_ (some 138) rfl rfl Try.func15 (by kernel_rfl) rfl #[] rfl (by (try simp only [List.map_toArray, List.map_cons, List.map_nil]); first | done | rfl | (simp only [List.length_drop, List.length_take]; rfl)) ?_; (with_reducible refine (dancestudiolaw50_awake.calls kj63  t599 _ ?sidem_ A67.out).mono ?_); (case sidem_ => first | ((repeat (first | exact HMX_.out | apply Mx.drewN | apply Mx.drew)); done) | (refine Mx.below HMX_.out ?_; (repeat (first | (with_reducible first | exact HB.out | apply below_alloc | apply pw_below_drewN | apply below_drew1 | refine below_set ?_ (Aside0.out (by assumption))) | exact HB.out)); done)); rintro e w68 ⟨rfl, hb⟩; refine ⟨_, rfl, ?_⟩; have n0_ := Aside0.mk (Kd.R_below (by (with_reducible repeat (first | apply Kd.R_alloc | apply Kd.R_drewN | apply Kd.R_drew)); exact HO_5.out) hb); have n1_ := Aside0.mk (blk_below (g := gb577) (o := .cells #[.slice A0_0 l0_0.length c0_0, .slice A0_1 l0_1.length c0_1, .slice A0_2 l0_2.length c0_2, .int .i64 a0_3] 26 (0, 0)) (by (with_reducible repeat (first | refine blk_drewN ?_ _ | refine blk_drew ?_ | refine blk_alloc ?_ _)); exact BK577.out) hb); have n2_ := Aside0.mk (below_step (by repeat (first | (with_reducible first | exact HB.out | apply below_alloc | apply pw_below_drewN | apply below_drew1 | refine below_set ?_ GE577.out) | exact HB.out)) hb); clear HO_5; clear BK577; clear HB; have HO_5 := n0_; have BK577 := n1_; have HB := n2_; clear n0_ n1_ n2_; (try clear hb); (try clear hb2); (try clear hk); (try clear hi)))
            go_ret
            exact ⟨by first | rfl | (simp [errW_none, errW_some] <;> rfl) | (simp [*, errW_none, errW_some] <;> rfl), by repeat (first | (with_reducible first | exact HB.out | apply below_alloc | apply pw_below_drewN | apply below_drew1 | refine below_set ?_ GE577.out) | exact HB.out)⟩
           ·
            replace c66 := Bool.eq_false_iff.mpr c66
            subst c66
            have H1 : (if t587 < t592 then (dancestudiolaw50_RehearseLeast.j3 kj63 l1 t580 true) else (dancestudiolaw50_RehearseLeast.j3 kj63 l1 t580 ((l1.length : Int) != (t580.length : Int)))) = some r := by rw [if_neg (show ¬ (false = true) by decide)] at H; exact H
            clear H
            have H := H1
            clear H1
            have HC69 := Aside0.mk H
            clear H
            go_upto_region 16 with (fail)
            go_cut [148] (fun v148 wc => ∃ (kq : Nat) (x148_68 : Bool), v148 = .bool x148_68 ∧ Aside0 (dancestudiolaw50_RehearseLeast.j3 kq l1 t580 x148_68 = some r) ∧ Aside0 (kq ≤ kj63) ∧ Aside0 (Kd.R k48 48 wc w.heap.size (fun _ => True) (.slice Ao37 t580.length co37) t580) ∧ Aside0 (wc.heap[gb577]? = some (.cells #[(.slice A0_0 l0_0.length c0_0), (.slice A0_1 l0_1.length c0_1), (.slice A0_2 l0_2.length c0_2), .int .i64 a0_3] 26 (0, 0))) ∧ Aside0 (Below w.heap.size w wc))
            case first => as_aux_lemma =>
             have H := HC69.out
             clear HC69
             by_cases c70 : t587 < t592
             ·
              rw [if_pos c70] at H
              have c70b0 : decide (t587 < t592) = true := decide_eq_true c70
              clear c70
              (first | rw [c70b0] | (simp only [i64_w, i32_w]; rw [c70b0]) | skip)
              have H' := Aside0.mk H
              clear H
              go_wp2
              go_meet
              case rel => exact ⟨_, (true), (by first | rfl | (simp; done) | (simp [*]; done)), H', ⟨by have := HJ2.out; have := HJ24.out; have := HJ63.out; first | omega | exact Nat.le_refl _⟩, ⟨by (with_reducible repeat (first | apply Kd.R_alloc | apply Kd.R_drewN | apply Kd.R_drew)); exact HO_5.out⟩, ⟨by (with_reducible repeat (first | refine blk_drewN ?_ _ | refine blk_drew ?_ | refine blk_alloc ?_ _)); exact BK577.out⟩, ⟨by repeat (first | (with_reducible first | exact HB.out | apply below_alloc | apply pw_below_drewN | apply below_drew1 | refine below_set ?_ GE577.out) | exact HB.out)⟩⟩
             ·
              rw [if_neg c70] at H
              have c70b0 : decide (t587 < t592) = false := decide_eq_false c70
              clear c70
              (first | rw [c70b0] | (simp only [i64_w, i32_w]; rw [c70b0]) | skip)
              have H' := Aside0.mk H
              clear H
              go_wp2
              go_meet
              case rel => exact ⟨_, (((l1.length : Int) != (t580.length : Int))), (by first | rfl | (simp; done) | (simp [*]; done)), H', ⟨by have := HJ2.out; have := HJ24.out; have := HJ63.out; first | omega | exact Nat.le_refl _⟩, ⟨by (with_reducible repeat (first | apply Kd.R_alloc | apply Kd.R_drewN | apply Kd.R_drew)); exact HO_5.out⟩, ⟨by (with_reducible repeat (first | refine blk_drewN ?_ _ | refine blk_drew ?_ | refine blk_alloc ?_ _)); exact BK577.out⟩, ⟨by repeat (first | (with_reducible first | exact HB.out | apply below_alloc | apply pw_below_drewN | apply below_drew1 | refine below_set ?_ GE577.out) | exact HB.out)⟩⟩
            case rest => as_aux_lemma =>
             clear HC69
             try clear c1
             try clear c2
             try clear p2
             try clear c4
             try clear c5
             try clear c5b0
             try clear c5b1
             try clear c6
             try clear c7
             try clear c7b0
             try clear c10
             try clear c11
             try clear c13
             try clear c15
             try clear c16
             try clear c19
             try clear c19b0
             try clear c19b1
             try clear c20
             try clear c20b0
             try clear c20b1
             try clear c21
             try clear c42
             try clear c42b0
             try clear c42b1
             try clear c43
             try clear c43b0
             try clear c43b1
             try clear c46
             try clear c46b0
             try clear c46b1
             try clear c47
             try clear c47b0
             try clear c51
             try clear c51b0
             try clear c63
             try clear c65
             try clear c65b0
             try clear c65b1
             try clear c66
             try clear c70
             try clear c70b0
             try clear hcz26_0
             try clear hcz26_1
             try clear hcz26_2
             try clear hcz26_3
             try clear hcz29_0
             try clear hcz29_1
             try clear hcz29_2
             try clear hcz29_3
             try clear hcz32_0
             try clear hcz32_1
             try clear hcz32_2
             try clear hcz32_3
             try clear hcz35_0
             try clear hcz35_1
             try clear hcz35_2
             try clear hcz35_3
             try clear hcz39_0
             try clear hcz39_1
             try clear hcz39_2
             try clear hcz39_3
             try clear hcz48_0
             try clear hcz48_1
             try clear hcz48_2
             try clear hcz48_3
             try clear hcz52_0
             try clear hcz52_1
             try clear hcz52_2
             try clear hcz52_3
             try clear hcz55_0
             try clear hcz55_1
             try clear hcz55_2
             try clear hcz55_3
             try clear hcz56_0
             try clear hcz56_1
             try clear hcz56_2
             try clear hcz56_3
             try clear hcz59_0
             try clear hcz59_1
             try clear hcz59_2
             try clear hcz59_3
             try clear hcz60_0
             try clear hcz60_1
             try clear hcz60_2
             try clear hcz60_3
             try clear hcz6_0
             try clear hcz6_1
             try clear hcz6_2
             try clear hcz6_3
             try clear hcz8_0
             try clear hcz8_1
             try clear hcz8_2
             try clear hcz8_3
             try clear hcz9_0
             try clear hcz9_1
             try clear hcz9_2
             try clear hcz9_3
             try clear hfz26_0
             try clear hfz26_1
             try clear hfz26_2
             try clear hfz26_3
             try clear hfz29_0
             try clear hfz29_1
             try clear hfz29_2
             try clear hfz29_3
             try clear hfz32_0
             try clear hfz32_1
             try clear hfz32_2
             try clear hfz32_3
             try clear hfz35_0
             try clear hfz35_1
             try clear hfz35_2
             try clear hfz35_3
             try clear hfz39_0
             try clear hfz39_1
             try clear hfz39_2
             try clear hfz39_3
             try clear hfz48_0
             try clear hfz48_1
             try clear hfz48_2
             try clear hfz48_3
             try clear hfz52_0
             try clear hfz52_1
             try clear hfz52_2
             try clear hfz52_3
             try clear hfz55_0
             try clear hfz55_1
             try clear hfz55_2
             try clear hfz55_3
             try clear hfz56_0
             try clear hfz56_1
             try clear hfz56_2
             try clear hfz56_3
             try clear hfz59_0
             try clear hfz59_1
             try clear hfz59_2
             try clear hfz59_3
             try clear hfz60_0
             try clear hfz60_1
             try clear hfz60_2
             try clear hfz60_3
             try clear hfz6_0
             try clear hfz6_1
             try clear hfz6_2
             try clear hfz6_3
             try clear hfz8_0
             try clear hfz8_1
             try clear hfz8_2
             try clear hfz8_3
             try clear hfz9_0
             try clear hfz9_1
             try clear hfz9_2
             try clear hfz9_3
             try clear p2
             obtain ⟨kq, x148_68, rfl, HA, HJ68, HO_5, BK577, HB⟩ := hcut
             cases kq with
             | zero => exact absurd HA.out (by simp [dancestudiolaw50_RehearseLeast.j3])
             | succ kj68 =>
              have H := HA.out
              clear HA
              simp only [dancestudiolaw50_RehearseLeast.j3] at H
              by_cases c71 : x148_68 = true
              ·
               subst c71
               have H1 : (none) = some r := by rw [if_pos rfl] at H; exact H
               clear H
               have H := H1
               clear H1
               exact absurd H (by simp)
              ·
               replace c71 := Bool.eq_false_iff.mpr c71
               subst c71
               have H1 : (dancestudiolaw50_RehearseLeast.l0 kj68 l1 t580 0) = some r := by rw [if_neg (show ¬ (false = true) by decide)] at H; exact H
               clear H
               have H := H1
               clear H1
               have H' := Aside0.mk H
               clear H
               go_wp2
               go_loopg [14] kj68 (fun kq v14 w' => ∃ (x14_5 : Int), v14 = .int .i64 x14_5 ∧ Aside0 (dancestudiolaw50_RehearseLeast.l0 kq l1 t580 x14_5 = some r) ∧ Aside0 (kq ≤ kj68) ∧ Aside0 (Kd.R k48 48 w' w.heap.size (fun _ => True) (.slice Ao37 t580.length co37) t580) ∧ Aside0 (w'.heap[gb577]? = some (.cells #[(.slice A0_0 l0_0.length c0_0), (.slice A0_1 l0_1.length c0_1), (.slice A0_2 l0_2.length c0_2), .int .i64 a0_3] 26 (0, 0))) ∧ Aside0 (Below w.heap.size w w'))
               case atStart => exact ⟨(0), (by first | rfl | (simp; done) | (simp [*]; done)), H', ⟨Nat.le_refl _⟩, ⟨by (with_reducible repeat (first | apply Kd.R_alloc | apply Kd.R_drewN | apply Kd.R_drew)); exact HO_5.out⟩, ⟨by (with_reducible repeat (first | refine blk_drewN ?_ _ | refine blk_drew ?_ | refine blk_alloc ?_ _)); exact BK577.out⟩, ⟨by repeat (first | (with_reducible first | exact HB.out | apply below_alloc | apply pw_below_drewN | apply below_drew1 | refine below_set ?_ GE577.out) | exact HB.out)⟩⟩
               case round =>
                clear H'
                try clear c1
                try clear c2
                try clear p2
                try clear c4
                try clear c5
                try clear c5b0
                try clear c5b1
                try clear c6
                try clear c7
                try clear c7b0
                try clear c10
                try clear c11
                try clear c13
                try clear c15
                try clear c16
                try clear c19
                try clear c19b0
                try clear c19b1
                try clear c20
                try clear c20b0
                try clear c20b1
                try clear c21
                try clear c42
                try clear c42b0
                try clear c42b1
                try clear c43
                try clear c43b0
                try clear c43b1
                try clear c46
                try clear c46b0
                try clear c46b1
                try clear c47
                try clear c47b0
                try clear c51
                try clear c51b0
                try clear c63
                try clear c65
                try clear c65b0
                try clear c65b1
                try clear c66
                try clear c70
                try clear c70b0
                try clear c71
                try clear hcz26_0
                try clear hcz26_1
                try clear hcz26_2
                try clear hcz26_3
                try clear hcz29_0
                try clear hcz29_1
                try clear hcz29_2
                try clear hcz29_3
                try clear hcz32_0
                try clear hcz32_1
                try clear hcz32_2
                try clear hcz32_3
                try clear hcz35_0
                try clear hcz35_1
                try clear hcz35_2
                try clear hcz35_3
                try clear hcz39_0
                try clear hcz39_1
                try clear hcz39_2
                try clear hcz39_3
                try clear hcz48_0
                try clear hcz48_1
                try clear hcz48_2
                try clear hcz48_3
                try clear hcz52_0
                try clear hcz52_1
                try clear hcz52_2
                try clear hcz52_3
                try clear hcz55_0
                try clear hcz55_1
                try clear hcz55_2
                try clear hcz55_3
                try clear hcz56_0
                try clear hcz56_1
                try clear hcz56_2
                try clear hcz56_3
                try clear hcz59_0
                try clear hcz59_1
                try clear hcz59_2
                try clear hcz59_3
                try clear hcz60_0
                try clear hcz60_1
                try clear hcz60_2
                try clear hcz60_3
                try clear hcz6_0
                try clear hcz6_1
                try clear hcz6_2
                try clear hcz6_3
                try clear hcz8_0
                try clear hcz8_1
                try clear hcz8_2
                try clear hcz8_3
                try clear hcz9_0
                try clear hcz9_1
                try clear hcz9_2
                try clear hcz9_3
                try clear hfz26_0
                try clear hfz26_1
                try clear hfz26_2
                try clear hfz26_3
                try clear hfz29_0
                try clear hfz29_1
                try clear hfz29_2
                try clear hfz29_3
                try clear hfz32_0
                try clear hfz32_1
                try clear hfz32_2
                try clear hfz32_3
                try clear hfz35_0
                try clear hfz35_1
                try clear hfz35_2
                try clear hfz35_3
                try clear hfz39_0
                try clear hfz39_1
                try clear hfz39_2
                try clear hfz39_3
                try clear hfz48_0
                try clear hfz48_1
                try clear hfz48_2
                try clear hfz48_3
                try clear hfz52_0
                try clear hfz52_1
                try clear hfz52_2
                try clear hfz52_3
                try clear hfz55_0
                try clear hfz55_1
                try clear hfz55_2
                try clear hfz55_3
                try clear hfz56_0
                try clear hfz56_1
                try clear hfz56_2
                try clear hfz56_3
                try clear hfz59_0
                try clear hfz59_1
                try clear hfz59_2
                try clear hfz59_3
                try clear hfz60_0
                try clear hfz60_1
                try clear hfz60_2
                try clear hfz60_3
                try clear hfz6_0
                try clear hfz6_1
                try clear hfz6_2
                try clear hfz6_3
                try clear hfz8_0
                try clear hfz8_1
                try clear hfz8_2
                try clear hfz8_3
                try clear hfz9_0
                try clear hfz9_1
                try clear hfz9_2
                try clear hfz9_3
                try clear p2
                obtain ⟨x14_5, rfl, HA, HK5, HO_5, BK577, HB⟩ := hrel
                cases gk with
                | zero => exact absurd HA.out (by simp [dancestudiolaw50_RehearseLeast.l0])
                | succ k5 =>
                 have H := HA.out
                 clear HA
                 simp only [dancestudiolaw50_RehearseLeast.l0] at H
                 by_cases c72 : x14_5 < (l1.length : Int)
                 ·
                  rw [if_pos c72] at H
                  have c72b0 : decide (x14_5 < (l1.length : Int)) = true := decide_eq_true c72
                  clear c72
                  by_cases c73 : 0 ≤ x14_5
                  ·
                   rw [if_pos c73] at H
                   have c73b0 : decide (0 ≤ x14_5) = true := decide_eq_true c73
                   clear c73
                   by_cases c74 : x14_5 < (t580.length : Int)
                   ·
                    rw [if_pos c74] at H
                    have c74b0 : decide (x14_5 < (t580.length : Int)) = true := decide_eq_true c74
                    clear c74
                    by_cases c75 : ((rd_T48 t580 x14_5).f2) = ((rd_T48 l1 x14_5).f2)
                    ·
                     rw [if_pos c75] at H
                     have c75b0 : (((rd_T48 t580 x14_5).f2) == ((rd_T48 l1 x14_5).f2)) = true := beq_iff_eq.mpr c75
                     have c75b1 : (((rd_T48 t580 x14_5).f2) != ((rd_T48 l1 x14_5).f2)) = false := bne_eq_false_iff_eq.mpr c75
                     clear c75
                     have H' := Aside0.mk H
                     clear H
                     try go_wp2
                     have n0_ := Aside0.mk (Kd.R_drew HO_5.out)
                     have n1_ := Aside0.mk (blk_drew BK577.out)
                     have n2_ := Aside0.mk (below_drew1 HB.out)
                     clear HO_5
                     clear BK577
                     clear HB
                     have HO_5 := n0_
                     have BK577 := n1_
                     have HB := n2_
                     clear n0_ n1_ n2_
                     have p600 : 0 ≤ (x14_5 : Int) := of_decide_eq_true (by first | (with_reducible assumption) | assumption)
                     have q600 : x14_5 < (t580.length : Int) := of_decide_eq_true (by first | (with_reducible assumption) | assumption)
                     obtain ⟨ad600, e600, hx600_0, hx600_1, hx600_2⟩ := at_T48 (Kd.R_reads' HO_5.out).2.2 x14_5 p600 q600
                     cases e600
                     replace p600 := eq_true p600
                     replace q600 := eq_true q600
                     have p601 : 0 ≤ (x14_5 : Int) := of_decide_eq_true (by first | (with_reducible assumption) | assumption)
                     have q601 : x14_5 < (l1.length : Int) := of_decide_eq_true (by first | (with_reducible assumption) | assumption)
                     obtain ⟨ad601, e601, hx601_0, hx601_1, hx601_2⟩ := at_T48 HR1.out x14_5 p601 q601
                     have hw601_2 := hx601_2
                     have hw601_1 := hx601_1
                     have hw601_0 := hx601_0
                     cases e601
                     replace hx601_0 := (HB.out.cell (World.block_lt_of_cell? w _ hx601_0)).trans hx601_0
                     replace hx601_1 := (HB.out.cell (World.block_lt_of_cell? w _ hx601_1)).trans hx601_1
                     replace hx601_2 := (HB.out.cell (World.block_lt_of_cell? w _ hx601_2)).trans hx601_2
                     replace p601 := eq_true p601
                     replace q601 := eq_true q601
                     refine start_ (n := 11) (S := fun w' => w'.cell? (ad600.add ((x14_5).toNat * 3)) = some (.int .i64 ((rd_T48 t580 x14_5).f0)) ∧ w'.cell? ⟨(ad600.add ((x14_5).toNat * 3)).block, (ad600.add ((x14_5).toNat * 3)).off + 1, none⟩ = some (.int .i64 ((rd_T48 t580 x14_5).f1)) ∧ w'.cell? ⟨(ad600.add ((x14_5).toNat * 3)).block, (ad600.add ((x14_5).toNat * 3)).off + 2, none⟩ = some (.int .i64 ((rd_T48 t580 x14_5).f2)) ∧ w'.cell? (ad601.add ((x14_5).toNat * 3)) = some (.int .i64 ((rd_T48 l1 x14_5).f0)) ∧ w'.cell? ⟨(ad601.add ((x14_5).toNat * 3)).block, (ad601.add ((x14_5).toNat * 3)).off + 1, none⟩ = some (.int .i64 ((rd_T48 l1 x14_5).f1)) ∧ w'.cell? ⟨(ad601.add ((x14_5).toNat * 3)).block, (ad601.add ((x14_5).toNat * 3)).off + 2, none⟩ = some (.int .i64 ((rd_T48 l1 x14_5).f2))) (ds := []) #[false, false, false, false, false, false, false, false, false, false, false] (by kernel_rfl) rfl rfl ⟨hx600_0, hx600_1, hx600_2, ((HB.out.cell (World.block_lt_of_cell? w _ hw601_0)).trans hw601_0), ((HB.out.cell (World.block_lt_of_cell? w _ hw601_1)).trans hw601_1), ((HB.out.cell (World.block_lt_of_cell? w _ hw601_2)).trans hw601_2)⟩ (fun hHeld => ?_); refine with_tabW dancestudiolaw50_RehearseLeast.tab21 dancestudiolaw50_RehearseLeast.bits21 (fun HT_ HW_ => ?_)
                     generalize wr.drew = w76 at HO_5 BK577 HB hx600_0 hx600_1 hx600_2 hx601_0 hx601_1 hx601_2 hHeld ⊢
                     refine pure_ (i := 0) (N := some 155) (v := ?_) (a' := ?_) #[true, false, false, false, false, false, false, false, false, false, false] rfl rfl (any_of HT_.out (by kernel_rfl)) (fun _ _ _ h => h) (Or.inl ⟨by rfl, ?_⟩) ?_ ?_
                     rotate_left
                     ·
                      intro w'
                      go_simp
                      with_reducible rfl
                     rotate_left
                     ·
                      simp only [Act.put, List.setIfInBounds_toArray, List.set_cons_zero, List.set_cons_succ, i64_w, i32_w]
                      rfl
                     refine pure_ (i := 1) (N := some 156) (v := ?_) (a' := ?_) #[true, true, false, false, false, false, false, false, false, false, false] rfl rfl (any_of HT_.out (by kernel_rfl)) (fun _ _ _ h => h) (Or.inl ⟨by rfl, ?_⟩) ?_ ?_
                     rotate_left
                     ·
                      intro w'
                      go_simp
                      with_reducible rfl
                     rotate_left
                     ·
                      simp only [Act.put, List.setIfInBounds_toArray, List.set_cons_zero, List.set_cons_succ, i64_w, i32_w]
                      rfl
                     refine pure_ (i := 2) (N := some 157) (v := ?_) (a' := ?_) #[true, true, true, false, false, false, false, false, false, false, false] rfl rfl (any_of HT_.out (by kernel_rfl)) (fun _ _ _ h => h) (Or.inl ⟨by rfl, ?_⟩) ?_ ?_
                     rotate_left
                     ·
                      intro w'
                      go_simp
                      with_reducible rfl
                     rotate_left
                     ·
                      simp only [Act.put, List.setIfInBounds_toArray, List.set_cons_zero, List.set_cons_succ, i64_w, i32_w]
                      rfl
                     refine pure_ (i := 3) (N := some 158) (v := ?_) (a' := ?_) #[true, true, true, true, false, false, false, false, false, false, false] rfl rfl (any_of HT_.out (by kernel_rfl)) (fun _ _ _ h => h) (Or.inl ⟨by rfl, ?_⟩) ?_ ?_
                     rotate_left
                     ·
                      intro w'
                      go_simp
                      with_reducible rfl
                     rotate_left
                     ·
                      simp only [Act.put, List.setIfInBounds_toArray, List.set_cons_zero, List.set_cons_succ, i64_w, i32_w]
                      rfl
                     refine pure_ (i := 5) (N := some 160) (v := ?_) (a' := ?_) #[true, true, true, true, false, true, false, false, false, false, false] rfl rfl (any_of HT_.out (by kernel_rfl)) (fun _ _ _ h => h) (Or.inl ⟨by rfl, ?_⟩) ?_ ?_
                     rotate_left
                     ·
                      intro w'
                      go_simp
                      with_reducible rfl
                     rotate_left
                     ·
                      simp only [Act.put, List.setIfInBounds_toArray, List.set_cons_zero, List.set_cons_succ, i64_w, i32_w]
                      rfl
                     refine pure_ (i := 6) (N := some 161) (v := ?_) (a' := ?_) #[true, true, true, true, false, true, true, false, false, false, false] rfl rfl (any_of HT_.out (by kernel_rfl)) (fun _ _ _ h => h) (Or.inl ⟨by rfl, ?_⟩) ?_ ?_
                     rotate_left
                     ·
                      intro w'
                      go_simp
                      with_reducible rfl
                     rotate_left
                     ·
                      simp only [Act.put, List.setIfInBounds_toArray, List.set_cons_zero, List.set_cons_succ, i64_w, i32_w]
                      rfl
                     refine pure_ (i := 7) (N := some 162) (v := ?_) (a' := ?_) #[true, true, true, true, false, true, true, true, false, false, false] rfl rfl (any_of HT_.out (by kernel_rfl)) (fun _ _ _ h => h) (Or.inl ⟨by rfl, ?_⟩) ?_ ?_
                     rotate_left
                     ·
                      intro w'
                      go_simp
                      with_reducible rfl
                     rotate_left
                     ·
                      simp only [Act.put, List.setIfInBounds_toArray, List.set_cons_zero, List.set_cons_succ, i64_w, i32_w]
                      rfl
                     refine pure_ (i := 8) (N := some 163) (v := ?_) (a' := ?_) #[true, true, true, true, false, true, true, true, true, false, false] rfl rfl (any_of HT_.out (by kernel_rfl)) (fun _ _ _ h => h) (Or.inl ⟨by rfl, ?_⟩) ?_ ?_
                     rotate_left
                     ·
                      intro w'
                      go_simp
                      with_reducible rfl
                     rotate_left
                     ·
                      simp only [Act.put, List.setIfInBounds_toArray, List.set_cons_zero, List.set_cons_succ, i64_w, i32_w]
                      rfl
                     refine take_ (i := 4) (N := some 159) (v := ?_) (a' := ?_) #[true, true, true, true, true, true, true, true, true, false, false] rfl rfl (take_ofW HT_.out HW_.out (by kernel_rfl)) (fun _ _ _ h => h) (Or.inl ⟨by rfl, ?_⟩) hHeld ?_ ?_
                     rotate_left
                     ·
                      rintro w' ⟨s0, s1, s2, s3, s4, s5⟩
                      go_simp
                      with_reducible rfl
                     rotate_left
                     ·
                      simp only [Act.put, List.setIfInBounds_toArray, List.set_cons_zero, List.set_cons_succ, i64_w, i32_w]
                      rfl
                     refine take_ (i := 9) (N := some 164) (v := ?_) (a' := ?_) #[true, true, true, true, true, true, true, true, true, true, false] rfl rfl (take_ofW HT_.out HW_.out (by kernel_rfl)) (fun _ _ _ h => h) (Or.inl ⟨by rfl, ?_⟩) hHeld ?_ ?_
                     rotate_left
                     ·
                      rintro w' ⟨s0, s1, s2, s3, s4, s5⟩
                      go_simp
                      with_reducible rfl
                     rotate_left
                     ·
                      simp only [Act.put, List.setIfInBounds_toArray, List.set_cons_zero, List.set_cons_succ, i64_w, i32_w]
                      rfl
                     refine pure_ (i := 10) (N := some 165) (v := ?_) (a' := ?_) #[true, true, true, true, true, true, true, true, true, true, true] rfl rfl (any_of HT_.out (by kernel_rfl)) (fun _ _ _ h => h) (Or.inl ⟨by rfl, ?_⟩) ?_ ?_
                     rotate_left
                     ·
                      intro w'
                      go_simp
                      with_reducible rfl
                     rotate_left
                     ·
                      simp only [Act.put, List.setIfInBounds_toArray, List.set_cons_zero, List.set_cons_succ, i64_w, i32_w]
                      rfl
                     refine done_ (done_of HT_.out (by kernel_rfl)) ?_
                     try go_wp2
                     go_roundg k5
                     case measure => have := HJ2.out; have := HJ24.out; have := HJ63.out; have := HJ68.out; have := HK5.out; omega
                     case rel => exact ⟨(wrap64 (x14_5 + 1)), (by first | rfl | (simp; done) | (simp [*]; done)), H', ⟨by have := HJ2.out; have := HJ24.out; have := HJ63.out; have := HJ68.out; have := HK5.out; omega⟩, ⟨by (with_reducible repeat (first | apply Kd.R_alloc | apply Kd.R_drewN | apply Kd.R_drew)); exact HO_5.out⟩, ⟨by (with_reducible repeat (first | refine blk_drewN ?_ _ | refine blk_drew ?_ | refine blk_alloc ?_ _)); exact BK577.out⟩, ⟨by repeat (first | (with_reducible first | exact HB.out | apply below_alloc | apply pw_below_drewN | apply below_drew1 | refine below_set ?_ GE577.out) | exact HB.out)⟩⟩
                    ·
                     rw [if_neg c75] at H
                     have c75b0 : (((rd_T48 t580 x14_5).f2) == ((rd_T48 l1 x14_5).f2)) = false := beq_eq_false_iff_ne.mpr c75
                     have c75b1 : (((rd_T48 t580 x14_5).f2) != ((rd_T48 l1 x14_5).f2)) = true := bne_iff_ne.mpr c75
                     by_cases c77 : ((rd_T48 t580 x14_5).f2) < ((rd_T48 l1 x14_5).f2)
                     ·
                      rw [if_pos c77] at H
                      have c77b0 : decide (((rd_T48 t580 x14_5).f2) < ((rd_T48 l1 x14_5).f2)) = true := decide_eq_true c77
                      clear c77
                      replace H := Option.bind_eq_some_iff.mp H
                      obtain ⟨t604, A780, H⟩ := H
                      replace H : (some t604) = some r := H
                      have A78 := Aside0.mk A780
                      clear A780
                      obtain rfl := Option.some.inj H
                      try go_wp2
                      have n0_ := Aside0.mk (Kd.R_drew HO_5.out)
                      have n1_ := Aside0.mk (blk_drew BK577.out)
                      have n2_ := Aside0.mk (below_drew1 HB.out)
                      clear HO_5
                      clear BK577
                      clear HB
                      have HO_5 := n0_
                      have BK577 := n1_
                      have HB := n2_
                      clear n0_ n1_ n2_
                      have p600 : 0 ≤ (x14_5 : Int) := of_decide_eq_true (by first | (with_reducible assumption) | assumption)
                      have q600 : x14_5 < (t580.length : Int) := of_decide_eq_true (by first | (with_reducible assumption) | assumption)
                      obtain ⟨ad600, e600, hx600_0, hx600_1, hx600_2⟩ := at_T48 (Kd.R_reads' HO_5.out).2.2 x14_5 p600 q600
                      cases e600
                      replace p600 := eq_true p600
                      replace q600 := eq_true q600
                      have p601 : 0 ≤ (x14_5 : Int) := of_decide_eq_true (by first | (with_reducible assumption) | assumption)
                      have q601 : x14_5 < (l1.length : Int) := of_decide_eq_true (by first | (with_reducible assumption) | assumption)
                      obtain ⟨ad601, e601, hx601_0, hx601_1, hx601_2⟩ := at_T48 HR1.out x14_5 p601 q601
                      have hw601_2 := hx601_2
                      have hw601_1 := hx601_1
                      have hw601_0 := hx601_0
                      cases e601
                      replace hx601_0 := (HB.out.cell (World.block_lt_of_cell? w _ hx601_0)).trans hx601_0
                      replace hx601_1 := (HB.out.cell (World.block_lt_of_cell? w _ hx601_1)).trans hx601_1
                      replace hx601_2 := (HB.out.cell (World.block_lt_of_cell? w _ hx601_2)).trans hx601_2
                      replace p601 := eq_true p601
                      replace q601 := eq_true q601
                      refine start_ (n := 11) (S := fun w' => w'.cell? (ad600.add ((x14_5).toNat * 3)) = some (.int .i64 ((rd_T48 t580 x14_5).f0)) ∧ w'.cell? ⟨(ad600.add ((x14_5).toNat * 3)).block, (ad600.add ((x14_5).toNat * 3)).off + 1, none⟩ = some (.int .i64 ((rd_T48 t580 x14_5).f1)) ∧ w'.cell? ⟨(ad600.add ((x14_5).toNat * 3)).block, (ad600.add ((x14_5).toNat * 3)).off + 2, none⟩ = some (.int .i64 ((rd_T48 t580 x14_5).f2)) ∧ w'.cell? (ad601.add ((x14_5).toNat * 3)) = some (.int .i64 ((rd_T48 l1 x14_5).f0)) ∧ w'.cell? ⟨(ad601.add ((x14_5).toNat * 3)).block, (ad601.add ((x14_5).toNat * 3)).off + 1, none⟩ = some (.int .i64 ((rd_T48 l1 x14_5).f1)) ∧ w'.cell? ⟨(ad601.add ((x14_5).toNat * 3)).block, (ad601.add ((x14_5).toNat * 3)).off + 2, none⟩ = some (.int .i64 ((rd_T48 l1 x14_5).f2))) (ds := []) #[false, false, false, false, false, false, false, false, false, false, false] (by kernel_rfl) rfl rfl ⟨hx600_0, hx600_1, hx600_2, ((HB.out.cell (World.block_lt_of_cell? w _ hw601_0)).trans hw601_0), ((HB.out.cell (World.block_lt_of_cell? w _ hw601_1)).trans hw601_1), ((HB.out.cell (World.block_lt_of_cell? w _ hw601_2)).trans hw601_2)⟩ (fun hHeld => ?_); refine with_tabW dancestudiolaw50_RehearseLeast.tab21 dancestudiolaw50_RehearseLeast.bits21 (fun HT_ HW_ => ?_)
                      generalize wr.drew = w79 at HO_5 BK577 HB hx600_0 hx600_1 hx600_2 hx601_0 hx601_1 hx601_2 hHeld ⊢
                      refine pure_ (i := 0) (N := some 155) (v := ?_) (a' := ?_) #[true, false, false, false, false, false, false, false, false, false, false] rfl rfl (any_of HT_.out (by kernel_rfl)) (fun _ _ _ h => h) (Or.inl ⟨by rfl, ?_⟩) ?_ ?_
                      rotate_left
                      ·
                       intro w'
                       go_simp
                       with_reducible rfl
                      rotate_left
                      ·
                       simp only [Act.put, List.setIfInBounds_toArray, List.set_cons_zero, List.set_cons_succ, i64_w, i32_w]
                       rfl
                      refine pure_ (i := 1) (N := some 156) (v := ?_) (a' := ?_) #[true, true, false, false, false, false, false, false, false, false, false] rfl rfl (any_of HT_.out (by kernel_rfl)) (fun _ _ _ h => h) (Or.inl ⟨by rfl, ?_⟩) ?_ ?_
                      rotate_left
                      ·
                       intro w'
                       go_simp
                       with_reducible rfl
                      rotate_left
                      ·
                       simp only [Act.put, List.setIfInBounds_toArray, List.set_cons_zero, List.set_cons_succ, i64_w, i32_w]
                       rfl
                      refine pure_ (i := 2) (N := some 157) (v := ?_) (a' := ?_) #[true, true, true, false, false, false, false, false, false, false, false] rfl rfl (any_of HT_.out (by kernel_rfl)) (fun _ _ _ h => h) (Or.inl ⟨by rfl, ?_⟩) ?_ ?_
                      rotate_left
                      ·
                       intro w'
                       go_simp
                       with_reducible rfl
                      rotate_left
                      ·
                       simp only [Act.put, List.setIfInBounds_toArray, List.set_cons_zero, List.set_cons_succ, i64_w, i32_w]
                       rfl
                      refine pure_ (i := 3) (N := some 158) (v := ?_) (a' := ?_) #[true, true, true, true, false, false, false, false, false, false, false] rfl rfl (any_of HT_.out (by kernel_rfl)) (fun _ _ _ h => h) (Or.inl ⟨by rfl, ?_⟩) ?_ ?_
                      rotate_left
                      ·
                       intro w'
                       go_simp
                       with_reducible rfl
                      rotate_left
                      ·
                       simp only [Act.put, List.setIfInBounds_toArray, List.set_cons_zero, List.set_cons_succ, i64_w, i32_w]
                       rfl
                      refine pure_ (i := 5) (N := some 160) (v := ?_) (a' := ?_) #[true, true, true, true, false, true, false, false, false, false, false] rfl rfl (any_of HT_.out (by kernel_rfl)) (fun _ _ _ h => h) (Or.inl ⟨by rfl, ?_⟩) ?_ ?_
                      rotate_left
                      ·
                       intro w'
                       go_simp
                       with_reducible rfl
                      rotate_left
                      ·
                       simp only [Act.put, List.setIfInBounds_toArray, List.set_cons_zero, List.set_cons_succ, i64_w, i32_w]
                       rfl
                      refine pure_ (i := 6) (N := some 161) (v := ?_) (a' := ?_) #[true, true, true, true, false, true, true, false, false, false, false] rfl rfl (any_of HT_.out (by kernel_rfl)) (fun _ _ _ h => h) (Or.inl ⟨by rfl, ?_⟩) ?_ ?_
                      rotate_left
                      ·
                       intro w'
                       go_simp
                       with_reducible rfl
                      rotate_left
                      ·
                       simp only [Act.put, List.setIfInBounds_toArray, List.set_cons_zero, List.set_cons_succ, i64_w, i32_w]
                       rfl
                      refine pure_ (i := 7) (N := some 162) (v := ?_) (a' := ?_) #[true, true, true, true, false, true, true, true, false, false, false] rfl rfl (any_of HT_.out (by kernel_rfl)) (fun _ _ _ h => h) (Or.inl ⟨by rfl, ?_⟩) ?_ ?_
                      rotate_left
                      ·
                       intro w'
                       go_simp
                       with_reducible rfl
                      rotate_left
                      ·
                       simp only [Act.put, List.setIfInBounds_toArray, List.set_cons_zero, List.set_cons_succ, i64_w, i32_w]
                       rfl
                      refine pure_ (i := 8) (N := some 163) (v := ?_) (a' := ?_) #[true, true, true, true, false, true, true, true, true, false, false] rfl rfl (any_of HT_.out (by kernel_rfl)) (fun _ _ _ h => h) (Or.inl ⟨by rfl, ?_⟩) ?_ ?_
                      rotate_left
                      ·
                       intro w'
                       go_simp
                       with_reducible rfl
                      rotate_left
                      ·
                       simp only [Act.put, List.setIfInBounds_toArray, List.set_cons_zero, List.set_cons_succ, i64_w, i32_w]
                       rfl
                      refine take_ (i := 4) (N := some 159) (v := ?_) (a' := ?_) #[true, true, true, true, true, true, true, true, true, false, false] rfl rfl (take_ofW HT_.out HW_.out (by kernel_rfl)) (fun _ _ _ h => h) (Or.inl ⟨by rfl, ?_⟩) hHeld ?_ ?_
                      rotate_left
                      ·
                       rintro w' ⟨s0, s1, s2, s3, s4, s5⟩
                       go_simp
                       with_reducible rfl
                      rotate_left
                      ·
                       simp only [Act.put, List.setIfInBounds_toArray, List.set_cons_zero, List.set_cons_succ, i64_w, i32_w]
                       rfl
                      refine take_ (i := 9) (N := some 164) (v := ?_) (a' := ?_) #[true, true, true, true, true, true, true, true, true, true, false] rfl rfl (take_ofW HT_.out HW_.out (by kernel_rfl)) (fun _ _ _ h => h) (Or.inl ⟨by rfl, ?_⟩) hHeld ?_ ?_
                      rotate_left
                      ·
                       rintro w' ⟨s0, s1, s2, s3, s4, s5⟩
                       go_simp
                       with_reducible rfl
                      rotate_left
                      ·
                       simp only [Act.put, List.setIfInBounds_toArray, List.set_cons_zero, List.set_cons_succ, i64_w, i32_w]
                       rfl
                      refine pure_ (i := 10) (N := some 165) (v := ?_) (a' := ?_) #[true, true, true, true, true, true, true, true, true, true, true] rfl rfl (any_of HT_.out (by kernel_rfl)) (fun _ _ _ h => h) (Or.inl ⟨by rfl, ?_⟩) ?_ ?_
                      rotate_left
                      ·
                       intro w'
                       go_simp
                       with_reducible rfl
                      rotate_left
                      ·
                       simp only [Act.put, List.setIfInBounds_toArray, List.set_cons_zero, List.set_cons_succ, i64_w, i32_w]
                       rfl
                      refine done_ (done_of HT_.out (by kernel_rfl)) ?_
                      try go_wp2
                      have n0_ := Aside0.mk (Kd.R_drew HO_5.out)
                      have n1_ := Aside0.mk (blk_drew BK577.out)
                      have n2_ := Aside0.mk (below_drew1 HB.out)
                      clear HO_5
                      clear BK577
                      clear HB
                      have HO_5 := n0_
                      have BK577 := n1_
                      have HB := n2_
                      clear n0_ n1_ n2_
                      have p602 : 0 ≤ (x14_5 : Int) := of_decide_eq_true (by first | (with_reducible assumption) | assumption)
                      have q602 : x14_5 < (t580.length : Int) := of_decide_eq_true (by first | (with_reducible assumption) | assumption)
                      obtain ⟨ad602, e602, hx602_0, hx602_1, hx602_2⟩ := at_T48 (Kd.R_reads' HO_5.out).2.2 x14_5 p602 q602
                      obtain rfl : ad600 = ad602 := (by injection e602)
                      replace p602 := eq_true p602
                      replace q602 := eq_true q602
                      have p603 : 0 ≤ (x14_5 : Int) := of_decide_eq_true (by first | (with_reducible assumption) | assumption)
                      have q603 : x14_5 < (l1.length : Int) := of_decide_eq_true (by first | (with_reducible assumption) | assumption)
                      obtain ⟨ad603, e603, hx603_0, hx603_1, hx603_2⟩ := at_T48 HR1.out x14_5 p603 q603
                      have hw603_2 := hx603_2
                      have hw603_1 := hx603_1
                      have hw603_0 := hx603_0
                      obtain rfl : ad601 = ad603 := (by injection e603)
                      replace hx603_0 := (HB.out.cell (World.block_lt_of_cell? w _ hx603_0)).trans hx603_0
                      replace hx603_1 := (HB.out.cell (World.block_lt_of_cell? w _ hx603_1)).trans hx603_1
                      replace hx603_2 := (HB.out.cell (World.block_lt_of_cell? w _ hx603_2)).trans hx603_2
                      replace p603 := eq_true p603
                      replace q603 := eq_true q603
                      refine start_ (n := 15) (S := fun w' => w'.cell? (ad600.add ((x14_5).toNat * 3)) = some (.int .i64 ((rd_T48 t580 x14_5).f0)) ∧ w'.cell? ⟨(ad600.add ((x14_5).toNat * 3)).block, (ad600.add ((x14_5).toNat * 3)).off + 1, none⟩ = some (.int .i64 ((rd_T48 t580 x14_5).f1)) ∧ w'.cell? ⟨(ad600.add ((x14_5).toNat * 3)).block, (ad600.add ((x14_5).toNat * 3)).off + 2, none⟩ = some (.int .i64 ((rd_T48 t580 x14_5).f2)) ∧ w'.cell? (ad601.add ((x14_5).toNat * 3)) = some (.int .i64 ((rd_T48 l1 x14_5).f0)) ∧ w'.cell? ⟨(ad601.add ((x14_5).toNat * 3)).block, (ad601.add ((x14_5).toNat * 3)).off + 1, none⟩ = some (.int .i64 ((rd_T48 l1 x14_5).f1)) ∧ w'.cell? ⟨(ad601.add ((x14_5).toNat * 3)).block, (ad601.add ((x14_5).toNat * 3)).off + 2, none⟩ = some (.int .i64 ((rd_T48 l1 x14_5).f2))) (ds := []) #[false, false, false, false, false, false, false, false, false, false, false, false, false, false, false] (by kernel_rfl) rfl rfl ⟨hx602_0, hx602_1, hx602_2, ((HB.out.cell (World.block_lt_of_cell? w _ hw603_0)).trans hw603_0), ((HB.out.cell (World.block_lt_of_cell? w _ hw603_1)).trans hw603_1), ((HB.out.cell (World.block_lt_of_cell? w _ hw603_2)).trans hw603_2)⟩ (fun hHeld => ?_); refine with_tabW dancestudiolaw50_RehearseLeast.tab22 dancestudiolaw50_RehearseLeast.bits22 (fun HT_ HW_ => ?_)
                      generalize w79.drew = w80 at HO_5 BK577 HB hx602_0 hx602_1 hx602_2 hx603_0 hx603_1 hx603_2 hHeld ⊢
                      refine pure_ (i := 0) (N := some 166) (v := ?_) (a' := ?_) #[true, false, false, false, false, false, false, false, false, false, false, false, false, false, false] rfl rfl (any_of HT_.out (by kernel_rfl)) (fun _ _ _ h => h) (Or.inl ⟨by rfl, ?_⟩) ?_ ?_
                      rotate_left
                      ·
                       intro w'
                       go_simp
                       with_reducible rfl
                      rotate_left
                      ·
                       simp only [Act.put, List.setIfInBounds_toArray, List.set_cons_zero, List.set_cons_succ, i64_w, i32_w]
                       rfl
                      refine pure_ (i := 1) (N := some 167) (v := ?_) (a' := ?_) #[true, true, false, false, false, false, false, false, false, false, false, false, false, false, false] rfl rfl (any_of HT_.out (by kernel_rfl)) (fun _ _ _ h => h) (Or.inl ⟨by rfl, ?_⟩) ?_ ?_
                      rotate_left
                      ·
                       intro w'
                       go_simp
                       with_reducible rfl
                      rotate_left
                      ·
                       simp only [Act.put, List.setIfInBounds_toArray, List.set_cons_zero, List.set_cons_succ, i64_w, i32_w]
                       rfl
                      refine pure_ (i := 2) (N := some 168) (v := ?_) (a' := ?_) #[true, true, true, false, false, false, false, false, false, false, false, false, false, false, false] rfl rfl (any_of HT_.out (by kernel_rfl)) (fun _ _ _ h => h) (Or.inl ⟨by rfl, ?_⟩) ?_ ?_
                      rotate_left
                      ·
                       intro w'
                       go_simp
                       with_reducible rfl
                      rotate_left
                      ·
                       simp only [Act.put, List.setIfInBounds_toArray, List.set_cons_zero, List.set_cons_succ, i64_w, i32_w]
                       rfl
                      refine pure_ (i := 3) (N := some 169) (v := ?_) (a' := ?_) #[true, true, true, true, false, false, false, false, false, false, false, false, false, false, false] rfl rfl (any_of HT_.out (by kernel_rfl)) (fun _ _ _ h => h) (Or.inl ⟨by rfl, ?_⟩) ?_ ?_
                      rotate_left
                      ·
                       intro w'
                       go_simp
                       with_reducible rfl
                      rotate_left
                      ·
                       simp only [Act.put, List.setIfInBounds_toArray, List.set_cons_zero, List.set_cons_succ, i64_w, i32_w]
                       rfl
                      refine pure_ (i := 5) (N := some 171) (v := ?_) (a' := ?_) #[true, true, true, true, false, true, false, false, false, false, false, false, false, false, false] rfl rfl (any_of HT_.out (by kernel_rfl)) (fun _ _ _ h => h) (Or.inl ⟨by rfl, ?_⟩) ?_ ?_
                      rotate_left
                      ·
                       intro w'
                       go_simp
                       with_reducible rfl
                      rotate_left
                      ·
                       simp only [Act.put, List.setIfInBounds_toArray, List.set_cons_zero, List.set_cons_succ, i64_w, i32_w]
                       rfl
                      refine pure_ (i := 6) (N := some 172) (v := ?_) (a' := ?_) #[true, true, true, true, false, true, true, false, false, false, false, false, false, false, false] rfl rfl (any_of HT_.out (by kernel_rfl)) (fun _ _ _ h => h) (Or.inl ⟨by rfl, ?_⟩) ?_ ?_
                      rotate_left
                      ·
                       intro w'
                       go_simp
                       with_reducible rfl
                      rotate_left
                      ·
                       simp only [Act.put, List.setIfInBounds_toArray, List.set_cons_zero, List.set_cons_succ, i64_w, i32_w]
                       rfl
                      refine pure_ (i := 7) (N := some 173) (v := ?_) (a' := ?_) #[true, true, true, true, false, true, true, true, false, false, false, false, false, false, false] rfl rfl (any_of HT_.out (by kernel_rfl)) (fun _ _ _ h => h) (Or.inl ⟨by rfl, ?_⟩) ?_ ?_
                      rotate_left
                      ·
                       intro w'
                       go_simp
                       with_reducible rfl
                      rotate_left
                      ·
                       simp only [Act.put, List.setIfInBounds_toArray, List.set_cons_zero, List.set_cons_succ, i64_w, i32_w]
                       rfl
                      refine pure_ (i := 8) (N := some 174) (v := ?_) (a' := ?_) #[true, true, true, true, false, true, true, true, true, false, false, false, false, false, false] rfl rfl (any_of HT_.out (by kernel_rfl)) (fun _ _ _ h => h) (Or.inl ⟨by rfl, ?_⟩) ?_ ?_
                      rotate_left
                      ·
                       intro w'
                       go_simp
                       with_reducible rfl
                      rotate_left
                      ·
                       simp only [Act.put, List.setIfInBounds_toArray, List.set_cons_zero, List.set_cons_succ, i64_w, i32_w]
                       rfl
                      refine take_ (i := 4) (N := some 170) (v := ?_) (a' := ?_) #[true, true, true, true, true, true, true, true, true, false, false, false, false, false, false] rfl rfl (take_ofW HT_.out HW_.out (by kernel_rfl)) (fun _ _ _ h => h) (Or.inl ⟨by rfl, ?_⟩) hHeld ?_ ?_
                      rotate_left
                      ·
                       rintro w' ⟨s0, s1, s2, s3, s4, s5⟩
                       go_simp
                       with_reducible rfl
                      rotate_left
                      ·
                       simp only [Act.put, List.setIfInBounds_toArray, List.set_cons_zero, List.set_cons_succ, i64_w, i32_w]
                       rfl
                      refine take_ (i := 9) (N := some 175) (v := ?_) (a' := ?_) #[true, true, true, true, true, true, true, true, true, true, false, false, false, false, false] rfl rfl (take_ofW HT_.out HW_.out (by kernel_rfl)) (fun _ _ _ h => h) (Or.inl ⟨by rfl, ?_⟩) hHeld ?_ ?_
                      rotate_left
                      ·
                       rintro w' ⟨s0, s1, s2, s3, s4, s5⟩
                       go_simp
                       with_reducible rfl
                      rotate_left
                      ·
                       simp only [Act.put, List.setIfInBounds_toArray, List.set_cons_zero, List.set_cons_succ, i64_w, i32_w]
                       rfl
                      refine pure_ (i := 10) (N := some 176) (v := ?_) (a' := ?_) #[true, true, true, true, true, true, true, true, true, true, true, false, false, false, false] rfl rfl (any_of HT_.out (by kernel_rfl)) (fun _ _ _ h => h) (Or.inl ⟨by rfl, ?_⟩) ?_ ?_
                      rotate_left
                      ·
                       intro w'
                       go_simp
                       with_reducible rfl
                      rotate_left
                      ·
                       simp only [Act.put, List.setIfInBounds_toArray, List.set_cons_zero, List.set_cons_succ, i64_w, i32_w]
                       rfl
                      refine pure_ (i := 11) (N := some 177) (v := ?_) (a' := ?_) #[true, true, true, true, true, true, true, true, true, true, true, true, false, false, false] rfl rfl (any_of HT_.out (by kernel_rfl)) (fun _ _ _ h => h) (Or.inl ⟨by rfl, ?_⟩) ?_ ?_
                      rotate_left
                      ·
                       intro w'
                       go_simp
                       with_reducible rfl
                      rotate_left
                      ·
                       simp only [Act.put, List.setIfInBounds_toArray, List.set_cons_zero, List.set_cons_succ, i64_w, i32_w]
                       rfl
                      refine one_ (i := 12) (N := some 178) #[true, true, true, true, true, true, true, true, true, true, true, true, true, false, false] rfl rfl (one_of HT_.out (by kernel_rfl)) (by decide) (fun K hK => ?_)
                      refine goes_ Try.func15 (by kernel_rfl) rfl #[] (by rfl) rfl rfl (by (try simp only [List.map_toArray, List.map_cons, List.map_nil]); first | done | rfl | (simp only [List.length_drop, List.length_take]; rfl)) ?_
                      with_reducible refine (dancestudiolaw50_awake.calls k5  t604 _ ?sidem_ A78.out).mono ?_
                      case sidem_ => first | ((repeat (first | exact HMX_.out | apply Mx.drewN | apply Mx.drew)); done) | (refine Mx.below HMX_.out ?_; (repeat (first | (with_reducible first | exact HB.out | apply below_alloc | apply pw_below_drewN | apply below_drew1 | refine below_set ?_ (Aside0.out (by assumption))) | exact HB.out)); done)
                      rintro e w81 ⟨rfl, hb⟩
                      have HS0_ := (hb.cell (World.block_lt_of_cell? _ _ (hHeld.1))).trans (hHeld.1)
                      have HS1_ := (hb.cell (World.block_lt_of_cell? _ _ (hHeld.2.1))).trans (hHeld.2.1)
                      have HS2_ := (hb.cell (World.block_lt_of_cell? _ _ (hHeld.2.2.1))).trans (hHeld.2.2.1)
                      refine ⟨_, rfl, ?_⟩
                      have n0_ := Aside0.mk (Kd.R_below (by (with_reducible repeat (first | apply Kd.R_alloc | apply Kd.R_drewN | apply Kd.R_drew)); exact HO_5.out) hb)
                      have n1_ := Aside0.mk (blk_below (g := gb577) (o := .cells #[.slice A0_0 l0_0.length c0_0, .slice A0_1 l0_1.length c0_1, .slice A0_2 l0_2.length c0_2, .int .i64 a0_3] 26 (0, 0)) (by (with_reducible repeat (first | refine blk_drewN ?_ _ | refine blk_drew ?_ | refine blk_alloc ?_ _)); exact BK577.out) hb)
                      have n2_ := Aside0.mk (below_step (by repeat (first | (with_reducible first | exact HB.out | apply below_alloc | apply pw_below_drewN | apply below_drew1 | refine below_set ?_ GE577.out) | exact HB.out)) hb)
                      clear HO_5
                      clear BK577
                      clear HB
                      have HO_5 := n0_
                      have BK577 := n1_
                      have HB := n2_
                      clear n0_ n1_ n2_
                      (try clear hb)
                      (try clear hb2)
                      (try clear hk)
                      (try clear hi)
                      refine hK.out _ _ ⟨HS0_, HS1_, HS2_, ((HB.out.cell (World.block_lt_of_cell? w _ hw603_0)).trans hw603_0), ((HB.out.cell (World.block_lt_of_cell? w _ hw603_1)).trans hw603_1), ((HB.out.cell (World.block_lt_of_cell? w _ hw603_2)).trans hw603_2)⟩ (fun hHeld => ?_)
                      clear hK K
                      refine norm_ (a' := ?_) ?_ ?_
                      rotate_left
                      ·
                       show Act.put _ (some 178) _ = _
                       simp only [Act.put, List.setIfInBounds_toArray, List.set_cons_zero, List.set_cons_succ, i64_w, i32_w]
                       rfl
                      refine pure_ (i := 13) (N := some 179) (v := ?_) (a' := ?_) #[true, true, true, true, true, true, true, true, true, true, true, true, true, true, false] rfl rfl (any_of HT_.out (by kernel_rfl)) (fun _ _ _ h => h) (Or.inl ⟨by rfl, ?_⟩) ?_ ?_
                      rotate_left
                      ·
                       intro w'
                       go_simp
                       with_reducible rfl
                      rotate_left
                      ·
                       simp only [Act.put, List.setIfInBounds_toArray, List.set_cons_zero, List.set_cons_succ, i64_w, i32_w]
                       rfl
                      refine pure_ (i := 14) (N := some 4) (v := ?_) (a' := ?_) #[true, true, true, true, true, true, true, true, true, true, true, true, true, true, true] rfl rfl (any_of HT_.out (by kernel_rfl)) (fun _ _ _ h => h) (Or.inl ⟨by rfl, ?_⟩) ?_ ?_
                      rotate_left
                      ·
                       intro w'
                       go_simp
                       with_reducible rfl
                      rotate_left
                      ·
                       simp only [Act.put, List.setIfInBounds_toArray, List.set_cons_zero, List.set_cons_succ, i64_w, i32_w]
                       rfl
                      refine done_ (done_of HT_.out (by kernel_rfl)) ?_
                      try go_wp2
                      go_ret
                      exact ⟨by first | rfl | (simp [errW_none, errW_some] <;> rfl) | (simp [*, errW_none, errW_some] <;> rfl), by repeat (first | (with_reducible first | exact HB.out | apply below_alloc | apply pw_below_drewN | apply below_drew1 | refine below_set ?_ GE577.out) | exact HB.out)⟩
                     ·
                      rw [if_neg c77] at H
                      have c77b0 : decide (((rd_T48 t580 x14_5).f2) < ((rd_T48 l1 x14_5).f2)) = false := decide_eq_false c77
                      clear c77
                      exact absurd H (by simp)
                   ·
                    rw [if_neg c74] at H
                    exact absurd H (by simp)
                  ·
                   rw [if_neg c73] at H
                   exact absurd H (by simp)
                 ·
                  rw [if_neg c72] at H
                  have c72b0 : decide (x14_5 < (l1.length : Int)) = false := decide_eq_false c72
                  clear c72
                  have H' := Aside0.mk H
                  clear H
                  go_wp2
                  go_loopg [15] k5 (fun kq v15 w' => ∃ (x15_6 : Int), v15 = .int .i64 x15_6 ∧ Aside0 (dancestudiolaw50_RehearseLeast.l1 kq l1 t580 x15_6 = some r) ∧ Aside0 (kq ≤ k5) ∧ Aside0 (Kd.R k48 48 w' w.heap.size (fun _ => True) (.slice Ao37 t580.length co37) t580) ∧ Aside0 (w'.heap[gb577]? = some (.cells #[(.slice A0_0 l0_0.length c0_0), (.slice A0_1 l0_1.length c0_1), (.slice A0_2 l0_2.length c0_2), .int .i64 a0_3] 26 (0, 0))) ∧ Aside0 (Below w.heap.size w w'))
                  case atStart => exact ⟨(0), (by first | rfl | (simp; done) | (simp [*]; done)), H', ⟨Nat.le_refl _⟩, ⟨by (with_reducible repeat (first | apply Kd.R_alloc | apply Kd.R_drewN | apply Kd.R_drew)); exact HO_5.out⟩, ⟨by (with_reducible repeat (first | refine blk_drewN ?_ _ | refine blk_drew ?_ | refine blk_alloc ?_ _)); exact BK577.out⟩, ⟨by repeat (first | (with_reducible first | exact HB.out | apply below_alloc | apply pw_below_drewN | apply below_drew1 | refine below_set ?_ GE577.out) | exact HB.out)⟩⟩
                  case round =>
                   clear H'
                   try clear c1
                   try clear p2
                   try clear c5
                   try clear c6
                   try clear p6
                   try clear q6
                   try clear hx6
                   try clear c7
                   try clear c15
                   try clear c51
                   try clear c51b0
                   try clear p60
                   try clear q60
                   try clear hx60
                   try clear c63
                   try clear p64
                   try clear c65
                   try clear c65b0
                   try clear c65b1
                   try clear c66
                   try clear c70
                   try clear c70b0
                   try clear c71
                   try clear c72
                   try clear c72b0
                   try clear c73
                   try clear c73b0
                   try clear c74
                   try clear c74b0
                   try clear c75
                   try clear c75b0
                   try clear c75b1
                   try clear c77
                   try clear c77b0
                   try clear hcz26_0
                   try clear hcz26_1
                   try clear hcz26_2
                   try clear hcz26_3
                   try clear hcz29_0
                   try clear hcz29_1
                   try clear hcz29_2
                   try clear hcz29_3
                   try clear hcz32_0
                   try clear hcz32_1
                   try clear hcz32_2
                   try clear hcz32_3
                   try clear hcz35_0
                   try clear hcz35_1
                   try clear hcz35_2
                   try clear hcz35_3
                   try clear hcz39_0
                   try clear hcz39_1
                   try clear hcz39_2
                   try clear hcz39_3
                   try clear hcz48_0
                   try clear hcz48_1
                   try clear hcz48_2
                   try clear hcz48_3
                   try clear hcz52_0
                   try clear hcz52_1
                   try clear hcz52_2
                   try clear hcz52_3
                   try clear hcz55_0
                   try clear hcz55_1
                   try clear hcz55_2
                   try clear hcz55_3
                   try clear hcz56_0
                   try clear hcz56_1
                   try clear hcz56_2
                   try clear hcz56_3
                   try clear hcz59_0
                   try clear hcz59_1
                   try clear hcz59_2
                   try clear hcz59_3
                   try clear hcz60_0
                   try clear hcz60_1
                   try clear hcz60_2
                   try clear hcz60_3
                   try clear hcz6_0
                   try clear hcz6_1
                   try clear hcz6_2
                   try clear hcz6_3
                   try clear hcz8_0
                   try clear hcz8_1
                   try clear hcz8_2
                   try clear hcz8_3
                   try clear hcz9_0
                   try clear hcz9_1
                   try clear hcz9_2
                   try clear hcz9_3
                   try clear hfz26_0
                   try clear hfz26_1
                   try clear hfz26_2
                   try clear hfz26_3
                   try clear hfz29_0
                   try clear hfz29_1
                   try clear hfz29_2
                   try clear hfz29_3
                   try clear hfz32_0
                   try clear hfz32_1
                   try clear hfz32_2
                   try clear hfz32_3
                   try clear hfz35_0
                   try clear hfz35_1
                   try clear hfz35_2
                   try clear hfz35_3
                   try clear hfz39_0
                   try clear hfz39_1
                   try clear hfz39_2
                   try clear hfz39_3
                   try clear hfz48_0
                   try clear hfz48_1
                   try clear hfz48_2
                   try clear hfz48_3
                   try clear hfz52_0
                   try clear hfz52_1
                   try clear hfz52_2
                   try clear hfz52_3
                   try clear hfz55_0
                   try clear hfz55_1
                   try clear hfz55_2
                   try clear hfz55_3
                   try clear hfz56_0
                   try clear hfz56_1
                   try clear hfz56_2
                   try clear hfz56_3
                   try clear hfz59_0
                   try clear hfz59_1
                   try clear hfz59_2
                   try clear hfz59_3
                   try clear hfz60_0
                   try clear hfz60_1
                   try clear hfz60_2
                   try clear hfz60_3
                   try clear hfz6_0
                   try clear hfz6_1
                   try clear hfz6_2
                   try clear hfz6_3
                   try clear hfz8_0
                   try clear hfz8_1
                   try clear hfz8_2
                   try clear hfz8_3
                   try clear hfz9_0
                   try clear hfz9_1
                   try clear hfz9_2
                   try clear hfz9_3
                   try clear hx600_0
                   try clear hx600_1
                   try clear hx600_2
                   try clear hx601_0
                   try clear hx601_1
                   try clear hx601_2
                   try clear hx602_0
                   try clear hx602_1
                   try clear hx602_2
                   try clear hx603_0
                   try clear hx603_1
                   try clear hx603_2
                   try clear p2
                   try clear p600
                   try clear p601
                   try clear p602
                   try clear p603
                   try clear q600
                   try clear q601
                   try clear q602
                   try clear q603
                   obtain ⟨x15_6, rfl, HA, HK6, HO_5, BK577, HB⟩ := hrel
                   cases gk with
                   | zero => exact absurd HA.out (by simp [dancestudiolaw50_RehearseLeast.l1])
                   | succ k6 =>
                    have H := HA.out
                    clear HA
                    simp only [dancestudiolaw50_RehearseLeast.l1] at H
                    by_cases c82 : x15_6 < (l1.length : Int)
                    ·
                     rw [if_pos c82] at H
                     have c82b0 : decide (x15_6 < (l1.length : Int)) = true := decide_eq_true c82
                     clear c82
                     by_cases c83 : 0 ≤ x15_6
                     ·
                      rw [if_pos c83] at H
                      have c83b0 : decide (0 ≤ x15_6) = true := decide_eq_true c83
                      clear c83
                      by_cases c84 : x15_6 < (t580.length : Int)
                      ·
                       rw [if_pos c84] at H
                       have c84b0 : decide (x15_6 < (t580.length : Int)) = true := decide_eq_true c84
                       clear c84
                       by_cases c85 : ((rd_T48 t580 x15_6).f1) = ((rd_T48 l1 x15_6).f1)
                       ·
                        rw [if_pos c85] at H
                        have c85b0 : (((rd_T48 t580 x15_6).f1) == ((rd_T48 l1 x15_6).f1)) = true := beq_iff_eq.mpr c85
                        have c85b1 : (((rd_T48 t580 x15_6).f1) != ((rd_T48 l1 x15_6).f1)) = false := bne_eq_false_iff_eq.mpr c85
                        clear c85
                        have H' := Aside0.mk H
                        clear H
                        try go_wp2
                        have n0_ := Aside0.mk (Kd.R_drew HO_5.out)
                        have n1_ := Aside0.mk (blk_drew BK577.out)
                        have n2_ := Aside0.mk (below_drew1 HB.out)
                        clear HO_5
                        clear BK577
                        clear HB
                        have HO_5 := n0_
                        have BK577 := n1_
                        have HB := n2_
                        clear n0_ n1_ n2_
                        have p605 : 0 ≤ (x15_6 : Int) := of_decide_eq_true (by first | (with_reducible assumption) | assumption)
                        have q605 : x15_6 < (t580.length : Int) := of_decide_eq_true (by first | (with_reducible assumption) | assumption)
                        obtain ⟨ad605, e605, hx605_0, hx605_1, hx605_2⟩ := at_T48 (Kd.R_reads' HO_5.out).2.2 x15_6 p605 q605
                        cases e605
                        replace p605 := eq_true p605
                        replace q605 := eq_true q605
                        have p606 : 0 ≤ (x15_6 : Int) := of_decide_eq_true (by first | (with_reducible assumption) | assumption)
                        have q606 : x15_6 < (l1.length : Int) := of_decide_eq_true (by first | (with_reducible assumption) | assumption)
                        obtain ⟨ad606, e606, hx606_0, hx606_1, hx606_2⟩ := at_T48 HR1.out x15_6 p606 q606
                        have hw606_2 := hx606_2
                        have hw606_1 := hx606_1
                        have hw606_0 := hx606_0
                        cases e606
                        replace hx606_0 := (HB.out.cell (World.block_lt_of_cell? w _ hx606_0)).trans hx606_0
                        replace hx606_1 := (HB.out.cell (World.block_lt_of_cell? w _ hx606_1)).trans hx606_1
                        replace hx606_2 := (HB.out.cell (World.block_lt_of_cell? w _ hx606_2)).trans hx606_2
                        replace p606 := eq_true p606
                        replace q606 := eq_true q606
                        refine start_ (n := 11) (S := fun w' => w'.cell? (ad605.add ((x15_6).toNat * 3)) = some (.int .i64 ((rd_T48 t580 x15_6).f0)) ∧ w'.cell? ⟨(ad605.add ((x15_6).toNat * 3)).block, (ad605.add ((x15_6).toNat * 3)).off + 1, none⟩ = some (.int .i64 ((rd_T48 t580 x15_6).f1)) ∧ w'.cell? ⟨(ad605.add ((x15_6).toNat * 3)).block, (ad605.add ((x15_6).toNat * 3)).off + 2, none⟩ = some (.int .i64 ((rd_T48 t580 x15_6).f2)) ∧ w'.cell? (ad606.add ((x15_6).toNat * 3)) = some (.int .i64 ((rd_T48 l1 x15_6).f0)) ∧ w'.cell? ⟨(ad606.add ((x15_6).toNat * 3)).block, (ad606.add ((x15_6).toNat * 3)).off + 1, none⟩ = some (.int .i64 ((rd_T48 l1 x15_6).f1)) ∧ w'.cell? ⟨(ad606.add ((x15_6).toNat * 3)).block, (ad606.add ((x15_6).toNat * 3)).off + 2, none⟩ = some (.int .i64 ((rd_T48 l1 x15_6).f2))) (ds := []) #[false, false, false, false, false, false, false, false, false, false, false] (by kernel_rfl) rfl rfl ⟨hx605_0, hx605_1, hx605_2, ((HB.out.cell (World.block_lt_of_cell? w _ hw606_0)).trans hw606_0), ((HB.out.cell (World.block_lt_of_cell? w _ hw606_1)).trans hw606_1), ((HB.out.cell (World.block_lt_of_cell? w _ hw606_2)).trans hw606_2)⟩ (fun hHeld => ?_); refine with_tabW dancestudiolaw50_RehearseLeast.tab26 dancestudiolaw50_RehearseLeast.bits26 (fun HT_ HW_ => ?_)
                        generalize wr.drew = w86 at HO_5 BK577 HB hx605_0 hx605_1 hx605_2 hx606_0 hx606_1 hx606_2 hHeld ⊢
                        refine pure_ (i := 0) (N := some 186) (v := ?_) (a' := ?_) #[true, false, false, false, false, false, false, false, false, false, false] rfl rfl (any_of HT_.out (by kernel_rfl)) (fun _ _ _ h => h) (Or.inl ⟨by rfl, ?_⟩) ?_ ?_
                        rotate_left
                        ·
                         intro w'
                         go_simp
                         with_reducible rfl
                        rotate_left
                        ·
                         simp only [Act.put, List.setIfInBounds_toArray, List.set_cons_zero, List.set_cons_succ, i64_w, i32_w]
                         rfl
                        refine pure_ (i := 1) (N := some 187) (v := ?_) (a' := ?_) #[true, true, false, false, false, false, false, false, false, false, false] rfl rfl (any_of HT_.out (by kernel_rfl)) (fun _ _ _ h => h) (Or.inl ⟨by rfl, ?_⟩) ?_ ?_
                        rotate_left
                        ·
                         intro w'
                         go_simp
                         with_reducible rfl
                        rotate_left
                        ·
                         simp only [Act.put, List.setIfInBounds_toArray, List.set_cons_zero, List.set_cons_succ, i64_w, i32_w]
                         rfl
                        refine pure_ (i := 2) (N := some 188) (v := ?_) (a' := ?_) #[true, true, true, false, false, false, false, false, false, false, false] rfl rfl (any_of HT_.out (by kernel_rfl)) (fun _ _ _ h => h) (Or.inl ⟨by rfl, ?_⟩) ?_ ?_
                        rotate_left
                        ·
                         intro w'
                         go_simp
                         with_reducible rfl
                        rotate_left
                        ·
                         simp only [Act.put, List.setIfInBounds_toArray, List.set_cons_zero, List.set_cons_succ, i64_w, i32_w]
                         rfl
                        refine pure_ (i := 3) (N := some 189) (v := ?_) (a' := ?_) #[true, true, true, true, false, false, false, false, false, false, false] rfl rfl (any_of HT_.out (by kernel_rfl)) (fun _ _ _ h => h) (Or.inl ⟨by rfl, ?_⟩) ?_ ?_
                        rotate_left
                        ·
                         intro w'
                         go_simp
                         with_reducible rfl
                        rotate_left
                        ·
                         simp only [Act.put, List.setIfInBounds_toArray, List.set_cons_zero, List.set_cons_succ, i64_w, i32_w]
                         rfl
                        refine pure_ (i := 5) (N := some 191) (v := ?_) (a' := ?_) #[true, true, true, true, false, true, false, false, false, false, false] rfl rfl (any_of HT_.out (by kernel_rfl)) (fun _ _ _ h => h) (Or.inl ⟨by rfl, ?_⟩) ?_ ?_
                        rotate_left
                        ·
                         intro w'
                         go_simp
                         with_reducible rfl
                        rotate_left
                        ·
                         simp only [Act.put, List.setIfInBounds_toArray, List.set_cons_zero, List.set_cons_succ, i64_w, i32_w]
                         rfl
                        refine pure_ (i := 6) (N := some 192) (v := ?_) (a' := ?_) #[true, true, true, true, false, true, true, false, false, false, false] rfl rfl (any_of HT_.out (by kernel_rfl)) (fun _ _ _ h => h) (Or.inl ⟨by rfl, ?_⟩) ?_ ?_
                        rotate_left
                        ·
                         intro w'
                         go_simp
                         with_reducible rfl
                        rotate_left
                        ·
                         simp only [Act.put, List.setIfInBounds_toArray, List.set_cons_zero, List.set_cons_succ, i64_w, i32_w]
                         rfl
                        refine pure_ (i := 7) (N := some 193) (v := ?_) (a' := ?_) #[true, true, true, true, false, true, true, true, false, false, false] rfl rfl (any_of HT_.out (by kernel_rfl)) (fun _ _ _ h => h) (Or.inl ⟨by rfl, ?_⟩) ?_ ?_
                        rotate_left
                        ·
                         intro w'
                         go_simp
                         with_reducible rfl
                        rotate_left
                        ·
                         simp only [Act.put, List.setIfInBounds_toArray, List.set_cons_zero, List.set_cons_succ, i64_w, i32_w]
                         rfl
                        refine pure_ (i := 8) (N := some 194) (v := ?_) (a' := ?_) #[true, true, true, true, false, true, true, true, true, false, false] rfl rfl (any_of HT_.out (by kernel_rfl)) (fun _ _ _ h => h) (Or.inl ⟨by rfl, ?_⟩) ?_ ?_
                        rotate_left
                        ·
                         intro w'
                         go_simp
                         with_reducible rfl
                        rotate_left
                        ·
                         simp only [Act.put, List.setIfInBounds_toArray, List.set_cons_zero, List.set_cons_succ, i64_w, i32_w]
                         rfl
                        refine take_ (i := 4) (N := some 190) (v := ?_) (a' := ?_) #[true, true, true, true, true, true, true, true, true, false, false] rfl rfl (take_ofW HT_.out HW_.out (by kernel_rfl)) (fun _ _ _ h => h) (Or.inl ⟨by rfl, ?_⟩) hHeld ?_ ?_
                        rotate_left
                        ·
                         rintro w' ⟨s0, s1, s2, s3, s4, s5⟩
                         go_simp
                         with_reducible rfl
                        rotate_left
                        ·
                         simp only [Act.put, List.setIfInBounds_toArray, List.set_cons_zero, List.set_cons_succ, i64_w, i32_w]
                         rfl
                        refine take_ (i := 9) (N := some 195) (v := ?_) (a' := ?_) #[true, true, true, true, true, true, true, true, true, true, false] rfl rfl (take_ofW HT_.out HW_.out (by kernel_rfl)) (fun _ _ _ h => h) (Or.inl ⟨by rfl, ?_⟩) hHeld ?_ ?_
                        rotate_left
                        ·
                         rintro w' ⟨s0, s1, s2, s3, s4, s5⟩
                         go_simp
                         with_reducible rfl
                        rotate_left
                        ·
                         simp only [Act.put, List.setIfInBounds_toArray, List.set_cons_zero, List.set_cons_succ, i64_w, i32_w]
                         rfl
                        refine pure_ (i := 10) (N := some 196) (v := ?_) (a' := ?_) #[true, true, true, true, true, true, true, true, true, true, true] rfl rfl (any_of HT_.out (by kernel_rfl)) (fun _ _ _ h => h) (Or.inl ⟨by rfl, ?_⟩) ?_ ?_
                        rotate_left
                        ·
                         intro w'
                         go_simp
                         with_reducible rfl
                        rotate_left
                        ·
                         simp only [Act.put, List.setIfInBounds_toArray, List.set_cons_zero, List.set_cons_succ, i64_w, i32_w]
                         rfl
                        refine done_ (done_of HT_.out (by kernel_rfl)) ?_
                        try go_wp2
                        go_roundg k6
                        case measure => have := HJ2.out; have := HJ24.out; have := HJ63.out; have := HJ68.out; have := HK5.out; have := HK6.out; omega
                        case rel => exact ⟨(wrap64 (x15_6 + 1)), (by first | rfl | (simp; done) | (simp [*]; done)), H', ⟨by have := HJ2.out; have := HJ24.out; have := HJ63.out; have := HJ68.out; have := HK5.out; have := HK6.out; omega⟩, ⟨by (with_reducible repeat (first | apply Kd.R_alloc | apply Kd.R_drewN | apply Kd.R_drew)); exact HO_5.out⟩, ⟨by (with_reducible repeat (first | refine blk_drewN ?_ _ | refine blk_drew ?_ | refine blk_alloc ?_ _)); exact BK577.out⟩, ⟨by repeat (first | (with_reducible first | exact HB.out | apply below_alloc | apply pw_below_drewN | apply below_drew1 | refine below_set ?_ GE577.out) | exact HB.out)⟩⟩
                       ·
                        rw [if_neg c85] at H
                        have c85b0 : (((rd_T48 t580 x15_6).f1) == ((rd_T48 l1 x15_6).f1)) = false := beq_eq_false_iff_ne.mpr c85
                        have c85b1 : (((rd_T48 t580 x15_6).f1) != ((rd_T48 l1 x15_6).f1)) = true := bne_iff_ne.mpr c85
                        by_cases c87 : ((rd_T48 t580 x15_6).f1) < ((rd_T48 l1 x15_6).f1)
                        ·
                         rw [if_pos c87] at H
                         have c87b0 : decide (((rd_T48 t580 x15_6).f1) < ((rd_T48 l1 x15_6).f1)) = true := decide_eq_true c87
                         clear c87
                         replace H := Option.bind_eq_some_iff.mp H
                         obtain ⟨t609, A880, H⟩ := H
                         replace H : (some t609) = some r := H
                         have A88 := Aside0.mk A880
                         clear A880
                         obtain rfl := Option.some.inj H
                         try go_wp2
                         have n0_ := Aside0.mk (Kd.R_drew HO_5.out)
                         have n1_ := Aside0.mk (blk_drew BK577.out)
                         have n2_ := Aside0.mk (below_drew1 HB.out)
                         clear HO_5
                         clear BK577
                         clear HB
                         have HO_5 := n0_
                         have BK577 := n1_
                         have HB := n2_
                         clear n0_ n1_ n2_
                         have p605 : 0 ≤ (x15_6 : Int) := of_decide_eq_true (by first | (with_reducible assumption) | assumption)
                         have q605 : x15_6 < (t580.length : Int) := of_decide_eq_true (by first | (with_reducible assumption) | assumption)
                         obtain ⟨ad605, e605, hx605_0, hx605_1, hx605_2⟩ := at_T48 (Kd.R_reads' HO_5.out).2.2 x15_6 p605 q605
                         cases e605
                         replace p605 := eq_true p605
                         replace q605 := eq_true q605
                         have p606 : 0 ≤ (x15_6 : Int) := of_decide_eq_true (by first | (with_reducible assumption) | assumption)
                         have q606 : x15_6 < (l1.length : Int) := of_decide_eq_true (by first | (with_reducible assumption) | assumption)
                         obtain ⟨ad606, e606, hx606_0, hx606_1, hx606_2⟩ := at_T48 HR1.out x15_6 p606 q606
                         have hw606_2 := hx606_2
                         have hw606_1 := hx606_1
                         have hw606_0 := hx606_0
                         cases e606
                         replace hx606_0 := (HB.out.cell (World.block_lt_of_cell? w _ hx606_0)).trans hx606_0
                         replace hx606_1 := (HB.out.cell (World.block_lt_of_cell? w _ hx606_1)).trans hx606_1
                         replace hx606_2 := (HB.out.cell (World.block_lt_of_cell? w _ hx606_2)).trans hx606_2
                         replace p606 := eq_true p606
                         replace q606 := eq_true q606
                         refine start_ (n := 11) (S := fun w' => w'.cell? (ad605.add ((x15_6).toNat * 3)) = some (.int .i64 ((rd_T48 t580 x15_6).f0)) ∧ w'.cell? ⟨(ad605.add ((x15_6).toNat * 3)).block, (ad605.add ((x15_6).toNat * 3)).off + 1, none⟩ = some (.int .i64 ((rd_T48 t580 x15_6).f1)) ∧ w'.cell? ⟨(ad605.add ((x15_6).toNat * 3)).block, (ad605.add ((x15_6).toNat * 3)).off + 2, none⟩ = some (.int .i64 ((rd_T48 t580 x15_6).f2)) ∧ w'.cell? (ad606.add ((x15_6).toNat * 3)) = some (.int .i64 ((rd_T48 l1 x15_6).f0)) ∧ w'.cell? ⟨(ad606.add ((x15_6).toNat * 3)).block, (ad606.add ((x15_6).toNat * 3)).off + 1, none⟩ = some (.int .i64 ((rd_T48 l1 x15_6).f1)) ∧ w'.cell? ⟨(ad606.add ((x15_6).toNat * 3)).block, (ad606.add ((x15_6).toNat * 3)).off + 2, none⟩ = some (.int .i64 ((rd_T48 l1 x15_6).f2))) (ds := []) #[false, false, false, false, false, false, false, false, false, false, false] (by kernel_rfl) rfl rfl ⟨hx605_0, hx605_1, hx605_2, ((HB.out.cell (World.block_lt_of_cell? w _ hw606_0)).trans hw606_0), ((HB.out.cell (World.block_lt_of_cell? w _ hw606_1)).trans hw606_1), ((HB.out.cell (World.block_lt_of_cell? w _ hw606_2)).trans hw606_2)⟩ (fun hHeld => ?_); refine with_tabW dancestudiolaw50_RehearseLeast.tab26 dancestudiolaw50_RehearseLeast.bits26 (fun HT_ HW_ => ?_)
                         generalize wr.drew = w89 at HO_5 BK577 HB hx605_0 hx605_1 hx605_2 hx606_0 hx606_1 hx606_2 hHeld ⊢
                         refine pure_ (i := 0) (N := some 186) (v := ?_) (a' := ?_) #[true, false, false, false, false, false, false, false, false, false, false] rfl rfl (any_of HT_.out (by kernel_rfl)) (fun _ _ _ h => h) (Or.inl ⟨by rfl, ?_⟩) ?_ ?_
                         rotate_left
                         ·
                          intro w'
                          go_simp
                          with_reducible rfl
                         rotate_left
                         ·
                          simp only [Act.put, List.setIfInBounds_toArray, List.set_cons_zero, List.set_cons_succ, i64_w, i32_w]
                          rfl
                         refine pure_ (i := 1) (N := some 187) (v := ?_) (a' := ?_) #[true, true, false, false, false, false, false, false, false, false, false] rfl rfl (any_of HT_.out (by kernel_rfl)) (fun _ _ _ h => h) (Or.inl ⟨by rfl, ?_⟩) ?_ ?_
                         rotate_left
                         ·
                          intro w'
                          go_simp
                          with_reducible rfl
                         rotate_left
                         ·
                          simp only [Act.put, List.setIfInBounds_toArray, List.set_cons_zero, List.set_cons_succ, i64_w, i32_w]
                          rfl
                         refine pure_ (i := 2) (N := some 188) (v := ?_) (a' := ?_) #[true, true, true, false, false, false, false, false, false, false, false] rfl rfl (any_of HT_.out (by kernel_rfl)) (fun _ _ _ h => h) (Or.inl ⟨by rfl, ?_⟩) ?_ ?_
                         rotate_left
                         ·
                          intro w'
                          go_simp
                          with_reducible rfl
                         rotate_left
                         ·
                          simp only [Act.put, List.setIfInBounds_toArray, List.set_cons_zero, List.set_cons_succ, i64_w, i32_w]
                          rfl
                         refine pure_ (i := 3) (N := some 189) (v := ?_) (a' := ?_) #[true, true, true, true, false, false, false, false, false, false, false] rfl rfl (any_of HT_.out (by kernel_rfl)) (fun _ _ _ h => h) (Or.inl ⟨by rfl, ?_⟩) ?_ ?_
                         rotate_left
                         ·
                          intro w'
                          go_simp
                          with_reducible rfl
                         rotate_left
                         ·
                          simp only [Act.put, List.setIfInBounds_toArray, List.set_cons_zero, List.set_cons_succ, i64_w, i32_w]
                          rfl
                         refine pure_ (i := 5) (N := some 191) (v := ?_) (a' := ?_) #[true, true, true, true, false, true, false, false, false, false, false] rfl rfl (any_of HT_.out (by kernel_rfl)) (fun _ _ _ h => h) (Or.inl ⟨by rfl, ?_⟩) ?_ ?_
                         rotate_left
                         ·
                          intro w'
                          go_simp
                          with_reducible rfl
                         rotate_left
                         ·
                          simp only [Act.put, List.setIfInBounds_toArray, List.set_cons_zero, List.set_cons_succ, i64_w, i32_w]
                          rfl
                         refine pure_ (i := 6) (N := some 192) (v := ?_) (a' := ?_) #[true, true, true, true, false, true, true, false, false, false, false] rfl rfl (any_of HT_.out (by kernel_rfl)) (fun _ _ _ h => h) (Or.inl ⟨by rfl, ?_⟩) ?_ ?_
                         rotate_left
                         ·
                          intro w'
                          go_simp
                          with_reducible rfl
                         rotate_left
                         ·
                          simp only [Act.put, List.setIfInBounds_toArray, List.set_cons_zero, List.set_cons_succ, i64_w, i32_w]
                          rfl
                         refine pure_ (i := 7) (N := some 193) (v := ?_) (a' := ?_) #[true, true, true, true, false, true, true, true, false, false, false] rfl rfl (any_of HT_.out (by kernel_rfl)) (fun _ _ _ h => h) (Or.inl ⟨by rfl, ?_⟩) ?_ ?_
                         rotate_left
                         ·
                          intro w'
                          go_simp
                          with_reducible rfl
                         rotate_left
                         ·
                          simp only [Act.put, List.setIfInBounds_toArray, List.set_cons_zero, List.set_cons_succ, i64_w, i32_w]
                          rfl
                         refine pure_ (i := 8) (N := some 194) (v := ?_) (a' := ?_) #[true, true, true, true, false, true, true, true, true, false, false] rfl rfl (any_of HT_.out (by kernel_rfl)) (fun _ _ _ h => h) (Or.inl ⟨by rfl, ?_⟩) ?_ ?_
                         rotate_left
                         ·
                          intro w'
                          go_simp
                          with_reducible rfl
                         rotate_left
                         ·
                          simp only [Act.put, List.setIfInBounds_toArray, List.set_cons_zero, List.set_cons_succ, i64_w, i32_w]
                          rfl
                         refine take_ (i := 4) (N := some 190) (v := ?_) (a' := ?_) #[true, true, true, true, true, true, true, true, true, false, false] rfl rfl (take_ofW HT_.out HW_.out (by kernel_rfl)) (fun _ _ _ h => h) (Or.inl ⟨by rfl, ?_⟩) hHeld ?_ ?_
                         rotate_left
                         ·
                          rintro w' ⟨s0, s1, s2, s3, s4, s5⟩
                          go_simp
                          with_reducible rfl
                         rotate_left
                         ·
                          simp only [Act.put, List.setIfInBounds_toArray, List.set_cons_zero, List.set_cons_succ, i64_w, i32_w]
                          rfl
                         refine take_ (i := 9) (N := some 195) (v := ?_) (a' := ?_) #[true, true, true, true, true, true, true, true, true, true, false] rfl rfl (take_ofW HT_.out HW_.out (by kernel_rfl)) (fun _ _ _ h => h) (Or.inl ⟨by rfl, ?_⟩) hHeld ?_ ?_
                         rotate_left
                         ·
                          rintro w' ⟨s0, s1, s2, s3, s4, s5⟩
                          go_simp
                          with_reducible rfl
                         rotate_left
                         ·
                          simp only [Act.put, List.setIfInBounds_toArray, List.set_cons_zero, List.set_cons_succ, i64_w, i32_w]
                          rfl
                         refine pure_ (i := 10) (N := some 196) (v := ?_) (a' := ?_) #[true, true, true, true, true, true, true, true, true, true, true] rfl rfl (any_of HT_.out (by kernel_rfl)) (fun _ _ _ h => h) (Or.inl ⟨by rfl, ?_⟩) ?_ ?_
                         rotate_left
                         ·
                          intro w'
                          go_simp
                          with_reducible rfl
                         rotate_left
                         ·
                          simp only [Act.put, List.setIfInBounds_toArray, List.set_cons_zero, List.set_cons_succ, i64_w, i32_w]
                          rfl
                         refine done_ (done_of HT_.out (by kernel_rfl)) ?_
                         try go_wp2
                         have n0_ := Aside0.mk (Kd.R_drew HO_5.out)
                         have n1_ := Aside0.mk (blk_drew BK577.out)
                         have n2_ := Aside0.mk (below_drew1 HB.out)
                         clear HO_5
                         clear BK577
                         clear HB
                         have HO_5 := n0_
                         have BK577 := n1_
                         have HB := n2_
                         clear n0_ n1_ n2_
                         have p607 : 0 ≤ (x15_6 : Int) := of_decide_eq_true (by first | (with_reducible assumption) | assumption)
                         have q607 : x15_6 < (t580.length : Int) := of_decide_eq_true (by first | (with_reducible assumption) | assumption)
                         obtain ⟨ad607, e607, hx607_0, hx607_1, hx607_2⟩ := at_T48 (Kd.R_reads' HO_5.out).2.2 x15_6 p607 q607
                         obtain rfl : ad605 = ad607 := (by injection e607)
                         replace p607 := eq_true p607
                         replace q607 := eq_true q607
                         have p608 : 0 ≤ (x15_6 : Int) := of_decide_eq_true (by first | (with_reducible assumption) | assumption)
                         have q608 : x15_6 < (l1.length : Int) := of_decide_eq_true (by first | (with_reducible assumption) | assumption)
                         obtain ⟨ad608, e608, hx608_0, hx608_1, hx608_2⟩ := at_T48 HR1.out x15_6 p608 q608
                         have hw608_2 := hx608_2
                         have hw608_1 := hx608_1
                         have hw608_0 := hx608_0
                         obtain rfl : ad606 = ad608 := (by injection e608)
                         replace hx608_0 := (HB.out.cell (World.block_lt_of_cell? w _ hx608_0)).trans hx608_0
                         replace hx608_1 := (HB.out.cell (World.block_lt_of_cell? w _ hx608_1)).trans hx608_1
                         replace hx608_2 := (HB.out.cell (World.block_lt_of_cell? w _ hx608_2)).trans hx608_2
                         replace p608 := eq_true p608
                         replace q608 := eq_true q608
                         refine start_ (n := 15) (S := fun w' => w'.cell? (ad605.add ((x15_6).toNat * 3)) = some (.int .i64 ((rd_T48 t580 x15_6).f0)) ∧ w'.cell? ⟨(ad605.add ((x15_6).toNat * 3)).block, (ad605.add ((x15_6).toNat * 3)).off + 1, none⟩ = some (.int .i64 ((rd_T48 t580 x15_6).f1)) ∧ w'.cell? ⟨(ad605.add ((x15_6).toNat * 3)).block, (ad605.add ((x15_6).toNat * 3)).off + 2, none⟩ = some (.int .i64 ((rd_T48 t580 x15_6).f2)) ∧ w'.cell? (ad606.add ((x15_6).toNat * 3)) = some (.int .i64 ((rd_T48 l1 x15_6).f0)) ∧ w'.cell? ⟨(ad606.add ((x15_6).toNat * 3)).block, (ad606.add ((x15_6).toNat * 3)).off + 1, none⟩ = some (.int .i64 ((rd_T48 l1 x15_6).f1)) ∧ w'.cell? ⟨(ad606.add ((x15_6).toNat * 3)).block, (ad606.add ((x15_6).toNat * 3)).off + 2, none⟩ = some (.int .i64 ((rd_T48 l1 x15_6).f2))) (ds := []) #[false, false, false, false, false, false, false, false, false, false, false, false, false, false, false] (by kernel_rfl) rfl rfl ⟨hx607_0, hx607_1, hx607_2, ((HB.out.cell (World.block_lt_of_cell? w _ hw608_0)).trans hw608_0), ((HB.out.cell (World.block_lt_of_cell? w _ hw608_1)).trans hw608_1), ((HB.out.cell (World.block_lt_of_cell? w _ hw608_2)).trans hw608_2)⟩ (fun hHeld => ?_); refine with_tabW dancestudiolaw50_RehearseLeast.tab27 dancestudiolaw50_RehearseLeast.bits27 (fun HT_ HW_ => ?_)
                         generalize w89.drew = w90 at HO_5 BK577 HB hx607_0 hx607_1 hx607_2 hx608_0 hx608_1 hx608_2 hHeld ⊢
                         refine pure_ (i := 0) (N := some 197) (v := ?_) (a' := ?_) #[true, false, false, false, false, false, false, false, false, false, false, false, false, false, false] rfl rfl (any_of HT_.out (by kernel_rfl)) (fun _ _ _ h => h) (Or.inl ⟨by rfl, ?_⟩) ?_ ?_
                         rotate_left
                         ·
                          intro w'
                          go_simp
                          with_reducible rfl
                         rotate_left
                         ·
                          simp only [Act.put, List.setIfInBounds_toArray, List.set_cons_zero, List.set_cons_succ, i64_w, i32_w]
                          rfl
                         refine pure_ (i := 1) (N := some 198) (v := ?_) (a' := ?_) #[true, true, false, false, false, false, false, false, false, false, false, false, false, false, false] rfl rfl (any_of HT_.out (by kernel_rfl)) (fun _ _ _ h => h) (Or.inl ⟨by rfl, ?_⟩) ?_ ?_
                         rotate_left
                         ·
                          intro w'
                          go_simp
                          with_reducible rfl
                         rotate_left
                         ·
                          simp only [Act.put, List.setIfInBounds_toArray, List.set_cons_zero, List.set_cons_succ, i64_w, i32_w]
                          rfl
                         refine pure_ (i := 2) (N := some 199) (v := ?_) (a' := ?_) #[true, true, true, false, false, false, false, false, false, false, false, false, false, false, false] rfl rfl (any_of HT_.out (by kernel_rfl)) (fun _ _ _ h => h) (Or.inl ⟨by rfl, ?_⟩) ?_ ?_
                         rotate_left
                         ·
                          intro w'
                          go_simp
                          with_reducible rfl
                         rotate_left
                         ·
                          simp only [Act.put, List.setIfInBounds_toArray, List.set_cons_zero, List.set_cons_succ, i64_w, i32_w]
                          rfl
                         refine pure_ (i := 3) (N := some 200) (v := ?_) (a' := ?_) #[true, true, true, true, false, false, false, false, false, false, false, false, false, false, false] rfl rfl (any_of HT_.out (by kernel_rfl)) (fun _ _ _ h => h) (Or.inl ⟨by rfl, ?_⟩) ?_ ?_
                         rotate_left
                         ·
                          intro w'
                          go_simp
                          with_reducible rfl
                         rotate_left
                         ·
                          simp only [Act.put, List.setIfInBounds_toArray, List.set_cons_zero, List.set_cons_succ, i64_w, i32_w]
                          rfl
                         refine pure_ (i := 5) (N := some 202) (v := ?_) (a' := ?_) #[true, true, true, true, false, true, false, false, false, false, false, false, false, false, false] rfl rfl (any_of HT_.out (by kernel_rfl)) (fun _ _ _ h => h) (Or.inl ⟨by rfl, ?_⟩) ?_ ?_
                         rotate_left
                         ·
                          intro w'
                          go_simp
                          with_reducible rfl
                         rotate_left
                         ·
                          simp only [Act.put, List.setIfInBounds_toArray, List.set_cons_zero, List.set_cons_succ, i64_w, i32_w]
                          rfl
                         refine pure_ (i := 6) (N := some 203) (v := ?_) (a' := ?_) #[true, true, true, true, false, true, true, false, false, false, false, false, false, false, false] rfl rfl (any_of HT_.out (by kernel_rfl)) (fun _ _ _ h => h) (Or.inl ⟨by rfl, ?_⟩) ?_ ?_
                         rotate_left
                         ·
                          intro w'
                          go_simp
                          with_reducible rfl
                         rotate_left
                         ·
                          simp only [Act.put, List.setIfInBounds_toArray, List.set_cons_zero, List.set_cons_succ, i64_w, i32_w]
                          rfl
                         refine pure_ (i := 7) (N := some 204) (v := ?_) (a' := ?_) #[true, true, true, true, false, true, true, true, false, false, false, false, false, false, false] rfl rfl (any_of HT_.out (by kernel_rfl)) (fun _ _ _ h => h) (Or.inl ⟨by rfl, ?_⟩) ?_ ?_
                         rotate_left
                         ·
                          intro w'
                          go_simp
                          with_reducible rfl
                         rotate_left
                         ·
                          simp only [Act.put, List.setIfInBounds_toArray, List.set_cons_zero, List.set_cons_succ, i64_w, i32_w]
                          rfl
                         refine pure_ (i := 8) (N := some 205) (v := ?_) (a' := ?_) #[true, true, true, true, false, true, true, true, true, false, false, false, false, false, false] rfl rfl (any_of HT_.out (by kernel_rfl)) (fun _ _ _ h => h) (Or.inl ⟨by rfl, ?_⟩) ?_ ?_
                         rotate_left
                         ·
                          intro w'
                          go_simp
                          with_reducible rfl
                         rotate_left
                         ·
                          simp only [Act.put, List.setIfInBounds_toArray, List.set_cons_zero, List.set_cons_succ, i64_w, i32_w]
                          rfl
                         refine take_ (i := 4) (N := some 201) (v := ?_) (a' := ?_) #[true, true, true, true, true, true, true, true, true, false, false, false, false, false, false] rfl rfl (take_ofW HT_.out HW_.out (by kernel_rfl)) (fun _ _ _ h => h) (Or.inl ⟨by rfl, ?_⟩) hHeld ?_ ?_
                         rotate_left
                         ·
                          rintro w' ⟨s0, s1, s2, s3, s4, s5⟩
                          go_simp
                          with_reducible rfl
                         rotate_left
                         ·
                          simp only [Act.put, List.setIfInBounds_toArray, List.set_cons_zero, List.set_cons_succ, i64_w, i32_w]
                          rfl
                         refine take_ (i := 9) (N := some 206) (v := ?_) (a' := ?_) #[true, true, true, true, true, true, true, true, true, true, false, false, false, false, false] rfl rfl (take_ofW HT_.out HW_.out (by kernel_rfl)) (fun _ _ _ h => h) (Or.inl ⟨by rfl, ?_⟩) hHeld ?_ ?_
                         rotate_left
                         ·
                          rintro w' ⟨s0, s1, s2, s3, s4, s5⟩
                          go_simp
                          with_reducible rfl
                         rotate_left
                         ·
                          simp only [Act.put, List.setIfInBounds_toArray, List.set_cons_zero, List.set_cons_succ, i64_w, i32_w]
                          rfl
                         refine pure_ (i := 10) (N := some 207) (v := ?_) (a' := ?_) #[true, true, true, true, true, true, true, true, true, true, true, false, false, false, false] rfl rfl (any_of HT_.out (by kernel_rfl)) (fun _ _ _ h => h) (Or.inl ⟨by rfl, ?_⟩) ?_ ?_
                         rotate_left
                         ·
                          intro w'
                          go_simp
                          with_reducible rfl
                         rotate_left
                         ·
                          simp only [Act.put, List.setIfInBounds_toArray, List.set_cons_zero, List.set_cons_succ, i64_w, i32_w]
                          rfl
                         refine pure_ (i := 11) (N := some 208) (v := ?_) (a' := ?_) #[true, true, true, true, true, true, true, true, true, true, true, true, false, false, false] rfl rfl (any_of HT_.out (by kernel_rfl)) (fun _ _ _ h => h) (Or.inl ⟨by rfl, ?_⟩) ?_ ?_
                         rotate_left
                         ·
                          intro w'
                          go_simp
                          with_reducible rfl
                         rotate_left
                         ·
                          simp only [Act.put, List.setIfInBounds_toArray, List.set_cons_zero, List.set_cons_succ, i64_w, i32_w]
                          rfl
                         refine one_ (i := 12) (N := some 209) #[true, true, true, true, true, true, true, true, true, true, true, true, true, false, false] rfl rfl (one_of HT_.out (by kernel_rfl)) (by decide) (fun K hK => ?_)
                         refine goes_ Try.func15 (by kernel_rfl) rfl #[] (by rfl) rfl rfl (by (try simp only [List.map_toArray, List.map_cons, List.map_nil]); first | done | rfl | (simp only [List.length_drop, List.length_take]; rfl)) ?_
                         with_reducible refine (dancestudiolaw50_awake.calls k6  t609 _ ?sidem_ A88.out).mono ?_
                         case sidem_ => first | ((repeat (first | exact HMX_.out | apply Mx.drewN | apply Mx.drew)); done) | (refine Mx.below HMX_.out ?_; (repeat (first | (with_reducible first | exact HB.out | apply below_alloc | apply pw_below_drewN | apply below_drew1 | refine below_set ?_ (Aside0.out (by assumption))) | exact HB.out)); done)
                         rintro e w91 ⟨rfl, hb⟩
                         have HS0_ := (hb.cell (World.block_lt_of_cell? _ _ (hHeld.1))).trans (hHeld.1)
                         have HS1_ := (hb.cell (World.block_lt_of_cell? _ _ (hHeld.2.1))).trans (hHeld.2.1)
                         have HS2_ := (hb.cell (World.block_lt_of_cell? _ _ (hHeld.2.2.1))).trans (hHeld.2.2.1)
                         refine ⟨_, rfl, ?_⟩
                         have n0_ := Aside0.mk (Kd.R_below (by (with_reducible repeat (first | apply Kd.R_alloc | apply Kd.R_drewN | apply Kd.R_drew)); exact HO_5.out) hb)
                         have n1_ := Aside0.mk (blk_below (g := gb577) (o := .cells #[.slice A0_0 l0_0.length c0_0, .slice A0_1 l0_1.length c0_1, .slice A0_2 l0_2.length c0_2, .int .i64 a0_3] 26 (0, 0)) (by (with_reducible repeat (first | refine blk_drewN ?_ _ | refine blk_drew ?_ | refine blk_alloc ?_ _)); exact BK577.out) hb)
                         have n2_ := Aside0.mk (below_step (by repeat (first | (with_reducible first | exact HB.out | apply below_alloc | apply pw_below_drewN | apply below_drew1 | refine below_set ?_ GE577.out) | exact HB.out)) hb)
                         clear HO_5
                         clear BK577
                         clear HB
                         have HO_5 := n0_
                         have BK577 := n1_
                         have HB := n2_
                         clear n0_ n1_ n2_
                         (try clear hb)
                         (try clear hb2)
                         (try clear hk)
                         (try clear hi)
                         refine hK.out _ _ ⟨HS0_, HS1_, HS2_, ((HB.out.cell (World.block_lt_of_cell? w _ hw608_0)).trans hw608_0), ((HB.out.cell (World.block_lt_of_cell? w _ hw608_1)).trans hw608_1), ((HB.out.cell (World.block_lt_of_cell? w _ hw608_2)).trans hw608_2)⟩ (fun hHeld => ?_)
                         clear hK K
                         refine norm_ (a' := ?_) ?_ ?_
                         rotate_left
                         ·
                          show Act.put _ (some 209) _ = _
                          simp only [Act.put, List.setIfInBounds_toArray, List.set_cons_zero, List.set_cons_succ, i64_w, i32_w]
                          rfl
                         refine pure_ (i := 13) (N := some 210) (v := ?_) (a' := ?_) #[true, true, true, true, true, true, true, true, true, true, true, true, true, true, false] rfl rfl (any_of HT_.out (by kernel_rfl)) (fun _ _ _ h => h) (Or.inl ⟨by rfl, ?_⟩) ?_ ?_
                         rotate_left
                         ·
                          intro w'
                          go_simp
                          with_reducible rfl
                         rotate_left
                         ·
                          simp only [Act.put, List.setIfInBounds_toArray, List.set_cons_zero, List.set_cons_succ, i64_w, i32_w]
                          rfl
                         refine pure_ (i := 14) (N := some 4) (v := ?_) (a' := ?_) #[true, true, true, true, true, true, true, true, true, true, true, true, true, true, true] rfl rfl (any_of HT_.out (by kernel_rfl)) (fun _ _ _ h => h) (Or.inl ⟨by rfl, ?_⟩) ?_ ?_
                         rotate_left
                         ·
                          intro w'
                          go_simp
                          with_reducible rfl
                         rotate_left
                         ·
                          simp only [Act.put, List.setIfInBounds_toArray, List.set_cons_zero, List.set_cons_succ, i64_w, i32_w]
                          rfl
                         refine done_ (done_of HT_.out (by kernel_rfl)) ?_
                         try go_wp2
                         go_ret
                         exact ⟨by first | rfl | (simp [errW_none, errW_some] <;> rfl) | (simp [*, errW_none, errW_some] <;> rfl), by repeat (first | (with_reducible first | exact HB.out | apply below_alloc | apply pw_below_drewN | apply below_drew1 | refine below_set ?_ GE577.out) | exact HB.out)⟩
                        ·
                         rw [if_neg c87] at H
                         have c87b0 : decide (((rd_T48 t580 x15_6).f1) < ((rd_T48 l1 x15_6).f1)) = false := decide_eq_false c87
                         clear c87
                         exact absurd H (by simp)
                      ·
                       rw [if_neg c84] at H
                       exact absurd H (by simp)
                     ·
                      rw [if_neg c83] at H
                      exact absurd H (by simp)
                    ·
                     rw [if_neg c82] at H
                     have c82b0 : decide (x15_6 < (l1.length : Int)) = false := decide_eq_false c82
                     clear c82
                     replace H := Option.bind_eq_some_iff.mp H
                     obtain ⟨t610, A920, H⟩ := H
                     replace H : (some t610) = some r := H
                     have A92 := Aside0.mk A920
                     clear A920
                     obtain rfl := Option.some.inj H
                     go_wp2_with (first | ((with_reducible refine gate_callee (f := 15) rfl ?_); refine goesL_ (some 211) rfl rfl Try.func15 (by kernel_rfl) rfl #[] rfl (by (try simp only [List.map_toArray, List.map_cons, List.map_nil]); first | done | rfl | (simp only [List.length_drop, List.length_take]; rfl)) ?_; (with_reducible refine (dancestudiolaw50_awake.calls k6  t610 _ ?sidem_ A92.out).mono ?_); (case sidem_ => first | ((repeat (first | exact HMX_.out | apply Mx.drewN | apply Mx.drew)); done) | (refine Mx.below HMX_.out ?_; (repeat (first | (with_reducible first | exact HB.out | apply below_alloc | apply pw_below_drewN | apply below_drew1 | refine below_set ?_ (Aside0.out (by assumption))) | exact HB.out)); done)); rintro e w93 ⟨rfl, hb⟩; refine ⟨_, rfl, ?_⟩; have n0_ := Aside0.mk (Kd.R_below (by (with_reducible repeat (first | apply Kd.R_alloc | apply Kd.R_drewN | apply Kd.R_drew)); exact HO_5.out) hb); have n1_ := Aside0.mk (blk_below (g := gb577) (o := .cells #[.slice A0_0 l0_0.length c0_0, .slice A0_1 l0_1.length c0_1, .slice A0_2 l0_2.length c0_2, .int .i64 a0_3] 26 (0, 0)) (by (with_reducible repeat (first | refine blk_drewN ?_ _ | refine blk_drew ?_ | refine blk_alloc ?_ _)); exact BK577.out) hb); have n2_ := Aside0.mk (below_step (by repeat (first | (with_reducible first | exact HB.out | apply below_alloc | apply pw_below_drewN | apply below_drew1 | refine below_set ?_ GE577.out) | exact HB.out)) hb); clear HO_5; clear BK577; clear HB; have HO_5 := n0_; have BK577 := n1_; have HB := n2_; clear n0_ n1_ n2_; (try clear hb); (try clear hb2); (try clear hk); (try clear hi)))
                     go_ret
                     exact ⟨by first | rfl | (simp [errW_none, errW_some] <;> rfl) | (simp [*, errW_none, errW_some] <;> rfl), by repeat (first | (with_reducible first | exact HB.out | apply below_alloc | apply pw_below_drewN | apply below_drew1 | refine below_set ?_ GE577.out) | exact HB.out)⟩
     ·
      rw [if_neg c20] at H
      have c20b0 : (t583 == 0) = false := beq_eq_false_iff_ne.mpr c20
      have c20b1 : (t583 != 0) = true := bne_iff_ne.mpr c20
      by_cases c94 : (t580.length : Int) = 0
      ·
       rw [if_pos c94] at H
       have c94b0 : ((t580.length : Int) == 0) = true := beq_iff_eq.mpr c94
       have c94b1 : ((t580.length : Int) != 0) = false := bne_eq_false_iff_eq.mpr c94
       clear c94
       by_cases c95 : t583 = 42
       ·
        rw [if_pos c95] at H
        have c95b0 : (t583 == 42) = true := beq_iff_eq.mpr c95
        have c95b1 : (t583 != 42) = false := bne_eq_false_iff_eq.mpr c95
        clear c95
        by_cases c96 : t588 = 0
        ·
         rw [if_pos c96] at H
         exact absurd H (by simp)
        ·
         rw [if_neg c96] at H
         have c96b0 : (t588 == 0) = false := beq_eq_false_iff_ne.mpr c96
         have c96b1 : (t588 != 0) = true := bne_iff_ne.mpr c96
         replace H := Option.bind_eq_some_iff.mp H
         obtain ⟨t590, A970, H⟩ := H
         replace H : (some t590) = some r := H
         have A97 := Aside0.mk A970
         clear A970
         obtain rfl := Option.some.inj H
         have hcz98_0 : wc.cell? ⟨gb577, 0, none⟩ = some (.slice A0_0 l0_0.length c0_0) := (blk_cell BK577.out 0).trans rfl
         have hcz98_1 : wc.cell? ⟨gb577, 1, none⟩ = some (.slice A0_1 l0_1.length c0_1) := (blk_cell BK577.out 1).trans rfl
         have hcz98_2 : wc.cell? ⟨gb577, 2, none⟩ = some (.slice A0_2 l0_2.length c0_2) := (blk_cell BK577.out 2).trans rfl
         have hcz98_3 : wc.cell? ⟨gb577, 3, none⟩ = some (.int .i64 a0_3) := (blk_cell BK577.out 3).trans rfl
         have hfz98_0 := blk_frozen BK577.out 0
         have hfz98_1 := blk_frozen BK577.out 1
         have hfz98_2 := blk_frozen BK577.out 2
         have hfz98_3 := blk_frozen BK577.out 3
         go_wp2_with (first | ((with_reducible refine gate_dst (N := 43) rfl ?_); refine goesL_ (some 43) rfl rfl Try.func11 (by kernel_rfl) rfl #[.agg #[.slice A0_0 l0_0.length c0_0, .slice A0_1 l0_1.length c0_1, .slice A0_2 l0_2.length c0_2, .int .i64 a0_3]] rfl (by (try simp only [List.map_toArray, List.map_cons, List.map_nil]); first | done | rfl | (simp only [List.length_drop, List.length_take]; rfl)) ?_; (with_reducible refine (dancestudiolaw50_of.calls  t586 _ A17.out).mono ?_); rintro e w105 ⟨rfl, hb⟩; refine ⟨_, rfl, ?_⟩; have n0_ := Aside0.mk (Kd.R_below (by (with_reducible repeat (first | apply Kd.R_alloc | apply Kd.R_drewN | apply Kd.R_drew)); exact HO582.out) hb); have n1_ := Aside0.mk (blk_below (g := gb577) (o := .cells #[.slice A0_0 l0_0.length c0_0, .slice A0_1 l0_1.length c0_1, .slice A0_2 l0_2.length c0_2, .int .i64 a0_3] 26 (0, 0)) (by (with_reducible repeat (first | refine blk_drewN ?_ _ | refine blk_drew ?_ | refine blk_alloc ?_ _)); exact BK577.out) hb); have n2_ := Aside0.mk (below_step (by repeat (first | (with_reducible first | exact HB.out | apply below_alloc | apply pw_below_drewN | apply below_drew1 | refine below_set ?_ GE577.out) | exact HB.out)) hb); clear HO582; clear BK577; clear HB; have HO582 := n0_; have BK577 := n1_; have HB := n2_; clear n0_ n1_ n2_; (try clear hb); (try clear hb2); (try clear hk); (try clear hi)) | ((with_reducible refine gate_callee (f := 21) rfl ?_); refine goesL_ (some 35) rfl rfl Try.func21 (by kernel_rfl) rfl #[.agg #[.slice A0_0 l0_0.length c0_0, .slice A0_1 l0_1.length c0_1, .slice A0_2 l0_2.length c0_2, .int .i64 a0_3]] rfl (by (try simp only [List.map_toArray, List.map_cons, List.map_nil]); first | done | rfl | (simp only [List.length_drop, List.length_take]; rfl)) ?_; (with_reducible refine (rehearse_Plan.calls kj2 _ _ l0_0 _ _ l0_1 _ _ l0_2 a0_3 t580 t583 _ ?side1 ?side2 ?side3 ?side4 ?side5 ?side6 ?sidem_ A14.out).mono ?_); (case sidem_ => first | ((repeat (first | exact HMX_.out | apply Mx.drewN | apply Mx.drew)); done) | (refine Mx.below HMX_.out ?_; (repeat (first | (with_reducible first | exact HB.out | apply below_alloc | apply pw_below_drewN | apply below_drew1 | refine below_set ?_ (Aside0.out (by assumption))) | exact HB.out)); done)); (case side1 => repeat (first | exact (Kd.C_below HR0_0.out HB.out) | (with_reducible refine Kd.C_alloc ?_ _) | (with_reducible refine Kd.C_drewN ?_ _) | (with_reducible refine Kd.C_drew ?_))); (case side2 => exact HC0_0.out); (case side3 => repeat (first | exact (Kd.C_below HR0_1.out HB.out) | (with_reducible refine Kd.C_alloc ?_ _) | (with_reducible refine Kd.C_drewN ?_ _) | (with_reducible refine Kd.C_drew ?_))); (case side4 => exact HC0_1.out); (case side5 => repeat (first | exact (Kd.C_below HR0_2.out HB.out) | (with_reducible refine Kd.C_alloc ?_ _) | (with_reducible refine Kd.C_drewN ?_ _) | (with_reducible refine Kd.C_drew ?_))); (case side6 => exact HC0_2.out); rintro e w100 ⟨v581, rfl, ho0, hb⟩; refine ⟨_, rfl, ?_⟩; have n0_ := Aside0.mk (Kd.R_lower ho0 (below_size (by repeat (first | (with_reducible first | exact HB.out | apply below_alloc | apply pw_below_drewN | apply below_drew1 | refine below_set ?_ GE577.out) | exact HB.out)))); have n1_ := Aside0.mk (blk_below (g := gb577) (o := .cells #[.slice A0_0 l0_0.length c0_0, .slice A0_1 l0_1.length c0_1, .slice A0_2 l0_2.length c0_2, .int .i64 a0_3] 26 (0, 0)) (by (with_reducible repeat (first | refine blk_drewN ?_ _ | refine blk_drew ?_ | refine blk_alloc ?_ _)); exact BK577.out) hb); have n2_ := Aside0.mk (below_step (by repeat (first | (with_reducible first | exact HB.out | apply below_alloc | apply pw_below_drewN | apply below_drew1 | refine below_set ?_ GE577.out) | exact HB.out)) hb); clear BK577; clear HB; have HO582 := n0_; have BK577 := n1_; have HB := n2_; clear n0_ n1_ n2_; (try clear hb); (try clear hb2); (try clear hk); (try clear hi); (try clear ho0); have hcz101_0 : w100.cell? ⟨gb577, 0, none⟩ = some (.slice A0_0 l0_0.length c0_0) := (blk_cell BK577.out 0).trans rfl; have hcz101_1 : w100.cell? ⟨gb577, 1, none⟩ = some (.slice A0_1 l0_1.length c0_1) := (blk_cell BK577.out 1).trans rfl; have hcz101_2 : w100.cell? ⟨gb577, 2, none⟩ = some (.slice A0_2 l0_2.length c0_2) := (blk_cell BK577.out 2).trans rfl; have hcz101_3 : w100.cell? ⟨gb577, 3, none⟩ = some (.int .i64 a0_3) := (blk_cell BK577.out 3).trans rfl; have hfz101_0 := blk_frozen BK577.out 0; have hfz101_1 := blk_frozen BK577.out 1; have hfz101_2 := blk_frozen BK577.out 2; have hfz101_3 := blk_frozen BK577.out 3) | ((with_reducible refine gate_dst (N := 39) rfl ?_); refine goesL_ (some 39) rfl rfl Try.func11 (by kernel_rfl) rfl #[.agg #[.slice A0_0 l0_0.length c0_0, .slice A0_1 l0_1.length c0_1, .slice A0_2 l0_2.length c0_2, .int .i64 a0_3]] rfl (by (try simp only [List.map_toArray, List.map_cons, List.map_nil]); first | done | rfl | (simp only [List.length_drop, List.length_take]; rfl)) ?_; (with_reducible refine (dancestudiolaw50_of.calls  t584 _ A15.out).mono ?_); rintro e w102 ⟨rfl, hb⟩; refine ⟨_, rfl, ?_⟩; have n0_ := Aside0.mk (Kd.R_below (by (with_reducible repeat (first | apply Kd.R_alloc | apply Kd.R_drewN | apply Kd.R_drew)); exact HO582.out) hb); have n1_ := Aside0.mk (blk_below (g := gb577) (o := .cells #[.slice A0_0 l0_0.length c0_0, .slice A0_1 l0_1.length c0_1, .slice A0_2 l0_2.length c0_2, .int .i64 a0_3] 26 (0, 0)) (by (with_reducible repeat (first | refine blk_drewN ?_ _ | refine blk_drew ?_ | refine blk_alloc ?_ _)); exact BK577.out) hb); have n2_ := Aside0.mk (below_step (by repeat (first | (with_reducible first | exact HB.out | apply below_alloc | apply pw_below_drewN | apply below_drew1 | refine below_set ?_ GE577.out) | exact HB.out)) hb); clear HO582; clear BK577; clear HB; have HO582 := n0_; have BK577 := n1_; have HB := n2_; clear n0_ n1_ n2_; (try clear hb); (try clear hb2); (try clear hk); (try clear hi)) | ((with_reducible refine gate_callee (f := 13) rfl ?_); refine goesL_ (some 40) rfl rfl Try.func13 (by kernel_rfl) rfl #[.agg #[.slice A0_0 l0_0.length c0_0, .slice A0_1 l0_1.length c0_1, .slice A0_2 l0_2.length c0_2, .int .i64 a0_3]] rfl (by (try simp only [List.map_toArray, List.map_cons, List.map_nil]); first | done | rfl | (simp only [List.length_drop, List.length_take]; rfl)) ?_; (with_reducible refine (rehearse_Check.calls kj2 _ _ l0_0 _ _ l0_1 _ _ l0_2 a0_3 t585 _ ?side1 ?side2 ?side3 ?side4 ?side5 ?side6 ?sidem_ A16.out).mono ?_); (case sidem_ => first | ((repeat (first | exact HMX_.out | apply Mx.drewN | apply Mx.drew)); done) | (refine Mx.below HMX_.out ?_; (repeat (first | (with_reducible first | exact HB.out | apply below_alloc | apply pw_below_drewN | apply below_drew1 | refine below_set ?_ (Aside0.out (by assumption))) | exact HB.out)); done)); (case side1 => repeat (first | exact (Kd.C_below HR0_0.out HB.out) | (with_reducible refine Kd.C_alloc ?_ _) | (with_reducible refine Kd.C_drewN ?_ _) | (with_reducible refine Kd.C_drew ?_))); (case side2 => exact HC0_0.out); (case side3 => repeat (first | exact (Kd.C_below HR0_1.out HB.out) | (with_reducible refine Kd.C_alloc ?_ _) | (with_reducible refine Kd.C_drewN ?_ _) | (with_reducible refine Kd.C_drew ?_))); (case side4 => exact HC0_1.out); (case side5 => repeat (first | exact (Kd.C_below HR0_2.out HB.out) | (with_reducible refine Kd.C_alloc ?_ _) | (with_reducible refine Kd.C_drewN ?_ _) | (with_reducible refine Kd.C_drew ?_))); (case side6 => exact HC0_2.out); rintro e w103 ⟨rfl, hb⟩; refine ⟨_, rfl, ?_⟩; have n0_ := Aside0.mk (Kd.R_below (by (with_reducible repeat (first | apply Kd.R_alloc | apply Kd.R_drewN | apply Kd.R_drew)); exact HO582.out) hb); have n1_ := Aside0.mk (blk_below (g := gb577) (o := .cells #[.slice A0_0 l0_0.length c0_0, .slice A0_1 l0_1.length c0_1, .slice A0_2 l0_2.length c0_2, .int .i64 a0_3] 26 (0, 0)) (by (with_reducible repeat (first | refine blk_drewN ?_ _ | refine blk_drew ?_ | refine blk_alloc ?_ _)); exact BK577.out) hb); have n2_ := Aside0.mk (below_step (by repeat (first | (with_reducible first | exact HB.out | apply below_alloc | apply pw_below_drewN | apply below_drew1 | refine below_set ?_ GE577.out) | exact HB.out)) hb); clear HO582; clear BK577; clear HB; have HO582 := n0_; have BK577 := n1_; have HB := n2_; clear n0_ n1_ n2_; (try clear hb); (try clear hb2); (try clear hk); (try clear hi); have hcz104_0 : w103.cell? ⟨gb577, 0, none⟩ = some (.slice A0_0 l0_0.length c0_0) := (blk_cell BK577.out 0).trans rfl; have hcz104_1 : w103.cell? ⟨gb577, 1, none⟩ = some (.slice A0_1 l0_1.length c0_1) := (blk_cell BK577.out 1).trans rfl; have hcz104_2 : w103.cell? ⟨gb577, 2, none⟩ = some (.slice A0_2 l0_2.length c0_2) := (blk_cell BK577.out 2).trans rfl; have hcz104_3 : w103.cell? ⟨gb577, 3, none⟩ = some (.int .i64 a0_3) := (blk_cell BK577.out 3).trans rfl; have hfz104_0 := blk_frozen BK577.out 0; have hfz104_1 := blk_frozen BK577.out 1; have hfz104_2 := blk_frozen BK577.out 2; have hfz104_3 := blk_frozen BK577.out 3) | ((with_reducible refine gate_dst (N := 34) rfl ?_); refine goesL_ (some 34) rfl rfl Try.func11 (by kernel_rfl) rfl #[.agg #[.slice A0_0 l0_0.length c0_0, .slice A0_1 l0_1.length c0_1, .slice A0_2 l0_2.length c0_2, .int .i64 a0_3]] rfl (by (try simp only [List.map_toArray, List.map_cons, List.map_nil]); first | done | rfl | (simp only [List.length_drop, List.length_take]; rfl)) ?_; (with_reducible refine (dancestudiolaw50_of.calls  t579 _ A13.out).mono ?_); rintro e w99 ⟨rfl, hb⟩; refine ⟨_, rfl, ?_⟩; have n0_ := Aside0.mk (blk_below (g := gb577) (o := .cells #[.slice A0_0 l0_0.length c0_0, .slice A0_1 l0_1.length c0_1, .slice A0_2 l0_2.length c0_2, .int .i64 a0_3] 26 (0, 0)) (by (with_reducible repeat (first | refine blk_drewN ?_ _ | refine blk_drew ?_ | refine blk_alloc ?_ _)); exact BK577.out) hb); have n1_ := Aside0.mk (below_step (by repeat (first | (with_reducible first | exact HB.out | apply below_alloc | apply pw_below_drewN | apply below_drew1 | refine below_set ?_ GE577.out) | exact HB.out)) hb); clear BK577; clear HB; have BK577 := n0_; have HB := n1_; clear n0_ n1_; (try clear hb); (try clear hb2); (try clear hk); (try clear hi)) | ((with_reducible refine gate_callee (f := 16) rfl ?_); refine goesL_ (some 45) rfl rfl Try.func16 (by kernel_rfl) rfl #[.agg #[.slice A0_0 l0_0.length c0_0, .slice A0_1 l0_1.length c0_1, .slice A0_2 l0_2.length c0_2, .int .i64 a0_3], .slice A1 l1.length c1] rfl (by (try simp only [List.map_toArray, List.map_cons, List.map_nil]); first | done | rfl | (simp only [List.length_drop, List.length_take]; rfl)) ?_; (with_reducible refine (rehearse_End.calls kj2 _ _ l0_0 _ _ l0_1 _ _ l0_2 a0_3 _ _ l1 t587 t588 _ ?side1 ?side2 ?side3 ?side4 ?side5 ?side6 ?side7 ?side8 ?sidem_ A18.out).mono ?_); (case sidem_ => first | ((repeat (first | exact HMX_.out | apply Mx.drewN | apply Mx.drew)); done) | (refine Mx.below HMX_.out ?_; (repeat (first | (with_reducible first | exact HB.out | apply below_alloc | apply pw_below_drewN | apply below_drew1 | refine below_set ?_ (Aside0.out (by assumption))) | exact HB.out)); done)); (case side1 => repeat (first | exact (Kd.C_below HR0_0.out HB.out) | (with_reducible refine Kd.C_alloc ?_ _) | (with_reducible refine Kd.C_drewN ?_ _) | (with_reducible refine Kd.C_drew ?_))); (case side2 => exact HC0_0.out); (case side3 => repeat (first | exact (Kd.C_below HR0_1.out HB.out) | (with_reducible refine Kd.C_alloc ?_ _) | (with_reducible refine Kd.C_drewN ?_ _) | (with_reducible refine Kd.C_drew ?_))); (case side4 => exact HC0_1.out); (case side5 => repeat (first | exact (Kd.C_below HR0_2.out HB.out) | (with_reducible refine Kd.C_alloc ?_ _) | (with_reducible refine Kd.C_drewN ?_ _) | (with_reducible refine Kd.C_drew ?_))); (case side6 => exact HC0_2.out); (case side7 => repeat (first | exact (Kd.C_below HR1.out HB.out) | (with_reducible refine Kd.C_alloc ?_ _) | (with_reducible refine Kd.C_drewN ?_ _) | (with_reducible refine Kd.C_drew ?_))); (case side8 => exact HC1.out); rintro e w106 ⟨rfl, hb⟩; refine ⟨_, rfl, ?_⟩; have n0_ := Aside0.mk (Kd.R_below (by (with_reducible repeat (first | apply Kd.R_alloc | apply Kd.R_drewN | apply Kd.R_drew)); exact HO582.out) hb); have n1_ := Aside0.mk (blk_below (g := gb577) (o := .cells #[.slice A0_0 l0_0.length c0_0, .slice A0_1 l0_1.length c0_1, .slice A0_2 l0_2.length c0_2, .int .i64 a0_3] 26 (0, 0)) (by (with_reducible repeat (first | refine blk_drewN ?_ _ | refine blk_drew ?_ | refine blk_alloc ?_ _)); exact BK577.out) hb); have n2_ := Aside0.mk (below_step (by repeat (first | (with_reducible first | exact HB.out | apply below_alloc | apply pw_below_drewN | apply below_drew1 | refine below_set ?_ GE577.out) | exact HB.out)) hb); clear HO582; clear BK577; clear HB; have HO582 := n0_; have BK577 := n1_; have HB := n2_; clear n0_ n1_ n2_; (try clear hb); (try clear hb2); (try clear hk); (try clear hi); obtain ⟨Ao107, co107, eo107⟩ := Kd.R_slice HO582.out; subst eo107) | (go_at_call 15; (with_reducible refine (dancestudiolaw50_awake.calls kj2  t590 _ ?sidem_ A97.out).mono ?_); (case sidem_ => first | ((repeat (first | exact HMX_.out | apply Mx.drewN | apply Mx.drew)); done) | (refine Mx.below HMX_.out ?_; (repeat (first | (with_reducible first | exact HB.out | apply below_alloc | apply pw_below_drewN | apply below_drew1 | refine below_set ?_ (Aside0.out (by assumption))) | exact HB.out)); done)); rintro e w108 ⟨rfl, hb⟩; have n0_ := Aside0.mk (Kd.R_below (by (with_reducible repeat (first | apply Kd.R_alloc | apply Kd.R_drewN | apply Kd.R_drew)); exact HO582.out) hb); have n1_ := Aside0.mk (blk_below (g := gb577) (o := .cells #[.slice A0_0 l0_0.length c0_0, .slice A0_1 l0_1.length c0_1, .slice A0_2 l0_2.length c0_2, .int .i64 a0_3] 26 (0, 0)) (by (with_reducible repeat (first | refine blk_drewN ?_ _ | refine blk_drew ?_ | refine blk_alloc ?_ _)); exact BK577.out) hb); have n2_ := Aside0.mk (below_step (by repeat (first | (with_reducible first | exact HB.out | apply below_alloc | apply pw_below_drewN | apply below_drew1 | refine below_set ?_ GE577.out) | exact HB.out)) hb); clear HO582; clear BK577; clear HB; have HO582 := n0_; have BK577 := n1_; have HB := n2_; clear n0_ n1_ n2_; (try clear hb); (try clear hb2); (try clear hk); (try clear hi)))
         go_ret
         exact ⟨by first | rfl | (simp [errW_none, errW_some] <;> rfl) | (simp [*, errW_none, errW_some] <;> rfl), by repeat (first | (with_reducible first | exact HB.out | apply below_alloc | apply pw_below_drewN | apply below_drew1 | refine below_set ?_ GE577.out) | exact HB.out)⟩
       ·
        rw [if_neg c95] at H
        exact absurd H (by simp)
      ·
       rw [if_neg c94] at H
       exact absurd H (by simp)
    ·
     rw [if_neg c19] at H
     have c19b0 : (t585 == 0) = false := beq_eq_false_iff_ne.mpr c19
     have c19b1 : (t585 != 0) = true := bne_iff_ne.mpr c19
     by_cases c109 : (t580.length : Int) = 0
     ·
      rw [if_pos c109] at H
      have c109b0 : ((t580.length : Int) == 0) = true := beq_iff_eq.mpr c109
      have c109b1 : ((t580.length : Int) != 0) = false := bne_eq_false_iff_eq.mpr c109
      clear c109
      by_cases c110 : t583 = t585
      ·
       rw [if_pos c110] at H
       have c110b0 : (t583 == t585) = true := beq_iff_eq.mpr c110
       have c110b1 : (t583 != t585) = false := bne_eq_false_iff_eq.mpr c110
       clear c110
       by_cases c111 : t587 = 0
       ·
        rw [if_pos c111] at H
        have c111b0 : (t587 == 0) = true := beq_iff_eq.mpr c111
        have c111b1 : (t587 != 0) = false := bne_eq_false_iff_eq.mpr c111
        clear c111
        by_cases c112 : t588 = t585
        ·
         rw [if_pos c112] at H
         have c112b0 : (t588 == t585) = true := beq_iff_eq.mpr c112
         have c112b1 : (t588 != t585) = false := bne_eq_false_iff_eq.mpr c112
         clear c112
         replace H := Option.bind_eq_some_iff.mp H
         obtain ⟨t589, A1130, H⟩ := H
         replace H : (some t589) = some r := H
         have A113 := Aside0.mk A1130
         clear A1130
         obtain rfl := Option.some.inj H
         have hcz114_0 : wc.cell? ⟨gb577, 0, none⟩ = some (.slice A0_0 l0_0.length c0_0) := (blk_cell BK577.out 0).trans rfl
         have hcz114_1 : wc.cell? ⟨gb577, 1, none⟩ = some (.slice A0_1 l0_1.length c0_1) := (blk_cell BK577.out 1).trans rfl
         have hcz114_2 : wc.cell? ⟨gb577, 2, none⟩ = some (.slice A0_2 l0_2.length c0_2) := (blk_cell BK577.out 2).trans rfl
         have hcz114_3 : wc.cell? ⟨gb577, 3, none⟩ = some (.int .i64 a0_3) := (blk_cell BK577.out 3).trans rfl
         have hfz114_0 := blk_frozen BK577.out 0
         have hfz114_1 := blk_frozen BK577.out 1
         have hfz114_2 := blk_frozen BK577.out 2
         have hfz114_3 := blk_frozen BK577.out 3
         go_wp2_with (first | ((with_reducible refine gate_dst (N := 43) rfl ?_); refine goesL_ (some 43) rfl rfl Try.func11 (by kernel_rfl) rfl #[.agg #[.slice A0_0 l0_0.length c0_0, .slice A0_1 l0_1.length c0_1, .slice A0_2 l0_2.length c0_2, .int .i64 a0_3]] rfl (by (try simp only [List.map_toArray, List.map_cons, List.map_nil]); first | done | rfl | (simp only [List.length_drop, List.length_take]; rfl)) ?_; (with_reducible refine (dancestudiolaw50_of.calls  t586 _ A17.out).mono ?_); rintro e w121 ⟨rfl, hb⟩; refine ⟨_, rfl, ?_⟩; have n0_ := Aside0.mk (Kd.R_below (by (with_reducible repeat (first | apply Kd.R_alloc | apply Kd.R_drewN | apply Kd.R_drew)); exact HO582.out) hb); have n1_ := Aside0.mk (blk_below (g := gb577) (o := .cells #[.slice A0_0 l0_0.length c0_0, .slice A0_1 l0_1.length c0_1, .slice A0_2 l0_2.length c0_2, .int .i64 a0_3] 26 (0, 0)) (by (with_reducible repeat (first | refine blk_drewN ?_ _ | refine blk_drew ?_ | refine blk_alloc ?_ _)); exact BK577.out) hb); have n2_ := Aside0.mk (below_step (by repeat (first | (with_reducible first | exact HB.out | apply below_alloc | apply pw_below_drewN | apply below_drew1 | refine below_set ?_ GE577.out) | exact HB.out)) hb); clear HO582; clear BK577; clear HB; have HO582 := n0_; have BK577 := n1_; have HB := n2_; clear n0_ n1_ n2_; (try clear hb); (try clear hb2); (try clear hk); (try clear hi)) | ((with_reducible refine gate_callee (f := 21) rfl ?_); refine goesL_ (some 35) rfl rfl Try.func21 (by kernel_rfl) rfl #[.agg #[.slice A0_0 l0_0.length c0_0, .slice A0_1 l0_1.length c0_1, .slice A0_2 l0_2.length c0_2, .int .i64 a0_3]] rfl (by (try simp only [List.map_toArray, List.map_cons, List.map_nil]); first | done | rfl | (simp only [List.length_drop, List.length_take]; rfl)) ?_; (with_reducible refine (rehearse_Plan.calls kj2 _ _ l0_0 _ _ l0_1 _ _ l0_2 a0_3 t580 t583 _ ?side1 ?side2 ?side3 ?side4 ?side5 ?side6 ?sidem_ A14.out).mono ?_); (case sidem_ => first | ((repeat (first | exact HMX_.out | apply Mx.drewN | apply Mx.drew)); done) | (refine Mx.below HMX_.out ?_; (repeat (first | (with_reducible first | exact HB.out | apply below_alloc | apply pw_below_drewN | apply below_drew1 | refine below_set ?_ (Aside0.out (by assumption))) | exact HB.out)); done)); (case side1 => repeat (first | exact (Kd.C_below HR0_0.out HB.out) | (with_reducible refine Kd.C_alloc ?_ _) | (with_reducible refine Kd.C_drewN ?_ _) | (with_reducible refine Kd.C_drew ?_))); (case side2 => exact HC0_0.out); (case side3 => repeat (first | exact (Kd.C_below HR0_1.out HB.out) | (with_reducible refine Kd.C_alloc ?_ _) | (with_reducible refine Kd.C_drewN ?_ _) | (with_reducible refine Kd.C_drew ?_))); (case side4 => exact HC0_1.out); (case side5 => repeat (first | exact (Kd.C_below HR0_2.out HB.out) | (with_reducible refine Kd.C_alloc ?_ _) | (with_reducible refine Kd.C_drewN ?_ _) | (with_reducible refine Kd.C_drew ?_))); (case side6 => exact HC0_2.out); rintro e w116 ⟨v581, rfl, ho0, hb⟩; refine ⟨_, rfl, ?_⟩; have n0_ := Aside0.mk (Kd.R_lower ho0 (below_size (by repeat (first | (with_reducible first | exact HB.out | apply below_alloc | apply pw_below_drewN | apply below_drew1 | refine below_set ?_ GE577.out) | exact HB.out)))); have n1_ := Aside0.mk (blk_below (g := gb577) (o := .cells #[.slice A0_0 l0_0.length c0_0, .slice A0_1 l0_1.length c0_1, .slice A0_2 l0_2.length c0_2, .int .i64 a0_3] 26 (0, 0)) (by (with_reducible repeat (first | refine blk_drewN ?_ _ | refine blk_drew ?_ | refine blk_alloc ?_ _)); exact BK577.out) hb); have n2_ := Aside0.mk (below_step (by repeat (first | (with_reducible first | exact HB.out | apply below_alloc | apply pw_below_drewN | apply below_drew1 | refine below_set ?_ GE577.out) | exact HB.out)) hb); clear BK577; clear HB; have HO582 := n0_; have BK577 := n1_; have HB := n2_; clear n0_ n1_ n2_; (try clear hb); (try clear hb2); (try clear hk); (try clear hi); (try clear ho0); have hcz117_0 : w116.cell? ⟨gb577, 0, none⟩ = some (.slice A0_0 l0_0.length c0_0) := (blk_cell BK577.out 0).trans rfl; have hcz117_1 : w116.cell? ⟨gb577, 1, none⟩ = some (.slice A0_1 l0_1.length c0_1) := (blk_cell BK577.out 1).trans rfl; have hcz117_2 : w116.cell? ⟨gb577, 2, none⟩ = some (.slice A0_2 l0_2.length c0_2) := (blk_cell BK577.out 2).trans rfl; have hcz117_3 : w116.cell? ⟨gb577, 3, none⟩ = some (.int .i64 a0_3) := (blk_cell BK577.out 3).trans rfl; have hfz117_0 := blk_frozen BK577.out 0; have hfz117_1 := blk_frozen BK577.out 1; have hfz117_2 := blk_frozen BK577.out 2; have hfz117_3 := blk_frozen BK577.out 3) | ((with_reducible refine gate_dst (N := 39) rfl ?_); refine goesL_ (some 39) rfl rfl Try.func11 (by kernel_rfl) rfl #[.agg #[.slice A0_0 l0_0.length c0_0, .slice A0_1 l0_1.length c0_1, .slice A0_2 l0_2.length c0_2, .int .i64 a0_3]] rfl (by (try simp only [List.map_toArray, List.map_cons, List.map_nil]); first | done | rfl | (simp only [List.length_drop, List.length_take]; rfl)) ?_; (with_reducible refine (dancestudiolaw50_of.calls  t584 _ A15.out).mono ?_); rintro e w118 ⟨rfl, hb⟩; refine ⟨_, rfl, ?_⟩; have n0_ := Aside0.mk (Kd.R_below (by (with_reducible repeat (first | apply Kd.R_alloc | apply Kd.R_drewN | apply Kd.R_drew)); exact HO582.out) hb); have n1_ := Aside0.mk (blk_below (g := gb577) (o := .cells #[.slice A0_0 l0_0.length c0_0, .slice A0_1 l0_1.length c0_1, .slice A0_2 l0_2.length c0_2, .int .i64 a0_3] 26 (0, 0)) (by (with_reducible repeat (first | refine blk_drewN ?_ _ | refine blk_drew ?_ | refine blk_alloc ?_ _)); exact BK577.out) hb); have n2_ := Aside0.mk (below_step (by repeat (first | (with_reducible first | exact HB.out | apply below_alloc | apply pw_below_drewN | apply below_drew1 | refine below_set ?_ GE577.out) | exact HB.out)) hb); clear HO582; clear BK577; clear HB; have HO582 := n0_; have BK577 := n1_; have HB := n2_; clear n0_ n1_ n2_; (try clear hb); (try clear hb2); (try clear hk); (try clear hi)) | ((with_reducible refine gate_callee (f := 13) rfl ?_); refine goesL_ (some 40) rfl rfl Try.func13 (by kernel_rfl) rfl #[.agg #[.slice A0_0 l0_0.length c0_0, .slice A0_1 l0_1.length c0_1, .slice A0_2 l0_2.length c0_2, .int .i64 a0_3]] rfl (by (try simp only [List.map_toArray, List.map_cons, List.map_nil]); first | done | rfl | (simp only [List.length_drop, List.length_take]; rfl)) ?_; (with_reducible refine (rehearse_Check.calls kj2 _ _ l0_0 _ _ l0_1 _ _ l0_2 a0_3 t585 _ ?side1 ?side2 ?side3 ?side4 ?side5 ?side6 ?sidem_ A16.out).mono ?_); (case sidem_ => first | ((repeat (first | exact HMX_.out | apply Mx.drewN | apply Mx.drew)); done) | (refine Mx.below HMX_.out ?_; (repeat (first | (with_reducible first | exact HB.out | apply below_alloc | apply pw_below_drewN | apply below_drew1 | refine below_set ?_ (Aside0.out (by assumption))) | exact HB.out)); done)); (case side1 => repeat (first | exact (Kd.C_below HR0_0.out HB.out) | (with_reducible refine Kd.C_alloc ?_ _) | (with_reducible refine Kd.C_drewN ?_ _) | (with_reducible refine Kd.C_drew ?_))); (case side2 => exact HC0_0.out); (case side3 => repeat (first | exact (Kd.C_below HR0_1.out HB.out) | (with_reducible refine Kd.C_alloc ?_ _) | (with_reducible refine Kd.C_drewN ?_ _) | (with_reducible refine Kd.C_drew ?_))); (case side4 => exact HC0_1.out); (case side5 => repeat (first | exact (Kd.C_below HR0_2.out HB.out) | (with_reducible refine Kd.C_alloc ?_ _) | (with_reducible refine Kd.C_drewN ?_ _) | (with_reducible refine Kd.C_drew ?_))); (case side6 => exact HC0_2.out); rintro e w119 ⟨rfl, hb⟩; refine ⟨_, rfl, ?_⟩; have n0_ := Aside0.mk (Kd.R_below (by (with_reducible repeat (first | apply Kd.R_alloc | apply Kd.R_drewN | apply Kd.R_drew)); exact HO582.out) hb); have n1_ := Aside0.mk (blk_below (g := gb577) (o := .cells #[.slice A0_0 l0_0.length c0_0, .slice A0_1 l0_1.length c0_1, .slice A0_2 l0_2.length c0_2, .int .i64 a0_3] 26 (0, 0)) (by (with_reducible repeat (first | refine blk_drewN ?_ _ | refine blk_drew ?_ | refine blk_alloc ?_ _)); exact BK577.out) hb); have n2_ := Aside0.mk (below_step (by repeat (first | (with_reducible first | exact HB.out | apply below_alloc | apply pw_below_drewN | apply below_drew1 | refine below_set ?_ GE577.out) | exact HB.out)) hb); clear HO582; clear BK577; clear HB; have HO582 := n0_; have BK577 := n1_; have HB := n2_; clear n0_ n1_ n2_; (try clear hb); (try clear hb2); (try clear hk); (try clear hi); have hcz120_0 : w119.cell? ⟨gb577, 0, none⟩ = some (.slice A0_0 l0_0.length c0_0) := (blk_cell BK577.out 0).trans rfl; have hcz120_1 : w119.cell? ⟨gb577, 1, none⟩ = some (.slice A0_1 l0_1.length c0_1) := (blk_cell BK577.out 1).trans rfl; have hcz120_2 : w119.cell? ⟨gb577, 2, none⟩ = some (.slice A0_2 l0_2.length c0_2) := (blk_cell BK577.out 2).trans rfl; have hcz120_3 : w119.cell? ⟨gb577, 3, none⟩ = some (.int .i64 a0_3) := (blk_cell BK577.out 3).trans rfl; have hfz120_0 := blk_frozen BK577.out 0; have hfz120_1 := blk_frozen BK577.out 1; have hfz120_2 := blk_frozen BK577.out 2; have hfz120_3 := blk_frozen BK577.out 3) | ((with_reducible refine gate_dst (N := 34) rfl ?_); refine goesL_ (some 34) rfl rfl Try.func11 (by kernel_rfl) rfl #[.agg #[.slice A0_0 l0_0.length c0_0, .slice A0_1 l0_1.length c0_1, .slice A0_2 l0_2.length c0_2, .int .i64 a0_3]] rfl (by (try simp only [List.map_toArray, List.map_cons, List.map_nil]); first | done | rfl | (simp only [List.length_drop, List.length_take]; rfl)) ?_; (with_reducible refine (dancestudiolaw50_of.calls  t579 _ A13.out).mono ?_); rintro e w115 ⟨rfl, hb⟩; refine ⟨_, rfl, ?_⟩; have n0_ := Aside0.mk (blk_below (g := gb577) (o := .cells #[.slice A0_0 l0_0.length c0_0, .slice A0_1 l0_1.length c0_1, .slice A0_2 l0_2.length c0_2, .int .i64 a0_3] 26 (0, 0)) (by (with_reducible repeat (first | refine blk_drewN ?_ _ | refine blk_drew ?_ | refine blk_alloc ?_ _)); exact BK577.out) hb); have n1_ := Aside0.mk (below_step (by repeat (first | (with_reducible first | exact HB.out | apply below_alloc | apply pw_below_drewN | apply below_drew1 | refine below_set ?_ GE577.out) | exact HB.out)) hb); clear BK577; clear HB; have BK577 := n0_; have HB := n1_; clear n0_ n1_; (try clear hb); (try clear hb2); (try clear hk); (try clear hi)) | ((with_reducible refine gate_callee (f := 16) rfl ?_); refine goesL_ (some 45) rfl rfl Try.func16 (by kernel_rfl) rfl #[.agg #[.slice A0_0 l0_0.length c0_0, .slice A0_1 l0_1.length c0_1, .slice A0_2 l0_2.length c0_2, .int .i64 a0_3], .slice A1 l1.length c1] rfl (by (try simp only [List.map_toArray, List.map_cons, List.map_nil]); first | done | rfl | (simp only [List.length_drop, List.length_take]; rfl)) ?_; (with_reducible refine (rehearse_End.calls kj2 _ _ l0_0 _ _ l0_1 _ _ l0_2 a0_3 _ _ l1 t587 t588 _ ?side1 ?side2 ?side3 ?side4 ?side5 ?side6 ?side7 ?side8 ?sidem_ A18.out).mono ?_); (case sidem_ => first | ((repeat (first | exact HMX_.out | apply Mx.drewN | apply Mx.drew)); done) | (refine Mx.below HMX_.out ?_; (repeat (first | (with_reducible first | exact HB.out | apply below_alloc | apply pw_below_drewN | apply below_drew1 | refine below_set ?_ (Aside0.out (by assumption))) | exact HB.out)); done)); (case side1 => repeat (first | exact (Kd.C_below HR0_0.out HB.out) | (with_reducible refine Kd.C_alloc ?_ _) | (with_reducible refine Kd.C_drewN ?_ _) | (with_reducible refine Kd.C_drew ?_))); (case side2 => exact HC0_0.out); (case side3 => repeat (first | exact (Kd.C_below HR0_1.out HB.out) | (with_reducible refine Kd.C_alloc ?_ _) | (with_reducible refine Kd.C_drewN ?_ _) | (with_reducible refine Kd.C_drew ?_))); (case side4 => exact HC0_1.out); (case side5 => repeat (first | exact (Kd.C_below HR0_2.out HB.out) | (with_reducible refine Kd.C_alloc ?_ _) | (with_reducible refine Kd.C_drewN ?_ _) | (with_reducible refine Kd.C_drew ?_))); (case side6 => exact HC0_2.out); (case side7 => repeat (first | exact (Kd.C_below HR1.out HB.out) | (with_reducible refine Kd.C_alloc ?_ _) | (with_reducible refine Kd.C_drewN ?_ _) | (with_reducible refine Kd.C_drew ?_))); (case side8 => exact HC1.out); rintro e w122 ⟨rfl, hb⟩; refine ⟨_, rfl, ?_⟩; have n0_ := Aside0.mk (Kd.R_below (by (with_reducible repeat (first | apply Kd.R_alloc | apply Kd.R_drewN | apply Kd.R_drew)); exact HO582.out) hb); have n1_ := Aside0.mk (blk_below (g := gb577) (o := .cells #[.slice A0_0 l0_0.length c0_0, .slice A0_1 l0_1.length c0_1, .slice A0_2 l0_2.length c0_2, .int .i64 a0_3] 26 (0, 0)) (by (with_reducible repeat (first | refine blk_drewN ?_ _ | refine blk_drew ?_ | refine blk_alloc ?_ _)); exact BK577.out) hb); have n2_ := Aside0.mk (below_step (by repeat (first | (with_reducible first | exact HB.out | apply below_alloc | apply pw_below_drewN | apply below_drew1 | refine below_set ?_ GE577.out) | exact HB.out)) hb); clear HO582; clear BK577; clear HB; have HO582 := n0_; have BK577 := n1_; have HB := n2_; clear n0_ n1_ n2_; (try clear hb); (try clear hb2); (try clear hk); (try clear hi); obtain ⟨Ao123, co123, eo123⟩ := Kd.R_slice HO582.out; subst eo123) | (go_at_call 15; (with_reducible refine (dancestudiolaw50_awake.calls kj2  t589 _ ?sidem_ A113.out).mono ?_); (case sidem_ => first | ((repeat (first | exact HMX_.out | apply Mx.drewN | apply Mx.drew)); done) | (refine Mx.below HMX_.out ?_; (repeat (first | (with_reducible first | exact HB.out | apply below_alloc | apply pw_below_drewN | apply below_drew1 | refine below_set ?_ (Aside0.out (by assumption))) | exact HB.out)); done)); rintro e w124 ⟨rfl, hb⟩; have n0_ := Aside0.mk (Kd.R_below (by (with_reducible repeat (first | apply Kd.R_alloc | apply Kd.R_drewN | apply Kd.R_drew)); exact HO582.out) hb); have n1_ := Aside0.mk (blk_below (g := gb577) (o := .cells #[.slice A0_0 l0_0.length c0_0, .slice A0_1 l0_1.length c0_1, .slice A0_2 l0_2.length c0_2, .int .i64 a0_3] 26 (0, 0)) (by (with_reducible repeat (first | refine blk_drewN ?_ _ | refine blk_drew ?_ | refine blk_alloc ?_ _)); exact BK577.out) hb); have n2_ := Aside0.mk (below_step (by repeat (first | (with_reducible first | exact HB.out | apply below_alloc | apply pw_below_drewN | apply below_drew1 | refine below_set ?_ GE577.out) | exact HB.out)) hb); clear HO582; clear BK577; clear HB; have HO582 := n0_; have BK577 := n1_; have HB := n2_; clear n0_ n1_ n2_; (try clear hb); (try clear hb2); (try clear hk); (try clear hi)))
         go_ret
         exact ⟨by first | rfl | (simp [errW_none, errW_some] <;> rfl) | (simp [*, errW_none, errW_some] <;> rfl), by repeat (first | (with_reducible first | exact HB.out | apply below_alloc | apply pw_below_drewN | apply below_drew1 | refine below_set ?_ GE577.out) | exact HB.out)⟩
        ·
         rw [if_neg c112] at H
         exact absurd H (by simp)
       ·
        rw [if_neg c111] at H
        exact absurd H (by simp)
      ·
       rw [if_neg c110] at H
       exact absurd H (by simp)
     ·
      rw [if_neg c109] at H
      exact absurd H (by simp)
end Go.Proofs.Ytjppjppapdflmaa.PAll
