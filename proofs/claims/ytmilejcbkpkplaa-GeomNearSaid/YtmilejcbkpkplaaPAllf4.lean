-- Written by wip/tools/handprint.py: walks of the functions that the law reaches; Lean checks them.
import Derived.Test.YtmilejcbkpkplaaPAllx0
import Derived.Test.YtmilejcbkpkplaaPAllf15
import Derived.Test.YtmilejcbkpkplaaPAllf16
import Derived.Test.YtmilejcbkpkplaaPAllf17
namespace Go.Proofs.Ytmilejcbkpkplaa.PAll
open Go.RowKit Go.Proofs.YtmilejcbkpkplaaW.PrintWords Go.Proofs.YtmilejcbkpkplaaW.PrintLast Go.Proofs.YtmilejcbkpkplaaW.PrintMore
attribute [local go_sem] max2_int min2_int max_two min_two max_three min_three max_four min_four   -- for this text's walks alone
set_option linter.unusedVariables false
set_option linter.unusedSimpArgs false

/-! ### dancestudiolaw03_GeomNear: function 4 -/
def dancestudiolaw03_GeomNear.f (k : Nat) (a0_0 : Int) (a0_1 : Int) (a0_2 : Int) (a0_3 : Int) (a0_4 : Int) (a0_5 : Int) (a0_6 : Int) : Option (Bool) := (geom_Near.f k a0_0 a0_1 a0_2 a0_3 a0_4 a0_5 a0_6).bind fun bt387 => ((dancestudioref03_Near.f k a0_0 a0_1 a0_2 a0_3 a0_4 a0_5 a0_6).bind fun bt389 => ((geom_Near.f k a0_0 a0_1 a0_4 a0_5 a0_2 a0_3 a0_6).bind fun bt391 => (if (bt387.1 == bt389.1) = true then (if bt387.2 = bt389.2 then (if (bt391.1 == bt387.1) = true then (if bt391.2 = bt387.2 then ((dancestudiolaw03_awake.f k).bind fun t393 => (some t393)) else (none)) else (none)) else (none)) else (none))))
theorem dancestudiolaw03_GeomNear.mono : ∀ a0 a1 a2 a3 a4 a5 a6 k, LeO (dancestudiolaw03_GeomNear.f k a0 a1 a2 a3 a4 a5 a6) (dancestudiolaw03_GeomNear.f (k + 1) a0 a1 a2 a3 a4 a5 a6) := by
 intro a0 a1 a2 a3 a4 a5 a6 k
 unfold dancestudiolaw03_GeomNear.f
 repeat' first
   | (with_reducible exact dancestudiolaw03_awake.mono _)
   | (with_reducible exact dancestudioref03_Near.mono _ _ _ _ _ _ _ _)
   | (with_reducible exact geom_Near.mono _ _ _ _ _ _ _ _)
   | (with_reducible exact LeO.refl _)
   | (with_reducible exact LeO.none _)
   | (with_reducible refine LeO.ite ?_ ?_)
   | (with_reducible refine LeO.bind ?_ (fun _ => ?_))
   | exact dancestudiolaw03_awake.mono _
   | exact dancestudioref03_Near.mono _ _ _ _ _ _ _ _
   | exact geom_Near.mono _ _ _ _ _ _ _ _
   | exact LeO.none _
   | refine LeO.ite ?_ ?_
   | refine LeO.bind ?_ (fun _ => ?_)
set_option maxHeartbeats 8000000 in
set_option maxRecDepth 100000 in
theorem dancestudiolaw03_GeomNear.calls (k : Nat) (a0_0 : Int) (a0_1 : Int) (a0_2 : Int) (a0_3 : Int) (a0_4 : Int) (a0_5 : Int) (a0_6 : Int) (r : Bool) (w : World) (h : dancestudiolaw03_GeomNear.f k a0_0 a0_1 a0_2 a0_3 a0_4 a0_5 a0_6 = some r) :
  Calls Try.prog 4 #[.agg #[.int .i64 a0_0, .int .i64 a0_1, .int .i64 a0_2, .int .i64 a0_3, .int .i64 a0_4, .int .i64 a0_5, .int .i64 a0_6]] w fun e w' => e = .returned (.bool r) ∧ Below w.heap.size w w' := by
 have hu31 := Try.underlying31
 have hu23 := Try.underlying23
 have HB := Aside0.mk (Below.refl w.heap.size w)
 have H : ((geom_Near.f k a0_0 a0_1 a0_2 a0_3 a0_4 a0_5 a0_6).bind fun bt387 => ((dancestudioref03_Near.f k a0_0 a0_1 a0_2 a0_3 a0_4 a0_5 a0_6).bind fun bt389 => ((geom_Near.f k a0_0 a0_1 a0_4 a0_5 a0_2 a0_3 a0_6).bind fun bt391 => (if (bt387.1 == bt389.1) = true then (if bt387.2 = bt389.2 then (if (bt391.1 == bt387.1) = true then (if bt391.2 = bt387.2 then ((dancestudiolaw03_awake.f k).bind fun t393 => (some t393)) else (none)) else (none)) else (none)) else (none))))) = some r := h
 clear h
 replace H := Option.bind_eq_some_iff.mp H
 obtain ⟨⟨t387, t388⟩, A20, H⟩ := H
 replace H : ((dancestudioref03_Near.f k a0_0 a0_1 a0_2 a0_3 a0_4 a0_5 a0_6).bind fun bt389 => ((geom_Near.f k a0_0 a0_1 a0_4 a0_5 a0_2 a0_3 a0_6).bind fun bt391 => (if (t387 == bt389.1) = true then (if t388 = bt389.2 then (if (bt391.1 == t387) = true then (if bt391.2 = t388 then ((dancestudiolaw03_awake.f k).bind fun t393 => (some t393)) else (none)) else (none)) else (none)) else (none)))) = some r := H
 have A2 := Aside0.mk A20
 clear A20
 replace H := Option.bind_eq_some_iff.mp H
 obtain ⟨⟨t389, t390⟩, A30, H⟩ := H
 replace H : ((geom_Near.f k a0_0 a0_1 a0_4 a0_5 a0_2 a0_3 a0_6).bind fun bt391 => (if (t387 == t389) = true then (if t388 = t390 then (if (bt391.1 == t387) = true then (if bt391.2 = t388 then ((dancestudiolaw03_awake.f k).bind fun t393 => (some t393)) else (none)) else (none)) else (none)) else (none))) = some r := H
 have A3 := Aside0.mk A30
 clear A30
 replace H := Option.bind_eq_some_iff.mp H
 obtain ⟨⟨t391, t392⟩, A40, H⟩ := H
 replace H : (if (t387 == t389) = true then (if t388 = t390 then (if (t391 == t387) = true then (if t392 = t388 then ((dancestudiolaw03_awake.f k).bind fun t393 => (some t393)) else (none)) else (none)) else (none)) else (none)) = some r := H
 have A4 := Aside0.mk A40
 clear A40
 by_cases c5 : (t387 == t389) = true
 ·
  rw [if_pos c5] at H
  have c5b0 : (t387 == t389) = true := c5
  (try (have c5b1 : decide (t387 = t389) = true := by simpa using c5))
  (try (have c5b2 : (t387 == t389) = true := by simpa using c5))
  clear c5
  by_cases c6 : t388 = t390
  ·
   rw [if_pos c6] at H
   have c6b0 : (t388 == t390) = true := beq_iff_eq.mpr c6
   have c6b1 : (t388 != t390) = false := bne_eq_false_iff_eq.mpr c6
   clear c6
   by_cases c7 : (t391 == t387) = true
   ·
    rw [if_pos c7] at H
    have c7b0 : (t391 == t387) = true := c7
    (try (have c7b1 : decide (t391 = t387) = true := by simpa using c7))
    (try (have c7b2 : (t391 == t387) = true := by simpa using c7))
    clear c7
    by_cases c8 : t392 = t388
    ·
     rw [if_pos c8] at H
     have c8b0 : (t392 == t388) = true := beq_iff_eq.mpr c8
     have c8b1 : (t392 != t388) = false := bne_eq_false_iff_eq.mpr c8
     clear c8
     replace H := Option.bind_eq_some_iff.mp H
     obtain ⟨t393, A90, H⟩ := H
     replace H : (some t393) = some r := H
     have A9 := Aside0.mk A90
     clear A90
     obtain rfl := Option.some.inj H
     go_enter Try.func4, Try.ntmps4
     go_wp2_with (first | ((with_reducible refine gate_dst (N := 1) rfl ?_); refine box_event ?hg (N := 1) ?hd (cs := #[.int .i64 a0_0, .int .i64 a0_1, .int .i64 a0_2, .int .i64 a0_3, .int .i64 a0_4, .int .i64 a0_5, .int .i64 a0_6]) (t := 31) ?hr ?_; (case hd => rfl); (case hg => rfl); (case hr => first | (go_simp; done) | (go_simp; rfl)); intro gb386 hg w10 hbox hb; have n0_ := Aside0.mk (below_step (by repeat (first | (with_reducible first | exact HB.out | apply below_alloc | apply pw_below_drewN | apply below_drew1) | exact HB.out)) hb); have n1_ := Aside0.mk (hbox); have n2_ := Aside0.mk ((by rw [hg]; exact (below_size (by repeat (first | (with_reducible first | exact HB.out | apply below_alloc | apply pw_below_drewN | apply below_drew1) | exact HB.out))) : w.heap.size ≤ gb386)); have n3_ := Aside0.mk ((by rw [hg]; exact (below_size (by repeat (first | (with_reducible first | exact HB.out | apply below_alloc | apply pw_below_drewN | apply below_drew1) | exact HB.out))) : w.heap.size ≤ gb386)); clear HB; have HB := n0_; have BK386 := n1_; have GW386 := n2_; have GE386 := n3_; clear n0_ n1_ n2_ n3_; clear hb hbox hg; have hcz11_0 : w10.cell? ⟨gb386, 0, none⟩ = some (.int .i64 a0_0) := (blk_cell BK386.out 0).trans rfl; have hcz11_1 : w10.cell? ⟨gb386, 1, none⟩ = some (.int .i64 a0_1) := (blk_cell BK386.out 1).trans rfl; have hcz11_2 : w10.cell? ⟨gb386, 2, none⟩ = some (.int .i64 a0_2) := (blk_cell BK386.out 2).trans rfl; have hcz11_3 : w10.cell? ⟨gb386, 3, none⟩ = some (.int .i64 a0_3) := (blk_cell BK386.out 3).trans rfl; have hcz11_4 : w10.cell? ⟨gb386, 4, none⟩ = some (.int .i64 a0_4) := (blk_cell BK386.out 4).trans rfl; have hcz11_5 : w10.cell? ⟨gb386, 5, none⟩ = some (.int .i64 a0_5) := (blk_cell BK386.out 5).trans rfl; have hcz11_6 : w10.cell? ⟨gb386, 6, none⟩ = some (.int .i64 a0_6) := (blk_cell BK386.out 6).trans rfl; have hfz11_0 := blk_frozen BK386.out 0; have hfz11_1 := blk_frozen BK386.out 1; have hfz11_2 := blk_frozen BK386.out 2; have hfz11_3 := blk_frozen BK386.out 3; have hfz11_4 := blk_frozen BK386.out 4; have hfz11_5 := blk_frozen BK386.out 5; have hfz11_6 := blk_frozen BK386.out 6) | ((with_reducible refine gate_callee (f := 16) rfl ?_); refine goesL_ (some 18) rfl rfl Try.func16 (by kernel_rfl) rfl #[.agg #[.int .i64 a0_0, .int .i64 a0_1], .agg #[.int .i64 a0_2, .int .i64 a0_3], .agg #[.int .i64 a0_4, .int .i64 a0_5], .int .i64 a0_6] rfl (by (try simp only [List.map_toArray, List.map_cons, List.map_nil]); first | done | rfl | (simp only [List.length_drop, List.length_take]; rfl)) ?_; (with_reducible refine (geom_Near.calls k a0_0 a0_1 a0_2 a0_3 a0_4 a0_5 a0_6 t387 t388 _ A2.out).mono ?_); rintro e w12 ⟨rfl, hb⟩; refine ⟨_, rfl, ?_⟩; have n0_ := Aside0.mk (blk_below (g := gb386) (o := .cells #[.int .i64 a0_0, .int .i64 a0_1, .int .i64 a0_2, .int .i64 a0_3, .int .i64 a0_4, .int .i64 a0_5, .int .i64 a0_6] 31 (0, 0)) (by (with_reducible repeat (first | refine blk_drewN ?_ _ | refine blk_drew ?_ | refine blk_alloc ?_ _)); exact BK386.out) hb); have n1_ := Aside0.mk (below_step (by repeat (first | (with_reducible first | exact HB.out | apply below_alloc | apply pw_below_drewN | apply below_drew1 | refine below_set ?_ GE386.out) | exact HB.out)) hb); clear BK386; clear HB; have BK386 := n0_; have HB := n1_; clear n0_ n1_; (try clear hb); (try clear hb2); (try clear hk); (try clear hi); have hcz13_0 : w12.cell? ⟨gb386, 0, none⟩ = some (.int .i64 a0_0) := (blk_cell BK386.out 0).trans rfl; have hcz13_1 : w12.cell? ⟨gb386, 1, none⟩ = some (.int .i64 a0_1) := (blk_cell BK386.out 1).trans rfl; have hcz13_2 : w12.cell? ⟨gb386, 2, none⟩ = some (.int .i64 a0_2) := (blk_cell BK386.out 2).trans rfl; have hcz13_3 : w12.cell? ⟨gb386, 3, none⟩ = some (.int .i64 a0_3) := (blk_cell BK386.out 3).trans rfl; have hcz13_4 : w12.cell? ⟨gb386, 4, none⟩ = some (.int .i64 a0_4) := (blk_cell BK386.out 4).trans rfl; have hcz13_5 : w12.cell? ⟨gb386, 5, none⟩ = some (.int .i64 a0_5) := (blk_cell BK386.out 5).trans rfl; have hcz13_6 : w12.cell? ⟨gb386, 6, none⟩ = some (.int .i64 a0_6) := (blk_cell BK386.out 6).trans rfl; have hfz13_0 := blk_frozen BK386.out 0; have hfz13_1 := blk_frozen BK386.out 1; have hfz13_2 := blk_frozen BK386.out 2; have hfz13_3 := blk_frozen BK386.out 3; have hfz13_4 := blk_frozen BK386.out 4; have hfz13_5 := blk_frozen BK386.out 5; have hfz13_6 := blk_frozen BK386.out 6) | ((with_reducible refine gate_callee (f := 17) rfl ?_); refine goesL_ (some 30) rfl rfl Try.func17 (by kernel_rfl) rfl #[.agg #[.int .i64 a0_0, .int .i64 a0_1], .agg #[.int .i64 a0_2, .int .i64 a0_3], .agg #[.int .i64 a0_4, .int .i64 a0_5], .int .i64 a0_6] rfl (by (try simp only [List.map_toArray, List.map_cons, List.map_nil]); first | done | rfl | (simp only [List.length_drop, List.length_take]; rfl)) ?_; (with_reducible refine (dancestudioref03_Near.calls k a0_0 a0_1 a0_2 a0_3 a0_4 a0_5 a0_6 t389 t390 _ A3.out).mono ?_); rintro e w14 ⟨rfl, hb⟩; refine ⟨_, rfl, ?_⟩; have n0_ := Aside0.mk (blk_below (g := gb386) (o := .cells #[.int .i64 a0_0, .int .i64 a0_1, .int .i64 a0_2, .int .i64 a0_3, .int .i64 a0_4, .int .i64 a0_5, .int .i64 a0_6] 31 (0, 0)) (by (with_reducible repeat (first | refine blk_drewN ?_ _ | refine blk_drew ?_ | refine blk_alloc ?_ _)); exact BK386.out) hb); have n1_ := Aside0.mk (below_step (by repeat (first | (with_reducible first | exact HB.out | apply below_alloc | apply pw_below_drewN | apply below_drew1 | refine below_set ?_ GE386.out) | exact HB.out)) hb); clear BK386; clear HB; have BK386 := n0_; have HB := n1_; clear n0_ n1_; (try clear hb); (try clear hb2); (try clear hk); (try clear hi); have hcz15_0 : w14.cell? ⟨gb386, 0, none⟩ = some (.int .i64 a0_0) := (blk_cell BK386.out 0).trans rfl; have hcz15_1 : w14.cell? ⟨gb386, 1, none⟩ = some (.int .i64 a0_1) := (blk_cell BK386.out 1).trans rfl; have hcz15_2 : w14.cell? ⟨gb386, 2, none⟩ = some (.int .i64 a0_2) := (blk_cell BK386.out 2).trans rfl; have hcz15_3 : w14.cell? ⟨gb386, 3, none⟩ = some (.int .i64 a0_3) := (blk_cell BK386.out 3).trans rfl; have hcz15_4 : w14.cell? ⟨gb386, 4, none⟩ = some (.int .i64 a0_4) := (blk_cell BK386.out 4).trans rfl; have hcz15_5 : w14.cell? ⟨gb386, 5, none⟩ = some (.int .i64 a0_5) := (blk_cell BK386.out 5).trans rfl; have hcz15_6 : w14.cell? ⟨gb386, 6, none⟩ = some (.int .i64 a0_6) := (blk_cell BK386.out 6).trans rfl; have hfz15_0 := blk_frozen BK386.out 0; have hfz15_1 := blk_frozen BK386.out 1; have hfz15_2 := blk_frozen BK386.out 2; have hfz15_3 := blk_frozen BK386.out 3; have hfz15_4 := blk_frozen BK386.out 4; have hfz15_5 := blk_frozen BK386.out 5; have hfz15_6 := blk_frozen BK386.out 6) | ((with_reducible refine gate_callee (f := 16) rfl ?_); refine goesL_ (some 42) rfl rfl Try.func16 (by kernel_rfl) rfl #[.agg #[.int .i64 a0_0, .int .i64 a0_1], .agg #[.int .i64 a0_4, .int .i64 a0_5], .agg #[.int .i64 a0_2, .int .i64 a0_3], .int .i64 a0_6] rfl (by (try simp only [List.map_toArray, List.map_cons, List.map_nil]); first | done | rfl | (simp only [List.length_drop, List.length_take]; rfl)) ?_; (with_reducible refine (geom_Near.calls k a0_0 a0_1 a0_4 a0_5 a0_2 a0_3 a0_6 t391 t392 _ A4.out).mono ?_); rintro e w16 ⟨rfl, hb⟩; refine ⟨_, rfl, ?_⟩; have n0_ := Aside0.mk (blk_below (g := gb386) (o := .cells #[.int .i64 a0_0, .int .i64 a0_1, .int .i64 a0_2, .int .i64 a0_3, .int .i64 a0_4, .int .i64 a0_5, .int .i64 a0_6] 31 (0, 0)) (by (with_reducible repeat (first | refine blk_drewN ?_ _ | refine blk_drew ?_ | refine blk_alloc ?_ _)); exact BK386.out) hb); have n1_ := Aside0.mk (below_step (by repeat (first | (with_reducible first | exact HB.out | apply below_alloc | apply pw_below_drewN | apply below_drew1 | refine below_set ?_ GE386.out) | exact HB.out)) hb); clear BK386; clear HB; have BK386 := n0_; have HB := n1_; clear n0_ n1_; (try clear hb); (try clear hb2); (try clear hk); (try clear hi)) | (go_at_call 15; (with_reducible refine (dancestudiolaw03_awake.calls k  t393 _ A9.out).mono ?_); rintro e w17 ⟨rfl, hb⟩; have n0_ := Aside0.mk (blk_below (g := gb386) (o := .cells #[.int .i64 a0_0, .int .i64 a0_1, .int .i64 a0_2, .int .i64 a0_3, .int .i64 a0_4, .int .i64 a0_5, .int .i64 a0_6] 31 (0, 0)) (by (with_reducible repeat (first | refine blk_drewN ?_ _ | refine blk_drew ?_ | refine blk_alloc ?_ _)); exact BK386.out) hb); have n1_ := Aside0.mk (below_step (by repeat (first | (with_reducible first | exact HB.out | apply below_alloc | apply pw_below_drewN | apply below_drew1 | refine below_set ?_ GE386.out) | exact HB.out)) hb); clear BK386; clear HB; have BK386 := n0_; have HB := n1_; clear n0_ n1_; (try clear hb); (try clear hb2); (try clear hk); (try clear hi)))
     go_ret
     exact ⟨by first | rfl | (simp [errW_none, errW_some] <;> rfl) | (simp [*, errW_none, errW_some] <;> rfl), by repeat (first | (with_reducible first | exact HB.out | apply below_alloc | apply pw_below_drewN | apply below_drew1 | refine below_set ?_ GE386.out) | exact HB.out)⟩
    ·
     rw [if_neg c8] at H
     exact absurd H (by simp)
   ·
    rw [if_neg c7] at H
    exact absurd H (by simp)
  ·
   rw [if_neg c6] at H
   exact absurd H (by simp)
 ·
  rw [if_neg c5] at H
  exact absurd H (by simp)
end Go.Proofs.Ytmilejcbkpkplaa.PAll
