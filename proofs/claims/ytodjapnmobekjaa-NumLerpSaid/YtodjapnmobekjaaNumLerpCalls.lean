/- The walks of the functions of this text, turned from the printed ones: the pieces behind each cut are lemmas of their own (the kernel refused them in one). -/
import Derived.Test.YtodjapnmobekjaaPNumLerpx0
import Derived.Test.YtodjapnmobekjaaPNumLerpx1
import Derived.Test.YtodjapnmobekjaaPNumLerpx3
namespace Go.Proofs.Ytodjapnmobekjaa.PNumLerp
open Go.RowKit Go.Proofs.YtodjapnmobekjaaW.PrintWords Go.Proofs.YtodjapnmobekjaaW.PrintLast Go.Proofs.YtodjapnmobekjaaW.PrintMore
attribute [local go_sem] max2_int min2_int max_two min_two max_three min_three max_four min_four   -- for this text's walks alone
set_option linter.unusedVariables false
set_option linter.unusedSimpArgs false

/-! ### dancestudiolaw01_NumLerp: function 4 -/
mutual
def dancestudiolaw01_NumLerp.j0 : Nat → Int → Int → Bool → Int → Int → Int → Int → Option (Bool)
  | 0, _, _, _, _, _, _, _ => none
  | k + 1, x3, x4, x49, x171000, x171001, x171002, x171003 => if x49 = true then (if x3 = 0 then (if x4 = 1 then ((dancestudiolaw01_awake.f k).bind fun t175 => (some t175)) else (some false)) else (some false)) else (if x4 = 0 then (if x3 < (mn x171000 x171001) then (dancestudiolaw01_NumLerp.j1 k x3 true x171000 x171001 x171002 x171003) else (dancestudiolaw01_NumLerp.j1 k x3 (decide (x3 > (mx x171000 x171001))) x171000 x171001 x171002 x171003)) else (dancestudiolaw01_NumLerp.j1 k x3 true x171000 x171001 x171002 x171003))
def dancestudiolaw01_NumLerp.j1 : Nat → Int → Bool → Int → Int → Int → Int → Option (Bool)
  | 0, _, _, _, _, _, _ => none
  | k + 1, x3, x78, x171000, x171001, x171002, x171003 => if x78 = true then (some false) else (if (wrap64 (2 * (wrap64 ((wrap64 ((wrap64 (x3 * x171003)) - (wrap64 (x171000 * (wrap64 (x171003 - x171002)))))) - (wrap64 (x171001 * x171002)))))) > x171003 then (dancestudiolaw01_NumLerp.j2 k x3 true x171000 x171001 x171002 x171003) else (if (wrap64 (2 * (wrap64 ((wrap64 ((wrap64 (x3 * x171003)) - (wrap64 (x171000 * (wrap64 (x171003 - x171002)))))) - (wrap64 (x171001 * x171002)))))) < (wrap64 (-x171003)) then (dancestudiolaw01_NumLerp.j2 k x3 true x171000 x171001 x171002 x171003) else (if (wrap64 (2 * (wrap64 ((wrap64 ((wrap64 (x3 * x171003)) - (wrap64 (x171000 * (wrap64 (x171003 - x171002)))))) - (wrap64 (x171001 * x171002)))))) = x171003 then (dancestudiolaw01_NumLerp.j2 k x3 ((Int.tmod x3 2) != 0) x171000 x171001 x171002 x171003) else (if (wrap64 (2 * (wrap64 ((wrap64 ((wrap64 (x3 * x171003)) - (wrap64 (x171000 * (wrap64 (x171003 - x171002)))))) - (wrap64 (x171001 * x171002)))))) = (wrap64 (-x171003)) then (dancestudiolaw01_NumLerp.j2 k x3 ((Int.tmod x3 2) != 0) x171000 x171001 x171002 x171003) else (dancestudiolaw01_NumLerp.j2 k x3 false x171000 x171001 x171002 x171003)))))
def dancestudiolaw01_NumLerp.j2 : Nat → Int → Bool → Int → Int → Int → Int → Option (Bool)
  | 0, _, _, _, _, _, _ => none
  | k + 1, x3, x127, x171000, x171001, x171002, x171003 => if x127 = true then (some false) else (if x171002 = 0 then (if x3 = x171000 then (if x171002 = x171003 then (dancestudiolaw01_NumLerp.j3 k x3 (x3 != x171001) x171000 x171001 x171002 x171003) else (dancestudiolaw01_NumLerp.j3 k x3 false x171000 x171001 x171002 x171003)) else (dancestudiolaw01_NumLerp.j3 k x3 true x171000 x171001 x171002 x171003)) else (if x171002 = x171003 then (dancestudiolaw01_NumLerp.j3 k x3 (x3 != x171001) x171000 x171001 x171002 x171003) else (dancestudiolaw01_NumLerp.j3 k x3 false x171000 x171001 x171002 x171003)))
def dancestudiolaw01_NumLerp.j3 : Nat → Int → Bool → Int → Int → Int → Int → Option (Bool)
  | 0, _, _, _, _, _, _ => none
  | k + 1, x3, x149, x171000, x171001, x171002, x171003 => if x149 = true then (some false) else ((dancestudiolaw01_lerps.f x3 x171001 x171000 (wrap64 (x171003 - x171002)) x171003).bind fun t176 => (if t176 = true then ((dancestudiolaw01_lerps.f (wrap64 (-x3)) (wrap64 (-x171000)) (wrap64 (-x171001)) x171002 x171003).bind fun t177 => (if t177 = true then ((dancestudiolaw01_awake.f k).bind fun t178 => (some t178)) else (some false))) else (some false)))
end
def dancestudiolaw01_NumLerp.f (k : Nat) (a0_0 : Int) (a0_1 : Int) (a0_2 : Int) (a0_3 : Int) : Option (Bool) := (num_Lerp.f a0_0 a0_1 a0_2 a0_3).bind fun bt171 => ((dancestudiolaw01_unit.f a0_0).bind fun t173 => (if t173 = true then ((dancestudiolaw01_unit.f a0_1).bind fun t174 => (if t174 = true then (if a0_3 < 1 then (dancestudiolaw01_NumLerp.j0 k bt171.1 bt171.2 true a0_0 a0_1 a0_2 a0_3) else (if a0_3 > 524288 then (dancestudiolaw01_NumLerp.j0 k bt171.1 bt171.2 true a0_0 a0_1 a0_2 a0_3) else (if a0_2 < 0 then (dancestudiolaw01_NumLerp.j0 k bt171.1 bt171.2 true a0_0 a0_1 a0_2 a0_3) else (dancestudiolaw01_NumLerp.j0 k bt171.1 bt171.2 (decide (a0_2 > a0_3)) a0_0 a0_1 a0_2 a0_3)))) else (dancestudiolaw01_NumLerp.j0 k bt171.1 bt171.2 true a0_0 a0_1 a0_2 a0_3))) else (dancestudiolaw01_NumLerp.j0 k bt171.1 bt171.2 true a0_0 a0_1 a0_2 a0_3)))
theorem dancestudiolaw01_NumLerp.mono_l : ∀ k, (∀ y0 y1 y2 y3 y4 y5 y6, LeO (dancestudiolaw01_NumLerp.j0 k y0 y1 y2 y3 y4 y5 y6) (dancestudiolaw01_NumLerp.j0 (k + 1) y0 y1 y2 y3 y4 y5 y6)) ∧ (∀ y0 y1 y2 y3 y4 y5, LeO (dancestudiolaw01_NumLerp.j1 k y0 y1 y2 y3 y4 y5) (dancestudiolaw01_NumLerp.j1 (k + 1) y0 y1 y2 y3 y4 y5)) ∧ (∀ y0 y1 y2 y3 y4 y5, LeO (dancestudiolaw01_NumLerp.j2 k y0 y1 y2 y3 y4 y5) (dancestudiolaw01_NumLerp.j2 (k + 1) y0 y1 y2 y3 y4 y5)) ∧ (∀ y0 y1 y2 y3 y4 y5, LeO (dancestudiolaw01_NumLerp.j3 k y0 y1 y2 y3 y4 y5) (dancestudiolaw01_NumLerp.j3 (k + 1) y0 y1 y2 y3 y4 y5))
  | 0 => ⟨fun _ _ _ _ _ _ _ r h => by simp [dancestudiolaw01_NumLerp.j0] at h, fun _ _ _ _ _ _ r h => by simp [dancestudiolaw01_NumLerp.j1] at h, fun _ _ _ _ _ _ r h => by simp [dancestudiolaw01_NumLerp.j2] at h, fun _ _ _ _ _ _ r h => by simp [dancestudiolaw01_NumLerp.j3] at h⟩
  | k + 1 => by
    obtain ⟨ih0, ih1, ih2, ih3⟩ := dancestudiolaw01_NumLerp.mono_l k
    refine ⟨?_, ?_, ?_, ?_⟩
    · intro y0 y1 y2 y3 y4 y5 y6
      unfold dancestudiolaw01_NumLerp.j0
      repeat' first
      | (with_reducible exact ih0 _ _ _ _ _ _ _)
      | (with_reducible exact ih1 _ _ _ _ _ _)
      | (with_reducible exact ih2 _ _ _ _ _ _)
      | (with_reducible exact ih3 _ _ _ _ _ _)
      | (with_reducible exact dancestudiolaw01_awake.mono _)
      | (with_reducible exact LeO.refl _)
      | (with_reducible exact LeO.none _)
      | (with_reducible refine LeO.ite ?_ ?_)
      | (with_reducible refine LeO.bind ?_ (fun _ => ?_))
      | exact ih0 _ _ _ _ _ _ _
      | exact ih1 _ _ _ _ _ _
      | exact ih2 _ _ _ _ _ _
      | exact ih3 _ _ _ _ _ _
      | exact dancestudiolaw01_awake.mono _
      | exact LeO.none _
      | refine LeO.ite ?_ ?_
      | refine LeO.bind ?_ (fun _ => ?_)
    · intro y0 y1 y2 y3 y4 y5
      unfold dancestudiolaw01_NumLerp.j1
      repeat' first
      | (with_reducible exact ih0 _ _ _ _ _ _ _)
      | (with_reducible exact ih1 _ _ _ _ _ _)
      | (with_reducible exact ih2 _ _ _ _ _ _)
      | (with_reducible exact ih3 _ _ _ _ _ _)
      | (with_reducible exact dancestudiolaw01_awake.mono _)
      | (with_reducible exact LeO.refl _)
      | (with_reducible exact LeO.none _)
      | (with_reducible refine LeO.ite ?_ ?_)
      | (with_reducible refine LeO.bind ?_ (fun _ => ?_))
      | exact ih0 _ _ _ _ _ _ _
      | exact ih1 _ _ _ _ _ _
      | exact ih2 _ _ _ _ _ _
      | exact ih3 _ _ _ _ _ _
      | exact dancestudiolaw01_awake.mono _
      | exact LeO.none _
      | refine LeO.ite ?_ ?_
      | refine LeO.bind ?_ (fun _ => ?_)
    · intro y0 y1 y2 y3 y4 y5
      unfold dancestudiolaw01_NumLerp.j2
      repeat' first
      | (with_reducible exact ih0 _ _ _ _ _ _ _)
      | (with_reducible exact ih1 _ _ _ _ _ _)
      | (with_reducible exact ih2 _ _ _ _ _ _)
      | (with_reducible exact ih3 _ _ _ _ _ _)
      | (with_reducible exact dancestudiolaw01_awake.mono _)
      | (with_reducible exact LeO.refl _)
      | (with_reducible exact LeO.none _)
      | (with_reducible refine LeO.ite ?_ ?_)
      | (with_reducible refine LeO.bind ?_ (fun _ => ?_))
      | exact ih0 _ _ _ _ _ _ _
      | exact ih1 _ _ _ _ _ _
      | exact ih2 _ _ _ _ _ _
      | exact ih3 _ _ _ _ _ _
      | exact dancestudiolaw01_awake.mono _
      | exact LeO.none _
      | refine LeO.ite ?_ ?_
      | refine LeO.bind ?_ (fun _ => ?_)
    · intro y0 y1 y2 y3 y4 y5
      unfold dancestudiolaw01_NumLerp.j3
      repeat' first
      | (with_reducible exact ih0 _ _ _ _ _ _ _)
      | (with_reducible exact ih1 _ _ _ _ _ _)
      | (with_reducible exact ih2 _ _ _ _ _ _)
      | (with_reducible exact ih3 _ _ _ _ _ _)
      | (with_reducible exact dancestudiolaw01_awake.mono _)
      | (with_reducible exact LeO.refl _)
      | (with_reducible exact LeO.none _)
      | (with_reducible refine LeO.ite ?_ ?_)
      | (with_reducible refine LeO.bind ?_ (fun _ => ?_))
      | exact ih0 _ _ _ _ _ _ _
      | exact ih1 _ _ _ _ _ _
      | exact ih2 _ _ _ _ _ _
      | exact ih3 _ _ _ _ _ _
      | exact dancestudiolaw01_awake.mono _
      | exact LeO.none _
      | refine LeO.ite ?_ ?_
      | refine LeO.bind ?_ (fun _ => ?_)
theorem dancestudiolaw01_NumLerp.mono : ∀ a0 a1 a2 a3 k, LeO (dancestudiolaw01_NumLerp.f k a0 a1 a2 a3) (dancestudiolaw01_NumLerp.f (k + 1) a0 a1 a2 a3) := by
  intro a0 a1 a2 a3 k
  obtain ⟨ih0, ih1, ih2, ih3⟩ := dancestudiolaw01_NumLerp.mono_l k
  unfold dancestudiolaw01_NumLerp.f
  repeat' first
      | (with_reducible exact ih0 _ _ _ _ _ _ _)
      | (with_reducible exact ih1 _ _ _ _ _ _)
      | (with_reducible exact ih2 _ _ _ _ _ _)
      | (with_reducible exact ih3 _ _ _ _ _ _)
      | (with_reducible exact dancestudiolaw01_awake.mono _)
      | (with_reducible exact LeO.refl _)
      | (with_reducible exact LeO.none _)
      | (with_reducible refine LeO.ite ?_ ?_)
      | (with_reducible refine LeO.bind ?_ (fun _ => ?_))
      | exact ih0 _ _ _ _ _ _ _
      | exact ih1 _ _ _ _ _ _
      | exact ih2 _ _ _ _ _ _
      | exact ih3 _ _ _ _ _ _
      | exact dancestudiolaw01_awake.mono _
      | exact LeO.none _
      | refine LeO.ite ?_ ?_
      | refine LeO.bind ?_ (fun _ => ?_)
set_option maxHeartbeats 8000000 in
set_option maxRecDepth 100000 in
theorem dancestudiolaw01_NumLerp.calls (k : Nat) (a0_0 : Int) (a0_1 : Int) (a0_2 : Int) (a0_3 : Int) (r : Bool) (w : World) (h : dancestudiolaw01_NumLerp.f k a0_0 a0_1 a0_2 a0_3 = some r) :
    Calls Try.prog 4 #[.agg #[.int .i64 a0_0, .int .i64 a0_1, .int .i64 a0_2, .int .i64 a0_3]] w fun e w' => e = .returned (.bool r) ∧ Below w.heap.size w w' := by
  have hu23 := Try.underlying23
  have HB := Aside0.mk (Below.refl w.heap.size w)
  have H : ((num_Lerp.f a0_0 a0_1 a0_2 a0_3).bind fun bt171 => ((dancestudiolaw01_unit.f a0_0).bind fun t173 => (if t173 = true then ((dancestudiolaw01_unit.f a0_1).bind fun t174 => (if t174 = true then (if a0_3 < 1 then (dancestudiolaw01_NumLerp.j0 k bt171.1 bt171.2 true a0_0 a0_1 a0_2 a0_3) else (if a0_3 > 524288 then (dancestudiolaw01_NumLerp.j0 k bt171.1 bt171.2 true a0_0 a0_1 a0_2 a0_3) else (if a0_2 < 0 then (dancestudiolaw01_NumLerp.j0 k bt171.1 bt171.2 true a0_0 a0_1 a0_2 a0_3) else (dancestudiolaw01_NumLerp.j0 k bt171.1 bt171.2 (decide (a0_2 > a0_3)) a0_0 a0_1 a0_2 a0_3)))) else (dancestudiolaw01_NumLerp.j0 k bt171.1 bt171.2 true a0_0 a0_1 a0_2 a0_3))) else (dancestudiolaw01_NumLerp.j0 k bt171.1 bt171.2 true a0_0 a0_1 a0_2 a0_3)))) = some r := h
  clear h
  replace H := Option.bind_eq_some_iff.mp H
  obtain ⟨⟨t171, t172⟩, A20, H⟩ := H
  replace H : ((dancestudiolaw01_unit.f a0_0).bind fun t173 => (if t173 = true then ((dancestudiolaw01_unit.f a0_1).bind fun t174 => (if t174 = true then (if a0_3 < 1 then (dancestudiolaw01_NumLerp.j0 k t171 t172 true a0_0 a0_1 a0_2 a0_3) else (if a0_3 > 524288 then (dancestudiolaw01_NumLerp.j0 k t171 t172 true a0_0 a0_1 a0_2 a0_3) else (if a0_2 < 0 then (dancestudiolaw01_NumLerp.j0 k t171 t172 true a0_0 a0_1 a0_2 a0_3) else (dancestudiolaw01_NumLerp.j0 k t171 t172 (decide (a0_2 > a0_3)) a0_0 a0_1 a0_2 a0_3)))) else (dancestudiolaw01_NumLerp.j0 k t171 t172 true a0_0 a0_1 a0_2 a0_3))) else (dancestudiolaw01_NumLerp.j0 k t171 t172 true a0_0 a0_1 a0_2 a0_3))) = some r := H
  have A2 := Aside0.mk A20
  clear A20
  have HC3 := Aside0.mk H
  clear H
  go_enter Try.func4, Try.ntmps4
  go_upto_region 2 with (first | ((with_reducible refine gate_dst (N := 1) rfl ?_); (try (refine gate_guard (by rfl) ?_; dsimp only)); refine box_event ?hg (N := 1) ?hd (cs := #[.int .i64 a0_0, .int .i64 a0_1, .int .i64 a0_2, .int .i64 a0_3]) (t := 23) ?hr ?_; (case hd => rfl); (case hg => rfl); (case hr => first | (go_simp; done) | (go_simp; rfl)); intro gb170 hg w4 hbox hb; have n0_ := Aside0.mk (below_step (by repeat (first | (with_reducible first | exact HB.out | apply below_alloc | apply pw_below_drewN | apply below_drew1) | exact HB.out)) hb); have n1_ := Aside0.mk (hbox); have n2_ := Aside0.mk ((by rw [hg]; exact (below_size (by repeat (first | (with_reducible first | exact HB.out | apply below_alloc | apply pw_below_drewN | apply below_drew1) | exact HB.out))) : w.heap.size ≤ gb170)); have n3_ := Aside0.mk ((by rw [hg]; exact (below_size (by repeat (first | (with_reducible first | exact HB.out | apply below_alloc | apply pw_below_drewN | apply below_drew1) | exact HB.out))) : w.heap.size ≤ gb170)); clear HB; have HB := n0_; have BK170 := n1_; have GW170 := n2_; have GE170 := n3_; clear n0_ n1_ n2_ n3_; clear hb hbox hg; have hcz5_0 : w4.cell? ⟨gb170, 0, none⟩ = some (.int .i64 a0_0) := (blk_cell BK170.out 0).trans rfl; have hcz5_1 : w4.cell? ⟨gb170, 1, none⟩ = some (.int .i64 a0_1) := (blk_cell BK170.out 1).trans rfl; have hcz5_2 : w4.cell? ⟨gb170, 2, none⟩ = some (.int .i64 a0_2) := (blk_cell BK170.out 2).trans rfl; have hcz5_3 : w4.cell? ⟨gb170, 3, none⟩ = some (.int .i64 a0_3) := (blk_cell BK170.out 3).trans rfl; have hfz5_0 := blk_frozen BK170.out 0; have hfz5_1 := blk_frozen BK170.out 1; have hfz5_2 := blk_frozen BK170.out 2; have hfz5_3 := blk_frozen BK170.out 3) | ((with_reducible refine gate_callee (f := 12) rfl ?_); refine goesL_ (some 15) rfl rfl Try.func12 (by kernel_rfl) rfl #[.int .i64 a0_0, .int .i64 a0_1, .int .i64 a0_2, .int .i64 a0_3] rfl (by (try simp only [List.map_toArray, List.map_cons, List.map_nil]); first | done | rfl | (simp only [List.length_drop, List.length_take]; rfl)) ?_; (with_reducible refine (num_Lerp.calls a0_0 a0_1 a0_2 a0_3 t171 t172 _ A2.out).mono ?_); rintro e w' ⟨rfl, ⟨nd, rfl⟩⟩; refine ⟨_, rfl, ?_⟩))
  (try simp only [Act.put, List.setIfInBounds_toArray, List.set_cons_zero, List.set_cons_succ])
  go_cut [49] (fun v49 wc => ∃ (kq : Nat) (x49_2 : Bool), v49 = .bool x49_2 ∧ Aside0 (dancestudiolaw01_NumLerp.j0 kq t171 t172 x49_2 a0_0 a0_1 a0_2 a0_3 = some r) ∧ Aside0 (kq ≤ k) ∧ Aside0 (wc.heap[gb170]? = some (.cells #[.int .i64 a0_0, .int .i64 a0_1, .int .i64 a0_2, .int .i64 a0_3] 23 (0, 0))) ∧ Aside0 (Below w.heap.size w wc))
  case first => as_aux_lemma =>
    have H := HC3.out
    clear HC3
    replace H := Option.bind_eq_some_iff.mp H
    obtain ⟨t173, A60, H⟩ := H
    replace H : (if t173 = true then ((dancestudiolaw01_unit.f a0_1).bind fun t174 => (if t174 = true then (if a0_3 < 1 then (dancestudiolaw01_NumLerp.j0 k t171 t172 true a0_0 a0_1 a0_2 a0_3) else (if a0_3 > 524288 then (dancestudiolaw01_NumLerp.j0 k t171 t172 true a0_0 a0_1 a0_2 a0_3) else (if a0_2 < 0 then (dancestudiolaw01_NumLerp.j0 k t171 t172 true a0_0 a0_1 a0_2 a0_3) else (dancestudiolaw01_NumLerp.j0 k t171 t172 (decide (a0_2 > a0_3)) a0_0 a0_1 a0_2 a0_3)))) else (dancestudiolaw01_NumLerp.j0 k t171 t172 true a0_0 a0_1 a0_2 a0_3))) else (dancestudiolaw01_NumLerp.j0 k t171 t172 true a0_0 a0_1 a0_2 a0_3)) = some r := H
    have A6 := Aside0.mk A60
    clear A60
    by_cases c7 : t173 = true
    · subst c7
      have H1 : ((dancestudiolaw01_unit.f a0_1).bind fun t174 => (if t174 = true then (if a0_3 < 1 then (dancestudiolaw01_NumLerp.j0 k t171 t172 true a0_0 a0_1 a0_2 a0_3) else (if a0_3 > 524288 then (dancestudiolaw01_NumLerp.j0 k t171 t172 true a0_0 a0_1 a0_2 a0_3) else (if a0_2 < 0 then (dancestudiolaw01_NumLerp.j0 k t171 t172 true a0_0 a0_1 a0_2 a0_3) else (dancestudiolaw01_NumLerp.j0 k t171 t172 (decide (a0_2 > a0_3)) a0_0 a0_1 a0_2 a0_3)))) else (dancestudiolaw01_NumLerp.j0 k t171 t172 true a0_0 a0_1 a0_2 a0_3))) = some r := by rw [if_pos rfl] at H; exact H
      clear H
      have H := H1
      clear H1
      replace H := Option.bind_eq_some_iff.mp H
      obtain ⟨t174, A80, H⟩ := H
      replace H : (if t174 = true then (if a0_3 < 1 then (dancestudiolaw01_NumLerp.j0 k t171 t172 true a0_0 a0_1 a0_2 a0_3) else (if a0_3 > 524288 then (dancestudiolaw01_NumLerp.j0 k t171 t172 true a0_0 a0_1 a0_2 a0_3) else (if a0_2 < 0 then (dancestudiolaw01_NumLerp.j0 k t171 t172 true a0_0 a0_1 a0_2 a0_3) else (dancestudiolaw01_NumLerp.j0 k t171 t172 (decide (a0_2 > a0_3)) a0_0 a0_1 a0_2 a0_3)))) else (dancestudiolaw01_NumLerp.j0 k t171 t172 true a0_0 a0_1 a0_2 a0_3)) = some r := H
      have A8 := Aside0.mk A80
      clear A80
      by_cases c9 : t174 = true
      · subst c9
        have H1 : (if a0_3 < 1 then (dancestudiolaw01_NumLerp.j0 k t171 t172 true a0_0 a0_1 a0_2 a0_3) else (if a0_3 > 524288 then (dancestudiolaw01_NumLerp.j0 k t171 t172 true a0_0 a0_1 a0_2 a0_3) else (if a0_2 < 0 then (dancestudiolaw01_NumLerp.j0 k t171 t172 true a0_0 a0_1 a0_2 a0_3) else (dancestudiolaw01_NumLerp.j0 k t171 t172 (decide (a0_2 > a0_3)) a0_0 a0_1 a0_2 a0_3)))) = some r := by rw [if_pos rfl] at H; exact H
        clear H
        have H := H1
        clear H1
        by_cases c10 : a0_3 < 1
        · rw [if_pos c10] at H
          have c10b0 : decide (a0_3 < 1) = true := decide_eq_true c10
          clear c10
          (first | rw [c10b0] | (simp only [i64_w, i32_w]; rw [c10b0]) | skip)
          have H' := Aside0.mk H
          clear H
          have hcz11_0 : w4.cell? ⟨gb170, 0, none⟩ = some (.int .i64 a0_0) := (blk_cell BK170.out 0).trans rfl
          have hcz11_1 : w4.cell? ⟨gb170, 1, none⟩ = some (.int .i64 a0_1) := (blk_cell BK170.out 1).trans rfl
          have hcz11_2 : w4.cell? ⟨gb170, 2, none⟩ = some (.int .i64 a0_2) := (blk_cell BK170.out 2).trans rfl
          have hcz11_3 : w4.cell? ⟨gb170, 3, none⟩ = some (.int .i64 a0_3) := (blk_cell BK170.out 3).trans rfl
          have hfz11_0 := blk_frozen BK170.out 0
          have hfz11_1 := blk_frozen BK170.out 1
          have hfz11_2 := blk_frozen BK170.out 2
          have hfz11_3 := blk_frozen BK170.out 3
          go_wp2_with (first | ((with_reducible refine gate_callee (f := 15) rfl ?_); refine goesL_ (some 20) rfl rfl Try.func15 (by kernel_rfl) rfl #[.int .i64 a0_0] rfl (by (try simp only [List.map_toArray, List.map_cons, List.map_nil]); first | done | rfl | (simp only [List.length_drop, List.length_take]; rfl)) ?_; (with_reducible refine (dancestudiolaw01_unit.calls a0_0 true _ A6.out).mono ?_); rintro e w' ⟨rfl, ⟨nd, rfl⟩⟩; refine ⟨_, rfl, ?_⟩) | (go_at_call 15; (with_reducible refine (dancestudiolaw01_unit.calls a0_1 true _ A8.out).mono ?_); rintro e w' ⟨rfl, ⟨nd, rfl⟩⟩))
          go_meet
          case rel => exact ⟨_, (true), (by first | rfl | (simp; done) | (simp [*]; done)), H', ⟨by first | omega | exact Nat.le_refl _⟩, ⟨by (with_reducible repeat (first | refine blk_drewN ?_ _ | refine blk_drew ?_ | refine blk_alloc ?_ _)); exact BK170.out⟩, ⟨by repeat (first | (with_reducible first | exact HB.out | apply below_alloc | apply pw_below_drewN | apply below_drew1 | refine below_set ?_ GE170.out) | exact HB.out)⟩⟩
        · rw [if_neg c10] at H
          have c10b0 : decide (a0_3 < 1) = false := decide_eq_false c10
          clear c10
          (first | rw [c10b0] | (simp only [i64_w, i32_w]; rw [c10b0]) | skip)
          by_cases c12 : a0_3 > 524288
          · rw [if_pos c12] at H
            have c12b0 : decide (524288 < a0_3) = true := decide_eq_true c12
            clear c12
            have H' := Aside0.mk H
            clear H
            have hcz13_0 : w4.cell? ⟨gb170, 0, none⟩ = some (.int .i64 a0_0) := (blk_cell BK170.out 0).trans rfl
            have hcz13_1 : w4.cell? ⟨gb170, 1, none⟩ = some (.int .i64 a0_1) := (blk_cell BK170.out 1).trans rfl
            have hcz13_2 : w4.cell? ⟨gb170, 2, none⟩ = some (.int .i64 a0_2) := (blk_cell BK170.out 2).trans rfl
            have hcz13_3 : w4.cell? ⟨gb170, 3, none⟩ = some (.int .i64 a0_3) := (blk_cell BK170.out 3).trans rfl
            have hfz13_0 := blk_frozen BK170.out 0
            have hfz13_1 := blk_frozen BK170.out 1
            have hfz13_2 := blk_frozen BK170.out 2
            have hfz13_3 := blk_frozen BK170.out 3
            go_wp2_with (first | ((with_reducible refine gate_callee (f := 15) rfl ?_); refine goesL_ (some 20) rfl rfl Try.func15 (by kernel_rfl) rfl #[.int .i64 a0_0] rfl (by (try simp only [List.map_toArray, List.map_cons, List.map_nil]); first | done | rfl | (simp only [List.length_drop, List.length_take]; rfl)) ?_; (with_reducible refine (dancestudiolaw01_unit.calls a0_0 true _ A6.out).mono ?_); rintro e w' ⟨rfl, ⟨nd, rfl⟩⟩; refine ⟨_, rfl, ?_⟩) | (go_at_call 15; (with_reducible refine (dancestudiolaw01_unit.calls a0_1 true _ A8.out).mono ?_); rintro e w' ⟨rfl, ⟨nd, rfl⟩⟩))
            go_meet
            case rel => exact ⟨_, (true), (by first | rfl | (simp; done) | (simp [*]; done)), H', ⟨by first | omega | exact Nat.le_refl _⟩, ⟨by (with_reducible repeat (first | refine blk_drewN ?_ _ | refine blk_drew ?_ | refine blk_alloc ?_ _)); exact BK170.out⟩, ⟨by repeat (first | (with_reducible first | exact HB.out | apply below_alloc | apply pw_below_drewN | apply below_drew1 | refine below_set ?_ GE170.out) | exact HB.out)⟩⟩
          · rw [if_neg c12] at H
            have c12b0 : decide (524288 < a0_3) = false := decide_eq_false c12
            clear c12
            by_cases c14 : a0_2 < 0
            · rw [if_pos c14] at H
              have c14b0 : decide (a0_2 < 0) = true := decide_eq_true c14
              clear c14
              have H' := Aside0.mk H
              clear H
              have hcz15_0 : w4.cell? ⟨gb170, 0, none⟩ = some (.int .i64 a0_0) := (blk_cell BK170.out 0).trans rfl
              have hcz15_1 : w4.cell? ⟨gb170, 1, none⟩ = some (.int .i64 a0_1) := (blk_cell BK170.out 1).trans rfl
              have hcz15_2 : w4.cell? ⟨gb170, 2, none⟩ = some (.int .i64 a0_2) := (blk_cell BK170.out 2).trans rfl
              have hcz15_3 : w4.cell? ⟨gb170, 3, none⟩ = some (.int .i64 a0_3) := (blk_cell BK170.out 3).trans rfl
              have hfz15_0 := blk_frozen BK170.out 0
              have hfz15_1 := blk_frozen BK170.out 1
              have hfz15_2 := blk_frozen BK170.out 2
              have hfz15_3 := blk_frozen BK170.out 3
              go_wp2_with (first | ((with_reducible refine gate_callee (f := 15) rfl ?_); refine goesL_ (some 20) rfl rfl Try.func15 (by kernel_rfl) rfl #[.int .i64 a0_0] rfl (by (try simp only [List.map_toArray, List.map_cons, List.map_nil]); first | done | rfl | (simp only [List.length_drop, List.length_take]; rfl)) ?_; (with_reducible refine (dancestudiolaw01_unit.calls a0_0 true _ A6.out).mono ?_); rintro e w' ⟨rfl, ⟨nd, rfl⟩⟩; refine ⟨_, rfl, ?_⟩) | (go_at_call 15; (with_reducible refine (dancestudiolaw01_unit.calls a0_1 true _ A8.out).mono ?_); rintro e w' ⟨rfl, ⟨nd, rfl⟩⟩))
              go_meet
              case rel => exact ⟨_, (true), (by first | rfl | (simp; done) | (simp [*]; done)), H', ⟨by first | omega | exact Nat.le_refl _⟩, ⟨by (with_reducible repeat (first | refine blk_drewN ?_ _ | refine blk_drew ?_ | refine blk_alloc ?_ _)); exact BK170.out⟩, ⟨by repeat (first | (with_reducible first | exact HB.out | apply below_alloc | apply pw_below_drewN | apply below_drew1 | refine below_set ?_ GE170.out) | exact HB.out)⟩⟩
            · rw [if_neg c14] at H
              have c14b0 : decide (a0_2 < 0) = false := decide_eq_false c14
              clear c14
              have H' := Aside0.mk H
              clear H
              have hcz16_0 : w4.cell? ⟨gb170, 0, none⟩ = some (.int .i64 a0_0) := (blk_cell BK170.out 0).trans rfl
              have hcz16_1 : w4.cell? ⟨gb170, 1, none⟩ = some (.int .i64 a0_1) := (blk_cell BK170.out 1).trans rfl
              have hcz16_2 : w4.cell? ⟨gb170, 2, none⟩ = some (.int .i64 a0_2) := (blk_cell BK170.out 2).trans rfl
              have hcz16_3 : w4.cell? ⟨gb170, 3, none⟩ = some (.int .i64 a0_3) := (blk_cell BK170.out 3).trans rfl
              have hfz16_0 := blk_frozen BK170.out 0
              have hfz16_1 := blk_frozen BK170.out 1
              have hfz16_2 := blk_frozen BK170.out 2
              have hfz16_3 := blk_frozen BK170.out 3
              go_wp2_with (first | ((with_reducible refine gate_callee (f := 15) rfl ?_); refine goesL_ (some 20) rfl rfl Try.func15 (by kernel_rfl) rfl #[.int .i64 a0_0] rfl (by (try simp only [List.map_toArray, List.map_cons, List.map_nil]); first | done | rfl | (simp only [List.length_drop, List.length_take]; rfl)) ?_; (with_reducible refine (dancestudiolaw01_unit.calls a0_0 true _ A6.out).mono ?_); rintro e w' ⟨rfl, ⟨nd, rfl⟩⟩; refine ⟨_, rfl, ?_⟩) | (go_at_call 15; (with_reducible refine (dancestudiolaw01_unit.calls a0_1 true _ A8.out).mono ?_); rintro e w' ⟨rfl, ⟨nd, rfl⟩⟩))
              go_meet
              case rel => exact ⟨_, (decide (a0_2 > a0_3)), (by first | rfl | (simp; done) | (simp [*]; done)), H', ⟨by first | omega | exact Nat.le_refl _⟩, ⟨by (with_reducible repeat (first | refine blk_drewN ?_ _ | refine blk_drew ?_ | refine blk_alloc ?_ _)); exact BK170.out⟩, ⟨by repeat (first | (with_reducible first | exact HB.out | apply below_alloc | apply pw_below_drewN | apply below_drew1 | refine below_set ?_ GE170.out) | exact HB.out)⟩⟩
      · replace c9 := Bool.eq_false_iff.mpr c9
        subst c9
        have H1 : (dancestudiolaw01_NumLerp.j0 k t171 t172 true a0_0 a0_1 a0_2 a0_3) = some r := by rw [if_neg (show ¬ (false = true) by decide)] at H; exact H
        clear H
        have H := H1
        clear H1
        have H' := Aside0.mk H
        clear H
        have hcz17_0 : w4.cell? ⟨gb170, 0, none⟩ = some (.int .i64 a0_0) := (blk_cell BK170.out 0).trans rfl
        have hcz17_1 : w4.cell? ⟨gb170, 1, none⟩ = some (.int .i64 a0_1) := (blk_cell BK170.out 1).trans rfl
        have hcz17_2 : w4.cell? ⟨gb170, 2, none⟩ = some (.int .i64 a0_2) := (blk_cell BK170.out 2).trans rfl
        have hcz17_3 : w4.cell? ⟨gb170, 3, none⟩ = some (.int .i64 a0_3) := (blk_cell BK170.out 3).trans rfl
        have hfz17_0 := blk_frozen BK170.out 0
        have hfz17_1 := blk_frozen BK170.out 1
        have hfz17_2 := blk_frozen BK170.out 2
        have hfz17_3 := blk_frozen BK170.out 3
        go_wp2_with (first | ((with_reducible refine gate_callee (f := 15) rfl ?_); refine goesL_ (some 20) rfl rfl Try.func15 (by kernel_rfl) rfl #[.int .i64 a0_0] rfl (by (try simp only [List.map_toArray, List.map_cons, List.map_nil]); first | done | rfl | (simp only [List.length_drop, List.length_take]; rfl)) ?_; (with_reducible refine (dancestudiolaw01_unit.calls a0_0 true _ A6.out).mono ?_); rintro e w' ⟨rfl, ⟨nd, rfl⟩⟩; refine ⟨_, rfl, ?_⟩) | (go_at_call 15; (with_reducible refine (dancestudiolaw01_unit.calls a0_1 false _ A8.out).mono ?_); rintro e w' ⟨rfl, ⟨nd, rfl⟩⟩))
        go_meet
        case rel => exact ⟨_, (true), (by first | rfl | (simp; done) | (simp [*]; done)), H', ⟨by first | omega | exact Nat.le_refl _⟩, ⟨by (with_reducible repeat (first | refine blk_drewN ?_ _ | refine blk_drew ?_ | refine blk_alloc ?_ _)); exact BK170.out⟩, ⟨by repeat (first | (with_reducible first | exact HB.out | apply below_alloc | apply pw_below_drewN | apply below_drew1 | refine below_set ?_ GE170.out) | exact HB.out)⟩⟩
    · replace c7 := Bool.eq_false_iff.mpr c7
      subst c7
      have H1 : (dancestudiolaw01_NumLerp.j0 k t171 t172 true a0_0 a0_1 a0_2 a0_3) = some r := by rw [if_neg (show ¬ (false = true) by decide)] at H; exact H
      clear H
      have H := H1
      clear H1
      have H' := Aside0.mk H
      clear H
      have hcz18_0 : w4.cell? ⟨gb170, 0, none⟩ = some (.int .i64 a0_0) := (blk_cell BK170.out 0).trans rfl
      have hcz18_1 : w4.cell? ⟨gb170, 1, none⟩ = some (.int .i64 a0_1) := (blk_cell BK170.out 1).trans rfl
      have hcz18_2 : w4.cell? ⟨gb170, 2, none⟩ = some (.int .i64 a0_2) := (blk_cell BK170.out 2).trans rfl
      have hcz18_3 : w4.cell? ⟨gb170, 3, none⟩ = some (.int .i64 a0_3) := (blk_cell BK170.out 3).trans rfl
      have hfz18_0 := blk_frozen BK170.out 0
      have hfz18_1 := blk_frozen BK170.out 1
      have hfz18_2 := blk_frozen BK170.out 2
      have hfz18_3 := blk_frozen BK170.out 3
      go_wp2_with (first | ((with_reducible refine gate_callee (f := 15) rfl ?_); refine goesL_ (some 20) rfl rfl Try.func15 (by kernel_rfl) rfl #[.int .i64 a0_0] rfl (by (try simp only [List.map_toArray, List.map_cons, List.map_nil]); first | done | rfl | (simp only [List.length_drop, List.length_take]; rfl)) ?_; (with_reducible refine (dancestudiolaw01_unit.calls a0_0 false _ A6.out).mono ?_); rintro e w' ⟨rfl, ⟨nd, rfl⟩⟩; refine ⟨_, rfl, ?_⟩))
      go_meet
      case rel => exact ⟨_, (true), (by first | rfl | (simp; done) | (simp [*]; done)), H', ⟨by first | omega | exact Nat.le_refl _⟩, ⟨by (with_reducible repeat (first | refine blk_drewN ?_ _ | refine blk_drew ?_ | refine blk_alloc ?_ _)); exact BK170.out⟩, ⟨by repeat (first | (with_reducible first | exact HB.out | apply below_alloc | apply pw_below_drewN | apply below_drew1 | refine below_set ?_ GE170.out) | exact HB.out)⟩⟩
  case rest => as_aux_lemma =>
    clear HC3
    try clear c1
    try clear p2
    try clear c4
    try clear c7
    try clear c9
    try clear c10
    try clear c10b0
    try clear c12
    try clear c12b0
    try clear c14
    try clear c14b0
    try clear c15
    try clear hcz11_0
    try clear hcz11_1
    try clear hcz11_2
    try clear hcz11_3
    try clear hcz13_0
    try clear hcz13_1
    try clear hcz13_2
    try clear hcz13_3
    try clear hcz15_0
    try clear hcz15_1
    try clear hcz15_2
    try clear hcz15_3
    try clear hcz16_0
    try clear hcz16_1
    try clear hcz16_2
    try clear hcz16_3
    try clear hcz17_0
    try clear hcz17_1
    try clear hcz17_2
    try clear hcz17_3
    try clear hcz18_0
    try clear hcz18_1
    try clear hcz18_2
    try clear hcz18_3
    try clear hcz5_0
    try clear hcz5_1
    try clear hcz5_2
    try clear hcz5_3
    try clear hfz11_0
    try clear hfz11_1
    try clear hfz11_2
    try clear hfz11_3
    try clear hfz13_0
    try clear hfz13_1
    try clear hfz13_2
    try clear hfz13_3
    try clear hfz15_0
    try clear hfz15_1
    try clear hfz15_2
    try clear hfz15_3
    try clear hfz16_0
    try clear hfz16_1
    try clear hfz16_2
    try clear hfz16_3
    try clear hfz17_0
    try clear hfz17_1
    try clear hfz17_2
    try clear hfz17_3
    try clear hfz18_0
    try clear hfz18_1
    try clear hfz18_2
    try clear hfz18_3
    try clear hfz5_0
    try clear hfz5_1
    try clear hfz5_2
    try clear hfz5_3
    obtain ⟨kq, x49_2, rfl, HA, HJ2, BK170, HB⟩ := hcut
    cases kq with
    | zero => exact absurd HA.out (by simp [dancestudiolaw01_NumLerp.j0])
    | succ kj2 =>
      have H := HA.out
      clear HA
      simp only [dancestudiolaw01_NumLerp.j0] at H
      by_cases c19 : x49_2 = true
      · subst c19
        have H1 : (if t171 = 0 then (if t172 = 1 then ((dancestudiolaw01_awake.f kj2).bind fun t175 => (some t175)) else (some false)) else (some false)) = some r := by rw [if_pos rfl] at H; exact H
        clear H
        have H := H1
        clear H1
        by_cases c20 : t171 = 0
        · rw [if_pos c20] at H
          have c20b0 : (t171 == 0) = true := beq_iff_eq.mpr c20
          have c20b1 : (t171 != 0) = false := bne_eq_false_iff_eq.mpr c20
          clear c20
          by_cases c21 : t172 = 1
          · rw [if_pos c21] at H
            have c21b0 : (t172 == 1) = true := beq_iff_eq.mpr c21
            have c21b1 : (t172 != 1) = false := bne_eq_false_iff_eq.mpr c21
            clear c21
            replace H := Option.bind_eq_some_iff.mp H
            obtain ⟨t175, A220, H⟩ := H
            replace H : (some t175) = some r := H
            have A22 := Aside0.mk A220
            clear A220
            obtain rfl := Option.some.inj H
            go_wp2_with (first | (go_at_call 14; (with_reducible refine (dancestudiolaw01_awake.calls kj2  t175 _ A22.out).mono ?_); rintro e w23 ⟨rfl, hb⟩; have n0_ := Aside0.mk (blk_below (g := gb170) (o := .cells #[.int .i64 a0_0, .int .i64 a0_1, .int .i64 a0_2, .int .i64 a0_3] 23 (0, 0)) (by (with_reducible repeat (first | refine blk_drewN ?_ _ | refine blk_drew ?_ | refine blk_alloc ?_ _)); exact BK170.out) hb); have n1_ := Aside0.mk (below_step (by repeat (first | (with_reducible first | exact HB.out | apply below_alloc | apply pw_below_drewN | apply below_drew1 | refine below_set ?_ GE170.out) | exact HB.out)) hb); clear BK170; clear HB; have BK170 := n0_; have HB := n1_; clear n0_ n1_; (try clear hb); (try clear hb2); (try clear hk); (try clear hi)))
            go_ret
            exact ⟨by first | rfl | (simp [errW_none, errW_some] <;> rfl) | (simp [*, errW_none, errW_some] <;> rfl), by repeat (first | (with_reducible first | exact HB.out | apply below_alloc | apply pw_below_drewN | apply below_drew1 | refine below_set ?_ GE170.out) | exact HB.out)⟩
          · rw [if_neg c21] at H
            have c21b0 : (t172 == 1) = false := beq_eq_false_iff_ne.mpr c21
            have c21b1 : (t172 != 1) = true := bne_iff_ne.mpr c21
            obtain rfl := Option.some.inj H
            go_wp2
            go_ret
            exact ⟨by first | rfl | (simp [errW_none, errW_some] <;> rfl) | (simp [*, errW_none, errW_some] <;> rfl), by repeat (first | (with_reducible first | exact HB.out | apply below_alloc | apply pw_below_drewN | apply below_drew1 | refine below_set ?_ GE170.out) | exact HB.out)⟩
        · rw [if_neg c20] at H
          have c20b0 : (t171 == 0) = false := beq_eq_false_iff_ne.mpr c20
          have c20b1 : (t171 != 0) = true := bne_iff_ne.mpr c20
          obtain rfl := Option.some.inj H
          go_wp2
          go_ret
          exact ⟨by first | rfl | (simp [errW_none, errW_some] <;> rfl) | (simp [*, errW_none, errW_some] <;> rfl), by repeat (first | (with_reducible first | exact HB.out | apply below_alloc | apply pw_below_drewN | apply below_drew1 | refine below_set ?_ GE170.out) | exact HB.out)⟩
      · replace c19 := Bool.eq_false_iff.mpr c19
        subst c19
        have H1 : (if t172 = 0 then (if t171 < (mn a0_0 a0_1) then (dancestudiolaw01_NumLerp.j1 kj2 t171 true a0_0 a0_1 a0_2 a0_3) else (dancestudiolaw01_NumLerp.j1 kj2 t171 (decide (t171 > (mx a0_0 a0_1))) a0_0 a0_1 a0_2 a0_3)) else (dancestudiolaw01_NumLerp.j1 kj2 t171 true a0_0 a0_1 a0_2 a0_3)) = some r := by rw [if_neg (show ¬ (false = true) by decide)] at H; exact H
        clear H
        have H := H1
        clear H1
        have HC24 := Aside0.mk H
        clear H
        go_upto_region 4 with (fail)
        go_cut [78] (fun v78 wc => ∃ (kq : Nat) (x78_23 : Bool), v78 = .bool x78_23 ∧ Aside0 (dancestudiolaw01_NumLerp.j1 kq t171 x78_23 a0_0 a0_1 a0_2 a0_3 = some r) ∧ Aside0 (kq ≤ kj2) ∧ Aside0 (wc.heap[gb170]? = some (.cells #[.int .i64 a0_0, .int .i64 a0_1, .int .i64 a0_2, .int .i64 a0_3] 23 (0, 0))) ∧ Aside0 (Below w.heap.size w wc))
        case first => as_aux_lemma =>
          have H := HC24.out
          clear HC24
          by_cases c25 : t172 = 0
          · rw [if_pos c25] at H
            have c25b0 : (t172 == 0) = true := beq_iff_eq.mpr c25
            have c25b1 : (t172 != 0) = false := bne_eq_false_iff_eq.mpr c25
            clear c25
            (first | rw [c25b0] | (simp only [i64_w, i32_w]; rw [c25b0]) | skip)
            obtain ⟨ji26, hji26⟩ : ∃ j_ : Int, (mn a0_0 a0_1) = j_ := ⟨_, rfl⟩
            replace H : (if t171 < (ji26) then (dancestudiolaw01_NumLerp.j1 kj2 t171 true a0_0 a0_1 a0_2 a0_3) else (dancestudiolaw01_NumLerp.j1 kj2 t171 (decide (t171 > (mx a0_0 a0_1))) a0_0 a0_1 a0_2 a0_3)) = some r := by first | (rw [hji26] at H; exact H) | (simp only [hji26] at H ⊢; exact H)
            have hji26_ : (if a0_1 < a0_0 then a0_1 else a0_0) = ji26 := hji26
            by_cases c27 : t171 < (ji26)
            · rw [if_pos c27] at H
              have c27b0 : decide (t171 < (ji26)) = true := decide_eq_true c27
              clear c27
              have H' := Aside0.mk H
              clear H
              have hcz28_0 : wc.cell? ⟨gb170, 0, none⟩ = some (.int .i64 a0_0) := (blk_cell BK170.out 0).trans rfl
              have hcz28_1 : wc.cell? ⟨gb170, 1, none⟩ = some (.int .i64 a0_1) := (blk_cell BK170.out 1).trans rfl
              have hcz28_2 : wc.cell? ⟨gb170, 2, none⟩ = some (.int .i64 a0_2) := (blk_cell BK170.out 2).trans rfl
              have hcz28_3 : wc.cell? ⟨gb170, 3, none⟩ = some (.int .i64 a0_3) := (blk_cell BK170.out 3).trans rfl
              have hfz28_0 := blk_frozen BK170.out 0
              have hfz28_1 := blk_frozen BK170.out 1
              have hfz28_2 := blk_frozen BK170.out 2
              have hfz28_3 := blk_frozen BK170.out 3
              go_wp2
              go_meet
              case rel => exact ⟨_, (true), (by first | rfl | (simp; done) | (simp [*]; done)), H', ⟨by have := HJ2.out; first | omega | exact Nat.le_refl _⟩, ⟨by (with_reducible repeat (first | refine blk_drewN ?_ _ | refine blk_drew ?_ | refine blk_alloc ?_ _)); exact BK170.out⟩, ⟨by repeat (first | (with_reducible first | exact HB.out | apply below_alloc | apply pw_below_drewN | apply below_drew1 | refine below_set ?_ GE170.out) | exact HB.out)⟩⟩
            · rw [if_neg c27] at H
              have c27b0 : decide (t171 < (ji26)) = false := decide_eq_false c27
              clear c27
              obtain ⟨ji29, hji29⟩ : ∃ j_ : Int, (mx a0_0 a0_1) = j_ := ⟨_, rfl⟩
              replace H : (dancestudiolaw01_NumLerp.j1 kj2 t171 (decide (t171 > (ji29))) a0_0 a0_1 a0_2 a0_3) = some r := by first | (rw [hji29] at H; exact H) | (simp only [hji29] at H ⊢; exact H)
              have hji29_ : (if a0_0 < a0_1 then a0_1 else a0_0) = ji29 := hji29
              have H' := Aside0.mk H
              clear H
              have hcz30_0 : wc.cell? ⟨gb170, 0, none⟩ = some (.int .i64 a0_0) := (blk_cell BK170.out 0).trans rfl
              have hcz30_1 : wc.cell? ⟨gb170, 1, none⟩ = some (.int .i64 a0_1) := (blk_cell BK170.out 1).trans rfl
              have hcz30_2 : wc.cell? ⟨gb170, 2, none⟩ = some (.int .i64 a0_2) := (blk_cell BK170.out 2).trans rfl
              have hcz30_3 : wc.cell? ⟨gb170, 3, none⟩ = some (.int .i64 a0_3) := (blk_cell BK170.out 3).trans rfl
              have hfz30_0 := blk_frozen BK170.out 0
              have hfz30_1 := blk_frozen BK170.out 1
              have hfz30_2 := blk_frozen BK170.out 2
              have hfz30_3 := blk_frozen BK170.out 3
              go_wp2
              go_meet
              case rel => exact ⟨_, (decide (t171 > (ji29))), (by first | rfl | (simp; done) | (simp only [← hji29] <;> (first | rfl | simp)) | (simp [*]; done)), H', ⟨by have := HJ2.out; first | omega | exact Nat.le_refl _⟩, ⟨by (with_reducible repeat (first | refine blk_drewN ?_ _ | refine blk_drew ?_ | refine blk_alloc ?_ _)); exact BK170.out⟩, ⟨by repeat (first | (with_reducible first | exact HB.out | apply below_alloc | apply pw_below_drewN | apply below_drew1 | refine below_set ?_ GE170.out) | exact HB.out)⟩⟩
          · rw [if_neg c25] at H
            have c25b0 : (t172 == 0) = false := beq_eq_false_iff_ne.mpr c25
            have c25b1 : (t172 != 0) = true := bne_iff_ne.mpr c25
            (first | rw [c25b0] | (simp only [i64_w, i32_w]; rw [c25b0]) | skip)
            have H' := Aside0.mk H
            clear H
            go_wp2
            go_meet
            case rel => exact ⟨_, (true), (by first | rfl | (simp; done) | (simp [*]; done)), H', ⟨by have := HJ2.out; first | omega | exact Nat.le_refl _⟩, ⟨by (with_reducible repeat (first | refine blk_drewN ?_ _ | refine blk_drew ?_ | refine blk_alloc ?_ _)); exact BK170.out⟩, ⟨by repeat (first | (with_reducible first | exact HB.out | apply below_alloc | apply pw_below_drewN | apply below_drew1 | refine below_set ?_ GE170.out) | exact HB.out)⟩⟩
        case rest => as_aux_lemma =>
          clear HC24
          try clear c1
          try clear c2
          try clear p2
          try clear c4
          try clear c7
          try clear c9
          try clear c10
          try clear c10b0
          try clear c12
          try clear c12b0
          try clear c14
          try clear c14b0
          try clear c15
          try clear c19
          try clear c20
          try clear c20b0
          try clear c20b1
          try clear c21
          try clear c21b0
          try clear c21b1
          try clear c25
          try clear c25b0
          try clear c25b1
          try clear c27
          try clear c27b0
          try clear hcz11_0
          try clear hcz11_1
          try clear hcz11_2
          try clear hcz11_3
          try clear hcz13_0
          try clear hcz13_1
          try clear hcz13_2
          try clear hcz13_3
          try clear hcz15_0
          try clear hcz15_1
          try clear hcz15_2
          try clear hcz15_3
          try clear hcz16_0
          try clear hcz16_1
          try clear hcz16_2
          try clear hcz16_3
          try clear hcz17_0
          try clear hcz17_1
          try clear hcz17_2
          try clear hcz17_3
          try clear hcz18_0
          try clear hcz18_1
          try clear hcz18_2
          try clear hcz18_3
          try clear hcz28_0
          try clear hcz28_1
          try clear hcz28_2
          try clear hcz28_3
          try clear hcz30_0
          try clear hcz30_1
          try clear hcz30_2
          try clear hcz30_3
          try clear hcz5_0
          try clear hcz5_1
          try clear hcz5_2
          try clear hcz5_3
          try clear hfz11_0
          try clear hfz11_1
          try clear hfz11_2
          try clear hfz11_3
          try clear hfz13_0
          try clear hfz13_1
          try clear hfz13_2
          try clear hfz13_3
          try clear hfz15_0
          try clear hfz15_1
          try clear hfz15_2
          try clear hfz15_3
          try clear hfz16_0
          try clear hfz16_1
          try clear hfz16_2
          try clear hfz16_3
          try clear hfz17_0
          try clear hfz17_1
          try clear hfz17_2
          try clear hfz17_3
          try clear hfz18_0
          try clear hfz18_1
          try clear hfz18_2
          try clear hfz18_3
          try clear hfz28_0
          try clear hfz28_1
          try clear hfz28_2
          try clear hfz28_3
          try clear hfz30_0
          try clear hfz30_1
          try clear hfz30_2
          try clear hfz30_3
          try clear hfz5_0
          try clear hfz5_1
          try clear hfz5_2
          try clear hfz5_3
          try clear p2
          obtain ⟨kq, x78_23, rfl, HA, HJ23, BK170, HB⟩ := hcut
          cases kq with
          | zero => exact absurd HA.out (by simp [dancestudiolaw01_NumLerp.j1])
          | succ kj23 =>
            have H := HA.out
            clear HA
            simp only [dancestudiolaw01_NumLerp.j1] at H
            by_cases c31 : x78_23 = true
            · subst c31
              have H1 : (some false) = some r := by rw [if_pos rfl] at H; exact H
              clear H
              have H := H1
              clear H1
              obtain rfl := Option.some.inj H
              go_wp2
              go_ret
              exact ⟨by first | rfl | (simp [errW_none, errW_some] <;> rfl) | (simp [*, errW_none, errW_some] <;> rfl), by repeat (first | (with_reducible first | exact HB.out | apply below_alloc | apply pw_below_drewN | apply below_drew1 | refine below_set ?_ GE170.out) | exact HB.out)⟩
            · replace c31 := Bool.eq_false_iff.mpr c31
              subst c31
              have H1 : (if (wrap64 (2 * (wrap64 ((wrap64 ((wrap64 (t171 * a0_3)) - (wrap64 (a0_0 * (wrap64 (a0_3 - a0_2)))))) - (wrap64 (a0_1 * a0_2)))))) > a0_3 then (dancestudiolaw01_NumLerp.j2 kj23 t171 true a0_0 a0_1 a0_2 a0_3) else (if (wrap64 (2 * (wrap64 ((wrap64 ((wrap64 (t171 * a0_3)) - (wrap64 (a0_0 * (wrap64 (a0_3 - a0_2)))))) - (wrap64 (a0_1 * a0_2)))))) < (wrap64 (-a0_3)) then (dancestudiolaw01_NumLerp.j2 kj23 t171 true a0_0 a0_1 a0_2 a0_3) else (if (wrap64 (2 * (wrap64 ((wrap64 ((wrap64 (t171 * a0_3)) - (wrap64 (a0_0 * (wrap64 (a0_3 - a0_2)))))) - (wrap64 (a0_1 * a0_2)))))) = a0_3 then (dancestudiolaw01_NumLerp.j2 kj23 t171 ((Int.tmod t171 2) != 0) a0_0 a0_1 a0_2 a0_3) else (if (wrap64 (2 * (wrap64 ((wrap64 ((wrap64 (t171 * a0_3)) - (wrap64 (a0_0 * (wrap64 (a0_3 - a0_2)))))) - (wrap64 (a0_1 * a0_2)))))) = (wrap64 (-a0_3)) then (dancestudiolaw01_NumLerp.j2 kj23 t171 ((Int.tmod t171 2) != 0) a0_0 a0_1 a0_2 a0_3) else (dancestudiolaw01_NumLerp.j2 kj23 t171 false a0_0 a0_1 a0_2 a0_3))))) = some r := by rw [if_neg (show ¬ (false = true) by decide)] at H; exact H
              clear H
              have H := H1
              clear H1
              have HC32 := Aside0.mk H
              clear H
              have hcz33_0 : wc.cell? ⟨gb170, 0, none⟩ = some (.int .i64 a0_0) := (blk_cell BK170.out 0).trans rfl
              have hcz33_1 : wc.cell? ⟨gb170, 1, none⟩ = some (.int .i64 a0_1) := (blk_cell BK170.out 1).trans rfl
              have hcz33_2 : wc.cell? ⟨gb170, 2, none⟩ = some (.int .i64 a0_2) := (blk_cell BK170.out 2).trans rfl
              have hcz33_3 : wc.cell? ⟨gb170, 3, none⟩ = some (.int .i64 a0_3) := (blk_cell BK170.out 3).trans rfl
              have hfz33_0 := blk_frozen BK170.out 0
              have hfz33_1 := blk_frozen BK170.out 1
              have hfz33_2 := blk_frozen BK170.out 2
              have hfz33_3 := blk_frozen BK170.out 3
              go_upto_region 7 with (fail)
              go_cut [127] (fun v127 wc => ∃ (kq : Nat) (x127_31 : Bool), v127 = .bool x127_31 ∧ Aside0 (dancestudiolaw01_NumLerp.j2 kq t171 x127_31 a0_0 a0_1 a0_2 a0_3 = some r) ∧ Aside0 (kq ≤ kj23) ∧ Aside0 (wc.heap[gb170]? = some (.cells #[.int .i64 a0_0, .int .i64 a0_1, .int .i64 a0_2, .int .i64 a0_3] 23 (0, 0))) ∧ Aside0 (Below w.heap.size w wc))
              case first => as_aux_lemma =>
                have H := HC32.out
                clear HC32
                by_cases c34 : (wrap64 (2 * (wrap64 ((wrap64 ((wrap64 (t171 * a0_3)) - (wrap64 (a0_0 * (wrap64 (a0_3 - a0_2)))))) - (wrap64 (a0_1 * a0_2)))))) > a0_3
                · rw [if_pos c34] at H
                  have c34b0 : decide (a0_3 < (wrap64 (2 * (wrap64 ((wrap64 ((wrap64 (t171 * a0_3)) - (wrap64 (a0_0 * (wrap64 (a0_3 - a0_2)))))) - (wrap64 (a0_1 * a0_2))))))) = true := decide_eq_true c34
                  clear c34
                  (first | rw [c34b0] | (simp only [i64_w, i32_w]; rw [c34b0]) | skip)
                  have H' := Aside0.mk H
                  clear H
                  have hcz35_0 : wc.cell? ⟨gb170, 0, none⟩ = some (.int .i64 a0_0) := (blk_cell BK170.out 0).trans rfl
                  have hcz35_1 : wc.cell? ⟨gb170, 1, none⟩ = some (.int .i64 a0_1) := (blk_cell BK170.out 1).trans rfl
                  have hcz35_2 : wc.cell? ⟨gb170, 2, none⟩ = some (.int .i64 a0_2) := (blk_cell BK170.out 2).trans rfl
                  have hcz35_3 : wc.cell? ⟨gb170, 3, none⟩ = some (.int .i64 a0_3) := (blk_cell BK170.out 3).trans rfl
                  have hfz35_0 := blk_frozen BK170.out 0
                  have hfz35_1 := blk_frozen BK170.out 1
                  have hfz35_2 := blk_frozen BK170.out 2
                  have hfz35_3 := blk_frozen BK170.out 3
                  go_wp2
                  go_meet
                  case rel => exact ⟨_, (true), (by first | rfl | (simp; done) | (simp [*]; done)), H', ⟨by have := HJ2.out; have := HJ23.out; first | omega | exact Nat.le_refl _⟩, ⟨by (with_reducible repeat (first | refine blk_drewN ?_ _ | refine blk_drew ?_ | refine blk_alloc ?_ _)); exact BK170.out⟩, ⟨by repeat (first | (with_reducible first | exact HB.out | apply below_alloc | apply pw_below_drewN | apply below_drew1 | refine below_set ?_ GE170.out) | exact HB.out)⟩⟩
                · rw [if_neg c34] at H
                  have c34b0 : decide (a0_3 < (wrap64 (2 * (wrap64 ((wrap64 ((wrap64 (t171 * a0_3)) - (wrap64 (a0_0 * (wrap64 (a0_3 - a0_2)))))) - (wrap64 (a0_1 * a0_2))))))) = false := decide_eq_false c34
                  clear c34
                  (first | rw [c34b0] | (simp only [i64_w, i32_w]; rw [c34b0]) | skip)
                  by_cases c36 : (wrap64 (2 * (wrap64 ((wrap64 ((wrap64 (t171 * a0_3)) - (wrap64 (a0_0 * (wrap64 (a0_3 - a0_2)))))) - (wrap64 (a0_1 * a0_2)))))) < (wrap64 (-a0_3))
                  · rw [if_pos c36] at H
                    have c36b0 : decide ((wrap64 (2 * (wrap64 ((wrap64 ((wrap64 (t171 * a0_3)) - (wrap64 (a0_0 * (wrap64 (a0_3 - a0_2)))))) - (wrap64 (a0_1 * a0_2)))))) < (wrap64 (-a0_3))) = true := decide_eq_true c36
                    clear c36
                    have H' := Aside0.mk H
                    clear H
                    have hcz37_0 : wc.cell? ⟨gb170, 0, none⟩ = some (.int .i64 a0_0) := (blk_cell BK170.out 0).trans rfl
                    have hcz37_1 : wc.cell? ⟨gb170, 1, none⟩ = some (.int .i64 a0_1) := (blk_cell BK170.out 1).trans rfl
                    have hcz37_2 : wc.cell? ⟨gb170, 2, none⟩ = some (.int .i64 a0_2) := (blk_cell BK170.out 2).trans rfl
                    have hcz37_3 : wc.cell? ⟨gb170, 3, none⟩ = some (.int .i64 a0_3) := (blk_cell BK170.out 3).trans rfl
                    have hfz37_0 := blk_frozen BK170.out 0
                    have hfz37_1 := blk_frozen BK170.out 1
                    have hfz37_2 := blk_frozen BK170.out 2
                    have hfz37_3 := blk_frozen BK170.out 3
                    go_wp2
                    go_meet
                    case rel => exact ⟨_, (true), (by first | rfl | (simp; done) | (simp [*]; done)), H', ⟨by have := HJ2.out; have := HJ23.out; first | omega | exact Nat.le_refl _⟩, ⟨by (with_reducible repeat (first | refine blk_drewN ?_ _ | refine blk_drew ?_ | refine blk_alloc ?_ _)); exact BK170.out⟩, ⟨by repeat (first | (with_reducible first | exact HB.out | apply below_alloc | apply pw_below_drewN | apply below_drew1 | refine below_set ?_ GE170.out) | exact HB.out)⟩⟩
                  · rw [if_neg c36] at H
                    have c36b0 : decide ((wrap64 (2 * (wrap64 ((wrap64 ((wrap64 (t171 * a0_3)) - (wrap64 (a0_0 * (wrap64 (a0_3 - a0_2)))))) - (wrap64 (a0_1 * a0_2)))))) < (wrap64 (-a0_3))) = false := decide_eq_false c36
                    clear c36
                    by_cases c38 : (wrap64 (2 * (wrap64 ((wrap64 ((wrap64 (t171 * a0_3)) - (wrap64 (a0_0 * (wrap64 (a0_3 - a0_2)))))) - (wrap64 (a0_1 * a0_2)))))) = a0_3
                    · rw [if_pos c38] at H
                      have c38b0 : ((wrap64 (2 * (wrap64 ((wrap64 ((wrap64 (t171 * a0_3)) - (wrap64 (a0_0 * (wrap64 (a0_3 - a0_2)))))) - (wrap64 (a0_1 * a0_2)))))) == a0_3) = true := beq_iff_eq.mpr c38
                      have c38b1 : ((wrap64 (2 * (wrap64 ((wrap64 ((wrap64 (t171 * a0_3)) - (wrap64 (a0_0 * (wrap64 (a0_3 - a0_2)))))) - (wrap64 (a0_1 * a0_2)))))) != a0_3) = false := bne_eq_false_iff_eq.mpr c38
                      clear c38
                      have H' := Aside0.mk H
                      clear H
                      have hcz39_0 : wc.cell? ⟨gb170, 0, none⟩ = some (.int .i64 a0_0) := (blk_cell BK170.out 0).trans rfl
                      have hcz39_1 : wc.cell? ⟨gb170, 1, none⟩ = some (.int .i64 a0_1) := (blk_cell BK170.out 1).trans rfl
                      have hcz39_2 : wc.cell? ⟨gb170, 2, none⟩ = some (.int .i64 a0_2) := (blk_cell BK170.out 2).trans rfl
                      have hcz39_3 : wc.cell? ⟨gb170, 3, none⟩ = some (.int .i64 a0_3) := (blk_cell BK170.out 3).trans rfl
                      have hfz39_0 := blk_frozen BK170.out 0
                      have hfz39_1 := blk_frozen BK170.out 1
                      have hfz39_2 := blk_frozen BK170.out 2
                      have hfz39_3 := blk_frozen BK170.out 3
                      go_wp2
                      go_meet
                      case rel => exact ⟨_, (((Int.tmod t171 2) != 0)), (by first | rfl | (simp; done) | (simp [*]; done)), H', ⟨by have := HJ2.out; have := HJ23.out; first | omega | exact Nat.le_refl _⟩, ⟨by (with_reducible repeat (first | refine blk_drewN ?_ _ | refine blk_drew ?_ | refine blk_alloc ?_ _)); exact BK170.out⟩, ⟨by repeat (first | (with_reducible first | exact HB.out | apply below_alloc | apply pw_below_drewN | apply below_drew1 | refine below_set ?_ GE170.out) | exact HB.out)⟩⟩
                    · rw [if_neg c38] at H
                      have c38b0 : ((wrap64 (2 * (wrap64 ((wrap64 ((wrap64 (t171 * a0_3)) - (wrap64 (a0_0 * (wrap64 (a0_3 - a0_2)))))) - (wrap64 (a0_1 * a0_2)))))) == a0_3) = false := beq_eq_false_iff_ne.mpr c38
                      have c38b1 : ((wrap64 (2 * (wrap64 ((wrap64 ((wrap64 (t171 * a0_3)) - (wrap64 (a0_0 * (wrap64 (a0_3 - a0_2)))))) - (wrap64 (a0_1 * a0_2)))))) != a0_3) = true := bne_iff_ne.mpr c38
                      by_cases c40 : (wrap64 (2 * (wrap64 ((wrap64 ((wrap64 (t171 * a0_3)) - (wrap64 (a0_0 * (wrap64 (a0_3 - a0_2)))))) - (wrap64 (a0_1 * a0_2)))))) = (wrap64 (-a0_3))
                      · rw [if_pos c40] at H
                        have c40b0 : ((wrap64 (2 * (wrap64 ((wrap64 ((wrap64 (t171 * a0_3)) - (wrap64 (a0_0 * (wrap64 (a0_3 - a0_2)))))) - (wrap64 (a0_1 * a0_2)))))) == (wrap64 (-a0_3))) = true := beq_iff_eq.mpr c40
                        have c40b1 : ((wrap64 (2 * (wrap64 ((wrap64 ((wrap64 (t171 * a0_3)) - (wrap64 (a0_0 * (wrap64 (a0_3 - a0_2)))))) - (wrap64 (a0_1 * a0_2)))))) != (wrap64 (-a0_3))) = false := bne_eq_false_iff_eq.mpr c40
                        clear c40
                        have H' := Aside0.mk H
                        clear H
                        have hcz41_0 : wc.cell? ⟨gb170, 0, none⟩ = some (.int .i64 a0_0) := (blk_cell BK170.out 0).trans rfl
                        have hcz41_1 : wc.cell? ⟨gb170, 1, none⟩ = some (.int .i64 a0_1) := (blk_cell BK170.out 1).trans rfl
                        have hcz41_2 : wc.cell? ⟨gb170, 2, none⟩ = some (.int .i64 a0_2) := (blk_cell BK170.out 2).trans rfl
                        have hcz41_3 : wc.cell? ⟨gb170, 3, none⟩ = some (.int .i64 a0_3) := (blk_cell BK170.out 3).trans rfl
                        have hfz41_0 := blk_frozen BK170.out 0
                        have hfz41_1 := blk_frozen BK170.out 1
                        have hfz41_2 := blk_frozen BK170.out 2
                        have hfz41_3 := blk_frozen BK170.out 3
                        go_wp2
                        go_meet
                        case rel => exact ⟨_, (((Int.tmod t171 2) != 0)), (by first | rfl | (simp; done) | (simp [*]; done)), H', ⟨by have := HJ2.out; have := HJ23.out; first | omega | exact Nat.le_refl _⟩, ⟨by (with_reducible repeat (first | refine blk_drewN ?_ _ | refine blk_drew ?_ | refine blk_alloc ?_ _)); exact BK170.out⟩, ⟨by repeat (first | (with_reducible first | exact HB.out | apply below_alloc | apply pw_below_drewN | apply below_drew1 | refine below_set ?_ GE170.out) | exact HB.out)⟩⟩
                      · rw [if_neg c40] at H
                        have c40b0 : ((wrap64 (2 * (wrap64 ((wrap64 ((wrap64 (t171 * a0_3)) - (wrap64 (a0_0 * (wrap64 (a0_3 - a0_2)))))) - (wrap64 (a0_1 * a0_2)))))) == (wrap64 (-a0_3))) = false := beq_eq_false_iff_ne.mpr c40
                        have c40b1 : ((wrap64 (2 * (wrap64 ((wrap64 ((wrap64 (t171 * a0_3)) - (wrap64 (a0_0 * (wrap64 (a0_3 - a0_2)))))) - (wrap64 (a0_1 * a0_2)))))) != (wrap64 (-a0_3))) = true := bne_iff_ne.mpr c40
                        have H' := Aside0.mk H
                        clear H
                        have hcz42_0 : wc.cell? ⟨gb170, 0, none⟩ = some (.int .i64 a0_0) := (blk_cell BK170.out 0).trans rfl
                        have hcz42_1 : wc.cell? ⟨gb170, 1, none⟩ = some (.int .i64 a0_1) := (blk_cell BK170.out 1).trans rfl
                        have hcz42_2 : wc.cell? ⟨gb170, 2, none⟩ = some (.int .i64 a0_2) := (blk_cell BK170.out 2).trans rfl
                        have hcz42_3 : wc.cell? ⟨gb170, 3, none⟩ = some (.int .i64 a0_3) := (blk_cell BK170.out 3).trans rfl
                        have hfz42_0 := blk_frozen BK170.out 0
                        have hfz42_1 := blk_frozen BK170.out 1
                        have hfz42_2 := blk_frozen BK170.out 2
                        have hfz42_3 := blk_frozen BK170.out 3
                        go_wp2
                        go_meet
                        case rel => exact ⟨_, (false), (by first | rfl | (simp; done) | (simp [*]; done)), H', ⟨by have := HJ2.out; have := HJ23.out; first | omega | exact Nat.le_refl _⟩, ⟨by (with_reducible repeat (first | refine blk_drewN ?_ _ | refine blk_drew ?_ | refine blk_alloc ?_ _)); exact BK170.out⟩, ⟨by repeat (first | (with_reducible first | exact HB.out | apply below_alloc | apply pw_below_drewN | apply below_drew1 | refine below_set ?_ GE170.out) | exact HB.out)⟩⟩
              case rest => as_aux_lemma =>
                clear HC32
                try clear c1
                try clear c2
                try clear p2
                try clear c3
                try clear c4
                try clear p6
                try clear c7
                try clear c9
                try clear c10
                try clear c10b0
                try clear c12
                try clear c12b0
                try clear c14
                try clear c14b0
                try clear c15
                try clear c19
                try clear c20
                try clear c20b0
                try clear c20b1
                try clear c21
                try clear c21b0
                try clear c21b1
                try clear c25
                try clear c25b0
                try clear c25b1
                try clear c27
                try clear c27b0
                try clear c31
                try clear c34
                try clear c34b0
                try clear c36
                try clear c36b0
                try clear c38
                try clear c38b0
                try clear c38b1
                try clear c40
                try clear c40b0
                try clear c40b1
                try clear hcz11_0
                try clear hcz11_1
                try clear hcz11_2
                try clear hcz11_3
                try clear hcz13_0
                try clear hcz13_1
                try clear hcz13_2
                try clear hcz13_3
                try clear hcz15_0
                try clear hcz15_1
                try clear hcz15_2
                try clear hcz15_3
                try clear hcz16_0
                try clear hcz16_1
                try clear hcz16_2
                try clear hcz16_3
                try clear hcz17_0
                try clear hcz17_1
                try clear hcz17_2
                try clear hcz17_3
                try clear hcz18_0
                try clear hcz18_1
                try clear hcz18_2
                try clear hcz18_3
                try clear hcz28_0
                try clear hcz28_1
                try clear hcz28_2
                try clear hcz28_3
                try clear hcz30_0
                try clear hcz30_1
                try clear hcz30_2
                try clear hcz30_3
                try clear hcz33_0
                try clear hcz33_1
                try clear hcz33_2
                try clear hcz33_3
                try clear hcz35_0
                try clear hcz35_1
                try clear hcz35_2
                try clear hcz35_3
                try clear hcz37_0
                try clear hcz37_1
                try clear hcz37_2
                try clear hcz37_3
                try clear hcz39_0
                try clear hcz39_1
                try clear hcz39_2
                try clear hcz39_3
                try clear hcz41_0
                try clear hcz41_1
                try clear hcz41_2
                try clear hcz41_3
                try clear hcz42_0
                try clear hcz42_1
                try clear hcz42_2
                try clear hcz42_3
                try clear hcz5_0
                try clear hcz5_1
                try clear hcz5_2
                try clear hcz5_3
                try clear hfz11_0
                try clear hfz11_1
                try clear hfz11_2
                try clear hfz11_3
                try clear hfz13_0
                try clear hfz13_1
                try clear hfz13_2
                try clear hfz13_3
                try clear hfz15_0
                try clear hfz15_1
                try clear hfz15_2
                try clear hfz15_3
                try clear hfz16_0
                try clear hfz16_1
                try clear hfz16_2
                try clear hfz16_3
                try clear hfz17_0
                try clear hfz17_1
                try clear hfz17_2
                try clear hfz17_3
                try clear hfz18_0
                try clear hfz18_1
                try clear hfz18_2
                try clear hfz18_3
                try clear hfz28_0
                try clear hfz28_1
                try clear hfz28_2
                try clear hfz28_3
                try clear hfz30_0
                try clear hfz30_1
                try clear hfz30_2
                try clear hfz30_3
                try clear hfz33_0
                try clear hfz33_1
                try clear hfz33_2
                try clear hfz33_3
                try clear hfz35_0
                try clear hfz35_1
                try clear hfz35_2
                try clear hfz35_3
                try clear hfz37_0
                try clear hfz37_1
                try clear hfz37_2
                try clear hfz37_3
                try clear hfz39_0
                try clear hfz39_1
                try clear hfz39_2
                try clear hfz39_3
                try clear hfz41_0
                try clear hfz41_1
                try clear hfz41_2
                try clear hfz41_3
                try clear hfz42_0
                try clear hfz42_1
                try clear hfz42_2
                try clear hfz42_3
                try clear hfz5_0
                try clear hfz5_1
                try clear hfz5_2
                try clear hfz5_3
                try clear p2
                obtain ⟨kq, x127_31, rfl, HA, HJ31, BK170, HB⟩ := hcut
                cases kq with
                | zero => exact absurd HA.out (by simp [dancestudiolaw01_NumLerp.j2])
                | succ kj31 =>
                  have H := HA.out
                  clear HA
                  simp only [dancestudiolaw01_NumLerp.j2] at H
                  by_cases c43 : x127_31 = true
                  · subst c43
                    have H1 : (some false) = some r := by rw [if_pos rfl] at H; exact H
                    clear H
                    have H := H1
                    clear H1
                    obtain rfl := Option.some.inj H
                    go_wp2
                    go_ret
                    exact ⟨by first | rfl | (simp [errW_none, errW_some] <;> rfl) | (simp [*, errW_none, errW_some] <;> rfl), by repeat (first | (with_reducible first | exact HB.out | apply below_alloc | apply pw_below_drewN | apply below_drew1 | refine below_set ?_ GE170.out) | exact HB.out)⟩
                  · replace c43 := Bool.eq_false_iff.mpr c43
                    subst c43
                    have H1 : (if a0_2 = 0 then (if t171 = a0_0 then (if a0_2 = a0_3 then (dancestudiolaw01_NumLerp.j3 kj31 t171 (t171 != a0_1) a0_0 a0_1 a0_2 a0_3) else (dancestudiolaw01_NumLerp.j3 kj31 t171 false a0_0 a0_1 a0_2 a0_3)) else (dancestudiolaw01_NumLerp.j3 kj31 t171 true a0_0 a0_1 a0_2 a0_3)) else (if a0_2 = a0_3 then (dancestudiolaw01_NumLerp.j3 kj31 t171 (t171 != a0_1) a0_0 a0_1 a0_2 a0_3) else (dancestudiolaw01_NumLerp.j3 kj31 t171 false a0_0 a0_1 a0_2 a0_3))) = some r := by rw [if_neg (show ¬ (false = true) by decide)] at H; exact H
                    clear H
                    have H := H1
                    clear H1
                    have HC44 := Aside0.mk H
                    clear H
                    go_upto_region 9 with (fail)
                    go_cut [149] (fun v149 wc => ∃ (kq : Nat) (x149_43 : Bool), v149 = .bool x149_43 ∧ Aside0 (dancestudiolaw01_NumLerp.j3 kq t171 x149_43 a0_0 a0_1 a0_2 a0_3 = some r) ∧ Aside0 (kq ≤ kj31) ∧ Aside0 (wc.heap[gb170]? = some (.cells #[.int .i64 a0_0, .int .i64 a0_1, .int .i64 a0_2, .int .i64 a0_3] 23 (0, 0))) ∧ Aside0 (Below w.heap.size w wc))
                    case first => as_aux_lemma =>
                      have H := HC44.out
                      clear HC44
                      by_cases c45 : a0_2 = 0
                      · rw [if_pos c45] at H
                        have c45b0 : (a0_2 == 0) = true := beq_iff_eq.mpr c45
                        have c45b1 : (a0_2 != 0) = false := bne_eq_false_iff_eq.mpr c45
                        clear c45
                        (first | rw [c45b0] | (simp only [i64_w, i32_w]; rw [c45b0]) | skip)
                        by_cases c46 : t171 = a0_0
                        · rw [if_pos c46] at H
                          have c46b0 : (t171 == a0_0) = true := beq_iff_eq.mpr c46
                          have c46b1 : (t171 != a0_0) = false := bne_eq_false_iff_eq.mpr c46
                          clear c46
                          by_cases c47 : a0_2 = a0_3
                          · rw [if_pos c47] at H
                            have c47b0 : (a0_2 == a0_3) = true := beq_iff_eq.mpr c47
                            have c47b1 : (a0_2 != a0_3) = false := bne_eq_false_iff_eq.mpr c47
                            clear c47
                            have H' := Aside0.mk H
                            clear H
                            have hcz48_0 : wc.cell? ⟨gb170, 0, none⟩ = some (.int .i64 a0_0) := (blk_cell BK170.out 0).trans rfl
                            have hcz48_1 : wc.cell? ⟨gb170, 1, none⟩ = some (.int .i64 a0_1) := (blk_cell BK170.out 1).trans rfl
                            have hcz48_2 : wc.cell? ⟨gb170, 2, none⟩ = some (.int .i64 a0_2) := (blk_cell BK170.out 2).trans rfl
                            have hcz48_3 : wc.cell? ⟨gb170, 3, none⟩ = some (.int .i64 a0_3) := (blk_cell BK170.out 3).trans rfl
                            have hfz48_0 := blk_frozen BK170.out 0
                            have hfz48_1 := blk_frozen BK170.out 1
                            have hfz48_2 := blk_frozen BK170.out 2
                            have hfz48_3 := blk_frozen BK170.out 3
                            go_wp2
                            go_meet
                            case rel => exact ⟨_, ((t171 != a0_1)), (by first | rfl | (simp; done) | (simp [*]; done)), H', ⟨by have := HJ2.out; have := HJ23.out; have := HJ31.out; first | omega | exact Nat.le_refl _⟩, ⟨by (with_reducible repeat (first | refine blk_drewN ?_ _ | refine blk_drew ?_ | refine blk_alloc ?_ _)); exact BK170.out⟩, ⟨by repeat (first | (with_reducible first | exact HB.out | apply below_alloc | apply pw_below_drewN | apply below_drew1 | refine below_set ?_ GE170.out) | exact HB.out)⟩⟩
                          · rw [if_neg c47] at H
                            have c47b0 : (a0_2 == a0_3) = false := beq_eq_false_iff_ne.mpr c47
                            have c47b1 : (a0_2 != a0_3) = true := bne_iff_ne.mpr c47
                            have H' := Aside0.mk H
                            clear H
                            have hcz49_0 : wc.cell? ⟨gb170, 0, none⟩ = some (.int .i64 a0_0) := (blk_cell BK170.out 0).trans rfl
                            have hcz49_1 : wc.cell? ⟨gb170, 1, none⟩ = some (.int .i64 a0_1) := (blk_cell BK170.out 1).trans rfl
                            have hcz49_2 : wc.cell? ⟨gb170, 2, none⟩ = some (.int .i64 a0_2) := (blk_cell BK170.out 2).trans rfl
                            have hcz49_3 : wc.cell? ⟨gb170, 3, none⟩ = some (.int .i64 a0_3) := (blk_cell BK170.out 3).trans rfl
                            have hfz49_0 := blk_frozen BK170.out 0
                            have hfz49_1 := blk_frozen BK170.out 1
                            have hfz49_2 := blk_frozen BK170.out 2
                            have hfz49_3 := blk_frozen BK170.out 3
                            go_wp2
                            go_meet
                            case rel => exact ⟨_, (false), (by first | rfl | (simp; done) | (simp [*]; done)), H', ⟨by have := HJ2.out; have := HJ23.out; have := HJ31.out; first | omega | exact Nat.le_refl _⟩, ⟨by (with_reducible repeat (first | refine blk_drewN ?_ _ | refine blk_drew ?_ | refine blk_alloc ?_ _)); exact BK170.out⟩, ⟨by repeat (first | (with_reducible first | exact HB.out | apply below_alloc | apply pw_below_drewN | apply below_drew1 | refine below_set ?_ GE170.out) | exact HB.out)⟩⟩
                        · rw [if_neg c46] at H
                          have c46b0 : (t171 == a0_0) = false := beq_eq_false_iff_ne.mpr c46
                          have c46b1 : (t171 != a0_0) = true := bne_iff_ne.mpr c46
                          have H' := Aside0.mk H
                          clear H
                          have hcz50_0 : wc.cell? ⟨gb170, 0, none⟩ = some (.int .i64 a0_0) := (blk_cell BK170.out 0).trans rfl
                          have hcz50_1 : wc.cell? ⟨gb170, 1, none⟩ = some (.int .i64 a0_1) := (blk_cell BK170.out 1).trans rfl
                          have hcz50_2 : wc.cell? ⟨gb170, 2, none⟩ = some (.int .i64 a0_2) := (blk_cell BK170.out 2).trans rfl
                          have hcz50_3 : wc.cell? ⟨gb170, 3, none⟩ = some (.int .i64 a0_3) := (blk_cell BK170.out 3).trans rfl
                          have hfz50_0 := blk_frozen BK170.out 0
                          have hfz50_1 := blk_frozen BK170.out 1
                          have hfz50_2 := blk_frozen BK170.out 2
                          have hfz50_3 := blk_frozen BK170.out 3
                          go_wp2
                          go_meet
                          case rel => exact ⟨_, (true), (by first | rfl | (simp; done) | (simp [*]; done)), H', ⟨by have := HJ2.out; have := HJ23.out; have := HJ31.out; first | omega | exact Nat.le_refl _⟩, ⟨by (with_reducible repeat (first | refine blk_drewN ?_ _ | refine blk_drew ?_ | refine blk_alloc ?_ _)); exact BK170.out⟩, ⟨by repeat (first | (with_reducible first | exact HB.out | apply below_alloc | apply pw_below_drewN | apply below_drew1 | refine below_set ?_ GE170.out) | exact HB.out)⟩⟩
                      · rw [if_neg c45] at H
                        have c45b0 : (a0_2 == 0) = false := beq_eq_false_iff_ne.mpr c45
                        have c45b1 : (a0_2 != 0) = true := bne_iff_ne.mpr c45
                        (first | rw [c45b0] | (simp only [i64_w, i32_w]; rw [c45b0]) | skip)
                        by_cases c51 : a0_2 = a0_3
                        · rw [if_pos c51] at H
                          have c51b0 : (a0_2 == a0_3) = true := beq_iff_eq.mpr c51
                          have c51b1 : (a0_2 != a0_3) = false := bne_eq_false_iff_eq.mpr c51
                          clear c51
                          have H' := Aside0.mk H
                          clear H
                          have hcz52_0 : wc.cell? ⟨gb170, 0, none⟩ = some (.int .i64 a0_0) := (blk_cell BK170.out 0).trans rfl
                          have hcz52_1 : wc.cell? ⟨gb170, 1, none⟩ = some (.int .i64 a0_1) := (blk_cell BK170.out 1).trans rfl
                          have hcz52_2 : wc.cell? ⟨gb170, 2, none⟩ = some (.int .i64 a0_2) := (blk_cell BK170.out 2).trans rfl
                          have hcz52_3 : wc.cell? ⟨gb170, 3, none⟩ = some (.int .i64 a0_3) := (blk_cell BK170.out 3).trans rfl
                          have hfz52_0 := blk_frozen BK170.out 0
                          have hfz52_1 := blk_frozen BK170.out 1
                          have hfz52_2 := blk_frozen BK170.out 2
                          have hfz52_3 := blk_frozen BK170.out 3
                          go_wp2
                          go_meet
                          case rel => exact ⟨_, ((t171 != a0_1)), (by first | rfl | (simp; done) | (simp [*]; done)), H', ⟨by have := HJ2.out; have := HJ23.out; have := HJ31.out; first | omega | exact Nat.le_refl _⟩, ⟨by (with_reducible repeat (first | refine blk_drewN ?_ _ | refine blk_drew ?_ | refine blk_alloc ?_ _)); exact BK170.out⟩, ⟨by repeat (first | (with_reducible first | exact HB.out | apply below_alloc | apply pw_below_drewN | apply below_drew1 | refine below_set ?_ GE170.out) | exact HB.out)⟩⟩
                        · rw [if_neg c51] at H
                          have c51b0 : (a0_2 == a0_3) = false := beq_eq_false_iff_ne.mpr c51
                          have c51b1 : (a0_2 != a0_3) = true := bne_iff_ne.mpr c51
                          have H' := Aside0.mk H
                          clear H
                          have hcz53_0 : wc.cell? ⟨gb170, 0, none⟩ = some (.int .i64 a0_0) := (blk_cell BK170.out 0).trans rfl
                          have hcz53_1 : wc.cell? ⟨gb170, 1, none⟩ = some (.int .i64 a0_1) := (blk_cell BK170.out 1).trans rfl
                          have hcz53_2 : wc.cell? ⟨gb170, 2, none⟩ = some (.int .i64 a0_2) := (blk_cell BK170.out 2).trans rfl
                          have hcz53_3 : wc.cell? ⟨gb170, 3, none⟩ = some (.int .i64 a0_3) := (blk_cell BK170.out 3).trans rfl
                          have hfz53_0 := blk_frozen BK170.out 0
                          have hfz53_1 := blk_frozen BK170.out 1
                          have hfz53_2 := blk_frozen BK170.out 2
                          have hfz53_3 := blk_frozen BK170.out 3
                          go_wp2
                          go_meet
                          case rel => exact ⟨_, (false), (by first | rfl | (simp; done) | (simp [*]; done)), H', ⟨by have := HJ2.out; have := HJ23.out; have := HJ31.out; first | omega | exact Nat.le_refl _⟩, ⟨by (with_reducible repeat (first | refine blk_drewN ?_ _ | refine blk_drew ?_ | refine blk_alloc ?_ _)); exact BK170.out⟩, ⟨by repeat (first | (with_reducible first | exact HB.out | apply below_alloc | apply pw_below_drewN | apply below_drew1 | refine below_set ?_ GE170.out) | exact HB.out)⟩⟩
                    case rest => as_aux_lemma =>
                      clear HC44
                      try clear c1
                      try clear c2
                      try clear p2
                      try clear c3
                      try clear c4
                      try clear c5
                      try clear p6
                      try clear c7
                      try clear c9
                      try clear c10
                      try clear c10b0
                      try clear c12
                      try clear c12b0
                      try clear c14
                      try clear c14b0
                      try clear c15
                      try clear c19
                      try clear c20
                      try clear c20b0
                      try clear c20b1
                      try clear c21
                      try clear c21b0
                      try clear c21b1
                      try clear c25
                      try clear c25b0
                      try clear c25b1
                      try clear c27
                      try clear c27b0
                      try clear c31
                      try clear c34
                      try clear c34b0
                      try clear c36
                      try clear c36b0
                      try clear c38
                      try clear c38b0
                      try clear c38b1
                      try clear c40
                      try clear c40b0
                      try clear c40b1
                      try clear c43
                      try clear c45
                      try clear c45b0
                      try clear c45b1
                      try clear c46
                      try clear c46b0
                      try clear c46b1
                      try clear c47
                      try clear c47b0
                      try clear c47b1
                      try clear c51
                      try clear c51b0
                      try clear c51b1
                      try clear hcz11_0
                      try clear hcz11_1
                      try clear hcz11_2
                      try clear hcz11_3
                      try clear hcz13_0
                      try clear hcz13_1
                      try clear hcz13_2
                      try clear hcz13_3
                      try clear hcz15_0
                      try clear hcz15_1
                      try clear hcz15_2
                      try clear hcz15_3
                      try clear hcz16_0
                      try clear hcz16_1
                      try clear hcz16_2
                      try clear hcz16_3
                      try clear hcz17_0
                      try clear hcz17_1
                      try clear hcz17_2
                      try clear hcz17_3
                      try clear hcz18_0
                      try clear hcz18_1
                      try clear hcz18_2
                      try clear hcz18_3
                      try clear hcz28_0
                      try clear hcz28_1
                      try clear hcz28_2
                      try clear hcz28_3
                      try clear hcz30_0
                      try clear hcz30_1
                      try clear hcz30_2
                      try clear hcz30_3
                      try clear hcz33_0
                      try clear hcz33_1
                      try clear hcz33_2
                      try clear hcz33_3
                      try clear hcz35_0
                      try clear hcz35_1
                      try clear hcz35_2
                      try clear hcz35_3
                      try clear hcz37_0
                      try clear hcz37_1
                      try clear hcz37_2
                      try clear hcz37_3
                      try clear hcz39_0
                      try clear hcz39_1
                      try clear hcz39_2
                      try clear hcz39_3
                      try clear hcz41_0
                      try clear hcz41_1
                      try clear hcz41_2
                      try clear hcz41_3
                      try clear hcz42_0
                      try clear hcz42_1
                      try clear hcz42_2
                      try clear hcz42_3
                      try clear hcz48_0
                      try clear hcz48_1
                      try clear hcz48_2
                      try clear hcz48_3
                      try clear hcz49_0
                      try clear hcz49_1
                      try clear hcz49_2
                      try clear hcz49_3
                      try clear hcz50_0
                      try clear hcz50_1
                      try clear hcz50_2
                      try clear hcz50_3
                      try clear hcz52_0
                      try clear hcz52_1
                      try clear hcz52_2
                      try clear hcz52_3
                      try clear hcz53_0
                      try clear hcz53_1
                      try clear hcz53_2
                      try clear hcz53_3
                      try clear hcz5_0
                      try clear hcz5_1
                      try clear hcz5_2
                      try clear hcz5_3
                      try clear hfz11_0
                      try clear hfz11_1
                      try clear hfz11_2
                      try clear hfz11_3
                      try clear hfz13_0
                      try clear hfz13_1
                      try clear hfz13_2
                      try clear hfz13_3
                      try clear hfz15_0
                      try clear hfz15_1
                      try clear hfz15_2
                      try clear hfz15_3
                      try clear hfz16_0
                      try clear hfz16_1
                      try clear hfz16_2
                      try clear hfz16_3
                      try clear hfz17_0
                      try clear hfz17_1
                      try clear hfz17_2
                      try clear hfz17_3
                      try clear hfz18_0
                      try clear hfz18_1
                      try clear hfz18_2
                      try clear hfz18_3
                      try clear hfz28_0
                      try clear hfz28_1
                      try clear hfz28_2
                      try clear hfz28_3
                      try clear hfz30_0
                      try clear hfz30_1
                      try clear hfz30_2
                      try clear hfz30_3
                      try clear hfz33_0
                      try clear hfz33_1
                      try clear hfz33_2
                      try clear hfz33_3
                      try clear hfz35_0
                      try clear hfz35_1
                      try clear hfz35_2
                      try clear hfz35_3
                      try clear hfz37_0
                      try clear hfz37_1
                      try clear hfz37_2
                      try clear hfz37_3
                      try clear hfz39_0
                      try clear hfz39_1
                      try clear hfz39_2
                      try clear hfz39_3
                      try clear hfz41_0
                      try clear hfz41_1
                      try clear hfz41_2
                      try clear hfz41_3
                      try clear hfz42_0
                      try clear hfz42_1
                      try clear hfz42_2
                      try clear hfz42_3
                      try clear hfz48_0
                      try clear hfz48_1
                      try clear hfz48_2
                      try clear hfz48_3
                      try clear hfz49_0
                      try clear hfz49_1
                      try clear hfz49_2
                      try clear hfz49_3
                      try clear hfz50_0
                      try clear hfz50_1
                      try clear hfz50_2
                      try clear hfz50_3
                      try clear hfz52_0
                      try clear hfz52_1
                      try clear hfz52_2
                      try clear hfz52_3
                      try clear hfz53_0
                      try clear hfz53_1
                      try clear hfz53_2
                      try clear hfz53_3
                      try clear hfz5_0
                      try clear hfz5_1
                      try clear hfz5_2
                      try clear hfz5_3
                      try clear p2
                      try clear p6
                      obtain ⟨kq, x149_43, rfl, HA, HJ43, BK170, HB⟩ := hcut
                      cases kq with
                      | zero => exact absurd HA.out (by simp [dancestudiolaw01_NumLerp.j3])
                      | succ kj43 =>
                        have H := HA.out
                        clear HA
                        simp only [dancestudiolaw01_NumLerp.j3] at H
                        by_cases c54 : x149_43 = true
                        · subst c54
                          have H1 : (some false) = some r := by rw [if_pos rfl] at H; exact H
                          clear H
                          have H := H1
                          clear H1
                          obtain rfl := Option.some.inj H
                          go_wp2
                          go_ret
                          exact ⟨by first | rfl | (simp [errW_none, errW_some] <;> rfl) | (simp [*, errW_none, errW_some] <;> rfl), by repeat (first | (with_reducible first | exact HB.out | apply below_alloc | apply pw_below_drewN | apply below_drew1 | refine below_set ?_ GE170.out) | exact HB.out)⟩
                        · replace c54 := Bool.eq_false_iff.mpr c54
                          subst c54
                          have H1 : ((dancestudiolaw01_lerps.f t171 a0_1 a0_0 (wrap64 (a0_3 - a0_2)) a0_3).bind fun t176 => (if t176 = true then ((dancestudiolaw01_lerps.f (wrap64 (-t171)) (wrap64 (-a0_0)) (wrap64 (-a0_1)) a0_2 a0_3).bind fun t177 => (if t177 = true then ((dancestudiolaw01_awake.f kj43).bind fun t178 => (some t178)) else (some false))) else (some false))) = some r := by rw [if_neg (show ¬ (false = true) by decide)] at H; exact H
                          clear H
                          have H := H1
                          clear H1
                          replace H := Option.bind_eq_some_iff.mp H
                          obtain ⟨t176, A550, H⟩ := H
                          replace H : (if t176 = true then ((dancestudiolaw01_lerps.f (wrap64 (-t171)) (wrap64 (-a0_0)) (wrap64 (-a0_1)) a0_2 a0_3).bind fun t177 => (if t177 = true then ((dancestudiolaw01_awake.f kj43).bind fun t178 => (some t178)) else (some false))) else (some false)) = some r := H
                          have A55 := Aside0.mk A550
                          clear A550
                          by_cases c56 : t176 = true
                          · subst c56
                            have H1 : ((dancestudiolaw01_lerps.f (wrap64 (-t171)) (wrap64 (-a0_0)) (wrap64 (-a0_1)) a0_2 a0_3).bind fun t177 => (if t177 = true then ((dancestudiolaw01_awake.f kj43).bind fun t178 => (some t178)) else (some false))) = some r := by rw [if_pos rfl] at H; exact H
                            clear H
                            have H := H1
                            clear H1
                            replace H := Option.bind_eq_some_iff.mp H
                            obtain ⟨t177, A570, H⟩ := H
                            replace H : (if t177 = true then ((dancestudiolaw01_awake.f kj43).bind fun t178 => (some t178)) else (some false)) = some r := H
                            have A57 := Aside0.mk A570
                            clear A570
                            by_cases c58 : t177 = true
                            · subst c58
                              have H1 : ((dancestudiolaw01_awake.f kj43).bind fun t178 => (some t178)) = some r := by rw [if_pos rfl] at H; exact H
                              clear H
                              have H := H1
                              clear H1
                              replace H := Option.bind_eq_some_iff.mp H
                              obtain ⟨t178, A590, H⟩ := H
                              replace H : (some t178) = some r := H
                              have A59 := Aside0.mk A590
                              clear A590
                              obtain rfl := Option.some.inj H
                              have hcz60_0 : wc.cell? ⟨gb170, 0, none⟩ = some (.int .i64 a0_0) := (blk_cell BK170.out 0).trans rfl
                              have hcz60_1 : wc.cell? ⟨gb170, 1, none⟩ = some (.int .i64 a0_1) := (blk_cell BK170.out 1).trans rfl
                              have hcz60_2 : wc.cell? ⟨gb170, 2, none⟩ = some (.int .i64 a0_2) := (blk_cell BK170.out 2).trans rfl
                              have hcz60_3 : wc.cell? ⟨gb170, 3, none⟩ = some (.int .i64 a0_3) := (blk_cell BK170.out 3).trans rfl
                              have hfz60_0 := blk_frozen BK170.out 0
                              have hfz60_1 := blk_frozen BK170.out 1
                              have hfz60_2 := blk_frozen BK170.out 2
                              have hfz60_3 := blk_frozen BK170.out 3
                              go_wp2_with (first | ((with_reducible refine gate_callee (f := 16) rfl ?_); refine goesL_ (some 162) rfl rfl Try.func16 (by kernel_rfl) rfl #[.int .i64 t171, .int .i64 a0_1, .int .i64 a0_0, .int .i64 (wrap64 (a0_3 - a0_2)), .int .i64 a0_3] rfl (by (try simp only [List.map_toArray, List.map_cons, List.map_nil]); first | done | rfl | (simp only [List.length_drop, List.length_take]; rfl)) ?_; (with_reducible refine (dancestudiolaw01_lerps.calls t171 a0_1 a0_0 (wrap64 (a0_3 - a0_2)) a0_3 true _ A55.out).mono ?_); rintro e w' ⟨rfl, ⟨nd, rfl⟩⟩; refine ⟨_, rfl, ?_⟩) | (go_at_call 16; (with_reducible refine (dancestudiolaw01_lerps.calls (wrap64 (-t171)) (wrap64 (-a0_0)) (wrap64 (-a0_1)) a0_2 a0_3 true _ A57.out).mono ?_); rintro e w' ⟨rfl, ⟨nd, rfl⟩⟩) | (go_at_call 14; (with_reducible refine (dancestudiolaw01_awake.calls kj43  t178 _ A59.out).mono ?_); rintro e w61 ⟨rfl, hb⟩; have n0_ := Aside0.mk (blk_below (g := gb170) (o := .cells #[.int .i64 a0_0, .int .i64 a0_1, .int .i64 a0_2, .int .i64 a0_3] 23 (0, 0)) (by (with_reducible repeat (first | refine blk_drewN ?_ _ | refine blk_drew ?_ | refine blk_alloc ?_ _)); exact BK170.out) hb); have n1_ := Aside0.mk (below_step (by repeat (first | (with_reducible first | exact HB.out | apply below_alloc | apply pw_below_drewN | apply below_drew1 | refine below_set ?_ GE170.out) | exact HB.out)) hb); clear BK170; clear HB; have BK170 := n0_; have HB := n1_; clear n0_ n1_; (try clear hb); (try clear hb2); (try clear hk); (try clear hi)))
                              go_ret
                              exact ⟨by first | rfl | (simp [errW_none, errW_some] <;> rfl) | (simp [*, errW_none, errW_some] <;> rfl), by repeat (first | (with_reducible first | exact HB.out | apply below_alloc | apply pw_below_drewN | apply below_drew1 | refine below_set ?_ GE170.out) | exact HB.out)⟩
                            · replace c58 := Bool.eq_false_iff.mpr c58
                              subst c58
                              have H1 : (some false) = some r := by rw [if_neg (show ¬ (false = true) by decide)] at H; exact H
                              clear H
                              have H := H1
                              clear H1
                              obtain rfl := Option.some.inj H
                              have hcz62_0 : wc.cell? ⟨gb170, 0, none⟩ = some (.int .i64 a0_0) := (blk_cell BK170.out 0).trans rfl
                              have hcz62_1 : wc.cell? ⟨gb170, 1, none⟩ = some (.int .i64 a0_1) := (blk_cell BK170.out 1).trans rfl
                              have hcz62_2 : wc.cell? ⟨gb170, 2, none⟩ = some (.int .i64 a0_2) := (blk_cell BK170.out 2).trans rfl
                              have hcz62_3 : wc.cell? ⟨gb170, 3, none⟩ = some (.int .i64 a0_3) := (blk_cell BK170.out 3).trans rfl
                              have hfz62_0 := blk_frozen BK170.out 0
                              have hfz62_1 := blk_frozen BK170.out 1
                              have hfz62_2 := blk_frozen BK170.out 2
                              have hfz62_3 := blk_frozen BK170.out 3
                              go_wp2_with (first | ((with_reducible refine gate_callee (f := 16) rfl ?_); refine goesL_ (some 162) rfl rfl Try.func16 (by kernel_rfl) rfl #[.int .i64 t171, .int .i64 a0_1, .int .i64 a0_0, .int .i64 (wrap64 (a0_3 - a0_2)), .int .i64 a0_3] rfl (by (try simp only [List.map_toArray, List.map_cons, List.map_nil]); first | done | rfl | (simp only [List.length_drop, List.length_take]; rfl)) ?_; (with_reducible refine (dancestudiolaw01_lerps.calls t171 a0_1 a0_0 (wrap64 (a0_3 - a0_2)) a0_3 true _ A55.out).mono ?_); rintro e w' ⟨rfl, ⟨nd, rfl⟩⟩; refine ⟨_, rfl, ?_⟩) | (go_at_call 16; (with_reducible refine (dancestudiolaw01_lerps.calls (wrap64 (-t171)) (wrap64 (-a0_0)) (wrap64 (-a0_1)) a0_2 a0_3 false _ A57.out).mono ?_); rintro e w' ⟨rfl, ⟨nd, rfl⟩⟩))
                              go_ret
                              exact ⟨by first | rfl | (simp [errW_none, errW_some] <;> rfl) | (simp [*, errW_none, errW_some] <;> rfl), by repeat (first | (with_reducible first | exact HB.out | apply below_alloc | apply pw_below_drewN | apply below_drew1 | refine below_set ?_ GE170.out) | exact HB.out)⟩
                          · replace c56 := Bool.eq_false_iff.mpr c56
                            subst c56
                            have H1 : (some false) = some r := by rw [if_neg (show ¬ (false = true) by decide)] at H; exact H
                            clear H
                            have H := H1
                            clear H1
                            obtain rfl := Option.some.inj H
                            have hcz63_0 : wc.cell? ⟨gb170, 0, none⟩ = some (.int .i64 a0_0) := (blk_cell BK170.out 0).trans rfl
                            have hcz63_1 : wc.cell? ⟨gb170, 1, none⟩ = some (.int .i64 a0_1) := (blk_cell BK170.out 1).trans rfl
                            have hcz63_2 : wc.cell? ⟨gb170, 2, none⟩ = some (.int .i64 a0_2) := (blk_cell BK170.out 2).trans rfl
                            have hcz63_3 : wc.cell? ⟨gb170, 3, none⟩ = some (.int .i64 a0_3) := (blk_cell BK170.out 3).trans rfl
                            have hfz63_0 := blk_frozen BK170.out 0
                            have hfz63_1 := blk_frozen BK170.out 1
                            have hfz63_2 := blk_frozen BK170.out 2
                            have hfz63_3 := blk_frozen BK170.out 3
                            go_wp2_with (first | ((with_reducible refine gate_callee (f := 16) rfl ?_); refine goesL_ (some 162) rfl rfl Try.func16 (by kernel_rfl) rfl #[.int .i64 t171, .int .i64 a0_1, .int .i64 a0_0, .int .i64 (wrap64 (a0_3 - a0_2)), .int .i64 a0_3] rfl (by (try simp only [List.map_toArray, List.map_cons, List.map_nil]); first | done | rfl | (simp only [List.length_drop, List.length_take]; rfl)) ?_; (with_reducible refine (dancestudiolaw01_lerps.calls t171 a0_1 a0_0 (wrap64 (a0_3 - a0_2)) a0_3 false _ A55.out).mono ?_); rintro e w' ⟨rfl, ⟨nd, rfl⟩⟩; refine ⟨_, rfl, ?_⟩))
                            go_ret
                            exact ⟨by first | rfl | (simp [errW_none, errW_some] <;> rfl) | (simp [*, errW_none, errW_some] <;> rfl), by repeat (first | (with_reducible first | exact HB.out | apply below_alloc | apply pw_below_drewN | apply below_drew1 | refine below_set ?_ GE170.out) | exact HB.out)⟩

end Go.Proofs.Ytodjapnmobekjaa.PNumLerp
