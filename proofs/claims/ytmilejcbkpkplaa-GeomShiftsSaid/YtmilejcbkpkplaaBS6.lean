/- Texts of the proof, laid end to end. -/
import Derived.Test.YtmilejcbkpkplaaBS2
import Derived.Test.YtmilejcbkpkplaaBS3
import Derived.Test.YtmilejcbkpkplaaBS5
-- Written by wip/tools/handprint.py: walks of the functions that the law reaches; Lean checks them.
namespace Go.Proofs.Ytmilejcbkpkplaa.PAll
open Go.RowKit Go.Proofs.YtmilejcbkpkplaaW.PrintWords Go.Proofs.YtmilejcbkpkplaaW.PrintLast Go.Proofs.YtmilejcbkpkplaaW.PrintMore
attribute [local go_sem] max2_int min2_int max_two min_two max_three min_three max_four min_four   -- for this text's walks alone
set_option linter.unusedVariables false
set_option linter.unusedSimpArgs false

/-! ### dancestudiolaw03_GeomShifts: function 10 -/
mutual
def dancestudiolaw03_GeomShifts.j0 : Nat → Bool → Int → Int → Int → Int → Int → Int → Int → Int → Int → Int → Int → Option (Bool)
 | 0, _, _, _, _, _, _, _, _, _, _, _, _ => none
 | k + 1, x48, x519000, x519001, x519002, x519003, x519004, x519005, x519006, x520000, x520001, x521000, x521001 => if x48 = true then ((dancestudiolaw03_awake.f k).bind fun t526 => (some t526)) else ((dancestudiolaw03_shifted.f x519000 x519001 x521000 x521001).bind fun bt529 => ((dancestudiolaw03_shifted.f x519002 x519003 x521000 x521001).bind fun bt531 => ((dancestudiolaw03_shifted.f x519004 x519005 x521000 x521001).bind fun bt533 => ((dancestudiolaw03_shifted.f x520000 x520001 x521000 x521001).bind fun bt535 => ((geom_Near.f k x519000 x519001 x519002 x519003 x519004 x519005 x519006).bind fun bt539 => ((geom_Near.f k bt529.1 bt529.2 bt531.1 bt531.2 bt533.1 bt533.2 x519006).bind fun bt541 => ((geom_Touch.f k x519000 x519001 x519002 x519003 x519006 x519004 x519005 x520000 x520001 x519006).bind fun bt543 => ((geom_Touch.f k bt529.1 bt529.2 bt531.1 bt531.2 x519006 bt533.1 bt533.2 bt535.1 bt535.2 x519006).bind fun bt545 => (if (bt539.1 != bt541.1) = true then (dancestudiolaw03_GeomShifts.j1 k true x519000 x519001 x519002 x519003 x519004 x519005 x519006 x520000 x520001 bt529.1 bt529.2 bt531.1 bt531.2 x519006 bt533.1 bt533.2 bt535.1 bt535.2 x519006) else (if bt539.2 = bt541.2 then (if (bt543.1 != bt545.1) = true then (dancestudiolaw03_GeomShifts.j1 k true x519000 x519001 x519002 x519003 x519004 x519005 x519006 x520000 x520001 bt529.1 bt529.2 bt531.1 bt531.2 x519006 bt533.1 bt533.2 bt535.1 bt535.2 x519006) else (dancestudiolaw03_GeomShifts.j1 k (bt543.2 != bt545.2) x519000 x519001 x519002 x519003 x519004 x519005 x519006 x520000 x520001 bt529.1 bt529.2 bt531.1 bt531.2 x519006 bt533.1 bt533.2 bt535.1 bt535.2 x519006)) else (dancestudiolaw03_GeomShifts.j1 k true x519000 x519001 x519002 x519003 x519004 x519005 x519006 x520000 x520001 bt529.1 bt529.2 bt531.1 bt531.2 x519006 bt533.1 bt533.2 bt535.1 bt535.2 x519006)))))))))))
def dancestudiolaw03_GeomShifts.j1 : Nat → Bool → Int → Int → Int → Int → Int → Int → Int → Int → Int → Int → Int → Int → Int → Int → Int → Int → Int → Int → Int → Option (Bool)
 | 0, _, _, _, _, _, _, _, _, _, _, _, _, _, _, _, _, _, _, _, _ => none
 | k + 1, x137, x519000, x519001, x519002, x519003, x519004, x519005, x519006, x520000, x520001, x538000, x538001, x538002, x538003, x538004, x539000, x539001, x539002, x539003, x539004 => if x137 = true then (none) else ((geom_Dist2.f k x519000 x519001 x520000 x520001).bind fun bt547 => ((geom_Dist2.f k x539002 x539003 x538000 x538001).bind fun bt549 => ((geom_Cross.f k x519000 x519001 x519002 x519003 x520000 x520001).bind fun bt551 => ((geom_Cross.f k x538000 x538001 x539002 x539003 x538002 x538003).bind fun bt553 => (if bt547.1 = bt549.1 then (if bt551.1 = (wrap64 (-bt553.1)) then (if bt547.2 = 0 then (if bt549.2 = 0 then (if bt551.2 = 0 then (if bt553.2 = 0 then ((dancestudiolaw03_awake.f k).bind fun t555 => (some t555)) else (none)) else (none)) else (none)) else (none)) else (none)) else (none))))))
end
def dancestudiolaw03_GeomShifts.f (k : Nat) (a0_0 : Int) (a0_1 : Int) (a0_2 : Int) (a0_3 : Int) (a0_4 : Int) (a0_5 : Int) (a0_6 : Int) (a1_0 : Int) (a1_1 : Int) (a2_0 : Int) (a2_1 : Int) : Option (Bool) := (dancestudiolaw03_small.f a0_0 a0_1).bind fun t521 => (if t521 = true then ((dancestudiolaw03_small.f a0_2 a0_3).bind fun t522 => (if t522 = true then ((dancestudiolaw03_small.f a0_4 a0_5).bind fun t523 => (if t523 = true then ((dancestudiolaw03_small.f a1_0 a1_1).bind fun t524 => (if t524 = true then ((dancestudiolaw03_small.f a2_0 a2_1).bind fun t525 => (dancestudiolaw03_GeomShifts.j0 k (!t525) a0_0 a0_1 a0_2 a0_3 a0_4 a0_5 a0_6 a1_0 a1_1 a2_0 a2_1)) else (dancestudiolaw03_GeomShifts.j0 k true a0_0 a0_1 a0_2 a0_3 a0_4 a0_5 a0_6 a1_0 a1_1 a2_0 a2_1))) else (dancestudiolaw03_GeomShifts.j0 k true a0_0 a0_1 a0_2 a0_3 a0_4 a0_5 a0_6 a1_0 a1_1 a2_0 a2_1))) else (dancestudiolaw03_GeomShifts.j0 k true a0_0 a0_1 a0_2 a0_3 a0_4 a0_5 a0_6 a1_0 a1_1 a2_0 a2_1))) else (dancestudiolaw03_GeomShifts.j0 k true a0_0 a0_1 a0_2 a0_3 a0_4 a0_5 a0_6 a1_0 a1_1 a2_0 a2_1))
theorem dancestudiolaw03_GeomShifts.mono_l : ∀ k, (∀ y0 y1 y2 y3 y4 y5 y6 y7 y8 y9 y10 y11, LeO (dancestudiolaw03_GeomShifts.j0 k y0 y1 y2 y3 y4 y5 y6 y7 y8 y9 y10 y11) (dancestudiolaw03_GeomShifts.j0 (k + 1) y0 y1 y2 y3 y4 y5 y6 y7 y8 y9 y10 y11)) ∧ (∀ y0 y1 y2 y3 y4 y5 y6 y7 y8 y9 y10 y11 y12 y13 y14 y15 y16 y17 y18 y19, LeO (dancestudiolaw03_GeomShifts.j1 k y0 y1 y2 y3 y4 y5 y6 y7 y8 y9 y10 y11 y12 y13 y14 y15 y16 y17 y18 y19) (dancestudiolaw03_GeomShifts.j1 (k + 1) y0 y1 y2 y3 y4 y5 y6 y7 y8 y9 y10 y11 y12 y13 y14 y15 y16 y17 y18 y19))
 | 0 => ⟨fun _ _ _ _ _ _ _ _ _ _ _ _ r h => by simp [dancestudiolaw03_GeomShifts.j0] at h, fun _ _ _ _ _ _ _ _ _ _ _ _ _ _ _ _ _ _ _ _ r h => by simp [dancestudiolaw03_GeomShifts.j1] at h⟩
 | k + 1 => by
  obtain ⟨ih0, ih1⟩ := dancestudiolaw03_GeomShifts.mono_l k
  refine ⟨?_, ?_⟩
  ·
   intro y0 y1 y2 y3 y4 y5 y6 y7 y8 y9 y10 y11
   unfold dancestudiolaw03_GeomShifts.j0
   repeat' first
   | (with_reducible exact ih0 _ _ _ _ _ _ _ _ _ _ _ _)
   | (with_reducible exact ih1 _ _ _ _ _ _ _ _ _ _ _ _ _ _ _ _ _ _ _ _)
   | (with_reducible exact dancestudiolaw03_awake.mono _)
   | (with_reducible exact geom_Cross.mono _ _ _ _ _ _ _)
   | (with_reducible exact geom_Dist2.mono _ _ _ _ _)
   | (with_reducible exact geom_Near.mono _ _ _ _ _ _ _ _)
   | (with_reducible exact geom_Touch.mono _ _ _ _ _ _ _ _ _ _ _)
   | (with_reducible exact LeO.refl _)
   | (with_reducible exact LeO.none _)
   | (with_reducible refine LeO.ite ?_ ?_)
   | (with_reducible refine LeO.bind ?_ (fun _ => ?_))
   | exact ih0 _ _ _ _ _ _ _ _ _ _ _ _
   | exact ih1 _ _ _ _ _ _ _ _ _ _ _ _ _ _ _ _ _ _ _ _
   | exact dancestudiolaw03_awake.mono _
   | exact geom_Cross.mono _ _ _ _ _ _ _
   | exact geom_Dist2.mono _ _ _ _ _
   | exact geom_Near.mono _ _ _ _ _ _ _ _
   | exact geom_Touch.mono _ _ _ _ _ _ _ _ _ _ _
   | exact LeO.none _
   | refine LeO.ite ?_ ?_
   | refine LeO.bind ?_ (fun _ => ?_)
  ·
   intro y0 y1 y2 y3 y4 y5 y6 y7 y8 y9 y10 y11 y12 y13 y14 y15 y16 y17 y18 y19
   unfold dancestudiolaw03_GeomShifts.j1
   repeat' first
   | (with_reducible exact ih0 _ _ _ _ _ _ _ _ _ _ _ _)
   | (with_reducible exact ih1 _ _ _ _ _ _ _ _ _ _ _ _ _ _ _ _ _ _ _ _)
   | (with_reducible exact dancestudiolaw03_awake.mono _)
   | (with_reducible exact geom_Cross.mono _ _ _ _ _ _ _)
   | (with_reducible exact geom_Dist2.mono _ _ _ _ _)
   | (with_reducible exact geom_Near.mono _ _ _ _ _ _ _ _)
   | (with_reducible exact geom_Touch.mono _ _ _ _ _ _ _ _ _ _ _)
   | (with_reducible exact LeO.refl _)
   | (with_reducible exact LeO.none _)
   | (with_reducible refine LeO.ite ?_ ?_)
   | (with_reducible refine LeO.bind ?_ (fun _ => ?_))
   | exact ih0 _ _ _ _ _ _ _ _ _ _ _ _
   | exact ih1 _ _ _ _ _ _ _ _ _ _ _ _ _ _ _ _ _ _ _ _
   | exact dancestudiolaw03_awake.mono _
   | exact geom_Cross.mono _ _ _ _ _ _ _
   | exact geom_Dist2.mono _ _ _ _ _
   | exact geom_Near.mono _ _ _ _ _ _ _ _
   | exact geom_Touch.mono _ _ _ _ _ _ _ _ _ _ _
   | exact LeO.none _
   | refine LeO.ite ?_ ?_
   | refine LeO.bind ?_ (fun _ => ?_)
theorem dancestudiolaw03_GeomShifts.mono : ∀ a0 a1 a2 a3 a4 a5 a6 a7 a8 a9 a10 k, LeO (dancestudiolaw03_GeomShifts.f k a0 a1 a2 a3 a4 a5 a6 a7 a8 a9 a10) (dancestudiolaw03_GeomShifts.f (k + 1) a0 a1 a2 a3 a4 a5 a6 a7 a8 a9 a10) := by
 intro a0 a1 a2 a3 a4 a5 a6 a7 a8 a9 a10 k
 obtain ⟨ih0, ih1⟩ := dancestudiolaw03_GeomShifts.mono_l k
 unfold dancestudiolaw03_GeomShifts.f
 repeat' first
   | (with_reducible exact ih0 _ _ _ _ _ _ _ _ _ _ _ _)
   | (with_reducible exact ih1 _ _ _ _ _ _ _ _ _ _ _ _ _ _ _ _ _ _ _ _)
   | (with_reducible exact dancestudiolaw03_awake.mono _)
   | (with_reducible exact geom_Cross.mono _ _ _ _ _ _ _)
   | (with_reducible exact geom_Dist2.mono _ _ _ _ _)
   | (with_reducible exact geom_Near.mono _ _ _ _ _ _ _ _)
   | (with_reducible exact geom_Touch.mono _ _ _ _ _ _ _ _ _ _ _)
   | (with_reducible exact LeO.refl _)
   | (with_reducible exact LeO.none _)
   | (with_reducible refine LeO.ite ?_ ?_)
   | (with_reducible refine LeO.bind ?_ (fun _ => ?_))
   | exact ih0 _ _ _ _ _ _ _ _ _ _ _ _
   | exact ih1 _ _ _ _ _ _ _ _ _ _ _ _ _ _ _ _ _ _ _ _
   | exact dancestudiolaw03_awake.mono _
   | exact geom_Cross.mono _ _ _ _ _ _ _
   | exact geom_Dist2.mono _ _ _ _ _
   | exact geom_Near.mono _ _ _ _ _ _ _ _
   | exact geom_Touch.mono _ _ _ _ _ _ _ _ _ _ _
   | exact LeO.none _
   | refine LeO.ite ?_ ?_
   | refine LeO.bind ?_ (fun _ => ?_)
def dancestudiolaw03_GeomShifts.T3 : Bool × List (List Nat × List Nat) := (true, [([], []), ([0], [0]), ([], []), ([2], [2]), ([], []), ([4], [4]), ([1, 3, 5], [1, 3, 5]), ([], []), ([7], [7]), ([], []), ([], []), ([10], [10]), ([8, 9, 11], [8, 9, 11]), ([], []), ([], []), ([13, 6, 0, 1, 2, 3, 4, 5, 6, 13, 14], [6, 13]), ([14, 12, 15, 0, 1, 2, 3, 4, 5, 6, 7, 8, 9, 10, 11, 12, 13, 14, 15], [12, 14])])
def dancestudiolaw03_GeomShifts.B3 : List Nat := [0, 1, 0, 4, 0, 16, 63, 0, 128, 0, 0, 1024, 3968, 0, 0, 24703, 65535]
theorem dancestudiolaw03_GeomShifts.tab3 : rtab .any (opsOf Try.f10 3) = dancestudiolaw03_GeomShifts.T3 := by kernel_rfl
theorem dancestudiolaw03_GeomShifts.bits3 : waitsOk dancestudiolaw03_GeomShifts.T3.2 dancestudiolaw03_GeomShifts.B3 = true := by kernel_rfl
def dancestudiolaw03_GeomShifts.T4 : Bool × List (List Nat × List Nat) := (true, [([], []), ([0], [0]), ([], []), ([1, 2], [1, 2]), ([], []), ([4], [4]), ([], []), ([5, 6, 3], [5, 6]), ([], []), ([8], [8]), ([3, 7, 9], [3, 7, 9]), ([], []), ([11], [11]), ([], []), ([12, 13, 7], [12, 13]), ([], []), ([], []), ([15, 16, 14], [15, 16]), ([], []), ([18], [18]), ([14, 17, 19], [14, 17, 19]), ([], []), ([], []), ([21, 10, 17, 0, 1, 2, 3, 4, 5, 6, 7, 8, 9, 10, 21, 22], [10, 21]), ([22, 20, 23, 0, 1, 2, 3, 4, 5, 6, 7, 8, 9, 10, 11, 12, 13, 14, 15, 16, 17, 18, 19, 20, 21, 22, 23], [20, 22])])
def dancestudiolaw03_GeomShifts.B4 : List Nat := [0, 1, 0, 7, 0, 16, 0, 127, 0, 256, 1023, 0, 2048, 0, 14591, 0, 0, 129279, 0, 262144, 1046783, 0, 0, 6553599, 16777215]
theorem dancestudiolaw03_GeomShifts.tab4 : rtab .any (opsOf Try.f10 4) = dancestudiolaw03_GeomShifts.T4 := by kernel_rfl
theorem dancestudiolaw03_GeomShifts.bits4 : waitsOk dancestudiolaw03_GeomShifts.T4.2 dancestudiolaw03_GeomShifts.B4 = true := by kernel_rfl
set_option maxHeartbeats 8000000 in
set_option maxRecDepth 100000 in
theorem dancestudiolaw03_GeomShifts.calls (k : Nat) (a0_0 : Int) (a0_1 : Int) (a0_2 : Int) (a0_3 : Int) (a0_4 : Int) (a0_5 : Int) (a0_6 : Int) (a1_0 : Int) (a1_1 : Int) (a2_0 : Int) (a2_1 : Int) (r : Bool) (w : World) (h : dancestudiolaw03_GeomShifts.f k a0_0 a0_1 a0_2 a0_3 a0_4 a0_5 a0_6 a1_0 a1_1 a2_0 a2_1 = some r) :
  Calls Try.prog 10 #[.agg #[.int .i64 a0_0, .int .i64 a0_1, .int .i64 a0_2, .int .i64 a0_3, .int .i64 a0_4, .int .i64 a0_5, .int .i64 a0_6], .agg #[.int .i64 a1_0, .int .i64 a1_1], .agg #[.int .i64 a2_0, .int .i64 a2_1]] w fun e w' => e = .returned (.bool r) ∧ Below w.heap.size w w' := by
 have hu31 := Try.underlying31
 have hu23 := Try.underlying23
 have hu36 := Try.underlying36
 have HB := Aside0.mk (Below.refl w.heap.size w)
 have H : ((dancestudiolaw03_small.f a0_0 a0_1).bind fun t521 => (if t521 = true then ((dancestudiolaw03_small.f a0_2 a0_3).bind fun t522 => (if t522 = true then ((dancestudiolaw03_small.f a0_4 a0_5).bind fun t523 => (if t523 = true then ((dancestudiolaw03_small.f a1_0 a1_1).bind fun t524 => (if t524 = true then ((dancestudiolaw03_small.f a2_0 a2_1).bind fun t525 => (dancestudiolaw03_GeomShifts.j0 k (!t525) a0_0 a0_1 a0_2 a0_3 a0_4 a0_5 a0_6 a1_0 a1_1 a2_0 a2_1)) else (dancestudiolaw03_GeomShifts.j0 k true a0_0 a0_1 a0_2 a0_3 a0_4 a0_5 a0_6 a1_0 a1_1 a2_0 a2_1))) else (dancestudiolaw03_GeomShifts.j0 k true a0_0 a0_1 a0_2 a0_3 a0_4 a0_5 a0_6 a1_0 a1_1 a2_0 a2_1))) else (dancestudiolaw03_GeomShifts.j0 k true a0_0 a0_1 a0_2 a0_3 a0_4 a0_5 a0_6 a1_0 a1_1 a2_0 a2_1))) else (dancestudiolaw03_GeomShifts.j0 k true a0_0 a0_1 a0_2 a0_3 a0_4 a0_5 a0_6 a1_0 a1_1 a2_0 a2_1))) = some r := h
 clear h
 have HC4 := Aside0.mk H
 clear H
 go_enter Try.func10, Try.ntmps10
 go_upto_region 1 with (first | ((with_reducible refine gate_dst (N := 3) rfl ?_); refine box_event ?hg (N := 3) ?hd (cs := #[.int .i64 a0_0, .int .i64 a0_1, .int .i64 a0_2, .int .i64 a0_3, .int .i64 a0_4, .int .i64 a0_5, .int .i64 a0_6]) (t := 31) ?hr ?_; (case hd => rfl); (case hg => rfl); (case hr => first | (go_simp; done) | (go_simp; rfl)); intro gb1 hg w5 hbox hb; have BK1 := Aside0.mk hbox; have GW1 := mGw HB hg; have GE1 := GW1; replace HB := mSt HB hb; clear hb hbox hg) | ((with_reducible refine gate_dst (N := 4) rfl ?_); refine box_event ?hg (N := 4) ?hd (cs := #[.int .i64 a1_0, .int .i64 a1_1]) (t := 23) ?hr ?_; (case hd => rfl); (case hg => rfl); (case hr => first | (go_simp; done) | (go_simp; rfl)); intro gb2 hg w6 hbox hb; have BK2 := Aside0.mk hbox; have GW2 := mGw HB hg; have GE2 := GW2; replace HB := mSt HB hb; have NB1_2 := mNe BK1 hg; have NB2_1 := mSy NB1_2; replace BK1 := mBb BK1 hb; clear hb hbox hg) | ((with_reducible refine gate_dst (N := 5) rfl ?_); refine box_event ?hg (N := 5) ?hd (cs := #[.int .i64 a2_0, .int .i64 a2_1]) (t := 23) ?hr ?_; (case hd => rfl); (case hg => rfl); (case hr => first | (go_simp; done) | (go_simp; rfl)); intro gb3 hg w7 hbox hb; have BK3 := Aside0.mk hbox; have GW3 := mGw HB hg; have GE3 := GW3; replace HB := mSt HB hb; have NB1_3 := mNe BK1 hg; have NB3_1 := mSy NB1_3; replace BK1 := mBb BK1 hb; have NB2_3 := mNe BK2 hg; have NB3_2 := mSy NB2_3; replace BK2 := mBb BK2 hb; clear hb hbox hg))
 (try simp only [Act.put, List.setIfInBounds_toArray, List.set_cons_zero, List.set_cons_succ])
 go_cut [48] (fun v48 wc => ∃ (kq : Nat) (x48_3 : Bool), v48 = .bool x48_3 ∧ Aside0 (dancestudiolaw03_GeomShifts.j0 kq x48_3 a0_0 a0_1 a0_2 a0_3 a0_4 a0_5 a0_6 a1_0 a1_1 a2_0 a2_1 = some r) ∧ Aside0 (kq ≤ k) ∧ Aside0 (wc.heap[gb1]? = some (.cells #[.int .i64 a0_0, .int .i64 a0_1, .int .i64 a0_2, .int .i64 a0_3, .int .i64 a0_4, .int .i64 a0_5, .int .i64 a0_6] 31 (0, 0))) ∧ Aside0 (wc.heap[gb2]? = some (.cells #[.int .i64 a1_0, .int .i64 a1_1] 23 (0, 0))) ∧ Aside0 (wc.heap[gb3]? = some (.cells #[.int .i64 a2_0, .int .i64 a2_1] 23 (0, 0))) ∧ Aside0 (Below w.heap.size w wc))
 case first =>
  have H := HC4.out
  clear HC4
  replace H := Option.bind_eq_some_iff.mp H
  obtain ⟨t521, A80, H⟩ := H
  try dsimp only at H
  have A8 := Aside0.mk A80
  clear A80
  by_cases c9 : t521 = true
  rotate_left
  ·
   replace c9 := Bool.eq_false_iff.mpr c9
   subst c9
   rw [if_neg (show ¬ (false = true) by decide)] at H
   have H' := Aside0.mk H
   clear H
   have hnb55 := NB1_2.out
   have hnc55 := NB2_1.out
   have hnb56 := NB1_3.out
   have hnc56 := NB3_1.out
   have hcz57 := blk_cell BK1.out; have hfz57 := blk_frozen BK1.out
   go_wp2_with (first | ((with_reducible refine gate_callee (f := 26) rfl ?_); refine goesL_ (some 25) rfl rfl Try.func26 (by kernel_rfl) rfl #[.agg #[.int .i64 a0_0, .int .i64 a0_1]] rfl (by (try simp only [List.map_toArray, List.map_cons, List.map_nil]); first | done | rfl | (simp only [List.length_drop, List.length_take]; rfl)) ?_; (with_reducible refine (dancestudiolaw03_small.calls a0_0 a0_1 false _ A8.out).mono ?_); rintro e w58 ⟨rfl, hb⟩; refine ⟨_, rfl, ?_⟩; replace BK1 := mBb BK1 hb; replace BK2 := mBb BK2 hb; replace BK3 := mBb BK3 hb; replace HB := mSt HB hb; (try clear hb)))
   go_meet
   case rel => exact ⟨_, (true), (by first | rfl | (simp; done) | (simp [*]; done)), H', ⟨by first | omega | exact Nat.le_refl _⟩, ⟨BK1.out⟩, ⟨BK2.out⟩, ⟨BK3.out⟩, ⟨by repeat (first | (with_reducible first | exact HB.out | apply below_alloc | apply pw_below_drewN | apply below_drew1 | refine below_set ?_ GE1.out | refine below_set ?_ GE2.out | refine below_set ?_ GE3.out) | exact HB.out)⟩⟩
  subst c9
  rw [if_pos rfl] at H
  replace H := Option.bind_eq_some_iff.mp H
  obtain ⟨t522, A100, H⟩ := H
  try dsimp only at H
  have A10 := Aside0.mk A100
  clear A100
  by_cases c11 : t522 = true
  rotate_left
  ·
   replace c11 := Bool.eq_false_iff.mpr c11
   subst c11
   rw [if_neg (show ¬ (false = true) by decide)] at H
   have H' := Aside0.mk H
   clear H
   have hnb49 := NB1_2.out
   have hnc49 := NB2_1.out
   have hnb50 := NB1_3.out
   have hnc50 := NB3_1.out
   have hcz51 := blk_cell BK1.out; have hfz51 := blk_frozen BK1.out
   go_wp2_with (first | ((with_reducible refine gate_callee (f := 26) rfl ?_); refine goesL_ (some 25) rfl rfl Try.func26 (by kernel_rfl) rfl #[.agg #[.int .i64 a0_0, .int .i64 a0_1]] rfl (by (try simp only [List.map_toArray, List.map_cons, List.map_nil]); first | done | rfl | (simp only [List.length_drop, List.length_take]; rfl)) ?_; (with_reducible refine (dancestudiolaw03_small.calls a0_0 a0_1 true _ A8.out).mono ?_); rintro e w52 ⟨rfl, hb⟩; refine ⟨_, rfl, ?_⟩; replace BK1 := mBb BK1 hb; replace BK2 := mBb BK2 hb; replace BK3 := mBb BK3 hb; replace HB := mSt HB hb; (try clear hb); have hcz53 := blk_cell BK1.out; have hfz53 := blk_frozen BK1.out) | (go_at_call 26; (with_reducible refine (dancestudiolaw03_small.calls a0_2 a0_3 false _ A10.out).mono ?_); rintro e w54 ⟨rfl, hb⟩; replace BK1 := mBb BK1 hb; replace BK2 := mBb BK2 hb; replace BK3 := mBb BK3 hb; replace HB := mSt HB hb; (try clear hb)))
   go_meet
   case rel => exact ⟨_, (true), (by first | rfl | (simp; done) | (simp [*]; done)), H', ⟨by first | omega | exact Nat.le_refl _⟩, ⟨BK1.out⟩, ⟨BK2.out⟩, ⟨BK3.out⟩, ⟨by repeat (first | (with_reducible first | exact HB.out | apply below_alloc | apply pw_below_drewN | apply below_drew1 | refine below_set ?_ GE1.out | refine below_set ?_ GE2.out | refine below_set ?_ GE3.out) | exact HB.out)⟩⟩
  subst c11
  rw [if_pos rfl] at H
  replace H := Option.bind_eq_some_iff.mp H
  obtain ⟨t523, A120, H⟩ := H
  try dsimp only at H
  have A12 := Aside0.mk A120
  clear A120
  by_cases c13 : t523 = true
  rotate_left
  ·
   replace c13 := Bool.eq_false_iff.mpr c13
   subst c13
   rw [if_neg (show ¬ (false = true) by decide)] at H
   have H' := Aside0.mk H
   clear H
   have hnb41 := NB1_2.out
   have hnc41 := NB2_1.out
   have hnb42 := NB1_3.out
   have hnc42 := NB3_1.out
   have hcz43 := blk_cell BK1.out; have hfz43 := blk_frozen BK1.out
   go_wp2_with (first | ((with_reducible refine gate_callee (f := 26) rfl ?_); refine goesL_ (some 25) rfl rfl Try.func26 (by kernel_rfl) rfl #[.agg #[.int .i64 a0_0, .int .i64 a0_1]] rfl (by (try simp only [List.map_toArray, List.map_cons, List.map_nil]); first | done | rfl | (simp only [List.length_drop, List.length_take]; rfl)) ?_; (with_reducible refine (dancestudiolaw03_small.calls a0_0 a0_1 true _ A8.out).mono ?_); rintro e w44 ⟨rfl, hb⟩; refine ⟨_, rfl, ?_⟩; replace BK1 := mBb BK1 hb; replace BK2 := mBb BK2 hb; replace BK3 := mBb BK3 hb; replace HB := mSt HB hb; (try clear hb); have hcz45 := blk_cell BK1.out; have hfz45 := blk_frozen BK1.out) | (go_at_call 26; (with_reducible refine (dancestudiolaw03_small.calls a0_2 a0_3 true _ A10.out).mono ?_); rintro e w46 ⟨rfl, hb⟩; replace BK1 := mBb BK1 hb; replace BK2 := mBb BK2 hb; replace BK3 := mBb BK3 hb; replace HB := mSt HB hb; (try clear hb); have hcz47 := blk_cell BK1.out; have hfz47 := blk_frozen BK1.out) | (go_at_call 26; (with_reducible refine (dancestudiolaw03_small.calls a0_4 a0_5 false _ A12.out).mono ?_); rintro e w48 ⟨rfl, hb⟩; replace BK1 := mBb BK1 hb; replace BK2 := mBb BK2 hb; replace BK3 := mBb BK3 hb; replace HB := mSt HB hb; (try clear hb)))
   go_meet
   case rel => exact ⟨_, (true), (by first | rfl | (simp; done) | (simp [*]; done)), H', ⟨by first | omega | exact Nat.le_refl _⟩, ⟨BK1.out⟩, ⟨BK2.out⟩, ⟨BK3.out⟩, ⟨by repeat (first | (with_reducible first | exact HB.out | apply below_alloc | apply pw_below_drewN | apply below_drew1 | refine below_set ?_ GE1.out | refine below_set ?_ GE2.out | refine below_set ?_ GE3.out) | exact HB.out)⟩⟩
  subst c13
  rw [if_pos rfl] at H
  replace H := Option.bind_eq_some_iff.mp H
  obtain ⟨t524, A140, H⟩ := H
  try dsimp only at H
  have A14 := Aside0.mk A140
  clear A140
  by_cases c15 : t524 = true
  rotate_left
  ·
   replace c15 := Bool.eq_false_iff.mpr c15
   subst c15
   rw [if_neg (show ¬ (false = true) by decide)] at H
   have H' := Aside0.mk H
   clear H
   have hnb30 := NB1_2.out
   have hnc30 := NB2_1.out
   have hnb31 := NB1_3.out
   have hnc31 := NB3_1.out
   have hcz32 := blk_cell BK1.out; have hfz32 := blk_frozen BK1.out
   go_wp2_with (first | ((with_reducible refine gate_callee (f := 26) rfl ?_); refine goesL_ (some 25) rfl rfl Try.func26 (by kernel_rfl) rfl #[.agg #[.int .i64 a0_0, .int .i64 a0_1]] rfl (by (try simp only [List.map_toArray, List.map_cons, List.map_nil]); first | done | rfl | (simp only [List.length_drop, List.length_take]; rfl)) ?_; (with_reducible refine (dancestudiolaw03_small.calls a0_0 a0_1 true _ A8.out).mono ?_); rintro e w33 ⟨rfl, hb⟩; refine ⟨_, rfl, ?_⟩; replace BK1 := mBb BK1 hb; replace BK2 := mBb BK2 hb; replace BK3 := mBb BK3 hb; replace HB := mSt HB hb; (try clear hb); have hcz34 := blk_cell BK1.out; have hfz34 := blk_frozen BK1.out) | (go_at_call 26; (with_reducible refine (dancestudiolaw03_small.calls a0_2 a0_3 true _ A10.out).mono ?_); rintro e w35 ⟨rfl, hb⟩; replace BK1 := mBb BK1 hb; replace BK2 := mBb BK2 hb; replace BK3 := mBb BK3 hb; replace HB := mSt HB hb; (try clear hb); have hcz36 := blk_cell BK1.out; have hfz36 := blk_frozen BK1.out) | (go_at_call 26; (with_reducible refine (dancestudiolaw03_small.calls a0_4 a0_5 true _ A12.out).mono ?_); rintro e w37 ⟨rfl, hb⟩; replace BK1 := mBb BK1 hb; replace BK2 := mBb BK2 hb; replace BK3 := mBb BK3 hb; replace HB := mSt HB hb; (try clear hb); have hnb38 := NB2_3.out; have hnc38 := NB3_2.out; have hcz39 := blk_cell BK2.out; have hfz39 := blk_frozen BK2.out) | (go_at_call 26; (with_reducible refine (dancestudiolaw03_small.calls a1_0 a1_1 false _ A14.out).mono ?_); rintro e w40 ⟨rfl, hb⟩; replace BK1 := mBb BK1 hb; replace BK2 := mBb BK2 hb; replace BK3 := mBb BK3 hb; replace HB := mSt HB hb; (try clear hb)))
   go_meet
   case rel => exact ⟨_, (true), (by first | rfl | (simp; done) | (simp [*]; done)), H', ⟨by first | omega | exact Nat.le_refl _⟩, ⟨BK1.out⟩, ⟨BK2.out⟩, ⟨BK3.out⟩, ⟨by repeat (first | (with_reducible first | exact HB.out | apply below_alloc | apply pw_below_drewN | apply below_drew1 | refine below_set ?_ GE1.out | refine below_set ?_ GE2.out | refine below_set ?_ GE3.out) | exact HB.out)⟩⟩
  subst c15
  rw [if_pos rfl] at H
  replace H := Option.bind_eq_some_iff.mp H
  obtain ⟨t525, A160, H⟩ := H
  try dsimp only at H
  have A16 := Aside0.mk A160
  clear A160
  have H' := Aside0.mk H
  clear H
  have hnb17 := NB1_2.out
  have hnc17 := NB2_1.out
  have hnb18 := NB1_3.out
  have hnc18 := NB3_1.out
  have hcz19 := blk_cell BK1.out; have hfz19 := blk_frozen BK1.out
  go_wp2_with (first | ((with_reducible refine gate_callee (f := 26) rfl ?_); refine goesL_ (some 25) rfl rfl Try.func26 (by kernel_rfl) rfl #[.agg #[.int .i64 a0_0, .int .i64 a0_1]] rfl (by (try simp only [List.map_toArray, List.map_cons, List.map_nil]); first | done | rfl | (simp only [List.length_drop, List.length_take]; rfl)) ?_; (with_reducible refine (dancestudiolaw03_small.calls a0_0 a0_1 true _ A8.out).mono ?_); rintro e w20 ⟨rfl, hb⟩; refine ⟨_, rfl, ?_⟩; replace BK1 := mBb BK1 hb; replace BK2 := mBb BK2 hb; replace BK3 := mBb BK3 hb; replace HB := mSt HB hb; (try clear hb); have hcz21 := blk_cell BK1.out; have hfz21 := blk_frozen BK1.out) | (go_at_call 26; (with_reducible refine (dancestudiolaw03_small.calls a0_2 a0_3 true _ A10.out).mono ?_); rintro e w22 ⟨rfl, hb⟩; replace BK1 := mBb BK1 hb; replace BK2 := mBb BK2 hb; replace BK3 := mBb BK3 hb; replace HB := mSt HB hb; (try clear hb); have hcz23 := blk_cell BK1.out; have hfz23 := blk_frozen BK1.out) | (go_at_call 26; (with_reducible refine (dancestudiolaw03_small.calls a0_4 a0_5 true _ A12.out).mono ?_); rintro e w24 ⟨rfl, hb⟩; replace BK1 := mBb BK1 hb; replace BK2 := mBb BK2 hb; replace BK3 := mBb BK3 hb; replace HB := mSt HB hb; (try clear hb); have hnb25 := NB2_3.out; have hnc25 := NB3_2.out; have hcz26 := blk_cell BK2.out; have hfz26 := blk_frozen BK2.out) | (go_at_call 26; (with_reducible refine (dancestudiolaw03_small.calls a1_0 a1_1 true _ A14.out).mono ?_); rintro e w27 ⟨rfl, hb⟩; replace BK1 := mBb BK1 hb; replace BK2 := mBb BK2 hb; replace BK3 := mBb BK3 hb; replace HB := mSt HB hb; (try clear hb); have hcz28 := blk_cell BK3.out; have hfz28 := blk_frozen BK3.out) | (go_at_call 26; (with_reducible refine (dancestudiolaw03_small.calls a2_0 a2_1 t525 _ A16.out).mono ?_); rintro e w29 ⟨rfl, hb⟩; replace BK1 := mBb BK1 hb; replace BK2 := mBb BK2 hb; replace BK3 := mBb BK3 hb; replace HB := mSt HB hb; (try clear hb)))
  go_meet
  case rel => exact ⟨_, (!t525), (by first | rfl | (simp; done) | (simp [*]; done)), H', ⟨by first | omega | exact Nat.le_refl _⟩, ⟨BK1.out⟩, ⟨BK2.out⟩, ⟨BK3.out⟩, ⟨by repeat (first | (with_reducible first | exact HB.out | apply below_alloc | apply pw_below_drewN | apply below_drew1 | refine below_set ?_ GE1.out | refine below_set ?_ GE2.out | refine below_set ?_ GE3.out) | exact HB.out)⟩⟩
 case rest =>
  clear HC4; try clear c1; try clear c2; try clear p2; try clear c3; try clear c4; try clear c5; try clear c9; try clear c10; try clear c11; try clear c13; try clear c15; try clear c17; try clear c18; try clear c25; try clear c26; try clear c30; try clear c31; try clear c38; try clear c41; try clear c42; try clear c49; try clear c50; try clear c55; try clear c56; try clear hcz19_0; try clear hcz19_1; try clear hcz19_2; try clear hcz19_3; try clear hcz19_4; try clear hcz19_5; try clear hcz19_6; try clear hcz21_0; try clear hcz21_1; try clear hcz21_2; try clear hcz21_3; try clear hcz21_4; try clear hcz21_5; try clear hcz21_6; try clear hcz23_0; try clear hcz23_1; try clear hcz23_2; try clear hcz23_3; try clear hcz23_4; try clear hcz23_5; try clear hcz23_6; try clear hcz26_0; try clear hcz26_1; try clear hcz28_0; try clear hcz28_1; try clear hcz32_0; try clear hcz32_1; try clear hcz32_2; try clear hcz32_3; try clear hcz32_4; try clear hcz32_5; try clear hcz32_6; try clear hcz34_0; try clear hcz34_1; try clear hcz34_2; try clear hcz34_3; try clear hcz34_4; try clear hcz34_5; try clear hcz34_6; try clear hcz36_0; try clear hcz36_1; try clear hcz36_2; try clear hcz36_3; try clear hcz36_4; try clear hcz36_5; try clear hcz36_6; try clear hcz39_0; try clear hcz39_1; try clear hcz43_0; try clear hcz43_1; try clear hcz43_2; try clear hcz43_3; try clear hcz43_4; try clear hcz43_5; try clear hcz43_6; try clear hcz45_0; try clear hcz45_1; try clear hcz45_2; try clear hcz45_3; try clear hcz45_4; try clear hcz45_5; try clear hcz45_6; try clear hcz47_0; try clear hcz47_1; try clear hcz47_2; try clear hcz47_3; try clear hcz47_4; try clear hcz47_5; try clear hcz47_6; try clear hcz51_0; try clear hcz51_1; try clear hcz51_2; try clear hcz51_3; try clear hcz51_4; try clear hcz51_5; try clear hcz51_6; try clear hcz53_0; try clear hcz53_1; try clear hcz53_2; try clear hcz53_3; try clear hcz53_4; try clear hcz53_5; try clear hcz53_6; try clear hcz57_0; try clear hcz57_1; try clear hcz57_2; try clear hcz57_3; try clear hcz57_4; try clear hcz57_5; try clear hcz57_6; try clear hfz19_0; try clear hfz19_1; try clear hfz19_2; try clear hfz19_3; try clear hfz19_4; try clear hfz19_5; try clear hfz19_6; try clear hfz21_0; try clear hfz21_1; try clear hfz21_2; try clear hfz21_3; try clear hfz21_4; try clear hfz21_5; try clear hfz21_6; try clear hfz23_0; try clear hfz23_1; try clear hfz23_2; try clear hfz23_3; try clear hfz23_4; try clear hfz23_5; try clear hfz23_6; try clear hfz26_0; try clear hfz26_1; try clear hfz28_0; try clear hfz28_1; try clear hfz32_0; try clear hfz32_1; try clear hfz32_2; try clear hfz32_3; try clear hfz32_4; try clear hfz32_5; try clear hfz32_6; try clear hfz34_0; try clear hfz34_1; try clear hfz34_2; try clear hfz34_3; try clear hfz34_4; try clear hfz34_5; try clear hfz34_6; try clear hfz36_0; try clear hfz36_1; try clear hfz36_2; try clear hfz36_3; try clear hfz36_4; try clear hfz36_5; try clear hfz36_6; try clear hfz39_0; try clear hfz39_1; try clear hfz43_0; try clear hfz43_1; try clear hfz43_2; try clear hfz43_3; try clear hfz43_4; try clear hfz43_5; try clear hfz43_6; try clear hfz45_0; try clear hfz45_1; try clear hfz45_2; try clear hfz45_3; try clear hfz45_4; try clear hfz45_5; try clear hfz45_6; try clear hfz47_0; try clear hfz47_1; try clear hfz47_2; try clear hfz47_3; try clear hfz47_4; try clear hfz47_5; try clear hfz47_6; try clear hfz51_0; try clear hfz51_1; try clear hfz51_2; try clear hfz51_3; try clear hfz51_4; try clear hfz51_5; try clear hfz51_6; try clear hfz53_0; try clear hfz53_1; try clear hfz53_2; try clear hfz53_3; try clear hfz53_4; try clear hfz53_5; try clear hfz53_6; try clear hfz57_0; try clear hfz57_1; try clear hfz57_2; try clear hfz57_3; try clear hfz57_4; try clear hfz57_5; try clear hfz57_6
  obtain ⟨kq, x48_3, rfl, HA, HJ3, BK1, BK2, BK3, HB⟩ := hcut
  cases kq with
  | zero => exact absurd HA.out (by simp [dancestudiolaw03_GeomShifts.j0])
  | succ kj3 =>
   have H := HA.out
   clear HA
   simp only [dancestudiolaw03_GeomShifts.j0] at H
   by_cases c59 : x48_3 = true
   ·
    subst c59
    rw [if_pos rfl] at H
    replace H := Option.bind_eq_some_iff.mp H
    obtain ⟨t526, A600, H⟩ := H
    try dsimp only at H
    have A60 := Aside0.mk A600
    clear A600
    obtain rfl := Option.some.inj H
    go_wp2_with (first | ((with_reducible refine gate_callee (f := 15) rfl ?_); refine goesL_ (some 49) rfl rfl Try.func15 (by kernel_rfl) rfl #[] rfl (by (try simp only [List.map_toArray, List.map_cons, List.map_nil]); first | done | rfl | (simp only [List.length_drop, List.length_take]; rfl)) ?_; (with_reducible refine (dancestudiolaw03_awake.calls kj3  t526 _ A60.out).mono ?_); rintro e w61 ⟨rfl, hb⟩; refine ⟨_, rfl, ?_⟩; replace BK1 := mBb BK1 hb; replace BK2 := mBb BK2 hb; replace BK3 := mBb BK3 hb; replace HB := mSt HB hb; (try clear hb)))
    go_ret
    exact ⟨by first | rfl | (simp [errW_none, errW_some] <;> rfl) | (simp [*, errW_none, errW_some] <;> rfl), by repeat (first | (with_reducible first | exact HB.out | apply below_alloc | apply pw_below_drewN | apply below_drew1 | refine below_set ?_ GE1.out | refine below_set ?_ GE2.out | refine below_set ?_ GE3.out) | exact HB.out)⟩
   replace c59 := Bool.eq_false_iff.mpr c59
   subst c59
   rw [if_neg (show ¬ (false = true) by decide)] at H
   replace H := Option.bind_eq_some_iff.mp H
   obtain ⟨⟨t529, t530⟩, A620, H⟩ := H
   try dsimp only at H
   have A62 := Aside0.mk A620
   clear A620
   replace H := Option.bind_eq_some_iff.mp H
   obtain ⟨⟨t531, t532⟩, A630, H⟩ := H
   try dsimp only at H
   have A63 := Aside0.mk A630
   clear A630
   replace H := Option.bind_eq_some_iff.mp H
   obtain ⟨⟨t533, t534⟩, A640, H⟩ := H
   try dsimp only at H
   have A64 := Aside0.mk A640
   clear A640
   replace H := Option.bind_eq_some_iff.mp H
   obtain ⟨⟨t535, t536⟩, A650, H⟩ := H
   try dsimp only at H
   have A65 := Aside0.mk A650
   clear A650
   replace H := Option.bind_eq_some_iff.mp H
   obtain ⟨⟨t539, t540⟩, A660, H⟩ := H
   try dsimp only at H
   have A66 := Aside0.mk A660
   clear A660
   replace H := Option.bind_eq_some_iff.mp H
   obtain ⟨⟨t541, t542⟩, A670, H⟩ := H
   try dsimp only at H
   have A67 := Aside0.mk A670
   clear A670
   replace H := Option.bind_eq_some_iff.mp H
   obtain ⟨⟨t543, t544⟩, A680, H⟩ := H
   try dsimp only at H
   have A68 := Aside0.mk A680
   clear A680
   replace H := Option.bind_eq_some_iff.mp H
   obtain ⟨⟨t545, t546⟩, A690, H⟩ := H
   try dsimp only at H
   have A69 := Aside0.mk A690
   clear A690
   have HC70 := Aside0.mk H
   clear H
   try go_wp2
   replace BK1 := Aside0.mk (blk_drew BK1.out); replace BK2 := Aside0.mk (blk_drew BK2.out); replace BK3 := Aside0.mk (blk_drew BK3.out); replace HB := Aside0.mk (below_drew1 HB.out)
   refine start_ (n := 17) (S := fun w' => w'.cell? ⟨gb1, 0, none⟩ = some (.int .i64 a0_0) ∧ w'.cell? ⟨gb1, 1, none⟩ = some (.int .i64 a0_1) ∧ w'.cell? ⟨gb1, 2, none⟩ = some (.int .i64 a0_2) ∧ w'.cell? ⟨gb1, 3, none⟩ = some (.int .i64 a0_3) ∧ w'.cell? ⟨gb1, 4, none⟩ = some (.int .i64 a0_4) ∧ w'.cell? ⟨gb1, 5, none⟩ = some (.int .i64 a0_5) ∧ w'.cell? ⟨gb1, 6, none⟩ = some (.int .i64 a0_6) ∧ w'.cell? ⟨gb2, 0, none⟩ = some (.int .i64 a1_0) ∧ w'.cell? ⟨gb2, 1, none⟩ = some (.int .i64 a1_1)) (ds := []) #[false, false, false, false, false, false, false, false, false, false, false, false, false, false, false, false, false] (by kernel_rfl) rfl rfl ⟨(blk_cell BK1.out 0).trans rfl, (blk_cell BK1.out 1).trans rfl, (blk_cell BK1.out 2).trans rfl, (blk_cell BK1.out 3).trans rfl, (blk_cell BK1.out 4).trans rfl, (blk_cell BK1.out 5).trans rfl, (blk_cell BK1.out 6).trans rfl, (blk_cell BK2.out 0).trans rfl, (blk_cell BK2.out 1).trans rfl⟩ (fun hHeld => ?_); refine with_tabW dancestudiolaw03_GeomShifts.tab3 dancestudiolaw03_GeomShifts.bits3 (fun HT_ HW_ => ?_)
   generalize wc.drew = w71 at BK1 BK2 BK3 HB hHeld ⊢
   refine pure_ (i := 0) (N := some 50) (v := ?_) (a' := ?_) #[true, false, false, false, false, false, false, false, false, false, false, false, false, false, false, false, false] rfl rfl (any_of HT_.out (by kernel_rfl)) (fun _ _ _ h => h) (Or.inl ⟨by rfl, ?_⟩) ?_ ?_
   rotate_left
   ·
    intro w'
    go_simp
    with_reducible rfl
   rotate_left
   ·
    simp only [Act.put, List.setIfInBounds_toArray, List.set_cons_zero, List.set_cons_succ, i64_w, i32_w]
    rfl
   refine pure_ (i := 2) (N := some 52) (v := ?_) (a' := ?_) #[true, false, true, false, false, false, false, false, false, false, false, false, false, false, false, false, false] rfl rfl (any_of HT_.out (by kernel_rfl)) (fun _ _ _ h => h) (Or.inl ⟨by rfl, ?_⟩) ?_ ?_
   rotate_left
   ·
    intro w'
    go_simp
    with_reducible rfl
   rotate_left
   ·
    simp only [Act.put, List.setIfInBounds_toArray, List.set_cons_zero, List.set_cons_succ, i64_w, i32_w]
    rfl
   refine pure_ (i := 4) (N := some 54) (v := ?_) (a' := ?_) #[true, false, true, false, true, false, false, false, false, false, false, false, false, false, false, false, false] rfl rfl (any_of HT_.out (by kernel_rfl)) (fun _ _ _ h => h) (Or.inl ⟨by rfl, ?_⟩) ?_ ?_
   rotate_left
   ·
    intro w'
    go_simp
    with_reducible rfl
   rotate_left
   ·
    simp only [Act.put, List.setIfInBounds_toArray, List.set_cons_zero, List.set_cons_succ, i64_w, i32_w]
    rfl
   refine pure_ (i := 7) (N := some 57) (v := ?_) (a' := ?_) #[true, false, true, false, true, false, false, true, false, false, false, false, false, false, false, false, false] rfl rfl (any_of HT_.out (by kernel_rfl)) (fun _ _ _ h => h) (Or.inl ⟨by rfl, ?_⟩) ?_ ?_
   rotate_left
   ·
    intro w'
    go_simp
    with_reducible rfl
   rotate_left
   ·
    simp only [Act.put, List.setIfInBounds_toArray, List.set_cons_zero, List.set_cons_succ, i64_w, i32_w]
    rfl
   refine pure_ (i := 10) (N := some 60) (v := ?_) (a' := ?_) #[true, false, true, false, true, false, false, true, false, false, true, false, false, false, false, false, false] rfl rfl (any_of HT_.out (by kernel_rfl)) (fun _ _ _ h => h) (Or.inl ⟨by rfl, ?_⟩) ?_ ?_
   rotate_left
   ·
    intro w'
    go_simp
    with_reducible rfl
   rotate_left
   ·
    simp only [Act.put, List.setIfInBounds_toArray, List.set_cons_zero, List.set_cons_succ, i64_w, i32_w]
    rfl
   refine take_ (i := 1) (N := some 51) (v := ?_) (a' := ?_) #[true, true, true, false, true, false, false, true, false, false, true, false, false, false, false, false, false] rfl rfl (take_ofW HT_.out HW_.out (by kernel_rfl)) (fun _ _ _ h => h) (Or.inl ⟨by rfl, ?_⟩) hHeld ?_ ?_
   rotate_left
   ·
    rintro w' ⟨s0, s1, s2, s3, s4, s5, s6, s7, s8⟩
    go_simp
    with_reducible rfl
   rotate_left
   ·
    simp only [Act.put, List.setIfInBounds_toArray, List.set_cons_zero, List.set_cons_succ, i64_w, i32_w]
    rfl
   refine take_ (i := 3) (N := some 53) (v := ?_) (a' := ?_) #[true, true, true, true, true, false, false, true, false, false, true, false, false, false, false, false, false] rfl rfl (take_ofW HT_.out HW_.out (by kernel_rfl)) (fun _ _ _ h => h) (Or.inl ⟨by rfl, ?_⟩) hHeld ?_ ?_
   rotate_left
   ·
    rintro w' ⟨s0, s1, s2, s3, s4, s5, s6, s7, s8⟩
    go_simp
    with_reducible rfl
   rotate_left
   ·
    simp only [Act.put, List.setIfInBounds_toArray, List.set_cons_zero, List.set_cons_succ, i64_w, i32_w]
    rfl
   refine take_ (i := 5) (N := some 55) (v := ?_) (a' := ?_) #[true, true, true, true, true, true, false, true, false, false, true, false, false, false, false, false, false] rfl rfl (take_ofW HT_.out HW_.out (by kernel_rfl)) (fun _ _ _ h => h) (Or.inl ⟨by rfl, ?_⟩) hHeld ?_ ?_
   rotate_left
   ·
    rintro w' ⟨s0, s1, s2, s3, s4, s5, s6, s7, s8⟩
    go_simp
    with_reducible rfl
   rotate_left
   ·
    simp only [Act.put, List.setIfInBounds_toArray, List.set_cons_zero, List.set_cons_succ, i64_w, i32_w]
    rfl
   refine pure_ (i := 6) (N := some 56) (v := ?_) (a' := ?_) #[true, true, true, true, true, true, true, true, false, false, true, false, false, false, false, false, false] rfl rfl (any_of HT_.out (by kernel_rfl)) (fun _ _ _ h => h) (Or.inl ⟨by rfl, ?_⟩) ?_ ?_
   rotate_left
   ·
    intro w'
    go_simp
    with_reducible rfl
   rotate_left
   ·
    simp only [Act.put, List.setIfInBounds_toArray, List.set_cons_zero, List.set_cons_succ, i64_w, i32_w]
    rfl
   refine take_ (i := 8) (N := some 58) (v := ?_) (a' := ?_) #[true, true, true, true, true, true, true, true, true, false, true, false, false, false, false, false, false] rfl rfl (take_ofW HT_.out HW_.out (by kernel_rfl)) (fun _ _ _ h => h) (Or.inl ⟨by rfl, ?_⟩) hHeld ?_ ?_
   rotate_left
   ·
    rintro w' ⟨s0, s1, s2, s3, s4, s5, s6, s7, s8⟩
    go_simp
    with_reducible rfl
   rotate_left
   ·
    simp only [Act.put, List.setIfInBounds_toArray, List.set_cons_zero, List.set_cons_succ, i64_w, i32_w]
    rfl
   refine take_ (i := 9) (N := some 59) (v := ?_) (a' := ?_) #[true, true, true, true, true, true, true, true, true, true, true, false, false, false, false, false, false] rfl rfl (take_ofW HT_.out HW_.out (by kernel_rfl)) (fun _ _ _ h => h) (Or.inl ⟨by rfl, ?_⟩) hHeld ?_ ?_
   rotate_left
   ·
    rintro w' ⟨s0, s1, s2, s3, s4, s5, s6, s7, s8⟩
    go_simp
    with_reducible rfl
   rotate_left
   ·
    simp only [Act.put, List.setIfInBounds_toArray, List.set_cons_zero, List.set_cons_succ, i64_w, i32_w]
    rfl
   refine take_ (i := 11) (N := some 61) (v := ?_) (a' := ?_) #[true, true, true, true, true, true, true, true, true, true, true, true, false, false, false, false, false] rfl rfl (take_ofW HT_.out HW_.out (by kernel_rfl)) (fun _ _ _ h => h) (Or.inl ⟨by rfl, ?_⟩) hHeld ?_ ?_
   rotate_left
   ·
    rintro w' ⟨s0, s1, s2, s3, s4, s5, s6, s7, s8⟩
    go_simp
    with_reducible rfl
   rotate_left
   ·
    simp only [Act.put, List.setIfInBounds_toArray, List.set_cons_zero, List.set_cons_succ, i64_w, i32_w]
    rfl
   refine pure_ (i := 12) (N := some 62) (v := ?_) (a' := ?_) #[true, true, true, true, true, true, true, true, true, true, true, true, true, false, false, false, false] rfl rfl (any_of HT_.out (by kernel_rfl)) (fun _ _ _ h => h) (Or.inl ⟨by rfl, ?_⟩) ?_ ?_
   rotate_left
   ·
    intro w'
    go_simp
    with_reducible rfl
   rotate_left
   ·
    simp only [Act.put, List.setIfInBounds_toArray, List.set_cons_zero, List.set_cons_succ, i64_w, i32_w]
    rfl
   refine join_ (σ := Nat × Nat) 2 #[true, true, true, true, true, true, true, true, true, true, true, true, true, true, true, false, false] (fun s_ => [(7, .pointer (some ⟨s_.1, 0, none⟩)), (8, .pointer (some ⟨s_.2, 0, none⟩))]) (fun s_ w' => (w'.cell? ⟨gb1, 0, none⟩ = some (.int .i64 a0_0) ∧ w'.cell? ⟨gb1, 1, none⟩ = some (.int .i64 a0_1) ∧ w'.cell? ⟨gb1, 2, none⟩ = some (.int .i64 a0_2) ∧ w'.cell? ⟨gb1, 3, none⟩ = some (.int .i64 a0_3) ∧ w'.cell? ⟨gb1, 4, none⟩ = some (.int .i64 a0_4) ∧ w'.cell? ⟨gb1, 5, none⟩ = some (.int .i64 a0_5) ∧ w'.cell? ⟨gb1, 6, none⟩ = some (.int .i64 a0_6) ∧ w'.cell? ⟨gb2, 0, none⟩ = some (.int .i64 a1_0) ∧ w'.cell? ⟨gb2, 1, none⟩ = some (.int .i64 a1_1)) ∧ (w'.heap[gb1]? = some (.cells #[.int .i64 a0_0, .int .i64 a0_1, .int .i64 a0_2, .int .i64 a0_3, .int .i64 a0_4, .int .i64 a0_5, .int .i64 a0_6] 31 (0, 0))) ∧ (w'.heap[gb2]? = some (.cells #[.int .i64 a1_0, .int .i64 a1_1] 23 (0, 0))) ∧ (w'.heap[gb3]? = some (.cells #[.int .i64 a2_0, .int .i64 a2_1] 23 (0, 0))) ∧ (w'.heap[s_.1]? = some (.cells #[.int .i64 0, .int .i64 0, .int .i64 0, .int .i64 0, .int .i64 0] 36 (0, 0))) ∧ (w'.heap[s_.2]? = some (.cells #[.int .i64 0, .int .i64 0, .int .i64 0, .int .i64 0, .int .i64 0] 36 (0, 0))) ∧ (w.heap.size ≤ s_.1) ∧ (w.heap.size ≤ s_.1) ∧ (gb1 ≠ s_.1) ∧ (s_.1 ≠ gb1) ∧ (gb2 ≠ s_.1) ∧ (s_.1 ≠ gb2) ∧ (gb3 ≠ s_.1) ∧ (s_.1 ≠ gb3) ∧ (s_.2 ≠ s_.1) ∧ (s_.1 ≠ s_.2) ∧ (w.heap.size ≤ s_.2) ∧ (w.heap.size ≤ s_.2) ∧ (gb1 ≠ s_.2) ∧ (s_.2 ≠ gb1) ∧ (gb2 ≠ s_.2) ∧ (s_.2 ≠ gb2) ∧ (gb3 ≠ s_.2) ∧ (s_.2 ≠ gb3) ∧ (Below w.heap.size w w')) ?_ ?_
   rotate_left
   ·
    intro hCont
    refine two_ (i := 13) (j := 14) (Ni := some 7) (Nj := some 8) #[true, true, true, true, true, true, true, true, true, true, true, true, true, true, false, false, false] #[true, true, true, true, true, true, true, true, true, true, true, true, true, false, true, false, false] rfl rfl rfl rfl (two_of HT_.out (by kernel_rfl)) (by decide) (by decide) (fun K hK => ?_) (fun K hK => ?_)
    ·
     skip
     refine box_step ?hg (N := 7) ?hd (cs := #[.int .i64 0, .int .i64 0, .int .i64 0, .int .i64 0, .int .i64 0]) (t := 36) ?hr ?_; (case hd => rfl); (case hg => rfl); (case hr => first | (go_simp; done) | (go_simp; rfl))
     intro gb4 hg w72 hbox hb
     have BK4 := Aside0.mk hbox; have GW4 := mGw HB hg; have GE4 := GW4; replace HB := mSt HB hb; have NB1_4 := mNe BK1 hg; have NB4_1 := mSy NB1_4; replace BK1 := mBb BK1 hb; have NB2_4 := mNe BK2 hg; have NB4_2 := mSy NB2_4; replace BK2 := mBb BK2 hb; have NB3_4 := mNe BK3 hg; have NB4_3 := mSy NB3_4; replace BK3 := mBb BK3 hb
     clear hb hbox hg
     refine hK.out _ _ ⟨blk_cell BK1.out 0, blk_cell BK1.out 1, blk_cell BK1.out 2, blk_cell BK1.out 3, blk_cell BK1.out 4, blk_cell BK1.out 5, blk_cell BK1.out 6, blk_cell BK2.out 0, blk_cell BK2.out 1⟩ (fun hHeld => ?_)
     clear hK K
     refine norm_ (a' := ?_) ?_ ?_
     rotate_left
     ·
      show Act.put _ (some 7) _ = _
      simp only [Act.put, List.setIfInBounds_toArray, List.set_cons_zero, List.set_cons_succ, i64_w, i32_w]
      rfl
     refine one_ (i := 14) (N := some 8) #[true, true, true, true, true, true, true, true, true, true, true, true, true, true, true, false, false] rfl rfl (one_of HT_.out (by kernel_rfl)) (by decide) (fun K hK => ?_)
     refine box_step ?hg (N := 8) ?hd (cs := #[.int .i64 0, .int .i64 0, .int .i64 0, .int .i64 0, .int .i64 0]) (t := 36) ?hr ?_; (case hd => rfl); (case hg => rfl); (case hr => first | (go_simp; done) | (go_simp; rfl))
     intro gb5 hg w73 hbox hb
     have BK5 := Aside0.mk hbox; have GW5 := mGw HB hg; have GE5 := GW5; replace HB := mSt HB hb; have NB1_5 := mNe BK1 hg; have NB5_1 := mSy NB1_5; replace BK1 := mBb BK1 hb; have NB2_5 := mNe BK2 hg; have NB5_2 := mSy NB2_5; replace BK2 := mBb BK2 hb; have NB3_5 := mNe BK3 hg; have NB5_3 := mSy NB3_5; replace BK3 := mBb BK3 hb; have NB4_5 := mNe BK4 hg; have NB5_4 := mSy NB4_5; replace BK4 := mBb BK4 hb
     clear hb hbox hg
     refine hK.out _ _ ⟨blk_cell BK1.out 0, blk_cell BK1.out 1, blk_cell BK1.out 2, blk_cell BK1.out 3, blk_cell BK1.out 4, blk_cell BK1.out 5, blk_cell BK1.out 6, blk_cell BK2.out 0, blk_cell BK2.out 1⟩ (fun hHeld => ?_)
     clear hK K
     refine norm_ (a' := ?_) ?_ ?_
     rotate_left
     ·
      show Act.put _ (some 8) _ = _
      simp only [Act.put, List.setIfInBounds_toArray, List.set_cons_zero, List.set_cons_succ, i64_w, i32_w]
      rfl
     exact norm_ (by simp only [putAll, Act.put, List.setIfInBounds_toArray, List.set_cons_zero, List.set_cons_succ]) (hCont (gb4, gb5) _ ⟨hHeld, BK1.out, BK2.out, BK3.out, BK4.out, BK5.out, GW4.out, GE4.out, NB1_4.out, NB4_1.out, NB2_4.out, NB4_2.out, NB3_4.out, NB4_3.out, NB5_4.out, NB4_5.out, GW5.out, GE5.out, NB1_5.out, NB5_1.out, NB2_5.out, NB5_2.out, NB3_5.out, NB5_3.out, HB.out⟩)
    ·
     skip
     refine box_step ?hg (N := 8) ?hd (cs := #[.int .i64 0, .int .i64 0, .int .i64 0, .int .i64 0, .int .i64 0]) (t := 36) ?hr ?_; (case hd => rfl); (case hg => rfl); (case hr => first | (go_simp; done) | (go_simp; rfl))
     intro gb5 hg w72 hbox hb
     have BK5 := Aside0.mk hbox; have GW5 := mGw HB hg; have GE5 := GW5; replace HB := mSt HB hb; have NB1_5 := mNe BK1 hg; have NB5_1 := mSy NB1_5; replace BK1 := mBb BK1 hb; have NB2_5 := mNe BK2 hg; have NB5_2 := mSy NB2_5; replace BK2 := mBb BK2 hb; have NB3_5 := mNe BK3 hg; have NB5_3 := mSy NB3_5; replace BK3 := mBb BK3 hb
     clear hb hbox hg
     refine hK.out _ _ ⟨blk_cell BK1.out 0, blk_cell BK1.out 1, blk_cell BK1.out 2, blk_cell BK1.out 3, blk_cell BK1.out 4, blk_cell BK1.out 5, blk_cell BK1.out 6, blk_cell BK2.out 0, blk_cell BK2.out 1⟩ (fun hHeld => ?_)
     clear hK K
     refine norm_ (a' := ?_) ?_ ?_
     rotate_left
     ·
      show Act.put _ (some 8) _ = _
      simp only [Act.put, List.setIfInBounds_toArray, List.set_cons_zero, List.set_cons_succ, i64_w, i32_w]
      rfl
     refine one_ (i := 13) (N := some 7) #[true, true, true, true, true, true, true, true, true, true, true, true, true, true, true, false, false] rfl rfl (one_of HT_.out (by kernel_rfl)) (by decide) (fun K hK => ?_)
     refine box_step ?hg (N := 7) ?hd (cs := #[.int .i64 0, .int .i64 0, .int .i64 0, .int .i64 0, .int .i64 0]) (t := 36) ?hr ?_; (case hd => rfl); (case hg => rfl); (case hr => first | (go_simp; done) | (go_simp; rfl))
     intro gb4 hg w73 hbox hb
     have BK4 := Aside0.mk hbox; have GW4 := mGw HB hg; have GE4 := GW4; replace HB := mSt HB hb; have NB1_4 := mNe BK1 hg; have NB4_1 := mSy NB1_4; replace BK1 := mBb BK1 hb; have NB2_4 := mNe BK2 hg; have NB4_2 := mSy NB2_4; replace BK2 := mBb BK2 hb; have NB3_4 := mNe BK3 hg; have NB4_3 := mSy NB3_4; replace BK3 := mBb BK3 hb; have NB5_4 := mNe BK5 hg; have NB4_5 := mSy NB5_4; replace BK5 := mBb BK5 hb
     clear hb hbox hg
     refine hK.out _ _ ⟨blk_cell BK1.out 0, blk_cell BK1.out 1, blk_cell BK1.out 2, blk_cell BK1.out 3, blk_cell BK1.out 4, blk_cell BK1.out 5, blk_cell BK1.out 6, blk_cell BK2.out 0, blk_cell BK2.out 1⟩ (fun hHeld => ?_)
     clear hK K
     refine norm_ (a' := ?_) ?_ ?_
     rotate_left
     ·
      show Act.put _ (some 7) _ = _
      simp only [Act.put, List.setIfInBounds_toArray, List.set_cons_zero, List.set_cons_succ, i64_w, i32_w]
      rfl
     exact norm_ (by simp only [putAll, Act.put, List.setIfInBounds_toArray, List.set_cons_zero, List.set_cons_succ]) (hCont (gb4, gb5) _ ⟨hHeld, BK1.out, BK2.out, BK3.out, BK4.out, BK5.out, GW4.out, GE4.out, NB1_4.out, NB4_1.out, NB2_4.out, NB4_2.out, NB3_4.out, NB4_3.out, NB5_4.out, NB4_5.out, GW5.out, GE5.out, NB1_5.out, NB5_1.out, NB2_5.out, NB5_2.out, NB3_5.out, NB5_3.out, HB.out⟩)
   rintro ⟨gb4, gb5⟩ w74 ⟨hS_, h0_, h1_, h2_, h3_, h4_, h5_, h6_, h7_, h8_, h9_, h10_, h11_, h12_, h13_, h14_, h15_, h16_, h17_, h18_, h19_, h20_, h21_, h22_, h23_⟩
   try dsimp only at h0_ h1_ h2_ h3_ h4_ h5_ h6_ h7_ h8_ h9_ h10_ h11_ h12_ h13_ h14_ h15_ h16_ h17_ h18_ h19_ h20_ h21_ h22_ h23_
   have n0_ := Aside0.mk h0_
   have n1_ := Aside0.mk h1_
   have n2_ := Aside0.mk h2_
   have n3_ := Aside0.mk h3_
   have n4_ := Aside0.mk h4_
   have n5_ := Aside0.mk h5_
   have n6_ := Aside0.mk h6_
   have n7_ := Aside0.mk h7_
   have n8_ := Aside0.mk h8_
   have n9_ := Aside0.mk h9_
   have n10_ := Aside0.mk h10_
   have n11_ := Aside0.mk h11_
   have n12_ := Aside0.mk h12_
   have n13_ := Aside0.mk h13_
   have n14_ := Aside0.mk h14_
   have n15_ := Aside0.mk h15_
   have n16_ := Aside0.mk h16_
   have n17_ := Aside0.mk h17_
   have n18_ := Aside0.mk h18_
   have n19_ := Aside0.mk h19_
   have n20_ := Aside0.mk h20_
   have n21_ := Aside0.mk h21_
   have n22_ := Aside0.mk h22_
   have n23_ := Aside0.mk h23_
   clear BK1; clear BK2; clear BK3; clear HB
   clear h0_ h1_ h2_ h3_ h4_ h5_ h6_ h7_ h8_ h9_ h10_ h11_ h12_ h13_ h14_ h15_ h16_ h17_ h18_ h19_ h20_ h21_ h22_ h23_
   have BK1 := n0_
   have BK2 := n1_
   have BK3 := n2_
   have BK4 := n3_
   have BK5 := n4_
   have GW4 := n5_
   have GE4 := n6_
   have NB1_4 := n7_
   have NB4_1 := n8_
   have NB2_4 := n9_
   have NB4_2 := n10_
   have NB3_4 := n11_
   have NB4_3 := n12_
   have NB5_4 := n13_
   have NB4_5 := n14_
   have GW5 := n15_
   have GE5 := n16_
   have NB1_5 := n17_
   have NB5_1 := n18_
   have NB2_5 := n19_
   have NB5_2 := n20_
   have NB3_5 := n21_
   have NB5_3 := n22_
   have HB := n23_
   clear n0_ n1_ n2_ n3_ n4_ n5_ n6_ n7_ n8_ n9_ n10_ n11_ n12_ n13_ n14_ n15_ n16_ n17_ n18_ n19_ n20_ n21_ n22_ n23_
   have hHeld : w74.cell? ⟨gb1, 0, none⟩ = some (.int .i64 a0_0) ∧ w74.cell? ⟨gb1, 1, none⟩ = some (.int .i64 a0_1) ∧ w74.cell? ⟨gb1, 2, none⟩ = some (.int .i64 a0_2) ∧ w74.cell? ⟨gb1, 3, none⟩ = some (.int .i64 a0_3) ∧ w74.cell? ⟨gb1, 4, none⟩ = some (.int .i64 a0_4) ∧ w74.cell? ⟨gb1, 5, none⟩ = some (.int .i64 a0_5) ∧ w74.cell? ⟨gb1, 6, none⟩ = some (.int .i64 a0_6) ∧ w74.cell? ⟨gb2, 0, none⟩ = some (.int .i64 a1_0) ∧ w74.cell? ⟨gb2, 1, none⟩ = some (.int .i64 a1_1) := hS_
   refine norm_ (a' := ?_) ?_ ?_
   rotate_left
   ·
    simp only [putAll, Act.put, List.setIfInBounds_toArray, List.set_cons_zero, List.set_cons_succ]
    rfl
   refine one_ (i := 15) (N := none) #[true, true, true, true, true, true, true, true, true, true, true, true, true, true, true, true, false] rfl rfl (one_of HT_.out (by kernel_rfl)) (by decide) (fun K hK => ?_)
   have hs75 : w74.cell? ⟨gb4, 0, none⟩ = some (.int .i64 0) := (blk_cell BK4.out 0).trans rfl
   have hfs75 := blk_frozen BK4.out 0
   have hns75_0 := NB1_4.out
   have hns75_1 := NB2_4.out
   have hns75_2 := NB3_4.out
   have hns75_4 := NB5_4.out
   have hms75_0 := NB4_1.out
   have hms75_1 := NB4_2.out
   have hms75_2 := NB4_3.out
   have hms75_4 := NB4_5.out
   have hs76 : w74.cell? ⟨gb4, 1, none⟩ = some (.int .i64 0) := (blk_cell BK4.out 1).trans rfl
   have hfs76 := blk_frozen BK4.out 1
   have hns76_0 := NB1_4.out
   have hns76_1 := NB2_4.out
   have hns76_2 := NB3_4.out
   have hns76_4 := NB5_4.out
   have hms76_0 := NB4_1.out
   have hms76_1 := NB4_2.out
   have hms76_2 := NB4_3.out
   have hms76_4 := NB4_5.out
   have hs77 : w74.cell? ⟨gb4, 2, none⟩ = some (.int .i64 0) := (blk_cell BK4.out 2).trans rfl
   have hfs77 := blk_frozen BK4.out 2
   have hns77_0 := NB1_4.out
   have hns77_1 := NB2_4.out
   have hns77_2 := NB3_4.out
   have hns77_4 := NB5_4.out
   have hms77_0 := NB4_1.out
   have hms77_1 := NB4_2.out
   have hms77_2 := NB4_3.out
   have hms77_4 := NB4_5.out
   have hs78 : w74.cell? ⟨gb4, 3, none⟩ = some (.int .i64 0) := (blk_cell BK4.out 3).trans rfl
   have hfs78 := blk_frozen BK4.out 3
   have hns78_0 := NB1_4.out
   have hns78_1 := NB2_4.out
   have hns78_2 := NB3_4.out
   have hns78_4 := NB5_4.out
   have hms78_0 := NB4_1.out
   have hms78_1 := NB4_2.out
   have hms78_2 := NB4_3.out
   have hms78_4 := NB4_5.out
   have hs79 : w74.cell? ⟨gb4, 4, none⟩ = some (.int .i64 0) := (blk_cell BK4.out 4).trans rfl
   have hfs79 := blk_frozen BK4.out 4
   have hns79_0 := NB1_4.out
   have hns79_1 := NB2_4.out
   have hns79_2 := NB3_4.out
   have hns79_4 := NB5_4.out
   have hms79_0 := NB4_1.out
   have hms79_1 := NB4_2.out
   have hms79_2 := NB4_3.out
   have hms79_4 := NB4_5.out
   refine skip_ (w1 := ?_) (by rfl) rfl ?_ ?_
   rotate_left
   ·
    go_simp
    rfl
   refine hK.out _ _ ⟨((cell_far (p := ⟨gb4, _, none⟩) NB1_4.out _).trans (((cell_far (p := ⟨gb4, _, none⟩) NB1_4.out _).trans (((cell_far (p := ⟨gb4, _, none⟩) NB1_4.out _).trans (((cell_far (p := ⟨gb4, _, none⟩) NB1_4.out _).trans (((cell_far (p := ⟨gb4, _, none⟩) NB1_4.out _).trans (hHeld.1)))))))))), ((cell_far (p := ⟨gb4, _, none⟩) NB1_4.out _).trans (((cell_far (p := ⟨gb4, _, none⟩) NB1_4.out _).trans (((cell_far (p := ⟨gb4, _, none⟩) NB1_4.out _).trans (((cell_far (p := ⟨gb4, _, none⟩) NB1_4.out _).trans (((cell_far (p := ⟨gb4, _, none⟩) NB1_4.out _).trans (hHeld.2.1)))))))))), ((cell_far (p := ⟨gb4, _, none⟩) NB1_4.out _).trans (((cell_far (p := ⟨gb4, _, none⟩) NB1_4.out _).trans (((cell_far (p := ⟨gb4, _, none⟩) NB1_4.out _).trans (((cell_far (p := ⟨gb4, _, none⟩) NB1_4.out _).trans (((cell_far (p := ⟨gb4, _, none⟩) NB1_4.out _).trans (hHeld.2.2.1)))))))))), ((cell_far (p := ⟨gb4, _, none⟩) NB1_4.out _).trans (((cell_far (p := ⟨gb4, _, none⟩) NB1_4.out _).trans (((cell_far (p := ⟨gb4, _, none⟩) NB1_4.out _).trans (((cell_far (p := ⟨gb4, _, none⟩) NB1_4.out _).trans (((cell_far (p := ⟨gb4, _, none⟩) NB1_4.out _).trans (hHeld.2.2.2.1)))))))))), ((cell_far (p := ⟨gb4, _, none⟩) NB1_4.out _).trans (((cell_far (p := ⟨gb4, _, none⟩) NB1_4.out _).trans (((cell_far (p := ⟨gb4, _, none⟩) NB1_4.out _).trans (((cell_far (p := ⟨gb4, _, none⟩) NB1_4.out _).trans (((cell_far (p := ⟨gb4, _, none⟩) NB1_4.out _).trans (hHeld.2.2.2.2.1)))))))))), ((cell_far (p := ⟨gb4, _, none⟩) NB1_4.out _).trans (((cell_far (p := ⟨gb4, _, none⟩) NB1_4.out _).trans (((cell_far (p := ⟨gb4, _, none⟩) NB1_4.out _).trans (((cell_far (p := ⟨gb4, _, none⟩) NB1_4.out _).trans (((cell_far (p := ⟨gb4, _, none⟩) NB1_4.out _).trans (hHeld.2.2.2.2.2.1)))))))))), ((cell_far (p := ⟨gb4, _, none⟩) NB1_4.out _).trans (((cell_far (p := ⟨gb4, _, none⟩) NB1_4.out _).trans (((cell_far (p := ⟨gb4, _, none⟩) NB1_4.out _).trans (((cell_far (p := ⟨gb4, _, none⟩) NB1_4.out _).trans (((cell_far (p := ⟨gb4, _, none⟩) NB1_4.out _).trans (hHeld.2.2.2.2.2.2.1)))))))))), ((cell_far (p := ⟨gb4, _, none⟩) NB2_4.out _).trans (((cell_far (p := ⟨gb4, _, none⟩) NB2_4.out _).trans (((cell_far (p := ⟨gb4, _, none⟩) NB2_4.out _).trans (((cell_far (p := ⟨gb4, _, none⟩) NB2_4.out _).trans (((cell_far (p := ⟨gb4, _, none⟩) NB2_4.out _).trans (hHeld.2.2.2.2.2.2.2.1)))))))))), ((cell_far (p := ⟨gb4, _, none⟩) NB2_4.out _).trans (((cell_far (p := ⟨gb4, _, none⟩) NB2_4.out _).trans (((cell_far (p := ⟨gb4, _, none⟩) NB2_4.out _).trans (((cell_far (p := ⟨gb4, _, none⟩) NB2_4.out _).trans (((cell_far (p := ⟨gb4, _, none⟩) NB2_4.out _).trans (hHeld.2.2.2.2.2.2.2.2))))))))))⟩ (fun hHeld => ?_)
   clear hK K
   refine one_ (i := 16) (N := none) #[true, true, true, true, true, true, true, true, true, true, true, true, true, true, true, true, true] rfl rfl (one_of HT_.out (by kernel_rfl)) (by decide) (fun K hK => ?_)
   have hs80 : w74.cell? ⟨gb5, 0, none⟩ = some (.int .i64 0) := (blk_cell BK5.out 0).trans rfl
   have hfs80 := blk_frozen BK5.out 0
   have hns80_0 := NB1_5.out
   have hns80_1 := NB2_5.out
   have hns80_2 := NB3_5.out
   have hns80_3 := NB4_5.out
   have hms80_0 := NB5_1.out
   have hms80_1 := NB5_2.out
   have hms80_2 := NB5_3.out
   have hms80_3 := NB5_4.out
   have hs81 : w74.cell? ⟨gb5, 1, none⟩ = some (.int .i64 0) := (blk_cell BK5.out 1).trans rfl
   have hfs81 := blk_frozen BK5.out 1
   have hns81_0 := NB1_5.out
   have hns81_1 := NB2_5.out
   have hns81_2 := NB3_5.out
   have hns81_3 := NB4_5.out
   have hms81_0 := NB5_1.out
   have hms81_1 := NB5_2.out
   have hms81_2 := NB5_3.out
   have hms81_3 := NB5_4.out
   have hs82 : w74.cell? ⟨gb5, 2, none⟩ = some (.int .i64 0) := (blk_cell BK5.out 2).trans rfl
   have hfs82 := blk_frozen BK5.out 2
   have hns82_0 := NB1_5.out
   have hns82_1 := NB2_5.out
   have hns82_2 := NB3_5.out
   have hns82_3 := NB4_5.out
   have hms82_0 := NB5_1.out
   have hms82_1 := NB5_2.out
   have hms82_2 := NB5_3.out
   have hms82_3 := NB5_4.out
   have hs83 : w74.cell? ⟨gb5, 3, none⟩ = some (.int .i64 0) := (blk_cell BK5.out 3).trans rfl
   have hfs83 := blk_frozen BK5.out 3
   have hns83_0 := NB1_5.out
   have hns83_1 := NB2_5.out
   have hns83_2 := NB3_5.out
   have hns83_3 := NB4_5.out
   have hms83_0 := NB5_1.out
   have hms83_1 := NB5_2.out
   have hms83_2 := NB5_3.out
   have hms83_3 := NB5_4.out
   have hs84 : w74.cell? ⟨gb5, 4, none⟩ = some (.int .i64 0) := (blk_cell BK5.out 4).trans rfl
   have hfs84 := blk_frozen BK5.out 4
   have hns84_0 := NB1_5.out
   have hns84_1 := NB2_5.out
   have hns84_2 := NB3_5.out
   have hns84_3 := NB4_5.out
   have hms84_0 := NB5_1.out
   have hms84_1 := NB5_2.out
   have hms84_2 := NB5_3.out
   have hms84_3 := NB5_4.out
   refine skip_ (w1 := ?_) (by rfl) rfl ?_ ?_
   rotate_left
   ·
    go_simp
    rfl
   refine hK.out _ _ ⟨((cell_far (p := ⟨gb5, _, none⟩) NB1_5.out _).trans (((cell_far (p := ⟨gb5, _, none⟩) NB1_5.out _).trans (((cell_far (p := ⟨gb5, _, none⟩) NB1_5.out _).trans (((cell_far (p := ⟨gb5, _, none⟩) NB1_5.out _).trans (((cell_far (p := ⟨gb5, _, none⟩) NB1_5.out _).trans (hHeld.1)))))))))), ((cell_far (p := ⟨gb5, _, none⟩) NB1_5.out _).trans (((cell_far (p := ⟨gb5, _, none⟩) NB1_5.out _).trans (((cell_far (p := ⟨gb5, _, none⟩) NB1_5.out _).trans (((cell_far (p := ⟨gb5, _, none⟩) NB1_5.out _).trans (((cell_far (p := ⟨gb5, _, none⟩) NB1_5.out _).trans (hHeld.2.1)))))))))), ((cell_far (p := ⟨gb5, _, none⟩) NB1_5.out _).trans (((cell_far (p := ⟨gb5, _, none⟩) NB1_5.out _).trans (((cell_far (p := ⟨gb5, _, none⟩) NB1_5.out _).trans (((cell_far (p := ⟨gb5, _, none⟩) NB1_5.out _).trans (((cell_far (p := ⟨gb5, _, none⟩) NB1_5.out _).trans (hHeld.2.2.1)))))))))), ((cell_far (p := ⟨gb5, _, none⟩) NB1_5.out _).trans (((cell_far (p := ⟨gb5, _, none⟩) NB1_5.out _).trans (((cell_far (p := ⟨gb5, _, none⟩) NB1_5.out _).trans (((cell_far (p := ⟨gb5, _, none⟩) NB1_5.out _).trans (((cell_far (p := ⟨gb5, _, none⟩) NB1_5.out _).trans (hHeld.2.2.2.1)))))))))), ((cell_far (p := ⟨gb5, _, none⟩) NB1_5.out _).trans (((cell_far (p := ⟨gb5, _, none⟩) NB1_5.out _).trans (((cell_far (p := ⟨gb5, _, none⟩) NB1_5.out _).trans (((cell_far (p := ⟨gb5, _, none⟩) NB1_5.out _).trans (((cell_far (p := ⟨gb5, _, none⟩) NB1_5.out _).trans (hHeld.2.2.2.2.1)))))))))), ((cell_far (p := ⟨gb5, _, none⟩) NB1_5.out _).trans (((cell_far (p := ⟨gb5, _, none⟩) NB1_5.out _).trans (((cell_far (p := ⟨gb5, _, none⟩) NB1_5.out _).trans (((cell_far (p := ⟨gb5, _, none⟩) NB1_5.out _).trans (((cell_far (p := ⟨gb5, _, none⟩) NB1_5.out _).trans (hHeld.2.2.2.2.2.1)))))))))), ((cell_far (p := ⟨gb5, _, none⟩) NB1_5.out _).trans (((cell_far (p := ⟨gb5, _, none⟩) NB1_5.out _).trans (((cell_far (p := ⟨gb5, _, none⟩) NB1_5.out _).trans (((cell_far (p := ⟨gb5, _, none⟩) NB1_5.out _).trans (((cell_far (p := ⟨gb5, _, none⟩) NB1_5.out _).trans (hHeld.2.2.2.2.2.2.1)))))))))), ((cell_far (p := ⟨gb5, _, none⟩) NB2_5.out _).trans (((cell_far (p := ⟨gb5, _, none⟩) NB2_5.out _).trans (((cell_far (p := ⟨gb5, _, none⟩) NB2_5.out _).trans (((cell_far (p := ⟨gb5, _, none⟩) NB2_5.out _).trans (((cell_far (p := ⟨gb5, _, none⟩) NB2_5.out _).trans (hHeld.2.2.2.2.2.2.2.1)))))))))), ((cell_far (p := ⟨gb5, _, none⟩) NB2_5.out _).trans (((cell_far (p := ⟨gb5, _, none⟩) NB2_5.out _).trans (((cell_far (p := ⟨gb5, _, none⟩) NB2_5.out _).trans (((cell_far (p := ⟨gb5, _, none⟩) NB2_5.out _).trans (((cell_far (p := ⟨gb5, _, none⟩) NB2_5.out _).trans (hHeld.2.2.2.2.2.2.2.2))))))))))⟩ (fun hHeld => ?_)
   clear hK K
   refine done_ (done_of HT_.out (by kernel_rfl)) ?_
   try go_wp2
   have n0_ : Aside0 (((((((((((w74.setCell ⟨gb4, 0, none⟩ (.int .i64 a0_0)).setCell ⟨gb4, 1, none⟩ (.int .i64 a0_1)).setCell ⟨gb4, 2, none⟩ (.int .i64 a0_2)).setCell ⟨gb4, 3, none⟩ (.int .i64 a0_3)).setCell ⟨gb4, 4, none⟩ (.int .i64 a0_6)).setCell ⟨gb5, 0, none⟩ (.int .i64 a0_4)).setCell ⟨gb5, 1, none⟩ (.int .i64 a0_5)).setCell ⟨gb5, 2, none⟩ (.int .i64 a1_0)).setCell ⟨gb5, 3, none⟩ (.int .i64 a1_1)).setCell ⟨gb5, 4, none⟩ (.int .i64 a0_6)).heap[gb1]? = some (.cells #[.int .i64 a0_0, .int .i64 a0_1, .int .i64 a0_2, .int .i64 a0_3, .int .i64 a0_4, .int .i64 a0_5, .int .i64 a0_6] 31 (0, 0))) := ⟨by (with_reducible repeat (first | refine blk_drewN ?_ _ | refine blk_drew ?_ | refine blk_alloc ?_ _)); refine blk_far ?_ NB1_5.out _; (with_reducible repeat (first | refine blk_drewN ?_ _ | refine blk_drew ?_ | refine blk_alloc ?_ _)); refine blk_far ?_ NB1_5.out _; (with_reducible repeat (first | refine blk_drewN ?_ _ | refine blk_drew ?_ | refine blk_alloc ?_ _)); refine blk_far ?_ NB1_5.out _; (with_reducible repeat (first | refine blk_drewN ?_ _ | refine blk_drew ?_ | refine blk_alloc ?_ _)); refine blk_far ?_ NB1_5.out _; (with_reducible repeat (first | refine blk_drewN ?_ _ | refine blk_drew ?_ | refine blk_alloc ?_ _)); refine blk_far ?_ NB1_5.out _; (with_reducible repeat (first | refine blk_drewN ?_ _ | refine blk_drew ?_ | refine blk_alloc ?_ _)); refine blk_far ?_ NB1_4.out _; (with_reducible repeat (first | refine blk_drewN ?_ _ | refine blk_drew ?_ | refine blk_alloc ?_ _)); refine blk_far ?_ NB1_4.out _; (with_reducible repeat (first | refine blk_drewN ?_ _ | refine blk_drew ?_ | refine blk_alloc ?_ _)); refine blk_far ?_ NB1_4.out _; (with_reducible repeat (first | refine blk_drewN ?_ _ | refine blk_drew ?_ | refine blk_alloc ?_ _)); refine blk_far ?_ NB1_4.out _; (with_reducible repeat (first | refine blk_drewN ?_ _ | refine blk_drew ?_ | refine blk_alloc ?_ _)); refine blk_far ?_ NB1_4.out _; (with_reducible repeat (first | refine blk_drewN ?_ _ | refine blk_drew ?_ | refine blk_alloc ?_ _)); exact BK1.out⟩
   have n1_ : Aside0 (((((((((((w74.setCell ⟨gb4, 0, none⟩ (.int .i64 a0_0)).setCell ⟨gb4, 1, none⟩ (.int .i64 a0_1)).setCell ⟨gb4, 2, none⟩ (.int .i64 a0_2)).setCell ⟨gb4, 3, none⟩ (.int .i64 a0_3)).setCell ⟨gb4, 4, none⟩ (.int .i64 a0_6)).setCell ⟨gb5, 0, none⟩ (.int .i64 a0_4)).setCell ⟨gb5, 1, none⟩ (.int .i64 a0_5)).setCell ⟨gb5, 2, none⟩ (.int .i64 a1_0)).setCell ⟨gb5, 3, none⟩ (.int .i64 a1_1)).setCell ⟨gb5, 4, none⟩ (.int .i64 a0_6)).heap[gb2]? = some (.cells #[.int .i64 a1_0, .int .i64 a1_1] 23 (0, 0))) := ⟨by (with_reducible repeat (first | refine blk_drewN ?_ _ | refine blk_drew ?_ | refine blk_alloc ?_ _)); refine blk_far ?_ NB2_5.out _; (with_reducible repeat (first | refine blk_drewN ?_ _ | refine blk_drew ?_ | refine blk_alloc ?_ _)); refine blk_far ?_ NB2_5.out _; (with_reducible repeat (first | refine blk_drewN ?_ _ | refine blk_drew ?_ | refine blk_alloc ?_ _)); refine blk_far ?_ NB2_5.out _; (with_reducible repeat (first | refine blk_drewN ?_ _ | refine blk_drew ?_ | refine blk_alloc ?_ _)); refine blk_far ?_ NB2_5.out _; (with_reducible repeat (first | refine blk_drewN ?_ _ | refine blk_drew ?_ | refine blk_alloc ?_ _)); refine blk_far ?_ NB2_5.out _; (with_reducible repeat (first | refine blk_drewN ?_ _ | refine blk_drew ?_ | refine blk_alloc ?_ _)); refine blk_far ?_ NB2_4.out _; (with_reducible repeat (first | refine blk_drewN ?_ _ | refine blk_drew ?_ | refine blk_alloc ?_ _)); refine blk_far ?_ NB2_4.out _; (with_reducible repeat (first | refine blk_drewN ?_ _ | refine blk_drew ?_ | refine blk_alloc ?_ _)); refine blk_far ?_ NB2_4.out _; (with_reducible repeat (first | refine blk_drewN ?_ _ | refine blk_drew ?_ | refine blk_alloc ?_ _)); refine blk_far ?_ NB2_4.out _; (with_reducible repeat (first | refine blk_drewN ?_ _ | refine blk_drew ?_ | refine blk_alloc ?_ _)); refine blk_far ?_ NB2_4.out _; (with_reducible repeat (first | refine blk_drewN ?_ _ | refine blk_drew ?_ | refine blk_alloc ?_ _)); exact BK2.out⟩
   have n2_ : Aside0 (((((((((((w74.setCell ⟨gb4, 0, none⟩ (.int .i64 a0_0)).setCell ⟨gb4, 1, none⟩ (.int .i64 a0_1)).setCell ⟨gb4, 2, none⟩ (.int .i64 a0_2)).setCell ⟨gb4, 3, none⟩ (.int .i64 a0_3)).setCell ⟨gb4, 4, none⟩ (.int .i64 a0_6)).setCell ⟨gb5, 0, none⟩ (.int .i64 a0_4)).setCell ⟨gb5, 1, none⟩ (.int .i64 a0_5)).setCell ⟨gb5, 2, none⟩ (.int .i64 a1_0)).setCell ⟨gb5, 3, none⟩ (.int .i64 a1_1)).setCell ⟨gb5, 4, none⟩ (.int .i64 a0_6)).heap[gb3]? = some (.cells #[.int .i64 a2_0, .int .i64 a2_1] 23 (0, 0))) := ⟨by (with_reducible repeat (first | refine blk_drewN ?_ _ | refine blk_drew ?_ | refine blk_alloc ?_ _)); refine blk_far ?_ NB3_5.out _; (with_reducible repeat (first | refine blk_drewN ?_ _ | refine blk_drew ?_ | refine blk_alloc ?_ _)); refine blk_far ?_ NB3_5.out _; (with_reducible repeat (first | refine blk_drewN ?_ _ | refine blk_drew ?_ | refine blk_alloc ?_ _)); refine blk_far ?_ NB3_5.out _; (with_reducible repeat (first | refine blk_drewN ?_ _ | refine blk_drew ?_ | refine blk_alloc ?_ _)); refine blk_far ?_ NB3_5.out _; (with_reducible repeat (first | refine blk_drewN ?_ _ | refine blk_drew ?_ | refine blk_alloc ?_ _)); refine blk_far ?_ NB3_5.out _; (with_reducible repeat (first | refine blk_drewN ?_ _ | refine blk_drew ?_ | refine blk_alloc ?_ _)); refine blk_far ?_ NB3_4.out _; (with_reducible repeat (first | refine blk_drewN ?_ _ | refine blk_drew ?_ | refine blk_alloc ?_ _)); refine blk_far ?_ NB3_4.out _; (with_reducible repeat (first | refine blk_drewN ?_ _ | refine blk_drew ?_ | refine blk_alloc ?_ _)); refine blk_far ?_ NB3_4.out _; (with_reducible repeat (first | refine blk_drewN ?_ _ | refine blk_drew ?_ | refine blk_alloc ?_ _)); refine blk_far ?_ NB3_4.out _; (with_reducible repeat (first | refine blk_drewN ?_ _ | refine blk_drew ?_ | refine blk_alloc ?_ _)); refine blk_far ?_ NB3_4.out _; (with_reducible repeat (first | refine blk_drewN ?_ _ | refine blk_drew ?_ | refine blk_alloc ?_ _)); exact BK3.out⟩
   have n3_ : Aside0 (((((((((((w74.setCell ⟨gb4, 0, none⟩ (.int .i64 a0_0)).setCell ⟨gb4, 1, none⟩ (.int .i64 a0_1)).setCell ⟨gb4, 2, none⟩ (.int .i64 a0_2)).setCell ⟨gb4, 3, none⟩ (.int .i64 a0_3)).setCell ⟨gb4, 4, none⟩ (.int .i64 a0_6)).setCell ⟨gb5, 0, none⟩ (.int .i64 a0_4)).setCell ⟨gb5, 1, none⟩ (.int .i64 a0_5)).setCell ⟨gb5, 2, none⟩ (.int .i64 a1_0)).setCell ⟨gb5, 3, none⟩ (.int .i64 a1_1)).setCell ⟨gb5, 4, none⟩ (.int .i64 a0_6)).heap[gb4]? = some (.cells #[.int .i64 a0_0, .int .i64 a0_1, .int .i64 a0_2, .int .i64 a0_3, .int .i64 a0_6] 36 (0, 0))) := ⟨by (with_reducible repeat (first | refine blk_drewN ?_ _ | refine blk_drew ?_ | refine blk_alloc ?_ _)); refine blk_far ?_ NB4_5.out _; (with_reducible repeat (first | refine blk_drewN ?_ _ | refine blk_drew ?_ | refine blk_alloc ?_ _)); refine blk_far ?_ NB4_5.out _; (with_reducible repeat (first | refine blk_drewN ?_ _ | refine blk_drew ?_ | refine blk_alloc ?_ _)); refine blk_far ?_ NB4_5.out _; (with_reducible repeat (first | refine blk_drewN ?_ _ | refine blk_drew ?_ | refine blk_alloc ?_ _)); refine blk_far ?_ NB4_5.out _; (with_reducible repeat (first | refine blk_drewN ?_ _ | refine blk_drew ?_ | refine blk_alloc ?_ _)); refine blk_far ?_ NB4_5.out _; (with_reducible repeat (first | refine blk_drewN ?_ _ | refine blk_drew ?_ | refine blk_alloc ?_ _)); refine blk_put (cs := #[.int .i64 a0_0, .int .i64 a0_1, .int .i64 a0_2, .int .i64 a0_3, .int .i64 0]) ?_ 4 _ rfl; (with_reducible repeat (first | refine blk_drewN ?_ _ | refine blk_drew ?_ | refine blk_alloc ?_ _)); refine blk_put (cs := #[.int .i64 a0_0, .int .i64 a0_1, .int .i64 a0_2, .int .i64 0, .int .i64 0]) ?_ 3 _ rfl; (with_reducible repeat (first | refine blk_drewN ?_ _ | refine blk_drew ?_ | refine blk_alloc ?_ _)); refine blk_put (cs := #[.int .i64 a0_0, .int .i64 a0_1, .int .i64 0, .int .i64 0, .int .i64 0]) ?_ 2 _ rfl; (with_reducible repeat (first | refine blk_drewN ?_ _ | refine blk_drew ?_ | refine blk_alloc ?_ _)); refine blk_put (cs := #[.int .i64 a0_0, .int .i64 0, .int .i64 0, .int .i64 0, .int .i64 0]) ?_ 1 _ rfl; (with_reducible repeat (first | refine blk_drewN ?_ _ | refine blk_drew ?_ | refine blk_alloc ?_ _)); refine blk_put (cs := #[.int .i64 0, .int .i64 0, .int .i64 0, .int .i64 0, .int .i64 0]) ?_ 0 _ rfl; (with_reducible repeat (first | refine blk_drewN ?_ _ | refine blk_drew ?_ | refine blk_alloc ?_ _)); exact BK4.out⟩
   have n4_ : Aside0 (((((((((((w74.setCell ⟨gb4, 0, none⟩ (.int .i64 a0_0)).setCell ⟨gb4, 1, none⟩ (.int .i64 a0_1)).setCell ⟨gb4, 2, none⟩ (.int .i64 a0_2)).setCell ⟨gb4, 3, none⟩ (.int .i64 a0_3)).setCell ⟨gb4, 4, none⟩ (.int .i64 a0_6)).setCell ⟨gb5, 0, none⟩ (.int .i64 a0_4)).setCell ⟨gb5, 1, none⟩ (.int .i64 a0_5)).setCell ⟨gb5, 2, none⟩ (.int .i64 a1_0)).setCell ⟨gb5, 3, none⟩ (.int .i64 a1_1)).setCell ⟨gb5, 4, none⟩ (.int .i64 a0_6)).heap[gb5]? = some (.cells #[.int .i64 a0_4, .int .i64 a0_5, .int .i64 a1_0, .int .i64 a1_1, .int .i64 a0_6] 36 (0, 0))) := ⟨by (with_reducible repeat (first | refine blk_drewN ?_ _ | refine blk_drew ?_ | refine blk_alloc ?_ _)); refine blk_put (cs := #[.int .i64 a0_4, .int .i64 a0_5, .int .i64 a1_0, .int .i64 a1_1, .int .i64 0]) ?_ 4 _ rfl; (with_reducible repeat (first | refine blk_drewN ?_ _ | refine blk_drew ?_ | refine blk_alloc ?_ _)); refine blk_put (cs := #[.int .i64 a0_4, .int .i64 a0_5, .int .i64 a1_0, .int .i64 0, .int .i64 0]) ?_ 3 _ rfl; (with_reducible repeat (first | refine blk_drewN ?_ _ | refine blk_drew ?_ | refine blk_alloc ?_ _)); refine blk_put (cs := #[.int .i64 a0_4, .int .i64 a0_5, .int .i64 0, .int .i64 0, .int .i64 0]) ?_ 2 _ rfl; (with_reducible repeat (first | refine blk_drewN ?_ _ | refine blk_drew ?_ | refine blk_alloc ?_ _)); refine blk_put (cs := #[.int .i64 a0_4, .int .i64 0, .int .i64 0, .int .i64 0, .int .i64 0]) ?_ 1 _ rfl; (with_reducible repeat (first | refine blk_drewN ?_ _ | refine blk_drew ?_ | refine blk_alloc ?_ _)); refine blk_put (cs := #[.int .i64 0, .int .i64 0, .int .i64 0, .int .i64 0, .int .i64 0]) ?_ 0 _ rfl; (with_reducible repeat (first | refine blk_drewN ?_ _ | refine blk_drew ?_ | refine blk_alloc ?_ _)); refine blk_far ?_ NB5_4.out _; (with_reducible repeat (first | refine blk_drewN ?_ _ | refine blk_drew ?_ | refine blk_alloc ?_ _)); refine blk_far ?_ NB5_4.out _; (with_reducible repeat (first | refine blk_drewN ?_ _ | refine blk_drew ?_ | refine blk_alloc ?_ _)); refine blk_far ?_ NB5_4.out _; (with_reducible repeat (first | refine blk_drewN ?_ _ | refine blk_drew ?_ | refine blk_alloc ?_ _)); refine blk_far ?_ NB5_4.out _; (with_reducible repeat (first | refine blk_drewN ?_ _ | refine blk_drew ?_ | refine blk_alloc ?_ _)); refine blk_far ?_ NB5_4.out _; (with_reducible repeat (first | refine blk_drewN ?_ _ | refine blk_drew ?_ | refine blk_alloc ?_ _)); exact BK5.out⟩
   have n5_ : Aside0 (Below w.heap.size w ((((((((((w74.setCell ⟨gb4, 0, none⟩ (.int .i64 a0_0)).setCell ⟨gb4, 1, none⟩ (.int .i64 a0_1)).setCell ⟨gb4, 2, none⟩ (.int .i64 a0_2)).setCell ⟨gb4, 3, none⟩ (.int .i64 a0_3)).setCell ⟨gb4, 4, none⟩ (.int .i64 a0_6)).setCell ⟨gb5, 0, none⟩ (.int .i64 a0_4)).setCell ⟨gb5, 1, none⟩ (.int .i64 a0_5)).setCell ⟨gb5, 2, none⟩ (.int .i64 a1_0)).setCell ⟨gb5, 3, none⟩ (.int .i64 a1_1)).setCell ⟨gb5, 4, none⟩ (.int .i64 a0_6))) := ⟨by repeat (first | (with_reducible first | exact HB.out | apply below_alloc | apply pw_below_drewN | apply below_drew1 | refine below_set ?_ GE1.out | refine below_set ?_ GE2.out | refine below_set ?_ GE3.out | refine below_set ?_ GE4.out | refine below_set ?_ GE5.out) | exact HB.out)⟩
   (try clear BK1)
   (try clear BK2)
   (try clear BK3)
   (try clear BK4)
   (try clear BK5)
   (try clear HB)
   generalize ((((((((((w74.setCell ⟨gb4, 0, none⟩ (.int .i64 a0_0)).setCell ⟨gb4, 1, none⟩ (.int .i64 a0_1)).setCell ⟨gb4, 2, none⟩ (.int .i64 a0_2)).setCell ⟨gb4, 3, none⟩ (.int .i64 a0_3)).setCell ⟨gb4, 4, none⟩ (.int .i64 a0_6)).setCell ⟨gb5, 0, none⟩ (.int .i64 a0_4)).setCell ⟨gb5, 1, none⟩ (.int .i64 a0_5)).setCell ⟨gb5, 2, none⟩ (.int .i64 a1_0)).setCell ⟨gb5, 3, none⟩ (.int .i64 a1_1)).setCell ⟨gb5, 4, none⟩ (.int .i64 a0_6)) = w85 at n0_ n1_ n2_ n3_ n4_ n5_ ⊢
   have BK1 := n0_
   have BK2 := n1_
   have BK3 := n2_
   have BK4 := n3_
   have BK5 := n4_
   have HB := n5_
   clear n0_ n1_ n2_ n3_ n4_ n5_
   replace BK1 := Aside0.mk (blk_drew BK1.out); replace BK2 := Aside0.mk (blk_drew BK2.out); replace BK3 := Aside0.mk (blk_drew BK3.out); replace BK4 := Aside0.mk (blk_drew BK4.out); replace BK5 := Aside0.mk (blk_drew BK5.out); replace HB := Aside0.mk (below_drew1 HB.out)
   refine start_ (n := 25) (S := fun w' => w'.cell? ⟨gb1, 0, none⟩ = some (.int .i64 a0_0) ∧ w'.cell? ⟨gb1, 1, none⟩ = some (.int .i64 a0_1) ∧ w'.cell? ⟨gb1, 2, none⟩ = some (.int .i64 a0_2) ∧ w'.cell? ⟨gb1, 3, none⟩ = some (.int .i64 a0_3) ∧ w'.cell? ⟨gb1, 4, none⟩ = some (.int .i64 a0_4) ∧ w'.cell? ⟨gb1, 5, none⟩ = some (.int .i64 a0_5) ∧ w'.cell? ⟨gb1, 6, none⟩ = some (.int .i64 a0_6) ∧ w'.cell? ⟨gb3, 0, none⟩ = some (.int .i64 a2_0) ∧ w'.cell? ⟨gb3, 1, none⟩ = some (.int .i64 a2_1) ∧ w'.cell? ⟨gb2, 0, none⟩ = some (.int .i64 a1_0) ∧ w'.cell? ⟨gb2, 1, none⟩ = some (.int .i64 a1_1)) (ds := []) #[false, false, false, false, false, false, false, false, false, false, false, false, false, false, false, false, false, false, false, false, false, false, false, false, false] (by kernel_rfl) rfl rfl ⟨(blk_cell BK1.out 0).trans rfl, (blk_cell BK1.out 1).trans rfl, (blk_cell BK1.out 2).trans rfl, (blk_cell BK1.out 3).trans rfl, (blk_cell BK1.out 4).trans rfl, (blk_cell BK1.out 5).trans rfl, (blk_cell BK1.out 6).trans rfl, (blk_cell BK3.out 0).trans rfl, (blk_cell BK3.out 1).trans rfl, (blk_cell BK2.out 0).trans rfl, (blk_cell BK2.out 1).trans rfl⟩ (fun hHeld => ?_); refine with_tabW dancestudiolaw03_GeomShifts.tab4 dancestudiolaw03_GeomShifts.bits4 (fun HT_ HW_ => ?_)
   generalize w85.drew = w86 at BK1 BK2 BK3 BK4 BK5 HB hHeld ⊢
   refine pure_ (i := 0) (N := some 63) (v := ?_) (a' := ?_) #[true, false, false, false, false, false, false, false, false, false, false, false, false, false, false, false, false, false, false, false, false, false, false, false, false] rfl rfl (any_of HT_.out (by kernel_rfl)) (fun _ _ _ h => h) (Or.inl ⟨by rfl, ?_⟩) ?_ ?_
   rotate_left
   ·
    intro w'
    go_simp
    with_reducible rfl
   rotate_left
   ·
    simp only [Act.put, List.setIfInBounds_toArray, List.set_cons_zero, List.set_cons_succ, i64_w, i32_w]
    rfl
   refine pure_ (i := 4) (N := some 67) (v := ?_) (a' := ?_) #[true, false, false, false, true, false, false, false, false, false, false, false, false, false, false, false, false, false, false, false, false, false, false, false, false] rfl rfl (any_of HT_.out (by kernel_rfl)) (fun _ _ _ h => h) (Or.inl ⟨by rfl, ?_⟩) ?_ ?_
   rotate_left
   ·
    intro w'
    go_simp
    with_reducible rfl
   rotate_left
   ·
    simp only [Act.put, List.setIfInBounds_toArray, List.set_cons_zero, List.set_cons_succ, i64_w, i32_w]
    rfl
   refine pure_ (i := 8) (N := some 71) (v := ?_) (a' := ?_) #[true, false, false, false, true, false, false, false, true, false, false, false, false, false, false, false, false, false, false, false, false, false, false, false, false] rfl rfl (any_of HT_.out (by kernel_rfl)) (fun _ _ _ h => h) (Or.inl ⟨by rfl, ?_⟩) ?_ ?_
   rotate_left
   ·
    intro w'
    go_simp
    with_reducible rfl
   rotate_left
   ·
    simp only [Act.put, List.setIfInBounds_toArray, List.set_cons_zero, List.set_cons_succ, i64_w, i32_w]
    rfl
   refine pure_ (i := 11) (N := some 74) (v := ?_) (a' := ?_) #[true, false, false, false, true, false, false, false, true, false, false, true, false, false, false, false, false, false, false, false, false, false, false, false, false] rfl rfl (any_of HT_.out (by kernel_rfl)) (fun _ _ _ h => h) (Or.inl ⟨by rfl, ?_⟩) ?_ ?_
   rotate_left
   ·
    intro w'
    go_simp
    with_reducible rfl
   rotate_left
   ·
    simp only [Act.put, List.setIfInBounds_toArray, List.set_cons_zero, List.set_cons_succ, i64_w, i32_w]
    rfl
   refine pure_ (i := 18) (N := some 81) (v := ?_) (a' := ?_) #[true, false, false, false, true, false, false, false, true, false, false, true, false, false, false, false, false, false, true, false, false, false, false, false, false] rfl rfl (any_of HT_.out (by kernel_rfl)) (fun _ _ _ h => h) (Or.inl ⟨by rfl, ?_⟩) ?_ ?_
   rotate_left
   ·
    intro w'
    go_simp
    with_reducible rfl
   rotate_left
   ·
    simp only [Act.put, List.setIfInBounds_toArray, List.set_cons_zero, List.set_cons_succ, i64_w, i32_w]
    rfl
   refine take_ (i := 1) (N := some 64) (v := ?_) (a' := ?_) #[true, true, false, false, true, false, false, false, true, false, false, true, false, false, false, false, false, false, true, false, false, false, false, false, false] rfl rfl (take_ofW HT_.out HW_.out (by kernel_rfl)) (fun _ _ _ h => h) (Or.inl ⟨by rfl, ?_⟩) hHeld ?_ ?_
   rotate_left
   ·
    rintro w' ⟨s0, s1, s2, s3, s4, s5, s6, s7, s8, s9, s10⟩
    go_simp
    with_reducible rfl
   rotate_left
   ·
    simp only [Act.put, List.setIfInBounds_toArray, List.set_cons_zero, List.set_cons_succ, i64_w, i32_w]
    rfl
   refine take_ (i := 2) (N := some 65) (v := ?_) (a' := ?_) #[true, true, true, false, true, false, false, false, true, false, false, true, false, false, false, false, false, false, true, false, false, false, false, false, false] rfl rfl (take_ofW HT_.out HW_.out (by kernel_rfl)) (fun _ _ _ h => h) (Or.inl ⟨by rfl, ?_⟩) hHeld ?_ ?_
   rotate_left
   ·
    rintro w' ⟨s0, s1, s2, s3, s4, s5, s6, s7, s8, s9, s10⟩
    go_simp
    with_reducible rfl
   rotate_left
   ·
    simp only [Act.put, List.setIfInBounds_toArray, List.set_cons_zero, List.set_cons_succ, i64_w, i32_w]
    rfl
   refine take_ (i := 5) (N := some 68) (v := ?_) (a' := ?_) #[true, true, true, false, true, true, false, false, true, false, false, true, false, false, false, false, false, false, true, false, false, false, false, false, false] rfl rfl (take_ofW HT_.out HW_.out (by kernel_rfl)) (fun _ _ _ h => h) (Or.inl ⟨by rfl, ?_⟩) hHeld ?_ ?_
   rotate_left
   ·
    rintro w' ⟨s0, s1, s2, s3, s4, s5, s6, s7, s8, s9, s10⟩
    go_simp
    with_reducible rfl
   rotate_left
   ·
    simp only [Act.put, List.setIfInBounds_toArray, List.set_cons_zero, List.set_cons_succ, i64_w, i32_w]
    rfl
   refine take_ (i := 6) (N := some 69) (v := ?_) (a' := ?_) #[true, true, true, false, true, true, true, false, true, false, false, true, false, false, false, false, false, false, true, false, false, false, false, false, false] rfl rfl (take_ofW HT_.out HW_.out (by kernel_rfl)) (fun _ _ _ h => h) (Or.inl ⟨by rfl, ?_⟩) hHeld ?_ ?_
   rotate_left
   ·
    rintro w' ⟨s0, s1, s2, s3, s4, s5, s6, s7, s8, s9, s10⟩
    go_simp
    with_reducible rfl
   rotate_left
   ·
    simp only [Act.put, List.setIfInBounds_toArray, List.set_cons_zero, List.set_cons_succ, i64_w, i32_w]
    rfl
   refine take_ (i := 9) (N := some 72) (v := ?_) (a' := ?_) #[true, true, true, false, true, true, true, false, true, true, false, true, false, false, false, false, false, false, true, false, false, false, false, false, false] rfl rfl (take_ofW HT_.out HW_.out (by kernel_rfl)) (fun _ _ _ h => h) (Or.inl ⟨by rfl, ?_⟩) hHeld ?_ ?_
   rotate_left
   ·
    rintro w' ⟨s0, s1, s2, s3, s4, s5, s6, s7, s8, s9, s10⟩
    go_simp
    with_reducible rfl
   rotate_left
   ·
    simp only [Act.put, List.setIfInBounds_toArray, List.set_cons_zero, List.set_cons_succ, i64_w, i32_w]
    rfl
   refine take_ (i := 12) (N := some 75) (v := ?_) (a' := ?_) #[true, true, true, false, true, true, true, false, true, true, false, true, true, false, false, false, false, false, true, false, false, false, false, false, false] rfl rfl (take_ofW HT_.out HW_.out (by kernel_rfl)) (fun _ _ _ h => h) (Or.inl ⟨by rfl, ?_⟩) hHeld ?_ ?_
   rotate_left
   ·
    rintro w' ⟨s0, s1, s2, s3, s4, s5, s6, s7, s8, s9, s10⟩
    go_simp
    with_reducible rfl
   rotate_left
   ·
    simp only [Act.put, List.setIfInBounds_toArray, List.set_cons_zero, List.set_cons_succ, i64_w, i32_w]
    rfl
   refine take_ (i := 13) (N := some 76) (v := ?_) (a' := ?_) #[true, true, true, false, true, true, true, false, true, true, false, true, true, true, false, false, false, false, true, false, false, false, false, false, false] rfl rfl (take_ofW HT_.out HW_.out (by kernel_rfl)) (fun _ _ _ h => h) (Or.inl ⟨by rfl, ?_⟩) hHeld ?_ ?_
   rotate_left
   ·
    rintro w' ⟨s0, s1, s2, s3, s4, s5, s6, s7, s8, s9, s10⟩
    go_simp
    with_reducible rfl
   rotate_left
   ·
    simp only [Act.put, List.setIfInBounds_toArray, List.set_cons_zero, List.set_cons_succ, i64_w, i32_w]
    rfl
   refine take_ (i := 15) (N := some 78) (v := ?_) (a' := ?_) #[true, true, true, false, true, true, true, false, true, true, false, true, true, true, false, true, false, false, true, false, false, false, false, false, false] rfl rfl (take_ofW HT_.out HW_.out (by kernel_rfl)) (fun _ _ _ h => h) (Or.inl ⟨by rfl, ?_⟩) hHeld ?_ ?_
   rotate_left
   ·
    rintro w' ⟨s0, s1, s2, s3, s4, s5, s6, s7, s8, s9, s10⟩
    go_simp
    with_reducible rfl
   rotate_left
   ·
    simp only [Act.put, List.setIfInBounds_toArray, List.set_cons_zero, List.set_cons_succ, i64_w, i32_w]
    rfl
   refine take_ (i := 16) (N := some 79) (v := ?_) (a' := ?_) #[true, true, true, false, true, true, true, false, true, true, false, true, true, true, false, true, true, false, true, false, false, false, false, false, false] rfl rfl (take_ofW HT_.out HW_.out (by kernel_rfl)) (fun _ _ _ h => h) (Or.inl ⟨by rfl, ?_⟩) hHeld ?_ ?_
   rotate_left
   ·
    rintro w' ⟨s0, s1, s2, s3, s4, s5, s6, s7, s8, s9, s10⟩
    go_simp
    with_reducible rfl
   rotate_left
   ·
    simp only [Act.put, List.setIfInBounds_toArray, List.set_cons_zero, List.set_cons_succ, i64_w, i32_w]
    rfl
   refine take_ (i := 19) (N := some 82) (v := ?_) (a' := ?_) #[true, true, true, false, true, true, true, false, true, true, false, true, true, true, false, true, true, false, true, true, false, false, false, false, false] rfl rfl (take_ofW HT_.out HW_.out (by kernel_rfl)) (fun _ _ _ h => h) (Or.inl ⟨by rfl, ?_⟩) hHeld ?_ ?_
   rotate_left
   ·
    rintro w' ⟨s0, s1, s2, s3, s4, s5, s6, s7, s8, s9, s10⟩
    go_simp
    with_reducible rfl
   rotate_left
   ·
    simp only [Act.put, List.setIfInBounds_toArray, List.set_cons_zero, List.set_cons_succ, i64_w, i32_w]
    rfl
   refine join_ (σ := Nat × Nat) 2 #[true, true, true, true, true, true, true, true, true, true, true, true, true, true, true, true, true, true, true, true, true, true, true, false, false] (fun s_ => [(66, .agg #[.int .i64 t529, .int .i64 t530]), (70, .agg #[.int .i64 t531, .int .i64 t532]), (77, .agg #[.int .i64 t533, .int .i64 t534]), (80, .agg #[.int .i64 t535, .int .i64 t536]), (9, .pointer (some ⟨s_.1, 0, none⟩)), (10, .pointer (some ⟨s_.2, 0, none⟩)), (73, .agg #[.int .i64 t529, .int .i64 t530, .int .i64 t531, .int .i64 t532, .int .i64 a0_6]), (83, .agg #[.int .i64 t533, .int .i64 t534, .int .i64 t535, .int .i64 t536, .int .i64 a0_6])]) (fun s_ w' => (w'.cell? ⟨gb1, 0, none⟩ = some (.int .i64 a0_0) ∧ w'.cell? ⟨gb1, 1, none⟩ = some (.int .i64 a0_1) ∧ w'.cell? ⟨gb1, 2, none⟩ = some (.int .i64 a0_2) ∧ w'.cell? ⟨gb1, 3, none⟩ = some (.int .i64 a0_3) ∧ w'.cell? ⟨gb1, 4, none⟩ = some (.int .i64 a0_4) ∧ w'.cell? ⟨gb1, 5, none⟩ = some (.int .i64 a0_5) ∧ w'.cell? ⟨gb1, 6, none⟩ = some (.int .i64 a0_6) ∧ w'.cell? ⟨gb3, 0, none⟩ = some (.int .i64 a2_0) ∧ w'.cell? ⟨gb3, 1, none⟩ = some (.int .i64 a2_1) ∧ w'.cell? ⟨gb2, 0, none⟩ = some (.int .i64 a1_0) ∧ w'.cell? ⟨gb2, 1, none⟩ = some (.int .i64 a1_1)) ∧ (w'.heap[gb1]? = some (.cells #[.int .i64 a0_0, .int .i64 a0_1, .int .i64 a0_2, .int .i64 a0_3, .int .i64 a0_4, .int .i64 a0_5, .int .i64 a0_6] 31 (0, 0))) ∧ (w'.heap[gb2]? = some (.cells #[.int .i64 a1_0, .int .i64 a1_1] 23 (0, 0))) ∧ (w'.heap[gb3]? = some (.cells #[.int .i64 a2_0, .int .i64 a2_1] 23 (0, 0))) ∧ (w'.heap[gb4]? = some (.cells #[.int .i64 a0_0, .int .i64 a0_1, .int .i64 a0_2, .int .i64 a0_3, .int .i64 a0_6] 36 (0, 0))) ∧ (w'.heap[gb5]? = some (.cells #[.int .i64 a0_4, .int .i64 a0_5, .int .i64 a1_0, .int .i64 a1_1, .int .i64 a0_6] 36 (0, 0))) ∧ (w'.heap[s_.1]? = some (.cells #[.int .i64 0, .int .i64 0, .int .i64 0, .int .i64 0, .int .i64 0] 36 (0, 0))) ∧ (w'.heap[s_.2]? = some (.cells #[.int .i64 0, .int .i64 0, .int .i64 0, .int .i64 0, .int .i64 0] 36 (0, 0))) ∧ (w.heap.size ≤ s_.1) ∧ (w.heap.size ≤ s_.1) ∧ (gb1 ≠ s_.1) ∧ (s_.1 ≠ gb1) ∧ (gb2 ≠ s_.1) ∧ (s_.1 ≠ gb2) ∧ (gb3 ≠ s_.1) ∧ (s_.1 ≠ gb3) ∧ (gb4 ≠ s_.1) ∧ (s_.1 ≠ gb4) ∧ (gb5 ≠ s_.1) ∧ (s_.1 ≠ gb5) ∧ (s_.2 ≠ s_.1) ∧ (s_.1 ≠ s_.2) ∧ (w.heap.size ≤ s_.2) ∧ (w.heap.size ≤ s_.2) ∧ (gb1 ≠ s_.2) ∧ (s_.2 ≠ gb1) ∧ (gb2 ≠ s_.2) ∧ (s_.2 ≠ gb2) ∧ (gb3 ≠ s_.2) ∧ (s_.2 ≠ gb3) ∧ (gb4 ≠ s_.2) ∧ (s_.2 ≠ gb4) ∧ (gb5 ≠ s_.2) ∧ (s_.2 ≠ gb5) ∧ (Below w.heap.size w w')) ?_ ?_
   rotate_left
   ·
    intro hJ3_7_14_17_21_22
    refine join_ (σ := Nat) 3 #[true, true, true, true, true, true, true, true, true, true, true, true, true, true, true, true, true, true, true, true, true, true, false, false, false] (fun s_ => [(66, .agg #[.int .i64 t529, .int .i64 t530]), (70, .agg #[.int .i64 t531, .int .i64 t532]), (77, .agg #[.int .i64 t533, .int .i64 t534]), (80, .agg #[.int .i64 t535, .int .i64 t536]), (9, .pointer (some ⟨s_, 0, none⟩)), (73, .agg #[.int .i64 t529, .int .i64 t530, .int .i64 t531, .int .i64 t532, .int .i64 a0_6]), (83, .agg #[.int .i64 t533, .int .i64 t534, .int .i64 t535, .int .i64 t536, .int .i64 a0_6])]) (fun s_ w' => (w'.cell? ⟨gb1, 0, none⟩ = some (.int .i64 a0_0) ∧ w'.cell? ⟨gb1, 1, none⟩ = some (.int .i64 a0_1) ∧ w'.cell? ⟨gb1, 2, none⟩ = some (.int .i64 a0_2) ∧ w'.cell? ⟨gb1, 3, none⟩ = some (.int .i64 a0_3) ∧ w'.cell? ⟨gb1, 4, none⟩ = some (.int .i64 a0_4) ∧ w'.cell? ⟨gb1, 5, none⟩ = some (.int .i64 a0_5) ∧ w'.cell? ⟨gb1, 6, none⟩ = some (.int .i64 a0_6) ∧ w'.cell? ⟨gb3, 0, none⟩ = some (.int .i64 a2_0) ∧ w'.cell? ⟨gb3, 1, none⟩ = some (.int .i64 a2_1) ∧ w'.cell? ⟨gb2, 0, none⟩ = some (.int .i64 a1_0) ∧ w'.cell? ⟨gb2, 1, none⟩ = some (.int .i64 a1_1)) ∧ (w'.heap[gb1]? = some (.cells #[.int .i64 a0_0, .int .i64 a0_1, .int .i64 a0_2, .int .i64 a0_3, .int .i64 a0_4, .int .i64 a0_5, .int .i64 a0_6] 31 (0, 0))) ∧ (w'.heap[gb2]? = some (.cells #[.int .i64 a1_0, .int .i64 a1_1] 23 (0, 0))) ∧ (w'.heap[gb3]? = some (.cells #[.int .i64 a2_0, .int .i64 a2_1] 23 (0, 0))) ∧ (w'.heap[gb4]? = some (.cells #[.int .i64 a0_0, .int .i64 a0_1, .int .i64 a0_2, .int .i64 a0_3, .int .i64 a0_6] 36 (0, 0))) ∧ (w'.heap[gb5]? = some (.cells #[.int .i64 a0_4, .int .i64 a0_5, .int .i64 a1_0, .int .i64 a1_1, .int .i64 a0_6] 36 (0, 0))) ∧ (w'.heap[s_]? = some (.cells #[.int .i64 0, .int .i64 0, .int .i64 0, .int .i64 0, .int .i64 0] 36 (0, 0))) ∧ (w.heap.size ≤ s_) ∧ (w.heap.size ≤ s_) ∧ (gb1 ≠ s_) ∧ (s_ ≠ gb1) ∧ (gb2 ≠ s_) ∧ (s_ ≠ gb2) ∧ (gb3 ≠ s_) ∧ (s_ ≠ gb3) ∧ (gb4 ≠ s_) ∧ (s_ ≠ gb4) ∧ (gb5 ≠ s_) ∧ (s_ ≠ gb5) ∧ (Below w.heap.size w w')) ?_ ?_
    ·
     skip
     rintro gb6 w92 ⟨hS_, h0_, h1_, h2_, h3_, h4_, h5_, h6_, h7_, h8_, h9_, h10_, h11_, h12_, h13_, h14_, h15_, h16_, h17_, h18_⟩
     have n0_ := Aside0.mk h0_
     have n1_ := Aside0.mk h1_
     have n2_ := Aside0.mk h2_
     have n3_ := Aside0.mk h3_
     have n4_ := Aside0.mk h4_
     have n5_ := Aside0.mk h5_
     have n6_ := Aside0.mk h6_
     have n7_ := Aside0.mk h7_
     have n8_ := Aside0.mk h8_
     have n9_ := Aside0.mk h9_
     have n10_ := Aside0.mk h10_
     have n11_ := Aside0.mk h11_
     have n12_ := Aside0.mk h12_
     have n13_ := Aside0.mk h13_
     have n14_ := Aside0.mk h14_
     have n15_ := Aside0.mk h15_
     have n16_ := Aside0.mk h16_
     have n17_ := Aside0.mk h17_
     have n18_ := Aside0.mk h18_
     clear BK1; clear BK2; clear BK3; clear BK4; clear BK5; clear HB
     clear h0_ h1_ h2_ h3_ h4_ h5_ h6_ h7_ h8_ h9_ h10_ h11_ h12_ h13_ h14_ h15_ h16_ h17_ h18_
     have BK1 := n0_
     have BK2 := n1_
     have BK3 := n2_
     have BK4 := n3_
     have BK5 := n4_
     have BK6 := n5_
     have GW6 := n6_
     have GE6 := n7_
     have NB1_6 := n8_
     have NB6_1 := n9_
     have NB2_6 := n10_
     have NB6_2 := n11_
     have NB3_6 := n12_
     have NB6_3 := n13_
     have NB4_6 := n14_
     have NB6_4 := n15_
     have NB5_6 := n16_
     have NB6_5 := n17_
     have HB := n18_
     clear n0_ n1_ n2_ n3_ n4_ n5_ n6_ n7_ n8_ n9_ n10_ n11_ n12_ n13_ n14_ n15_ n16_ n17_ n18_
     have hHeld : w92.cell? ⟨gb1, 0, none⟩ = some (.int .i64 a0_0) ∧ w92.cell? ⟨gb1, 1, none⟩ = some (.int .i64 a0_1) ∧ w92.cell? ⟨gb1, 2, none⟩ = some (.int .i64 a0_2) ∧ w92.cell? ⟨gb1, 3, none⟩ = some (.int .i64 a0_3) ∧ w92.cell? ⟨gb1, 4, none⟩ = some (.int .i64 a0_4) ∧ w92.cell? ⟨gb1, 5, none⟩ = some (.int .i64 a0_5) ∧ w92.cell? ⟨gb1, 6, none⟩ = some (.int .i64 a0_6) ∧ w92.cell? ⟨gb3, 0, none⟩ = some (.int .i64 a2_0) ∧ w92.cell? ⟨gb3, 1, none⟩ = some (.int .i64 a2_1) ∧ w92.cell? ⟨gb2, 0, none⟩ = some (.int .i64 a1_0) ∧ w92.cell? ⟨gb2, 1, none⟩ = some (.int .i64 a1_1) := hS_
     refine norm_ (a' := ?_) ?_ ?_
     rotate_left
     ·
      simp only [putAll, Act.put, List.setIfInBounds_toArray, List.set_cons_zero, List.set_cons_succ]
      rfl
     refine one_ (i := 22) (N := some 10) #[true, true, true, true, true, true, true, true, true, true, true, true, true, true, true, true, true, true, true, true, true, true, true, false, false] rfl rfl (one_of HT_.out (by kernel_rfl)) (by decide) (fun K hK => ?_)
     refine box_step ?hg (N := 10) ?hd (cs := #[.int .i64 0, .int .i64 0, .int .i64 0, .int .i64 0, .int .i64 0]) (t := 36) ?hr ?_; (case hd => rfl); (case hg => rfl); (case hr => first | (go_simp; done) | (go_simp; rfl))
     intro gb7 hg w93 hbox hb
     have BK7 := Aside0.mk hbox; have GW7 := mGw HB hg; have GE7 := GW7; replace HB := mSt HB hb; have NB1_7 := mNe BK1 hg; have NB7_1 := mSy NB1_7; replace BK1 := mBb BK1 hb; have NB2_7 := mNe BK2 hg; have NB7_2 := mSy NB2_7; replace BK2 := mBb BK2 hb; have NB3_7 := mNe BK3 hg; have NB7_3 := mSy NB3_7; replace BK3 := mBb BK3 hb; have NB4_7 := mNe BK4 hg; have NB7_4 := mSy NB4_7; replace BK4 := mBb BK4 hb; have NB5_7 := mNe BK5 hg; have NB7_5 := mSy NB5_7; replace BK5 := mBb BK5 hb; have NB6_7 := mNe BK6 hg; have NB7_6 := mSy NB6_7; replace BK6 := mBb BK6 hb
     clear hb hbox hg
     refine hK.out _ _ ⟨blk_cell BK1.out 0, blk_cell BK1.out 1, blk_cell BK1.out 2, blk_cell BK1.out 3, blk_cell BK1.out 4, blk_cell BK1.out 5, blk_cell BK1.out 6, blk_cell BK3.out 0, blk_cell BK3.out 1, blk_cell BK2.out 0, blk_cell BK2.out 1⟩ (fun hHeld => ?_)
     clear hK K
     refine norm_ (a' := ?_) ?_ ?_
     rotate_left
     ·
      show Act.put _ (some 10) _ = _
      simp only [Act.put, List.setIfInBounds_toArray, List.set_cons_zero, List.set_cons_succ, i64_w, i32_w]
      rfl
     exact norm_ (by simp only [putAll, Act.put, List.setIfInBounds_toArray, List.set_cons_zero, List.set_cons_succ] <;> rfl) (hJ3_7_14_17_21_22 (gb6, gb7) _ ⟨hHeld, BK1.out, BK2.out, BK3.out, BK4.out, BK5.out, BK6.out, BK7.out, GW6.out, GE6.out, NB1_6.out, NB6_1.out, NB2_6.out, NB6_2.out, NB3_6.out, NB6_3.out, NB4_6.out, NB6_4.out, NB5_6.out, NB6_5.out, NB7_6.out, NB6_7.out, GW7.out, GE7.out, NB1_7.out, NB7_1.out, NB2_7.out, NB7_2.out, NB3_7.out, NB7_3.out, NB4_7.out, NB7_4.out, NB5_7.out, NB7_5.out, HB.out⟩)
    intro hJ3_7_14_17_21
    refine join_ (σ := Nat) 3 #[true, true, true, true, true, true, true, true, true, true, true, true, true, true, true, true, true, true, true, true, true, false, true, false, false] (fun s_ => [(66, .agg #[.int .i64 t529, .int .i64 t530]), (70, .agg #[.int .i64 t531, .int .i64 t532]), (77, .agg #[.int .i64 t533, .int .i64 t534]), (80, .agg #[.int .i64 t535, .int .i64 t536]), (10, .pointer (some ⟨s_, 0, none⟩)), (73, .agg #[.int .i64 t529, .int .i64 t530, .int .i64 t531, .int .i64 t532, .int .i64 a0_6]), (83, .agg #[.int .i64 t533, .int .i64 t534, .int .i64 t535, .int .i64 t536, .int .i64 a0_6])]) (fun s_ w' => (w'.cell? ⟨gb1, 0, none⟩ = some (.int .i64 a0_0) ∧ w'.cell? ⟨gb1, 1, none⟩ = some (.int .i64 a0_1) ∧ w'.cell? ⟨gb1, 2, none⟩ = some (.int .i64 a0_2) ∧ w'.cell? ⟨gb1, 3, none⟩ = some (.int .i64 a0_3) ∧ w'.cell? ⟨gb1, 4, none⟩ = some (.int .i64 a0_4) ∧ w'.cell? ⟨gb1, 5, none⟩ = some (.int .i64 a0_5) ∧ w'.cell? ⟨gb1, 6, none⟩ = some (.int .i64 a0_6) ∧ w'.cell? ⟨gb3, 0, none⟩ = some (.int .i64 a2_0) ∧ w'.cell? ⟨gb3, 1, none⟩ = some (.int .i64 a2_1) ∧ w'.cell? ⟨gb2, 0, none⟩ = some (.int .i64 a1_0) ∧ w'.cell? ⟨gb2, 1, none⟩ = some (.int .i64 a1_1)) ∧ (w'.heap[gb1]? = some (.cells #[.int .i64 a0_0, .int .i64 a0_1, .int .i64 a0_2, .int .i64 a0_3, .int .i64 a0_4, .int .i64 a0_5, .int .i64 a0_6] 31 (0, 0))) ∧ (w'.heap[gb2]? = some (.cells #[.int .i64 a1_0, .int .i64 a1_1] 23 (0, 0))) ∧ (w'.heap[gb3]? = some (.cells #[.int .i64 a2_0, .int .i64 a2_1] 23 (0, 0))) ∧ (w'.heap[gb4]? = some (.cells #[.int .i64 a0_0, .int .i64 a0_1, .int .i64 a0_2, .int .i64 a0_3, .int .i64 a0_6] 36 (0, 0))) ∧ (w'.heap[gb5]? = some (.cells #[.int .i64 a0_4, .int .i64 a0_5, .int .i64 a1_0, .int .i64 a1_1, .int .i64 a0_6] 36 (0, 0))) ∧ (w'.heap[s_]? = some (.cells #[.int .i64 0, .int .i64 0, .int .i64 0, .int .i64 0, .int .i64 0] 36 (0, 0))) ∧ (w.heap.size ≤ s_) ∧ (w.heap.size ≤ s_) ∧ (gb1 ≠ s_) ∧ (s_ ≠ gb1) ∧ (gb2 ≠ s_) ∧ (s_ ≠ gb2) ∧ (gb3 ≠ s_) ∧ (s_ ≠ gb3) ∧ (gb4 ≠ s_) ∧ (s_ ≠ gb4) ∧ (gb5 ≠ s_) ∧ (s_ ≠ gb5) ∧ (Below w.heap.size w w')) ?_ ?_
    ·
     skip
     rintro gb7 w92 ⟨hS_, h0_, h1_, h2_, h3_, h4_, h5_, h6_, h7_, h8_, h9_, h10_, h11_, h12_, h13_, h14_, h15_, h16_, h17_, h18_⟩
     have n0_ := Aside0.mk h0_
     have n1_ := Aside0.mk h1_
     have n2_ := Aside0.mk h2_
     have n3_ := Aside0.mk h3_
     have n4_ := Aside0.mk h4_
     have n5_ := Aside0.mk h5_
     have n6_ := Aside0.mk h6_
     have n7_ := Aside0.mk h7_
     have n8_ := Aside0.mk h8_
     have n9_ := Aside0.mk h9_
     have n10_ := Aside0.mk h10_
     have n11_ := Aside0.mk h11_
     have n12_ := Aside0.mk h12_
     have n13_ := Aside0.mk h13_
     have n14_ := Aside0.mk h14_
     have n15_ := Aside0.mk h15_
     have n16_ := Aside0.mk h16_
     have n17_ := Aside0.mk h17_
     have n18_ := Aside0.mk h18_
     clear BK1; clear BK2; clear BK3; clear BK4; clear BK5; clear HB
     clear h0_ h1_ h2_ h3_ h4_ h5_ h6_ h7_ h8_ h9_ h10_ h11_ h12_ h13_ h14_ h15_ h16_ h17_ h18_
     have BK1 := n0_
     have BK2 := n1_
     have BK3 := n2_
     have BK4 := n3_
     have BK5 := n4_
     have BK7 := n5_
     have GW7 := n6_
     have GE7 := n7_
     have NB1_7 := n8_
     have NB7_1 := n9_
     have NB2_7 := n10_
     have NB7_2 := n11_
     have NB3_7 := n12_
     have NB7_3 := n13_
     have NB4_7 := n14_
     have NB7_4 := n15_
     have NB5_7 := n16_
     have NB7_5 := n17_
     have HB := n18_
     clear n0_ n1_ n2_ n3_ n4_ n5_ n6_ n7_ n8_ n9_ n10_ n11_ n12_ n13_ n14_ n15_ n16_ n17_ n18_
     have hHeld : w92.cell? ⟨gb1, 0, none⟩ = some (.int .i64 a0_0) ∧ w92.cell? ⟨gb1, 1, none⟩ = some (.int .i64 a0_1) ∧ w92.cell? ⟨gb1, 2, none⟩ = some (.int .i64 a0_2) ∧ w92.cell? ⟨gb1, 3, none⟩ = some (.int .i64 a0_3) ∧ w92.cell? ⟨gb1, 4, none⟩ = some (.int .i64 a0_4) ∧ w92.cell? ⟨gb1, 5, none⟩ = some (.int .i64 a0_5) ∧ w92.cell? ⟨gb1, 6, none⟩ = some (.int .i64 a0_6) ∧ w92.cell? ⟨gb3, 0, none⟩ = some (.int .i64 a2_0) ∧ w92.cell? ⟨gb3, 1, none⟩ = some (.int .i64 a2_1) ∧ w92.cell? ⟨gb2, 0, none⟩ = some (.int .i64 a1_0) ∧ w92.cell? ⟨gb2, 1, none⟩ = some (.int .i64 a1_1) := hS_
     refine norm_ (a' := ?_) ?_ ?_
     rotate_left
     ·
      simp only [putAll, Act.put, List.setIfInBounds_toArray, List.set_cons_zero, List.set_cons_succ]
      rfl
     refine one_ (i := 21) (N := some 9) #[true, true, true, true, true, true, true, true, true, true, true, true, true, true, true, true, true, true, true, true, true, true, true, false, false] rfl rfl (one_of HT_.out (by kernel_rfl)) (by decide) (fun K hK => ?_)
     refine box_step ?hg (N := 9) ?hd (cs := #[.int .i64 0, .int .i64 0, .int .i64 0, .int .i64 0, .int .i64 0]) (t := 36) ?hr ?_; (case hd => rfl); (case hg => rfl); (case hr => first | (go_simp; done) | (go_simp; rfl))
     intro gb6 hg w93 hbox hb
     have BK6 := Aside0.mk hbox; have GW6 := mGw HB hg; have GE6 := GW6; replace HB := mSt HB hb; have NB1_6 := mNe BK1 hg; have NB6_1 := mSy NB1_6; replace BK1 := mBb BK1 hb; have NB2_6 := mNe BK2 hg; have NB6_2 := mSy NB2_6; replace BK2 := mBb BK2 hb; have NB3_6 := mNe BK3 hg; have NB6_3 := mSy NB3_6; replace BK3 := mBb BK3 hb; have NB4_6 := mNe BK4 hg; have NB6_4 := mSy NB4_6; replace BK4 := mBb BK4 hb; have NB5_6 := mNe BK5 hg; have NB6_5 := mSy NB5_6; replace BK5 := mBb BK5 hb; have NB7_6 := mNe BK7 hg; have NB6_7 := mSy NB7_6; replace BK7 := mBb BK7 hb
     clear hb hbox hg
     refine hK.out _ _ ⟨blk_cell BK1.out 0, blk_cell BK1.out 1, blk_cell BK1.out 2, blk_cell BK1.out 3, blk_cell BK1.out 4, blk_cell BK1.out 5, blk_cell BK1.out 6, blk_cell BK3.out 0, blk_cell BK3.out 1, blk_cell BK2.out 0, blk_cell BK2.out 1⟩ (fun hHeld => ?_)
     clear hK K
     refine norm_ (a' := ?_) ?_ ?_
     rotate_left
     ·
      show Act.put _ (some 9) _ = _
      simp only [Act.put, List.setIfInBounds_toArray, List.set_cons_zero, List.set_cons_succ, i64_w, i32_w]
      rfl
     exact norm_ (by simp only [putAll, Act.put, List.setIfInBounds_toArray, List.set_cons_zero, List.set_cons_succ] <;> rfl) (hJ3_7_14_17_21_22 (gb6, gb7) _ ⟨hHeld, BK1.out, BK2.out, BK3.out, BK4.out, BK5.out, BK6.out, BK7.out, GW6.out, GE6.out, NB1_6.out, NB6_1.out, NB2_6.out, NB6_2.out, NB3_6.out, NB6_3.out, NB4_6.out, NB6_4.out, NB5_6.out, NB6_5.out, NB7_6.out, NB6_7.out, GW7.out, GE7.out, NB1_7.out, NB7_1.out, NB2_7.out, NB7_2.out, NB3_7.out, NB7_3.out, NB4_7.out, NB7_4.out, NB5_7.out, NB7_5.out, HB.out⟩)
    intro hJ3_7_14_17_22
    refine join_ (σ := Nat × Nat) 4 #[true, true, true, true, true, true, true, true, true, true, true, true, true, true, true, true, true, false, true, true, false, true, true, false, false] (fun s_ => [(66, .agg #[.int .i64 t529, .int .i64 t530]), (70, .agg #[.int .i64 t531, .int .i64 t532]), (77, .agg #[.int .i64 t533, .int .i64 t534]), (9, .pointer (some ⟨s_.1, 0, none⟩)), (10, .pointer (some ⟨s_.2, 0, none⟩)), (73, .agg #[.int .i64 t529, .int .i64 t530, .int .i64 t531, .int .i64 t532, .int .i64 a0_6])]) (fun s_ w' => (w'.cell? ⟨gb1, 0, none⟩ = some (.int .i64 a0_0) ∧ w'.cell? ⟨gb1, 1, none⟩ = some (.int .i64 a0_1) ∧ w'.cell? ⟨gb1, 2, none⟩ = some (.int .i64 a0_2) ∧ w'.cell? ⟨gb1, 3, none⟩ = some (.int .i64 a0_3) ∧ w'.cell? ⟨gb1, 4, none⟩ = some (.int .i64 a0_4) ∧ w'.cell? ⟨gb1, 5, none⟩ = some (.int .i64 a0_5) ∧ w'.cell? ⟨gb1, 6, none⟩ = some (.int .i64 a0_6) ∧ w'.cell? ⟨gb3, 0, none⟩ = some (.int .i64 a2_0) ∧ w'.cell? ⟨gb3, 1, none⟩ = some (.int .i64 a2_1) ∧ w'.cell? ⟨gb2, 0, none⟩ = some (.int .i64 a1_0) ∧ w'.cell? ⟨gb2, 1, none⟩ = some (.int .i64 a1_1)) ∧ (w'.heap[gb1]? = some (.cells #[.int .i64 a0_0, .int .i64 a0_1, .int .i64 a0_2, .int .i64 a0_3, .int .i64 a0_4, .int .i64 a0_5, .int .i64 a0_6] 31 (0, 0))) ∧ (w'.heap[gb2]? = some (.cells #[.int .i64 a1_0, .int .i64 a1_1] 23 (0, 0))) ∧ (w'.heap[gb3]? = some (.cells #[.int .i64 a2_0, .int .i64 a2_1] 23 (0, 0))) ∧ (w'.heap[gb4]? = some (.cells #[.int .i64 a0_0, .int .i64 a0_1, .int .i64 a0_2, .int .i64 a0_3, .int .i64 a0_6] 36 (0, 0))) ∧ (w'.heap[gb5]? = some (.cells #[.int .i64 a0_4, .int .i64 a0_5, .int .i64 a1_0, .int .i64 a1_1, .int .i64 a0_6] 36 (0, 0))) ∧ (w'.heap[s_.1]? = some (.cells #[.int .i64 0, .int .i64 0, .int .i64 0, .int .i64 0, .int .i64 0] 36 (0, 0))) ∧ (w'.heap[s_.2]? = some (.cells #[.int .i64 0, .int .i64 0, .int .i64 0, .int .i64 0, .int .i64 0] 36 (0, 0))) ∧ (w.heap.size ≤ s_.1) ∧ (w.heap.size ≤ s_.1) ∧ (gb1 ≠ s_.1) ∧ (s_.1 ≠ gb1) ∧ (gb2 ≠ s_.1) ∧ (s_.1 ≠ gb2) ∧ (gb3 ≠ s_.1) ∧ (s_.1 ≠ gb3) ∧ (gb4 ≠ s_.1) ∧ (s_.1 ≠ gb4) ∧ (gb5 ≠ s_.1) ∧ (s_.1 ≠ gb5) ∧ (s_.2 ≠ s_.1) ∧ (s_.1 ≠ s_.2) ∧ (w.heap.size ≤ s_.2) ∧ (w.heap.size ≤ s_.2) ∧ (gb1 ≠ s_.2) ∧ (s_.2 ≠ gb1) ∧ (gb2 ≠ s_.2) ∧ (s_.2 ≠ gb2) ∧ (gb3 ≠ s_.2) ∧ (s_.2 ≠ gb3) ∧ (gb4 ≠ s_.2) ∧ (s_.2 ≠ gb4) ∧ (gb5 ≠ s_.2) ∧ (s_.2 ≠ gb5) ∧ (Below w.heap.size w w')) ?_ ?_
    ·
     skip
     rintro ⟨gb6, gb7⟩ w92 ⟨hS_, h0_, h1_, h2_, h3_, h4_, h5_, h6_, h7_, h8_, h9_, h10_, h11_, h12_, h13_, h14_, h15_, h16_, h17_, h18_, h19_, h20_, h21_, h22_, h23_, h24_, h25_, h26_, h27_, h28_, h29_, h30_, h31_, h32_, h33_⟩
     try dsimp only at h0_ h1_ h2_ h3_ h4_ h5_ h6_ h7_ h8_ h9_ h10_ h11_ h12_ h13_ h14_ h15_ h16_ h17_ h18_ h19_ h20_ h21_ h22_ h23_ h24_ h25_ h26_ h27_ h28_ h29_ h30_ h31_ h32_ h33_
     have n0_ := Aside0.mk h0_
     have n1_ := Aside0.mk h1_
     have n2_ := Aside0.mk h2_
     have n3_ := Aside0.mk h3_
     have n4_ := Aside0.mk h4_
     have n5_ := Aside0.mk h5_
     have n6_ := Aside0.mk h6_
     have n7_ := Aside0.mk h7_
     have n8_ := Aside0.mk h8_
     have n9_ := Aside0.mk h9_
     have n10_ := Aside0.mk h10_
     have n11_ := Aside0.mk h11_
     have n12_ := Aside0.mk h12_
     have n13_ := Aside0.mk h13_
     have n14_ := Aside0.mk h14_
     have n15_ := Aside0.mk h15_
     have n16_ := Aside0.mk h16_
     have n17_ := Aside0.mk h17_
     have n18_ := Aside0.mk h18_
     have n19_ := Aside0.mk h19_
     have n20_ := Aside0.mk h20_
     have n21_ := Aside0.mk h21_
     have n22_ := Aside0.mk h22_
     have n23_ := Aside0.mk h23_
     have n24_ := Aside0.mk h24_
     have n25_ := Aside0.mk h25_
     have n26_ := Aside0.mk h26_
     have n27_ := Aside0.mk h27_
     have n28_ := Aside0.mk h28_
     have n29_ := Aside0.mk h29_
     have n30_ := Aside0.mk h30_
     have n31_ := Aside0.mk h31_
     have n32_ := Aside0.mk h32_
     have n33_ := Aside0.mk h33_
     clear BK1; clear BK2; clear BK3; clear BK4; clear BK5; clear HB
     clear h0_ h1_ h2_ h3_ h4_ h5_ h6_ h7_ h8_ h9_ h10_ h11_ h12_ h13_ h14_ h15_ h16_ h17_ h18_ h19_ h20_ h21_ h22_ h23_ h24_ h25_ h26_ h27_ h28_ h29_ h30_ h31_ h32_ h33_
     have BK1 := n0_
     have BK2 := n1_
     have BK3 := n2_
     have BK4 := n3_
     have BK5 := n4_
     have BK6 := n5_
     have BK7 := n6_
     have GW6 := n7_
     have GE6 := n8_
     have NB1_6 := n9_
     have NB6_1 := n10_
     have NB2_6 := n11_
     have NB6_2 := n12_
     have NB3_6 := n13_
     have NB6_3 := n14_
     have NB4_6 := n15_
     have NB6_4 := n16_
     have NB5_6 := n17_
     have NB6_5 := n18_
     have NB7_6 := n19_
     have NB6_7 := n20_
     have GW7 := n21_
     have GE7 := n22_
     have NB1_7 := n23_
     have NB7_1 := n24_
     have NB2_7 := n25_
     have NB7_2 := n26_
     have NB3_7 := n27_
     have NB7_3 := n28_
     have NB4_7 := n29_
     have NB7_4 := n30_
     have NB5_7 := n31_
     have NB7_5 := n32_
     have HB := n33_
     clear n0_ n1_ n2_ n3_ n4_ n5_ n6_ n7_ n8_ n9_ n10_ n11_ n12_ n13_ n14_ n15_ n16_ n17_ n18_ n19_ n20_ n21_ n22_ n23_ n24_ n25_ n26_ n27_ n28_ n29_ n30_ n31_ n32_ n33_
     have hHeld : w92.cell? ⟨gb1, 0, none⟩ = some (.int .i64 a0_0) ∧ w92.cell? ⟨gb1, 1, none⟩ = some (.int .i64 a0_1) ∧ w92.cell? ⟨gb1, 2, none⟩ = some (.int .i64 a0_2) ∧ w92.cell? ⟨gb1, 3, none⟩ = some (.int .i64 a0_3) ∧ w92.cell? ⟨gb1, 4, none⟩ = some (.int .i64 a0_4) ∧ w92.cell? ⟨gb1, 5, none⟩ = some (.int .i64 a0_5) ∧ w92.cell? ⟨gb1, 6, none⟩ = some (.int .i64 a0_6) ∧ w92.cell? ⟨gb3, 0, none⟩ = some (.int .i64 a2_0) ∧ w92.cell? ⟨gb3, 1, none⟩ = some (.int .i64 a2_1) ∧ w92.cell? ⟨gb2, 0, none⟩ = some (.int .i64 a1_0) ∧ w92.cell? ⟨gb2, 1, none⟩ = some (.int .i64 a1_1) := hS_
     refine norm_ (a' := ?_) ?_ ?_
     rotate_left
     ·
      simp only [putAll, Act.put, List.setIfInBounds_toArray, List.set_cons_zero, List.set_cons_succ]
      rfl
     refine one_ (i := 17) (N := some 80) #[true, true, true, true, true, true, true, true, true, true, true, true, true, true, true, true, true, true, true, true, false, true, true, false, false] rfl rfl (one_of HT_.out (by kernel_rfl)) (by decide) (fun K hK => ?_)
     refine goes_ Try.func27 (by kernel_rfl) rfl #[.agg #[.int .i64 a1_0, .int .i64 a1_1], .agg #[.int .i64 a2_0, .int .i64 a2_1]] (by rfl) rfl rfl (by (try simp only [List.map_toArray, List.map_cons, List.map_nil]); first | done | rfl | (simp only [List.length_drop, List.length_take]; rfl)) ?_
     with_reducible refine (dancestudiolaw03_shifted.calls a1_0 a1_1 a2_0 a2_1 t535 t536 _ A65.out).mono ?_
     rintro e w93 ⟨rfl, hb⟩
     refine ⟨_, rfl, ?_⟩
     replace BK1 := mBb BK1 hb; replace BK2 := mBb BK2 hb; replace BK3 := mBb BK3 hb; replace BK4 := mBb BK4 hb; replace BK5 := mBb BK5 hb; replace BK6 := mBb BK6 hb; replace BK7 := mBb BK7 hb; replace HB := mSt HB hb
     (try clear hb)
     (try clear hb2)
     (try clear hk)
     (try clear hi)
     refine hK.out _ _ ⟨blk_cell BK1.out 0, blk_cell BK1.out 1, blk_cell BK1.out 2, blk_cell BK1.out 3, blk_cell BK1.out 4, blk_cell BK1.out 5, blk_cell BK1.out 6, blk_cell BK3.out 0, blk_cell BK3.out 1, blk_cell BK2.out 0, blk_cell BK2.out 1⟩ (fun hHeld => ?_)
     clear hK K
     refine norm_ (a' := ?_) ?_ ?_
     rotate_left
     ·
      show Act.put _ (some 80) _ = _
      simp only [Act.put, List.setIfInBounds_toArray, List.set_cons_zero, List.set_cons_succ, i64_w, i32_w]
      rfl
     refine pure_ (i := 20) (N := some 83) (v := ?_) (a' := ?_) #[true, true, true, true, true, true, true, true, true, true, true, true, true, true, true, true, true, true, true, true, true, true, true, false, false] rfl rfl (any_of HT_.out (by kernel_rfl)) (fun _ _ _ h => h) (Or.inl ⟨by rfl, ?_⟩) ?_ ?_
     rotate_left
     ·
      intro w'
      go_simp
      with_reducible rfl
     rotate_left
     ·
      simp only [Act.put, List.setIfInBounds_toArray, List.set_cons_zero, List.set_cons_succ, i64_w, i32_w]
      rfl
     exact norm_ (by simp only [putAll, Act.put, List.setIfInBounds_toArray, List.set_cons_zero, List.set_cons_succ] <;> rfl) (hJ3_7_14_17_21_22 (gb6, gb7) _ ⟨hHeld, BK1.out, BK2.out, BK3.out, BK4.out, BK5.out, BK6.out, BK7.out, GW6.out, GE6.out, NB1_6.out, NB6_1.out, NB2_6.out, NB6_2.out, NB3_6.out, NB6_3.out, NB4_6.out, NB6_4.out, NB5_6.out, NB6_5.out, NB7_6.out, NB6_7.out, GW7.out, GE7.out, NB1_7.out, NB7_1.out, NB2_7.out, NB7_2.out, NB3_7.out, NB7_3.out, NB4_7.out, NB7_4.out, NB5_7.out, NB7_5.out, HB.out⟩)
    intro hJ3_7_14_21_22
    refine join_ (σ := Unit) 4 #[true, true, true, true, true, true, true, true, true, true, true, true, true, true, true, true, true, true, true, true, true, false, false, false, false] (fun s_ => [(66, .agg #[.int .i64 t529, .int .i64 t530]), (70, .agg #[.int .i64 t531, .int .i64 t532]), (77, .agg #[.int .i64 t533, .int .i64 t534]), (80, .agg #[.int .i64 t535, .int .i64 t536]), (73, .agg #[.int .i64 t529, .int .i64 t530, .int .i64 t531, .int .i64 t532, .int .i64 a0_6]), (83, .agg #[.int .i64 t533, .int .i64 t534, .int .i64 t535, .int .i64 t536, .int .i64 a0_6])]) (fun s_ w' => (w'.cell? ⟨gb1, 0, none⟩ = some (.int .i64 a0_0) ∧ w'.cell? ⟨gb1, 1, none⟩ = some (.int .i64 a0_1) ∧ w'.cell? ⟨gb1, 2, none⟩ = some (.int .i64 a0_2) ∧ w'.cell? ⟨gb1, 3, none⟩ = some (.int .i64 a0_3) ∧ w'.cell? ⟨gb1, 4, none⟩ = some (.int .i64 a0_4) ∧ w'.cell? ⟨gb1, 5, none⟩ = some (.int .i64 a0_5) ∧ w'.cell? ⟨gb1, 6, none⟩ = some (.int .i64 a0_6) ∧ w'.cell? ⟨gb3, 0, none⟩ = some (.int .i64 a2_0) ∧ w'.cell? ⟨gb3, 1, none⟩ = some (.int .i64 a2_1) ∧ w'.cell? ⟨gb2, 0, none⟩ = some (.int .i64 a1_0) ∧ w'.cell? ⟨gb2, 1, none⟩ = some (.int .i64 a1_1)) ∧ (w'.heap[gb1]? = some (.cells #[.int .i64 a0_0, .int .i64 a0_1, .int .i64 a0_2, .int .i64 a0_3, .int .i64 a0_4, .int .i64 a0_5, .int .i64 a0_6] 31 (0, 0))) ∧ (w'.heap[gb2]? = some (.cells #[.int .i64 a1_0, .int .i64 a1_1] 23 (0, 0))) ∧ (w'.heap[gb3]? = some (.cells #[.int .i64 a2_0, .int .i64 a2_1] 23 (0, 0))) ∧ (w'.heap[gb4]? = some (.cells #[.int .i64 a0_0, .int .i64 a0_1, .int .i64 a0_2, .int .i64 a0_3, .int .i64 a0_6] 36 (0, 0))) ∧ (w'.heap[gb5]? = some (.cells #[.int .i64 a0_4, .int .i64 a0_5, .int .i64 a1_0, .int .i64 a1_1, .int .i64 a0_6] 36 (0, 0))) ∧ (Below w.heap.size w w')) ?_ ?_
    ·
     skip
     rintro _ w91 ⟨hS_, h0_, h1_, h2_, h3_, h4_, h5_⟩
     have n0_ := Aside0.mk h0_
     have n1_ := Aside0.mk h1_
     have n2_ := Aside0.mk h2_
     have n3_ := Aside0.mk h3_
     have n4_ := Aside0.mk h4_
     have n5_ := Aside0.mk h5_
     clear BK1; clear BK2; clear BK3; clear BK4; clear BK5; clear HB
     clear h0_ h1_ h2_ h3_ h4_ h5_
     have BK1 := n0_
     have BK2 := n1_
     have BK3 := n2_
     have BK4 := n3_
     have BK5 := n4_
     have HB := n5_
     clear n0_ n1_ n2_ n3_ n4_ n5_
     have hHeld : w91.cell? ⟨gb1, 0, none⟩ = some (.int .i64 a0_0) ∧ w91.cell? ⟨gb1, 1, none⟩ = some (.int .i64 a0_1) ∧ w91.cell? ⟨gb1, 2, none⟩ = some (.int .i64 a0_2) ∧ w91.cell? ⟨gb1, 3, none⟩ = some (.int .i64 a0_3) ∧ w91.cell? ⟨gb1, 4, none⟩ = some (.int .i64 a0_4) ∧ w91.cell? ⟨gb1, 5, none⟩ = some (.int .i64 a0_5) ∧ w91.cell? ⟨gb1, 6, none⟩ = some (.int .i64 a0_6) ∧ w91.cell? ⟨gb3, 0, none⟩ = some (.int .i64 a2_0) ∧ w91.cell? ⟨gb3, 1, none⟩ = some (.int .i64 a2_1) ∧ w91.cell? ⟨gb2, 0, none⟩ = some (.int .i64 a1_0) ∧ w91.cell? ⟨gb2, 1, none⟩ = some (.int .i64 a1_1) := hS_
     refine norm_ (a' := ?_) ?_ ?_
     rotate_left
     ·
      simp only [putAll, Act.put, List.setIfInBounds_toArray, List.set_cons_zero, List.set_cons_succ]
      rfl
     refine two_ (i := 21) (j := 22) (Ni := some 9) (Nj := some 10) #[true, true, true, true, true, true, true, true, true, true, true, true, true, true, true, true, true, true, true, true, true, true, false, false, false] #[true, true, true, true, true, true, true, true, true, true, true, true, true, true, true, true, true, true, true, true, true, false, true, false, false] rfl rfl rfl rfl (two_of HT_.out (by kernel_rfl)) (by decide) (by decide) (fun K hK => ?_) (fun K hK => ?_)
     ·
      skip
      refine box_step ?hg (N := 9) ?hd (cs := #[.int .i64 0, .int .i64 0, .int .i64 0, .int .i64 0, .int .i64 0]) (t := 36) ?hr ?_; (case hd => rfl); (case hg => rfl); (case hr => first | (go_simp; done) | (go_simp; rfl))
      intro gb6 hg w92 hbox hb
      have BK6 := Aside0.mk hbox; have GW6 := mGw HB hg; have GE6 := GW6; replace HB := mSt HB hb; have NB1_6 := mNe BK1 hg; have NB6_1 := mSy NB1_6; replace BK1 := mBb BK1 hb; have NB2_6 := mNe BK2 hg; have NB6_2 := mSy NB2_6; replace BK2 := mBb BK2 hb; have NB3_6 := mNe BK3 hg; have NB6_3 := mSy NB3_6; replace BK3 := mBb BK3 hb; have NB4_6 := mNe BK4 hg; have NB6_4 := mSy NB4_6; replace BK4 := mBb BK4 hb; have NB5_6 := mNe BK5 hg; have NB6_5 := mSy NB5_6; replace BK5 := mBb BK5 hb
      clear hb hbox hg
      refine hK.out _ _ ⟨blk_cell BK1.out 0, blk_cell BK1.out 1, blk_cell BK1.out 2, blk_cell BK1.out 3, blk_cell BK1.out 4, blk_cell BK1.out 5, blk_cell BK1.out 6, blk_cell BK3.out 0, blk_cell BK3.out 1, blk_cell BK2.out 0, blk_cell BK2.out 1⟩ (fun hHeld => ?_)
      clear hK K
      refine norm_ (a' := ?_) ?_ ?_
      rotate_left
      ·
       show Act.put _ (some 9) _ = _
       simp only [Act.put, List.setIfInBounds_toArray, List.set_cons_zero, List.set_cons_succ, i64_w, i32_w]
       rfl
      exact norm_ (by simp only [putAll, Act.put, List.setIfInBounds_toArray, List.set_cons_zero, List.set_cons_succ] <;> rfl) (hJ3_7_14_17_21 (gb6) _ ⟨hHeld, BK1.out, BK2.out, BK3.out, BK4.out, BK5.out, BK6.out, GW6.out, GE6.out, NB1_6.out, NB6_1.out, NB2_6.out, NB6_2.out, NB3_6.out, NB6_3.out, NB4_6.out, NB6_4.out, NB5_6.out, NB6_5.out, HB.out⟩)
     ·
      skip
      refine box_step ?hg (N := 10) ?hd (cs := #[.int .i64 0, .int .i64 0, .int .i64 0, .int .i64 0, .int .i64 0]) (t := 36) ?hr ?_; (case hd => rfl); (case hg => rfl); (case hr => first | (go_simp; done) | (go_simp; rfl))
      intro gb7 hg w92 hbox hb
      have BK7 := Aside0.mk hbox; have GW7 := mGw HB hg; have GE7 := GW7; replace HB := mSt HB hb; have NB1_7 := mNe BK1 hg; have NB7_1 := mSy NB1_7; replace BK1 := mBb BK1 hb; have NB2_7 := mNe BK2 hg; have NB7_2 := mSy NB2_7; replace BK2 := mBb BK2 hb; have NB3_7 := mNe BK3 hg; have NB7_3 := mSy NB3_7; replace BK3 := mBb BK3 hb; have NB4_7 := mNe BK4 hg; have NB7_4 := mSy NB4_7; replace BK4 := mBb BK4 hb; have NB5_7 := mNe BK5 hg; have NB7_5 := mSy NB5_7; replace BK5 := mBb BK5 hb
      clear hb hbox hg
      refine hK.out _ _ ⟨blk_cell BK1.out 0, blk_cell BK1.out 1, blk_cell BK1.out 2, blk_cell BK1.out 3, blk_cell BK1.out 4, blk_cell BK1.out 5, blk_cell BK1.out 6, blk_cell BK3.out 0, blk_cell BK3.out 1, blk_cell BK2.out 0, blk_cell BK2.out 1⟩ (fun hHeld => ?_)
      clear hK K
      refine norm_ (a' := ?_) ?_ ?_
      rotate_left
      ·
       show Act.put _ (some 10) _ = _
       simp only [Act.put, List.setIfInBounds_toArray, List.set_cons_zero, List.set_cons_succ, i64_w, i32_w]
       rfl
      exact norm_ (by simp only [putAll, Act.put, List.setIfInBounds_toArray, List.set_cons_zero, List.set_cons_succ] <;> rfl) (hJ3_7_14_17_22 (gb7) _ ⟨hHeld, BK1.out, BK2.out, BK3.out, BK4.out, BK5.out, BK7.out, GW7.out, GE7.out, NB1_7.out, NB7_1.out, NB2_7.out, NB7_2.out, NB3_7.out, NB7_3.out, NB4_7.out, NB7_4.out, NB5_7.out, NB7_5.out, HB.out⟩)
    intro hJ3_7_14_17
    refine join_ (σ := Nat) 5 #[true, true, true, true, true, true, true, true, true, true, true, true, true, true, true, true, true, false, true, true, false, true, false, false, false] (fun s_ => [(66, .agg #[.int .i64 t529, .int .i64 t530]), (70, .agg #[.int .i64 t531, .int .i64 t532]), (77, .agg #[.int .i64 t533, .int .i64 t534]), (9, .pointer (some ⟨s_, 0, none⟩)), (73, .agg #[.int .i64 t529, .int .i64 t530, .int .i64 t531, .int .i64 t532, .int .i64 a0_6])]) (fun s_ w' => (w'.cell? ⟨gb1, 0, none⟩ = some (.int .i64 a0_0) ∧ w'.cell? ⟨gb1, 1, none⟩ = some (.int .i64 a0_1) ∧ w'.cell? ⟨gb1, 2, none⟩ = some (.int .i64 a0_2) ∧ w'.cell? ⟨gb1, 3, none⟩ = some (.int .i64 a0_3) ∧ w'.cell? ⟨gb1, 4, none⟩ = some (.int .i64 a0_4) ∧ w'.cell? ⟨gb1, 5, none⟩ = some (.int .i64 a0_5) ∧ w'.cell? ⟨gb1, 6, none⟩ = some (.int .i64 a0_6) ∧ w'.cell? ⟨gb3, 0, none⟩ = some (.int .i64 a2_0) ∧ w'.cell? ⟨gb3, 1, none⟩ = some (.int .i64 a2_1) ∧ w'.cell? ⟨gb2, 0, none⟩ = some (.int .i64 a1_0) ∧ w'.cell? ⟨gb2, 1, none⟩ = some (.int .i64 a1_1)) ∧ (w'.heap[gb1]? = some (.cells #[.int .i64 a0_0, .int .i64 a0_1, .int .i64 a0_2, .int .i64 a0_3, .int .i64 a0_4, .int .i64 a0_5, .int .i64 a0_6] 31 (0, 0))) ∧ (w'.heap[gb2]? = some (.cells #[.int .i64 a1_0, .int .i64 a1_1] 23 (0, 0))) ∧ (w'.heap[gb3]? = some (.cells #[.int .i64 a2_0, .int .i64 a2_1] 23 (0, 0))) ∧ (w'.heap[gb4]? = some (.cells #[.int .i64 a0_0, .int .i64 a0_1, .int .i64 a0_2, .int .i64 a0_3, .int .i64 a0_6] 36 (0, 0))) ∧ (w'.heap[gb5]? = some (.cells #[.int .i64 a0_4, .int .i64 a0_5, .int .i64 a1_0, .int .i64 a1_1, .int .i64 a0_6] 36 (0, 0))) ∧ (w'.heap[s_]? = some (.cells #[.int .i64 0, .int .i64 0, .int .i64 0, .int .i64 0, .int .i64 0] 36 (0, 0))) ∧ (w.heap.size ≤ s_) ∧ (w.heap.size ≤ s_) ∧ (gb1 ≠ s_) ∧ (s_ ≠ gb1) ∧ (gb2 ≠ s_) ∧ (s_ ≠ gb2) ∧ (gb3 ≠ s_) ∧ (s_ ≠ gb3) ∧ (gb4 ≠ s_) ∧ (s_ ≠ gb4) ∧ (gb5 ≠ s_) ∧ (s_ ≠ gb5) ∧ (Below w.heap.size w w')) ?_ ?_
    ·
     skip
     rintro gb6 w91 ⟨hS_, h0_, h1_, h2_, h3_, h4_, h5_, h6_, h7_, h8_, h9_, h10_, h11_, h12_, h13_, h14_, h15_, h16_, h17_, h18_⟩
     have n0_ := Aside0.mk h0_
     have n1_ := Aside0.mk h1_
     have n2_ := Aside0.mk h2_
     have n3_ := Aside0.mk h3_
     have n4_ := Aside0.mk h4_
     have n5_ := Aside0.mk h5_
     have n6_ := Aside0.mk h6_
     have n7_ := Aside0.mk h7_
     have n8_ := Aside0.mk h8_
     have n9_ := Aside0.mk h9_
     have n10_ := Aside0.mk h10_
     have n11_ := Aside0.mk h11_
     have n12_ := Aside0.mk h12_
     have n13_ := Aside0.mk h13_
     have n14_ := Aside0.mk h14_
     have n15_ := Aside0.mk h15_
     have n16_ := Aside0.mk h16_
     have n17_ := Aside0.mk h17_
     have n18_ := Aside0.mk h18_
     clear BK1; clear BK2; clear BK3; clear BK4; clear BK5; clear HB
     clear h0_ h1_ h2_ h3_ h4_ h5_ h6_ h7_ h8_ h9_ h10_ h11_ h12_ h13_ h14_ h15_ h16_ h17_ h18_
     have BK1 := n0_
     have BK2 := n1_
     have BK3 := n2_
     have BK4 := n3_
     have BK5 := n4_
     have BK6 := n5_
     have GW6 := n6_
     have GE6 := n7_
     have NB1_6 := n8_
     have NB6_1 := n9_
     have NB2_6 := n10_
     have NB6_2 := n11_
     have NB3_6 := n12_
     have NB6_3 := n13_
     have NB4_6 := n14_
     have NB6_4 := n15_
     have NB5_6 := n16_
     have NB6_5 := n17_
     have HB := n18_
     clear n0_ n1_ n2_ n3_ n4_ n5_ n6_ n7_ n8_ n9_ n10_ n11_ n12_ n13_ n14_ n15_ n16_ n17_ n18_
     have hHeld : w91.cell? ⟨gb1, 0, none⟩ = some (.int .i64 a0_0) ∧ w91.cell? ⟨gb1, 1, none⟩ = some (.int .i64 a0_1) ∧ w91.cell? ⟨gb1, 2, none⟩ = some (.int .i64 a0_2) ∧ w91.cell? ⟨gb1, 3, none⟩ = some (.int .i64 a0_3) ∧ w91.cell? ⟨gb1, 4, none⟩ = some (.int .i64 a0_4) ∧ w91.cell? ⟨gb1, 5, none⟩ = some (.int .i64 a0_5) ∧ w91.cell? ⟨gb1, 6, none⟩ = some (.int .i64 a0_6) ∧ w91.cell? ⟨gb3, 0, none⟩ = some (.int .i64 a2_0) ∧ w91.cell? ⟨gb3, 1, none⟩ = some (.int .i64 a2_1) ∧ w91.cell? ⟨gb2, 0, none⟩ = some (.int .i64 a1_0) ∧ w91.cell? ⟨gb2, 1, none⟩ = some (.int .i64 a1_1) := hS_
     refine norm_ (a' := ?_) ?_ ?_
     rotate_left
     ·
      simp only [putAll, Act.put, List.setIfInBounds_toArray, List.set_cons_zero, List.set_cons_succ]
      rfl
     refine two_ (i := 17) (j := 22) (Ni := some 80) (Nj := some 10) #[true, true, true, true, true, true, true, true, true, true, true, true, true, true, true, true, true, true, true, true, false, true, false, false, false] #[true, true, true, true, true, true, true, true, true, true, true, true, true, true, true, true, true, false, true, true, false, true, true, false, false] rfl rfl rfl rfl (two_of HT_.out (by kernel_rfl)) (by decide) (by decide) (fun K hK => ?_) (fun K hK => ?_)
     ·
      skip
      refine goes_ Try.func27 (by kernel_rfl) rfl #[.agg #[.int .i64 a1_0, .int .i64 a1_1], .agg #[.int .i64 a2_0, .int .i64 a2_1]] (by rfl) rfl rfl (by (try simp only [List.map_toArray, List.map_cons, List.map_nil]); first | done | rfl | (simp only [List.length_drop, List.length_take]; rfl)) ?_
      with_reducible refine (dancestudiolaw03_shifted.calls a1_0 a1_1 a2_0 a2_1 t535 t536 _ A65.out).mono ?_
      rintro e w92 ⟨rfl, hb⟩
      refine ⟨_, rfl, ?_⟩
      replace BK1 := mBb BK1 hb; replace BK2 := mBb BK2 hb; replace BK3 := mBb BK3 hb; replace BK4 := mBb BK4 hb; replace BK5 := mBb BK5 hb; replace BK6 := mBb BK6 hb; replace HB := mSt HB hb
      (try clear hb)
      (try clear hb2)
      (try clear hk)
      (try clear hi)
      refine hK.out _ _ ⟨blk_cell BK1.out 0, blk_cell BK1.out 1, blk_cell BK1.out 2, blk_cell BK1.out 3, blk_cell BK1.out 4, blk_cell BK1.out 5, blk_cell BK1.out 6, blk_cell BK3.out 0, blk_cell BK3.out 1, blk_cell BK2.out 0, blk_cell BK2.out 1⟩ (fun hHeld => ?_)
      clear hK K
      refine norm_ (a' := ?_) ?_ ?_
      rotate_left
      ·
       show Act.put _ (some 80) _ = _
       simp only [Act.put, List.setIfInBounds_toArray, List.set_cons_zero, List.set_cons_succ, i64_w, i32_w]
       rfl
      refine pure_ (i := 20) (N := some 83) (v := ?_) (a' := ?_) #[true, true, true, true, true, true, true, true, true, true, true, true, true, true, true, true, true, true, true, true, true, true, false, false, false] rfl rfl (any_of HT_.out (by kernel_rfl)) (fun _ _ _ h => h) (Or.inl ⟨by rfl, ?_⟩) ?_ ?_
      rotate_left
      ·
       intro w'
       go_simp
       with_reducible rfl
      rotate_left
      ·
       simp only [Act.put, List.setIfInBounds_toArray, List.set_cons_zero, List.set_cons_succ, i64_w, i32_w]
       rfl
      exact norm_ (by simp only [putAll, Act.put, List.setIfInBounds_toArray, List.set_cons_zero, List.set_cons_succ] <;> rfl) (hJ3_7_14_17_21 (gb6) _ ⟨hHeld, BK1.out, BK2.out, BK3.out, BK4.out, BK5.out, BK6.out, GW6.out, GE6.out, NB1_6.out, NB6_1.out, NB2_6.out, NB6_2.out, NB3_6.out, NB6_3.out, NB4_6.out, NB6_4.out, NB5_6.out, NB6_5.out, HB.out⟩)
     ·
      skip
      refine box_step ?hg (N := 10) ?hd (cs := #[.int .i64 0, .int .i64 0, .int .i64 0, .int .i64 0, .int .i64 0]) (t := 36) ?hr ?_; (case hd => rfl); (case hg => rfl); (case hr => first | (go_simp; done) | (go_simp; rfl))
      intro gb7 hg w92 hbox hb
      have BK7 := Aside0.mk hbox; have GW7 := mGw HB hg; have GE7 := GW7; replace HB := mSt HB hb; have NB1_7 := mNe BK1 hg; have NB7_1 := mSy NB1_7; replace BK1 := mBb BK1 hb; have NB2_7 := mNe BK2 hg; have NB7_2 := mSy NB2_7; replace BK2 := mBb BK2 hb; have NB3_7 := mNe BK3 hg; have NB7_3 := mSy NB3_7; replace BK3 := mBb BK3 hb; have NB4_7 := mNe BK4 hg; have NB7_4 := mSy NB4_7; replace BK4 := mBb BK4 hb; have NB5_7 := mNe BK5 hg; have NB7_5 := mSy NB5_7; replace BK5 := mBb BK5 hb; have NB6_7 := mNe BK6 hg; have NB7_6 := mSy NB6_7; replace BK6 := mBb BK6 hb
      clear hb hbox hg
      refine hK.out _ _ ⟨blk_cell BK1.out 0, blk_cell BK1.out 1, blk_cell BK1.out 2, blk_cell BK1.out 3, blk_cell BK1.out 4, blk_cell BK1.out 5, blk_cell BK1.out 6, blk_cell BK3.out 0, blk_cell BK3.out 1, blk_cell BK2.out 0, blk_cell BK2.out 1⟩ (fun hHeld => ?_)
      clear hK K
      refine norm_ (a' := ?_) ?_ ?_
      rotate_left
      ·
       show Act.put _ (some 10) _ = _
       simp only [Act.put, List.setIfInBounds_toArray, List.set_cons_zero, List.set_cons_succ, i64_w, i32_w]
       rfl
      exact norm_ (by simp only [putAll, Act.put, List.setIfInBounds_toArray, List.set_cons_zero, List.set_cons_succ] <;> rfl) (hJ3_7_14_21_22 (gb6, gb7) _ ⟨hHeld, BK1.out, BK2.out, BK3.out, BK4.out, BK5.out, BK6.out, BK7.out, GW6.out, GE6.out, NB1_6.out, NB6_1.out, NB2_6.out, NB6_2.out, NB3_6.out, NB6_3.out, NB4_6.out, NB6_4.out, NB5_6.out, NB6_5.out, NB7_6.out, NB6_7.out, GW7.out, GE7.out, NB1_7.out, NB7_1.out, NB2_7.out, NB7_2.out, NB3_7.out, NB7_3.out, NB4_7.out, NB7_4.out, NB5_7.out, NB7_5.out, HB.out⟩)
    intro hJ3_7_14_21
    refine join_ (σ := Nat) 5 #[true, true, true, true, true, true, true, true, true, true, true, true, true, true, true, true, true, false, true, true, false, false, true, false, false] (fun s_ => [(66, .agg #[.int .i64 t529, .int .i64 t530]), (70, .agg #[.int .i64 t531, .int .i64 t532]), (77, .agg #[.int .i64 t533, .int .i64 t534]), (10, .pointer (some ⟨s_, 0, none⟩)), (73, .agg #[.int .i64 t529, .int .i64 t530, .int .i64 t531, .int .i64 t532, .int .i64 a0_6])]) (fun s_ w' => (w'.cell? ⟨gb1, 0, none⟩ = some (.int .i64 a0_0) ∧ w'.cell? ⟨gb1, 1, none⟩ = some (.int .i64 a0_1) ∧ w'.cell? ⟨gb1, 2, none⟩ = some (.int .i64 a0_2) ∧ w'.cell? ⟨gb1, 3, none⟩ = some (.int .i64 a0_3) ∧ w'.cell? ⟨gb1, 4, none⟩ = some (.int .i64 a0_4) ∧ w'.cell? ⟨gb1, 5, none⟩ = some (.int .i64 a0_5) ∧ w'.cell? ⟨gb1, 6, none⟩ = some (.int .i64 a0_6) ∧ w'.cell? ⟨gb3, 0, none⟩ = some (.int .i64 a2_0) ∧ w'.cell? ⟨gb3, 1, none⟩ = some (.int .i64 a2_1) ∧ w'.cell? ⟨gb2, 0, none⟩ = some (.int .i64 a1_0) ∧ w'.cell? ⟨gb2, 1, none⟩ = some (.int .i64 a1_1)) ∧ (w'.heap[gb1]? = some (.cells #[.int .i64 a0_0, .int .i64 a0_1, .int .i64 a0_2, .int .i64 a0_3, .int .i64 a0_4, .int .i64 a0_5, .int .i64 a0_6] 31 (0, 0))) ∧ (w'.heap[gb2]? = some (.cells #[.int .i64 a1_0, .int .i64 a1_1] 23 (0, 0))) ∧ (w'.heap[gb3]? = some (.cells #[.int .i64 a2_0, .int .i64 a2_1] 23 (0, 0))) ∧ (w'.heap[gb4]? = some (.cells #[.int .i64 a0_0, .int .i64 a0_1, .int .i64 a0_2, .int .i64 a0_3, .int .i64 a0_6] 36 (0, 0))) ∧ (w'.heap[gb5]? = some (.cells #[.int .i64 a0_4, .int .i64 a0_5, .int .i64 a1_0, .int .i64 a1_1, .int .i64 a0_6] 36 (0, 0))) ∧ (w'.heap[s_]? = some (.cells #[.int .i64 0, .int .i64 0, .int .i64 0, .int .i64 0, .int .i64 0] 36 (0, 0))) ∧ (w.heap.size ≤ s_) ∧ (w.heap.size ≤ s_) ∧ (gb1 ≠ s_) ∧ (s_ ≠ gb1) ∧ (gb2 ≠ s_) ∧ (s_ ≠ gb2) ∧ (gb3 ≠ s_) ∧ (s_ ≠ gb3) ∧ (gb4 ≠ s_) ∧ (s_ ≠ gb4) ∧ (gb5 ≠ s_) ∧ (s_ ≠ gb5) ∧ (Below w.heap.size w w')) ?_ ?_
    ·
     skip
     rintro gb7 w91 ⟨hS_, h0_, h1_, h2_, h3_, h4_, h5_, h6_, h7_, h8_, h9_, h10_, h11_, h12_, h13_, h14_, h15_, h16_, h17_, h18_⟩
     have n0_ := Aside0.mk h0_
     have n1_ := Aside0.mk h1_
     have n2_ := Aside0.mk h2_
     have n3_ := Aside0.mk h3_
     have n4_ := Aside0.mk h4_
     have n5_ := Aside0.mk h5_
     have n6_ := Aside0.mk h6_
     have n7_ := Aside0.mk h7_
     have n8_ := Aside0.mk h8_
     have n9_ := Aside0.mk h9_
     have n10_ := Aside0.mk h10_
     have n11_ := Aside0.mk h11_
     have n12_ := Aside0.mk h12_
     have n13_ := Aside0.mk h13_
     have n14_ := Aside0.mk h14_
     have n15_ := Aside0.mk h15_
     have n16_ := Aside0.mk h16_
     have n17_ := Aside0.mk h17_
     have n18_ := Aside0.mk h18_
     clear BK1; clear BK2; clear BK3; clear BK4; clear BK5; clear HB
     clear h0_ h1_ h2_ h3_ h4_ h5_ h6_ h7_ h8_ h9_ h10_ h11_ h12_ h13_ h14_ h15_ h16_ h17_ h18_
     have BK1 := n0_
     have BK2 := n1_
     have BK3 := n2_
     have BK4 := n3_
     have BK5 := n4_
     have BK7 := n5_
     have GW7 := n6_
     have GE7 := n7_
     have NB1_7 := n8_
     have NB7_1 := n9_
     have NB2_7 := n10_
     have NB7_2 := n11_
     have NB3_7 := n12_
     have NB7_3 := n13_
     have NB4_7 := n14_
     have NB7_4 := n15_
     have NB5_7 := n16_
     have NB7_5 := n17_
     have HB := n18_
     clear n0_ n1_ n2_ n3_ n4_ n5_ n6_ n7_ n8_ n9_ n10_ n11_ n12_ n13_ n14_ n15_ n16_ n17_ n18_
     have hHeld : w91.cell? ⟨gb1, 0, none⟩ = some (.int .i64 a0_0) ∧ w91.cell? ⟨gb1, 1, none⟩ = some (.int .i64 a0_1) ∧ w91.cell? ⟨gb1, 2, none⟩ = some (.int .i64 a0_2) ∧ w91.cell? ⟨gb1, 3, none⟩ = some (.int .i64 a0_3) ∧ w91.cell? ⟨gb1, 4, none⟩ = some (.int .i64 a0_4) ∧ w91.cell? ⟨gb1, 5, none⟩ = some (.int .i64 a0_5) ∧ w91.cell? ⟨gb1, 6, none⟩ = some (.int .i64 a0_6) ∧ w91.cell? ⟨gb3, 0, none⟩ = some (.int .i64 a2_0) ∧ w91.cell? ⟨gb3, 1, none⟩ = some (.int .i64 a2_1) ∧ w91.cell? ⟨gb2, 0, none⟩ = some (.int .i64 a1_0) ∧ w91.cell? ⟨gb2, 1, none⟩ = some (.int .i64 a1_1) := hS_
     refine norm_ (a' := ?_) ?_ ?_
     rotate_left
     ·
      simp only [putAll, Act.put, List.setIfInBounds_toArray, List.set_cons_zero, List.set_cons_succ]
      rfl
     refine two_ (i := 17) (j := 21) (Ni := some 80) (Nj := some 9) #[true, true, true, true, true, true, true, true, true, true, true, true, true, true, true, true, true, true, true, true, false, false, true, false, false] #[true, true, true, true, true, true, true, true, true, true, true, true, true, true, true, true, true, false, true, true, false, true, true, false, false] rfl rfl rfl rfl (two_of HT_.out (by kernel_rfl)) (by decide) (by decide) (fun K hK => ?_) (fun K hK => ?_)
     ·
      skip
      refine goes_ Try.func27 (by kernel_rfl) rfl #[.agg #[.int .i64 a1_0, .int .i64 a1_1], .agg #[.int .i64 a2_0, .int .i64 a2_1]] (by rfl) rfl rfl (by (try simp only [List.map_toArray, List.map_cons, List.map_nil]); first | done | rfl | (simp only [List.length_drop, List.length_take]; rfl)) ?_
      with_reducible refine (dancestudiolaw03_shifted.calls a1_0 a1_1 a2_0 a2_1 t535 t536 _ A65.out).mono ?_
      rintro e w92 ⟨rfl, hb⟩
      refine ⟨_, rfl, ?_⟩
      replace BK1 := mBb BK1 hb; replace BK2 := mBb BK2 hb; replace BK3 := mBb BK3 hb; replace BK4 := mBb BK4 hb; replace BK5 := mBb BK5 hb; replace BK7 := mBb BK7 hb; replace HB := mSt HB hb
      (try clear hb)
      (try clear hb2)
      (try clear hk)
      (try clear hi)
      refine hK.out _ _ ⟨blk_cell BK1.out 0, blk_cell BK1.out 1, blk_cell BK1.out 2, blk_cell BK1.out 3, blk_cell BK1.out 4, blk_cell BK1.out 5, blk_cell BK1.out 6, blk_cell BK3.out 0, blk_cell BK3.out 1, blk_cell BK2.out 0, blk_cell BK2.out 1⟩ (fun hHeld => ?_)
      clear hK K
      refine norm_ (a' := ?_) ?_ ?_
      rotate_left
      ·
       show Act.put _ (some 80) _ = _
       simp only [Act.put, List.setIfInBounds_toArray, List.set_cons_zero, List.set_cons_succ, i64_w, i32_w]
       rfl
      refine pure_ (i := 20) (N := some 83) (v := ?_) (a' := ?_) #[true, true, true, true, true, true, true, true, true, true, true, true, true, true, true, true, true, true, true, true, true, false, true, false, false] rfl rfl (any_of HT_.out (by kernel_rfl)) (fun _ _ _ h => h) (Or.inl ⟨by rfl, ?_⟩) ?_ ?_
      rotate_left
      ·
       intro w'
       go_simp
       with_reducible rfl
      rotate_left
      ·
       simp only [Act.put, List.setIfInBounds_toArray, List.set_cons_zero, List.set_cons_succ, i64_w, i32_w]
       rfl
      exact norm_ (by simp only [putAll, Act.put, List.setIfInBounds_toArray, List.set_cons_zero, List.set_cons_succ] <;> rfl) (hJ3_7_14_17_22 (gb7) _ ⟨hHeld, BK1.out, BK2.out, BK3.out, BK4.out, BK5.out, BK7.out, GW7.out, GE7.out, NB1_7.out, NB7_1.out, NB2_7.out, NB7_2.out, NB3_7.out, NB7_3.out, NB4_7.out, NB7_4.out, NB5_7.out, NB7_5.out, HB.out⟩)
     ·
      skip
      refine box_step ?hg (N := 9) ?hd (cs := #[.int .i64 0, .int .i64 0, .int .i64 0, .int .i64 0, .int .i64 0]) (t := 36) ?hr ?_; (case hd => rfl); (case hg => rfl); (case hr => first | (go_simp; done) | (go_simp; rfl))
      intro gb6 hg w92 hbox hb
      have BK6 := Aside0.mk hbox; have GW6 := mGw HB hg; have GE6 := GW6; replace HB := mSt HB hb; have NB1_6 := mNe BK1 hg; have NB6_1 := mSy NB1_6; replace BK1 := mBb BK1 hb; have NB2_6 := mNe BK2 hg; have NB6_2 := mSy NB2_6; replace BK2 := mBb BK2 hb; have NB3_6 := mNe BK3 hg; have NB6_3 := mSy NB3_6; replace BK3 := mBb BK3 hb; have NB4_6 := mNe BK4 hg; have NB6_4 := mSy NB4_6; replace BK4 := mBb BK4 hb; have NB5_6 := mNe BK5 hg; have NB6_5 := mSy NB5_6; replace BK5 := mBb BK5 hb; have NB7_6 := mNe BK7 hg; have NB6_7 := mSy NB7_6; replace BK7 := mBb BK7 hb
      clear hb hbox hg
      refine hK.out _ _ ⟨blk_cell BK1.out 0, blk_cell BK1.out 1, blk_cell BK1.out 2, blk_cell BK1.out 3, blk_cell BK1.out 4, blk_cell BK1.out 5, blk_cell BK1.out 6, blk_cell BK3.out 0, blk_cell BK3.out 1, blk_cell BK2.out 0, blk_cell BK2.out 1⟩ (fun hHeld => ?_)
      clear hK K
      refine norm_ (a' := ?_) ?_ ?_
      rotate_left
      ·
       show Act.put _ (some 9) _ = _
       simp only [Act.put, List.setIfInBounds_toArray, List.set_cons_zero, List.set_cons_succ, i64_w, i32_w]
       rfl
      exact norm_ (by simp only [putAll, Act.put, List.setIfInBounds_toArray, List.set_cons_zero, List.set_cons_succ] <;> rfl) (hJ3_7_14_21_22 (gb6, gb7) _ ⟨hHeld, BK1.out, BK2.out, BK3.out, BK4.out, BK5.out, BK6.out, BK7.out, GW6.out, GE6.out, NB1_6.out, NB6_1.out, NB2_6.out, NB6_2.out, NB3_6.out, NB6_3.out, NB4_6.out, NB6_4.out, NB5_6.out, NB6_5.out, NB7_6.out, NB6_7.out, GW7.out, GE7.out, NB1_7.out, NB7_1.out, NB2_7.out, NB7_2.out, NB3_7.out, NB7_3.out, NB4_7.out, NB7_4.out, NB5_7.out, NB7_5.out, HB.out⟩)
    intro hJ3_7_14_22
    refine join_ (σ := Nat × Nat) 5 #[true, true, true, true, true, true, true, true, true, true, true, true, true, true, false, true, true, false, true, true, false, true, true, false, false] (fun s_ => [(66, .agg #[.int .i64 t529, .int .i64 t530]), (70, .agg #[.int .i64 t531, .int .i64 t532]), (9, .pointer (some ⟨s_.1, 0, none⟩)), (10, .pointer (some ⟨s_.2, 0, none⟩)), (73, .agg #[.int .i64 t529, .int .i64 t530, .int .i64 t531, .int .i64 t532, .int .i64 a0_6])]) (fun s_ w' => (w'.cell? ⟨gb1, 0, none⟩ = some (.int .i64 a0_0) ∧ w'.cell? ⟨gb1, 1, none⟩ = some (.int .i64 a0_1) ∧ w'.cell? ⟨gb1, 2, none⟩ = some (.int .i64 a0_2) ∧ w'.cell? ⟨gb1, 3, none⟩ = some (.int .i64 a0_3) ∧ w'.cell? ⟨gb1, 4, none⟩ = some (.int .i64 a0_4) ∧ w'.cell? ⟨gb1, 5, none⟩ = some (.int .i64 a0_5) ∧ w'.cell? ⟨gb1, 6, none⟩ = some (.int .i64 a0_6) ∧ w'.cell? ⟨gb3, 0, none⟩ = some (.int .i64 a2_0) ∧ w'.cell? ⟨gb3, 1, none⟩ = some (.int .i64 a2_1) ∧ w'.cell? ⟨gb2, 0, none⟩ = some (.int .i64 a1_0) ∧ w'.cell? ⟨gb2, 1, none⟩ = some (.int .i64 a1_1)) ∧ (w'.heap[gb1]? = some (.cells #[.int .i64 a0_0, .int .i64 a0_1, .int .i64 a0_2, .int .i64 a0_3, .int .i64 a0_4, .int .i64 a0_5, .int .i64 a0_6] 31 (0, 0))) ∧ (w'.heap[gb2]? = some (.cells #[.int .i64 a1_0, .int .i64 a1_1] 23 (0, 0))) ∧ (w'.heap[gb3]? = some (.cells #[.int .i64 a2_0, .int .i64 a2_1] 23 (0, 0))) ∧ (w'.heap[gb4]? = some (.cells #[.int .i64 a0_0, .int .i64 a0_1, .int .i64 a0_2, .int .i64 a0_3, .int .i64 a0_6] 36 (0, 0))) ∧ (w'.heap[gb5]? = some (.cells #[.int .i64 a0_4, .int .i64 a0_5, .int .i64 a1_0, .int .i64 a1_1, .int .i64 a0_6] 36 (0, 0))) ∧ (w'.heap[s_.1]? = some (.cells #[.int .i64 0, .int .i64 0, .int .i64 0, .int .i64 0, .int .i64 0] 36 (0, 0))) ∧ (w'.heap[s_.2]? = some (.cells #[.int .i64 0, .int .i64 0, .int .i64 0, .int .i64 0, .int .i64 0] 36 (0, 0))) ∧ (w.heap.size ≤ s_.1) ∧ (w.heap.size ≤ s_.1) ∧ (gb1 ≠ s_.1) ∧ (s_.1 ≠ gb1) ∧ (gb2 ≠ s_.1) ∧ (s_.1 ≠ gb2) ∧ (gb3 ≠ s_.1) ∧ (s_.1 ≠ gb3) ∧ (gb4 ≠ s_.1) ∧ (s_.1 ≠ gb4) ∧ (gb5 ≠ s_.1) ∧ (s_.1 ≠ gb5) ∧ (s_.2 ≠ s_.1) ∧ (s_.1 ≠ s_.2) ∧ (w.heap.size ≤ s_.2) ∧ (w.heap.size ≤ s_.2) ∧ (gb1 ≠ s_.2) ∧ (s_.2 ≠ gb1) ∧ (gb2 ≠ s_.2) ∧ (s_.2 ≠ gb2) ∧ (gb3 ≠ s_.2) ∧ (s_.2 ≠ gb3) ∧ (gb4 ≠ s_.2) ∧ (s_.2 ≠ gb4) ∧ (gb5 ≠ s_.2) ∧ (s_.2 ≠ gb5) ∧ (Below w.heap.size w w')) ?_ ?_
    ·
     skip
     rintro ⟨gb6, gb7⟩ w91 ⟨hS_, h0_, h1_, h2_, h3_, h4_, h5_, h6_, h7_, h8_, h9_, h10_, h11_, h12_, h13_, h14_, h15_, h16_, h17_, h18_, h19_, h20_, h21_, h22_, h23_, h24_, h25_, h26_, h27_, h28_, h29_, h30_, h31_, h32_, h33_⟩
     try dsimp only at h0_ h1_ h2_ h3_ h4_ h5_ h6_ h7_ h8_ h9_ h10_ h11_ h12_ h13_ h14_ h15_ h16_ h17_ h18_ h19_ h20_ h21_ h22_ h23_ h24_ h25_ h26_ h27_ h28_ h29_ h30_ h31_ h32_ h33_
     have n0_ := Aside0.mk h0_
     have n1_ := Aside0.mk h1_
     have n2_ := Aside0.mk h2_
     have n3_ := Aside0.mk h3_
     have n4_ := Aside0.mk h4_
     have n5_ := Aside0.mk h5_
     have n6_ := Aside0.mk h6_
     have n7_ := Aside0.mk h7_
     have n8_ := Aside0.mk h8_
     have n9_ := Aside0.mk h9_
     have n10_ := Aside0.mk h10_
     have n11_ := Aside0.mk h11_
     have n12_ := Aside0.mk h12_
     have n13_ := Aside0.mk h13_
     have n14_ := Aside0.mk h14_
     have n15_ := Aside0.mk h15_
     have n16_ := Aside0.mk h16_
     have n17_ := Aside0.mk h17_
     have n18_ := Aside0.mk h18_
     have n19_ := Aside0.mk h19_
     have n20_ := Aside0.mk h20_
     have n21_ := Aside0.mk h21_
     have n22_ := Aside0.mk h22_
     have n23_ := Aside0.mk h23_
     have n24_ := Aside0.mk h24_
     have n25_ := Aside0.mk h25_
     have n26_ := Aside0.mk h26_
     have n27_ := Aside0.mk h27_
     have n28_ := Aside0.mk h28_
     have n29_ := Aside0.mk h29_
     have n30_ := Aside0.mk h30_
     have n31_ := Aside0.mk h31_
     have n32_ := Aside0.mk h32_
     have n33_ := Aside0.mk h33_
     clear BK1; clear BK2; clear BK3; clear BK4; clear BK5; clear HB
     clear h0_ h1_ h2_ h3_ h4_ h5_ h6_ h7_ h8_ h9_ h10_ h11_ h12_ h13_ h14_ h15_ h16_ h17_ h18_ h19_ h20_ h21_ h22_ h23_ h24_ h25_ h26_ h27_ h28_ h29_ h30_ h31_ h32_ h33_
     have BK1 := n0_
     have BK2 := n1_
     have BK3 := n2_
     have BK4 := n3_
     have BK5 := n4_
     have BK6 := n5_
     have BK7 := n6_
     have GW6 := n7_
     have GE6 := n8_
     have NB1_6 := n9_
     have NB6_1 := n10_
     have NB2_6 := n11_
     have NB6_2 := n12_
     have NB3_6 := n13_
     have NB6_3 := n14_
     have NB4_6 := n15_
     have NB6_4 := n16_
     have NB5_6 := n17_
     have NB6_5 := n18_
     have NB7_6 := n19_
     have NB6_7 := n20_
     have GW7 := n21_
     have GE7 := n22_
     have NB1_7 := n23_
     have NB7_1 := n24_
     have NB2_7 := n25_
     have NB7_2 := n26_
     have NB3_7 := n27_
     have NB7_3 := n28_
     have NB4_7 := n29_
     have NB7_4 := n30_
     have NB5_7 := n31_
     have NB7_5 := n32_
     have HB := n33_
     clear n0_ n1_ n2_ n3_ n4_ n5_ n6_ n7_ n8_ n9_ n10_ n11_ n12_ n13_ n14_ n15_ n16_ n17_ n18_ n19_ n20_ n21_ n22_ n23_ n24_ n25_ n26_ n27_ n28_ n29_ n30_ n31_ n32_ n33_
     have hHeld : w91.cell? ⟨gb1, 0, none⟩ = some (.int .i64 a0_0) ∧ w91.cell? ⟨gb1, 1, none⟩ = some (.int .i64 a0_1) ∧ w91.cell? ⟨gb1, 2, none⟩ = some (.int .i64 a0_2) ∧ w91.cell? ⟨gb1, 3, none⟩ = some (.int .i64 a0_3) ∧ w91.cell? ⟨gb1, 4, none⟩ = some (.int .i64 a0_4) ∧ w91.cell? ⟨gb1, 5, none⟩ = some (.int .i64 a0_5) ∧ w91.cell? ⟨gb1, 6, none⟩ = some (.int .i64 a0_6) ∧ w91.cell? ⟨gb3, 0, none⟩ = some (.int .i64 a2_0) ∧ w91.cell? ⟨gb3, 1, none⟩ = some (.int .i64 a2_1) ∧ w91.cell? ⟨gb2, 0, none⟩ = some (.int .i64 a1_0) ∧ w91.cell? ⟨gb2, 1, none⟩ = some (.int .i64 a1_1) := hS_
     refine norm_ (a' := ?_) ?_ ?_
     rotate_left
     ·
      simp only [putAll, Act.put, List.setIfInBounds_toArray, List.set_cons_zero, List.set_cons_succ]
      rfl
     refine one_ (i := 14) (N := some 77) #[true, true, true, true, true, true, true, true, true, true, true, true, true, true, true, true, true, false, true, true, false, true, true, false, false] rfl rfl (one_of HT_.out (by kernel_rfl)) (by decide) (fun K hK => ?_)
     refine goes_ Try.func27 (by kernel_rfl) rfl #[.agg #[.int .i64 a0_4, .int .i64 a0_5], .agg #[.int .i64 a2_0, .int .i64 a2_1]] (by rfl) rfl rfl (by (try simp only [List.map_toArray, List.map_cons, List.map_nil]); first | done | rfl | (simp only [List.length_drop, List.length_take]; rfl)) ?_
     with_reducible refine (dancestudiolaw03_shifted.calls a0_4 a0_5 a2_0 a2_1 t533 t534 _ A64.out).mono ?_
     rintro e w92 ⟨rfl, hb⟩
     refine ⟨_, rfl, ?_⟩
     replace BK1 := mBb BK1 hb; replace BK2 := mBb BK2 hb; replace BK3 := mBb BK3 hb; replace BK4 := mBb BK4 hb; replace BK5 := mBb BK5 hb; replace BK6 := mBb BK6 hb; replace BK7 := mBb BK7 hb; replace HB := mSt HB hb
     (try clear hb)
     (try clear hb2)
     (try clear hk)
     (try clear hi)
     refine hK.out _ _ ⟨blk_cell BK1.out 0, blk_cell BK1.out 1, blk_cell BK1.out 2, blk_cell BK1.out 3, blk_cell BK1.out 4, blk_cell BK1.out 5, blk_cell BK1.out 6, blk_cell BK3.out 0, blk_cell BK3.out 1, blk_cell BK2.out 0, blk_cell BK2.out 1⟩ (fun hHeld => ?_)
     clear hK K
     refine norm_ (a' := ?_) ?_ ?_
     rotate_left
     ·
      show Act.put _ (some 77) _ = _
      simp only [Act.put, List.setIfInBounds_toArray, List.set_cons_zero, List.set_cons_succ, i64_w, i32_w]
      rfl
     exact norm_ (by simp only [putAll, Act.put, List.setIfInBounds_toArray, List.set_cons_zero, List.set_cons_succ] <;> rfl) (hJ3_7_14_21_22 (gb6, gb7) _ ⟨hHeld, BK1.out, BK2.out, BK3.out, BK4.out, BK5.out, BK6.out, BK7.out, GW6.out, GE6.out, NB1_6.out, NB6_1.out, NB2_6.out, NB6_2.out, NB3_6.out, NB6_3.out, NB4_6.out, NB6_4.out, NB5_6.out, NB6_5.out, NB7_6.out, NB6_7.out, GW7.out, GE7.out, NB1_7.out, NB7_1.out, NB2_7.out, NB7_2.out, NB3_7.out, NB7_3.out, NB4_7.out, NB7_4.out, NB5_7.out, NB7_5.out, HB.out⟩)
    intro hJ3_7_21_22
    refine join_ (σ := Unit) 6 #[true, true, true, true, true, true, true, true, true, true, true, true, true, true, true, true, true, false, true, true, false, false, false, false, false] (fun s_ => [(66, .agg #[.int .i64 t529, .int .i64 t530]), (70, .agg #[.int .i64 t531, .int .i64 t532]), (77, .agg #[.int .i64 t533, .int .i64 t534]), (73, .agg #[.int .i64 t529, .int .i64 t530, .int .i64 t531, .int .i64 t532, .int .i64 a0_6])]) (fun s_ w' => (w'.cell? ⟨gb1, 0, none⟩ = some (.int .i64 a0_0) ∧ w'.cell? ⟨gb1, 1, none⟩ = some (.int .i64 a0_1) ∧ w'.cell? ⟨gb1, 2, none⟩ = some (.int .i64 a0_2) ∧ w'.cell? ⟨gb1, 3, none⟩ = some (.int .i64 a0_3) ∧ w'.cell? ⟨gb1, 4, none⟩ = some (.int .i64 a0_4) ∧ w'.cell? ⟨gb1, 5, none⟩ = some (.int .i64 a0_5) ∧ w'.cell? ⟨gb1, 6, none⟩ = some (.int .i64 a0_6) ∧ w'.cell? ⟨gb3, 0, none⟩ = some (.int .i64 a2_0) ∧ w'.cell? ⟨gb3, 1, none⟩ = some (.int .i64 a2_1) ∧ w'.cell? ⟨gb2, 0, none⟩ = some (.int .i64 a1_0) ∧ w'.cell? ⟨gb2, 1, none⟩ = some (.int .i64 a1_1)) ∧ (w'.heap[gb1]? = some (.cells #[.int .i64 a0_0, .int .i64 a0_1, .int .i64 a0_2, .int .i64 a0_3, .int .i64 a0_4, .int .i64 a0_5, .int .i64 a0_6] 31 (0, 0))) ∧ (w'.heap[gb2]? = some (.cells #[.int .i64 a1_0, .int .i64 a1_1] 23 (0, 0))) ∧ (w'.heap[gb3]? = some (.cells #[.int .i64 a2_0, .int .i64 a2_1] 23 (0, 0))) ∧ (w'.heap[gb4]? = some (.cells #[.int .i64 a0_0, .int .i64 a0_1, .int .i64 a0_2, .int .i64 a0_3, .int .i64 a0_6] 36 (0, 0))) ∧ (w'.heap[gb5]? = some (.cells #[.int .i64 a0_4, .int .i64 a0_5, .int .i64 a1_0, .int .i64 a1_1, .int .i64 a0_6] 36 (0, 0))) ∧ (Below w.heap.size w w')) ?_ ?_
    ·
     skip
     rintro _ w90 ⟨hS_, h0_, h1_, h2_, h3_, h4_, h5_⟩
     have n0_ := Aside0.mk h0_
     have n1_ := Aside0.mk h1_
     have n2_ := Aside0.mk h2_
     have n3_ := Aside0.mk h3_
     have n4_ := Aside0.mk h4_
     have n5_ := Aside0.mk h5_
     clear BK1; clear BK2; clear BK3; clear BK4; clear BK5; clear HB
     clear h0_ h1_ h2_ h3_ h4_ h5_
     have BK1 := n0_
     have BK2 := n1_
     have BK3 := n2_
     have BK4 := n3_
     have BK5 := n4_
     have HB := n5_
     clear n0_ n1_ n2_ n3_ n4_ n5_
     have hHeld : w90.cell? ⟨gb1, 0, none⟩ = some (.int .i64 a0_0) ∧ w90.cell? ⟨gb1, 1, none⟩ = some (.int .i64 a0_1) ∧ w90.cell? ⟨gb1, 2, none⟩ = some (.int .i64 a0_2) ∧ w90.cell? ⟨gb1, 3, none⟩ = some (.int .i64 a0_3) ∧ w90.cell? ⟨gb1, 4, none⟩ = some (.int .i64 a0_4) ∧ w90.cell? ⟨gb1, 5, none⟩ = some (.int .i64 a0_5) ∧ w90.cell? ⟨gb1, 6, none⟩ = some (.int .i64 a0_6) ∧ w90.cell? ⟨gb3, 0, none⟩ = some (.int .i64 a2_0) ∧ w90.cell? ⟨gb3, 1, none⟩ = some (.int .i64 a2_1) ∧ w90.cell? ⟨gb2, 0, none⟩ = some (.int .i64 a1_0) ∧ w90.cell? ⟨gb2, 1, none⟩ = some (.int .i64 a1_1) := hS_
     refine norm_ (a' := ?_) ?_ ?_
     rotate_left
     ·
      simp only [putAll, Act.put, List.setIfInBounds_toArray, List.set_cons_zero, List.set_cons_succ]
      rfl
     refine three_ (i := 17) (j := 21) (k := 22) (Ni := some 80) (Nj := some 9) (Nk := some 10) #[true, true, true, true, true, true, true, true, true, true, true, true, true, true, true, true, true, true, true, true, false, false, false, false, false] #[true, true, true, true, true, true, true, true, true, true, true, true, true, true, true, true, true, false, true, true, false, true, false, false, false] #[true, true, true, true, true, true, true, true, true, true, true, true, true, true, true, true, true, false, true, true, false, false, true, false, false] rfl rfl rfl rfl rfl rfl (three_of HT_.out (by kernel_rfl)) (by decide) (by decide) (by decide) (fun K hK => ?_) (fun K hK => ?_) (fun K hK => ?_)
     ·
      skip
      refine goes_ Try.func27 (by kernel_rfl) rfl #[.agg #[.int .i64 a1_0, .int .i64 a1_1], .agg #[.int .i64 a2_0, .int .i64 a2_1]] (by rfl) rfl rfl (by (try simp only [List.map_toArray, List.map_cons, List.map_nil]); first | done | rfl | (simp only [List.length_drop, List.length_take]; rfl)) ?_
      with_reducible refine (dancestudiolaw03_shifted.calls a1_0 a1_1 a2_0 a2_1 t535 t536 _ A65.out).mono ?_
      rintro e w91 ⟨rfl, hb⟩
      refine ⟨_, rfl, ?_⟩
      replace BK1 := mBb BK1 hb; replace BK2 := mBb BK2 hb; replace BK3 := mBb BK3 hb; replace BK4 := mBb BK4 hb; replace BK5 := mBb BK5 hb; replace HB := mSt HB hb
      (try clear hb)
      (try clear hb2)
      (try clear hk)
      (try clear hi)
      refine hK.out _ _ ⟨blk_cell BK1.out 0, blk_cell BK1.out 1, blk_cell BK1.out 2, blk_cell BK1.out 3, blk_cell BK1.out 4, blk_cell BK1.out 5, blk_cell BK1.out 6, blk_cell BK3.out 0, blk_cell BK3.out 1, blk_cell BK2.out 0, blk_cell BK2.out 1⟩ (fun hHeld => ?_)
      clear hK K
      refine norm_ (a' := ?_) ?_ ?_
      rotate_left
      ·
       show Act.put _ (some 80) _ = _
       simp only [Act.put, List.setIfInBounds_toArray, List.set_cons_zero, List.set_cons_succ, i64_w, i32_w]
       rfl
      refine pure_ (i := 20) (N := some 83) (v := ?_) (a' := ?_) #[true, true, true, true, true, true, true, true, true, true, true, true, true, true, true, true, true, true, true, true, true, false, false, false, false] rfl rfl (any_of HT_.out (by kernel_rfl)) (fun _ _ _ h => h) (Or.inl ⟨by rfl, ?_⟩) ?_ ?_
      rotate_left
      ·
       intro w'
       go_simp
       with_reducible rfl
      rotate_left
      ·
       simp only [Act.put, List.setIfInBounds_toArray, List.set_cons_zero, List.set_cons_succ, i64_w, i32_w]
       rfl
      exact norm_ (by simp only [putAll, Act.put, List.setIfInBounds_toArray, List.set_cons_zero, List.set_cons_succ] <;> rfl) (hJ3_7_14_17 () _ ⟨hHeld, BK1.out, BK2.out, BK3.out, BK4.out, BK5.out, HB.out⟩)
     ·
      skip
      refine box_step ?hg (N := 9) ?hd (cs := #[.int .i64 0, .int .i64 0, .int .i64 0, .int .i64 0, .int .i64 0]) (t := 36) ?hr ?_; (case hd => rfl); (case hg => rfl); (case hr => first | (go_simp; done) | (go_simp; rfl))
      intro gb6 hg w91 hbox hb
      have BK6 := Aside0.mk hbox; have GW6 := mGw HB hg; have GE6 := GW6; replace HB := mSt HB hb; have NB1_6 := mNe BK1 hg; have NB6_1 := mSy NB1_6; replace BK1 := mBb BK1 hb; have NB2_6 := mNe BK2 hg; have NB6_2 := mSy NB2_6; replace BK2 := mBb BK2 hb; have NB3_6 := mNe BK3 hg; have NB6_3 := mSy NB3_6; replace BK3 := mBb BK3 hb; have NB4_6 := mNe BK4 hg; have NB6_4 := mSy NB4_6; replace BK4 := mBb BK4 hb; have NB5_6 := mNe BK5 hg; have NB6_5 := mSy NB5_6; replace BK5 := mBb BK5 hb
      clear hb hbox hg
      refine hK.out _ _ ⟨blk_cell BK1.out 0, blk_cell BK1.out 1, blk_cell BK1.out 2, blk_cell BK1.out 3, blk_cell BK1.out 4, blk_cell BK1.out 5, blk_cell BK1.out 6, blk_cell BK3.out 0, blk_cell BK3.out 1, blk_cell BK2.out 0, blk_cell BK2.out 1⟩ (fun hHeld => ?_)
      clear hK K
      refine norm_ (a' := ?_) ?_ ?_
      rotate_left
      ·
       show Act.put _ (some 9) _ = _
       simp only [Act.put, List.setIfInBounds_toArray, List.set_cons_zero, List.set_cons_succ, i64_w, i32_w]
       rfl
      exact norm_ (by simp only [putAll, Act.put, List.setIfInBounds_toArray, List.set_cons_zero, List.set_cons_succ] <;> rfl) (hJ3_7_14_21 (gb6) _ ⟨hHeld, BK1.out, BK2.out, BK3.out, BK4.out, BK5.out, BK6.out, GW6.out, GE6.out, NB1_6.out, NB6_1.out, NB2_6.out, NB6_2.out, NB3_6.out, NB6_3.out, NB4_6.out, NB6_4.out, NB5_6.out, NB6_5.out, HB.out⟩)
     ·
      skip
      refine box_step ?hg (N := 10) ?hd (cs := #[.int .i64 0, .int .i64 0, .int .i64 0, .int .i64 0, .int .i64 0]) (t := 36) ?hr ?_; (case hd => rfl); (case hg => rfl); (case hr => first | (go_simp; done) | (go_simp; rfl))
      intro gb7 hg w91 hbox hb
      have BK7 := Aside0.mk hbox; have GW7 := mGw HB hg; have GE7 := GW7; replace HB := mSt HB hb; have NB1_7 := mNe BK1 hg; have NB7_1 := mSy NB1_7; replace BK1 := mBb BK1 hb; have NB2_7 := mNe BK2 hg; have NB7_2 := mSy NB2_7; replace BK2 := mBb BK2 hb; have NB3_7 := mNe BK3 hg; have NB7_3 := mSy NB3_7; replace BK3 := mBb BK3 hb; have NB4_7 := mNe BK4 hg; have NB7_4 := mSy NB4_7; replace BK4 := mBb BK4 hb; have NB5_7 := mNe BK5 hg; have NB7_5 := mSy NB5_7; replace BK5 := mBb BK5 hb
      clear hb hbox hg
      refine hK.out _ _ ⟨blk_cell BK1.out 0, blk_cell BK1.out 1, blk_cell BK1.out 2, blk_cell BK1.out 3, blk_cell BK1.out 4, blk_cell BK1.out 5, blk_cell BK1.out 6, blk_cell BK3.out 0, blk_cell BK3.out 1, blk_cell BK2.out 0, blk_cell BK2.out 1⟩ (fun hHeld => ?_)
      clear hK K
      refine norm_ (a' := ?_) ?_ ?_
      rotate_left
      ·
       show Act.put _ (some 10) _ = _
       simp only [Act.put, List.setIfInBounds_toArray, List.set_cons_zero, List.set_cons_succ, i64_w, i32_w]
       rfl
      exact norm_ (by simp only [putAll, Act.put, List.setIfInBounds_toArray, List.set_cons_zero, List.set_cons_succ] <;> rfl) (hJ3_7_14_22 (gb7) _ ⟨hHeld, BK1.out, BK2.out, BK3.out, BK4.out, BK5.out, BK7.out, GW7.out, GE7.out, NB1_7.out, NB7_1.out, NB2_7.out, NB7_2.out, NB3_7.out, NB7_3.out, NB4_7.out, NB7_4.out, NB5_7.out, NB7_5.out, HB.out⟩)
    intro hJ3_7_14
    refine join_ (σ := Nat) 6 #[true, true, true, true, true, true, true, true, true, true, true, true, true, true, false, true, true, false, true, true, false, true, false, false, false] (fun s_ => [(66, .agg #[.int .i64 t529, .int .i64 t530]), (70, .agg #[.int .i64 t531, .int .i64 t532]), (9, .pointer (some ⟨s_, 0, none⟩)), (73, .agg #[.int .i64 t529, .int .i64 t530, .int .i64 t531, .int .i64 t532, .int .i64 a0_6])]) (fun s_ w' => (w'.cell? ⟨gb1, 0, none⟩ = some (.int .i64 a0_0) ∧ w'.cell? ⟨gb1, 1, none⟩ = some (.int .i64 a0_1) ∧ w'.cell? ⟨gb1, 2, none⟩ = some (.int .i64 a0_2) ∧ w'.cell? ⟨gb1, 3, none⟩ = some (.int .i64 a0_3) ∧ w'.cell? ⟨gb1, 4, none⟩ = some (.int .i64 a0_4) ∧ w'.cell? ⟨gb1, 5, none⟩ = some (.int .i64 a0_5) ∧ w'.cell? ⟨gb1, 6, none⟩ = some (.int .i64 a0_6) ∧ w'.cell? ⟨gb3, 0, none⟩ = some (.int .i64 a2_0) ∧ w'.cell? ⟨gb3, 1, none⟩ = some (.int .i64 a2_1) ∧ w'.cell? ⟨gb2, 0, none⟩ = some (.int .i64 a1_0) ∧ w'.cell? ⟨gb2, 1, none⟩ = some (.int .i64 a1_1)) ∧ (w'.heap[gb1]? = some (.cells #[.int .i64 a0_0, .int .i64 a0_1, .int .i64 a0_2, .int .i64 a0_3, .int .i64 a0_4, .int .i64 a0_5, .int .i64 a0_6] 31 (0, 0))) ∧ (w'.heap[gb2]? = some (.cells #[.int .i64 a1_0, .int .i64 a1_1] 23 (0, 0))) ∧ (w'.heap[gb3]? = some (.cells #[.int .i64 a2_0, .int .i64 a2_1] 23 (0, 0))) ∧ (w'.heap[gb4]? = some (.cells #[.int .i64 a0_0, .int .i64 a0_1, .int .i64 a0_2, .int .i64 a0_3, .int .i64 a0_6] 36 (0, 0))) ∧ (w'.heap[gb5]? = some (.cells #[.int .i64 a0_4, .int .i64 a0_5, .int .i64 a1_0, .int .i64 a1_1, .int .i64 a0_6] 36 (0, 0))) ∧ (w'.heap[s_]? = some (.cells #[.int .i64 0, .int .i64 0, .int .i64 0, .int .i64 0, .int .i64 0] 36 (0, 0))) ∧ (w.heap.size ≤ s_) ∧ (w.heap.size ≤ s_) ∧ (gb1 ≠ s_) ∧ (s_ ≠ gb1) ∧ (gb2 ≠ s_) ∧ (s_ ≠ gb2) ∧ (gb3 ≠ s_) ∧ (s_ ≠ gb3) ∧ (gb4 ≠ s_) ∧ (s_ ≠ gb4) ∧ (gb5 ≠ s_) ∧ (s_ ≠ gb5) ∧ (Below w.heap.size w w')) ?_ ?_
    ·
     skip
     rintro gb6 w90 ⟨hS_, h0_, h1_, h2_, h3_, h4_, h5_, h6_, h7_, h8_, h9_, h10_, h11_, h12_, h13_, h14_, h15_, h16_, h17_, h18_⟩
     have n0_ := Aside0.mk h0_
     have n1_ := Aside0.mk h1_
     have n2_ := Aside0.mk h2_
     have n3_ := Aside0.mk h3_
     have n4_ := Aside0.mk h4_
     have n5_ := Aside0.mk h5_
     have n6_ := Aside0.mk h6_
     have n7_ := Aside0.mk h7_
     have n8_ := Aside0.mk h8_
     have n9_ := Aside0.mk h9_
     have n10_ := Aside0.mk h10_
     have n11_ := Aside0.mk h11_
     have n12_ := Aside0.mk h12_
     have n13_ := Aside0.mk h13_
     have n14_ := Aside0.mk h14_
     have n15_ := Aside0.mk h15_
     have n16_ := Aside0.mk h16_
     have n17_ := Aside0.mk h17_
     have n18_ := Aside0.mk h18_
     clear BK1; clear BK2; clear BK3; clear BK4; clear BK5; clear HB
     clear h0_ h1_ h2_ h3_ h4_ h5_ h6_ h7_ h8_ h9_ h10_ h11_ h12_ h13_ h14_ h15_ h16_ h17_ h18_
     have BK1 := n0_
     have BK2 := n1_
     have BK3 := n2_
     have BK4 := n3_
     have BK5 := n4_
     have BK6 := n5_
     have GW6 := n6_
     have GE6 := n7_
     have NB1_6 := n8_
     have NB6_1 := n9_
     have NB2_6 := n10_
     have NB6_2 := n11_
     have NB3_6 := n12_
     have NB6_3 := n13_
     have NB4_6 := n14_
     have NB6_4 := n15_
     have NB5_6 := n16_
     have NB6_5 := n17_
     have HB := n18_
     clear n0_ n1_ n2_ n3_ n4_ n5_ n6_ n7_ n8_ n9_ n10_ n11_ n12_ n13_ n14_ n15_ n16_ n17_ n18_
     have hHeld : w90.cell? ⟨gb1, 0, none⟩ = some (.int .i64 a0_0) ∧ w90.cell? ⟨gb1, 1, none⟩ = some (.int .i64 a0_1) ∧ w90.cell? ⟨gb1, 2, none⟩ = some (.int .i64 a0_2) ∧ w90.cell? ⟨gb1, 3, none⟩ = some (.int .i64 a0_3) ∧ w90.cell? ⟨gb1, 4, none⟩ = some (.int .i64 a0_4) ∧ w90.cell? ⟨gb1, 5, none⟩ = some (.int .i64 a0_5) ∧ w90.cell? ⟨gb1, 6, none⟩ = some (.int .i64 a0_6) ∧ w90.cell? ⟨gb3, 0, none⟩ = some (.int .i64 a2_0) ∧ w90.cell? ⟨gb3, 1, none⟩ = some (.int .i64 a2_1) ∧ w90.cell? ⟨gb2, 0, none⟩ = some (.int .i64 a1_0) ∧ w90.cell? ⟨gb2, 1, none⟩ = some (.int .i64 a1_1) := hS_
     refine norm_ (a' := ?_) ?_ ?_
     rotate_left
     ·
      simp only [putAll, Act.put, List.setIfInBounds_toArray, List.set_cons_zero, List.set_cons_succ]
      rfl
     refine two_ (i := 14) (j := 22) (Ni := some 77) (Nj := some 10) #[true, true, true, true, true, true, true, true, true, true, true, true, true, true, true, true, true, false, true, true, false, true, false, false, false] #[true, true, true, true, true, true, true, true, true, true, true, true, true, true, false, true, true, false, true, true, false, true, true, false, false] rfl rfl rfl rfl (two_of HT_.out (by kernel_rfl)) (by decide) (by decide) (fun K hK => ?_) (fun K hK => ?_)
     ·
      skip
      refine goes_ Try.func27 (by kernel_rfl) rfl #[.agg #[.int .i64 a0_4, .int .i64 a0_5], .agg #[.int .i64 a2_0, .int .i64 a2_1]] (by rfl) rfl rfl (by (try simp only [List.map_toArray, List.map_cons, List.map_nil]); first | done | rfl | (simp only [List.length_drop, List.length_take]; rfl)) ?_
      with_reducible refine (dancestudiolaw03_shifted.calls a0_4 a0_5 a2_0 a2_1 t533 t534 _ A64.out).mono ?_
      rintro e w91 ⟨rfl, hb⟩
      refine ⟨_, rfl, ?_⟩
      replace BK1 := mBb BK1 hb; replace BK2 := mBb BK2 hb; replace BK3 := mBb BK3 hb; replace BK4 := mBb BK4 hb; replace BK5 := mBb BK5 hb; replace BK6 := mBb BK6 hb; replace HB := mSt HB hb
      (try clear hb)
      (try clear hb2)
      (try clear hk)
      (try clear hi)
      refine hK.out _ _ ⟨blk_cell BK1.out 0, blk_cell BK1.out 1, blk_cell BK1.out 2, blk_cell BK1.out 3, blk_cell BK1.out 4, blk_cell BK1.out 5, blk_cell BK1.out 6, blk_cell BK3.out 0, blk_cell BK3.out 1, blk_cell BK2.out 0, blk_cell BK2.out 1⟩ (fun hHeld => ?_)
      clear hK K
      refine norm_ (a' := ?_) ?_ ?_
      rotate_left
      ·
       show Act.put _ (some 77) _ = _
       simp only [Act.put, List.setIfInBounds_toArray, List.set_cons_zero, List.set_cons_succ, i64_w, i32_w]
       rfl
      exact norm_ (by simp only [putAll, Act.put, List.setIfInBounds_toArray, List.set_cons_zero, List.set_cons_succ] <;> rfl) (hJ3_7_14_21 (gb6) _ ⟨hHeld, BK1.out, BK2.out, BK3.out, BK4.out, BK5.out, BK6.out, GW6.out, GE6.out, NB1_6.out, NB6_1.out, NB2_6.out, NB6_2.out, NB3_6.out, NB6_3.out, NB4_6.out, NB6_4.out, NB5_6.out, NB6_5.out, HB.out⟩)
     ·
      skip
      refine box_step ?hg (N := 10) ?hd (cs := #[.int .i64 0, .int .i64 0, .int .i64 0, .int .i64 0, .int .i64 0]) (t := 36) ?hr ?_; (case hd => rfl); (case hg => rfl); (case hr => first | (go_simp; done) | (go_simp; rfl))
      intro gb7 hg w91 hbox hb
      have BK7 := Aside0.mk hbox; have GW7 := mGw HB hg; have GE7 := GW7; replace HB := mSt HB hb; have NB1_7 := mNe BK1 hg; have NB7_1 := mSy NB1_7; replace BK1 := mBb BK1 hb; have NB2_7 := mNe BK2 hg; have NB7_2 := mSy NB2_7; replace BK2 := mBb BK2 hb; have NB3_7 := mNe BK3 hg; have NB7_3 := mSy NB3_7; replace BK3 := mBb BK3 hb; have NB4_7 := mNe BK4 hg; have NB7_4 := mSy NB4_7; replace BK4 := mBb BK4 hb; have NB5_7 := mNe BK5 hg; have NB7_5 := mSy NB5_7; replace BK5 := mBb BK5 hb; have NB6_7 := mNe BK6 hg; have NB7_6 := mSy NB6_7; replace BK6 := mBb BK6 hb
      clear hb hbox hg
      refine hK.out _ _ ⟨blk_cell BK1.out 0, blk_cell BK1.out 1, blk_cell BK1.out 2, blk_cell BK1.out 3, blk_cell BK1.out 4, blk_cell BK1.out 5, blk_cell BK1.out 6, blk_cell BK3.out 0, blk_cell BK3.out 1, blk_cell BK2.out 0, blk_cell BK2.out 1⟩ (fun hHeld => ?_)
      clear hK K
      refine norm_ (a' := ?_) ?_ ?_
      rotate_left
      ·
       show Act.put _ (some 10) _ = _
       simp only [Act.put, List.setIfInBounds_toArray, List.set_cons_zero, List.set_cons_succ, i64_w, i32_w]
       rfl
      exact norm_ (by simp only [putAll, Act.put, List.setIfInBounds_toArray, List.set_cons_zero, List.set_cons_succ] <;> rfl) (hJ3_7_21_22 (gb6, gb7) _ ⟨hHeld, BK1.out, BK2.out, BK3.out, BK4.out, BK5.out, BK6.out, BK7.out, GW6.out, GE6.out, NB1_6.out, NB6_1.out, NB2_6.out, NB6_2.out, NB3_6.out, NB6_3.out, NB4_6.out, NB6_4.out, NB5_6.out, NB6_5.out, NB7_6.out, NB6_7.out, GW7.out, GE7.out, NB1_7.out, NB7_1.out, NB2_7.out, NB7_2.out, NB3_7.out, NB7_3.out, NB4_7.out, NB7_4.out, NB5_7.out, NB7_5.out, HB.out⟩)
    intro hJ3_7_21
    refine join_ (σ := Nat) 6 #[true, true, true, true, true, true, true, true, true, true, true, true, true, true, false, true, true, false, true, true, false, false, true, false, false] (fun s_ => [(66, .agg #[.int .i64 t529, .int .i64 t530]), (70, .agg #[.int .i64 t531, .int .i64 t532]), (10, .pointer (some ⟨s_, 0, none⟩)), (73, .agg #[.int .i64 t529, .int .i64 t530, .int .i64 t531, .int .i64 t532, .int .i64 a0_6])]) (fun s_ w' => (w'.cell? ⟨gb1, 0, none⟩ = some (.int .i64 a0_0) ∧ w'.cell? ⟨gb1, 1, none⟩ = some (.int .i64 a0_1) ∧ w'.cell? ⟨gb1, 2, none⟩ = some (.int .i64 a0_2) ∧ w'.cell? ⟨gb1, 3, none⟩ = some (.int .i64 a0_3) ∧ w'.cell? ⟨gb1, 4, none⟩ = some (.int .i64 a0_4) ∧ w'.cell? ⟨gb1, 5, none⟩ = some (.int .i64 a0_5) ∧ w'.cell? ⟨gb1, 6, none⟩ = some (.int .i64 a0_6) ∧ w'.cell? ⟨gb3, 0, none⟩ = some (.int .i64 a2_0) ∧ w'.cell? ⟨gb3, 1, none⟩ = some (.int .i64 a2_1) ∧ w'.cell? ⟨gb2, 0, none⟩ = some (.int .i64 a1_0) ∧ w'.cell? ⟨gb2, 1, none⟩ = some (.int .i64 a1_1)) ∧ (w'.heap[gb1]? = some (.cells #[.int .i64 a0_0, .int .i64 a0_1, .int .i64 a0_2, .int .i64 a0_3, .int .i64 a0_4, .int .i64 a0_5, .int .i64 a0_6] 31 (0, 0))) ∧ (w'.heap[gb2]? = some (.cells #[.int .i64 a1_0, .int .i64 a1_1] 23 (0, 0))) ∧ (w'.heap[gb3]? = some (.cells #[.int .i64 a2_0, .int .i64 a2_1] 23 (0, 0))) ∧ (w'.heap[gb4]? = some (.cells #[.int .i64 a0_0, .int .i64 a0_1, .int .i64 a0_2, .int .i64 a0_3, .int .i64 a0_6] 36 (0, 0))) ∧ (w'.heap[gb5]? = some (.cells #[.int .i64 a0_4, .int .i64 a0_5, .int .i64 a1_0, .int .i64 a1_1, .int .i64 a0_6] 36 (0, 0))) ∧ (w'.heap[s_]? = some (.cells #[.int .i64 0, .int .i64 0, .int .i64 0, .int .i64 0, .int .i64 0] 36 (0, 0))) ∧ (w.heap.size ≤ s_) ∧ (w.heap.size ≤ s_) ∧ (gb1 ≠ s_) ∧ (s_ ≠ gb1) ∧ (gb2 ≠ s_) ∧ (s_ ≠ gb2) ∧ (gb3 ≠ s_) ∧ (s_ ≠ gb3) ∧ (gb4 ≠ s_) ∧ (s_ ≠ gb4) ∧ (gb5 ≠ s_) ∧ (s_ ≠ gb5) ∧ (Below w.heap.size w w')) ?_ ?_
    ·
     skip
     rintro gb7 w90 ⟨hS_, h0_, h1_, h2_, h3_, h4_, h5_, h6_, h7_, h8_, h9_, h10_, h11_, h12_, h13_, h14_, h15_, h16_, h17_, h18_⟩
     have n0_ := Aside0.mk h0_
     have n1_ := Aside0.mk h1_
     have n2_ := Aside0.mk h2_
     have n3_ := Aside0.mk h3_
     have n4_ := Aside0.mk h4_
     have n5_ := Aside0.mk h5_
     have n6_ := Aside0.mk h6_
     have n7_ := Aside0.mk h7_
     have n8_ := Aside0.mk h8_
     have n9_ := Aside0.mk h9_
     have n10_ := Aside0.mk h10_
     have n11_ := Aside0.mk h11_
     have n12_ := Aside0.mk h12_
     have n13_ := Aside0.mk h13_
     have n14_ := Aside0.mk h14_
     have n15_ := Aside0.mk h15_
     have n16_ := Aside0.mk h16_
     have n17_ := Aside0.mk h17_
     have n18_ := Aside0.mk h18_
     clear BK1; clear BK2; clear BK3; clear BK4; clear BK5; clear HB
     clear h0_ h1_ h2_ h3_ h4_ h5_ h6_ h7_ h8_ h9_ h10_ h11_ h12_ h13_ h14_ h15_ h16_ h17_ h18_
     have BK1 := n0_
     have BK2 := n1_
     have BK3 := n2_
     have BK4 := n3_
     have BK5 := n4_
     have BK7 := n5_
     have GW7 := n6_
     have GE7 := n7_
     have NB1_7 := n8_
     have NB7_1 := n9_
     have NB2_7 := n10_
     have NB7_2 := n11_
     have NB3_7 := n12_
     have NB7_3 := n13_
     have NB4_7 := n14_
     have NB7_4 := n15_
     have NB5_7 := n16_
     have NB7_5 := n17_
     have HB := n18_
     clear n0_ n1_ n2_ n3_ n4_ n5_ n6_ n7_ n8_ n9_ n10_ n11_ n12_ n13_ n14_ n15_ n16_ n17_ n18_
     have hHeld : w90.cell? ⟨gb1, 0, none⟩ = some (.int .i64 a0_0) ∧ w90.cell? ⟨gb1, 1, none⟩ = some (.int .i64 a0_1) ∧ w90.cell? ⟨gb1, 2, none⟩ = some (.int .i64 a0_2) ∧ w90.cell? ⟨gb1, 3, none⟩ = some (.int .i64 a0_3) ∧ w90.cell? ⟨gb1, 4, none⟩ = some (.int .i64 a0_4) ∧ w90.cell? ⟨gb1, 5, none⟩ = some (.int .i64 a0_5) ∧ w90.cell? ⟨gb1, 6, none⟩ = some (.int .i64 a0_6) ∧ w90.cell? ⟨gb3, 0, none⟩ = some (.int .i64 a2_0) ∧ w90.cell? ⟨gb3, 1, none⟩ = some (.int .i64 a2_1) ∧ w90.cell? ⟨gb2, 0, none⟩ = some (.int .i64 a1_0) ∧ w90.cell? ⟨gb2, 1, none⟩ = some (.int .i64 a1_1) := hS_
     refine norm_ (a' := ?_) ?_ ?_
     rotate_left
     ·
      simp only [putAll, Act.put, List.setIfInBounds_toArray, List.set_cons_zero, List.set_cons_succ]
      rfl
     refine two_ (i := 14) (j := 21) (Ni := some 77) (Nj := some 9) #[true, true, true, true, true, true, true, true, true, true, true, true, true, true, true, true, true, false, true, true, false, false, true, false, false] #[true, true, true, true, true, true, true, true, true, true, true, true, true, true, false, true, true, false, true, true, false, true, true, false, false] rfl rfl rfl rfl (two_of HT_.out (by kernel_rfl)) (by decide) (by decide) (fun K hK => ?_) (fun K hK => ?_)
     ·
      skip
      refine goes_ Try.func27 (by kernel_rfl) rfl #[.agg #[.int .i64 a0_4, .int .i64 a0_5], .agg #[.int .i64 a2_0, .int .i64 a2_1]] (by rfl) rfl rfl (by (try simp only [List.map_toArray, List.map_cons, List.map_nil]); first | done | rfl | (simp only [List.length_drop, List.length_take]; rfl)) ?_
      with_reducible refine (dancestudiolaw03_shifted.calls a0_4 a0_5 a2_0 a2_1 t533 t534 _ A64.out).mono ?_
      rintro e w91 ⟨rfl, hb⟩
      refine ⟨_, rfl, ?_⟩
      replace BK1 := mBb BK1 hb; replace BK2 := mBb BK2 hb; replace BK3 := mBb BK3 hb; replace BK4 := mBb BK4 hb; replace BK5 := mBb BK5 hb; replace BK7 := mBb BK7 hb; replace HB := mSt HB hb
      (try clear hb)
      (try clear hb2)
      (try clear hk)
      (try clear hi)
      refine hK.out _ _ ⟨blk_cell BK1.out 0, blk_cell BK1.out 1, blk_cell BK1.out 2, blk_cell BK1.out 3, blk_cell BK1.out 4, blk_cell BK1.out 5, blk_cell BK1.out 6, blk_cell BK3.out 0, blk_cell BK3.out 1, blk_cell BK2.out 0, blk_cell BK2.out 1⟩ (fun hHeld => ?_)
      clear hK K
      refine norm_ (a' := ?_) ?_ ?_
      rotate_left
      ·
       show Act.put _ (some 77) _ = _
       simp only [Act.put, List.setIfInBounds_toArray, List.set_cons_zero, List.set_cons_succ, i64_w, i32_w]
       rfl
      exact norm_ (by simp only [putAll, Act.put, List.setIfInBounds_toArray, List.set_cons_zero, List.set_cons_succ] <;> rfl) (hJ3_7_14_22 (gb7) _ ⟨hHeld, BK1.out, BK2.out, BK3.out, BK4.out, BK5.out, BK7.out, GW7.out, GE7.out, NB1_7.out, NB7_1.out, NB2_7.out, NB7_2.out, NB3_7.out, NB7_3.out, NB4_7.out, NB7_4.out, NB5_7.out, NB7_5.out, HB.out⟩)
     ·
      skip
      refine box_step ?hg (N := 9) ?hd (cs := #[.int .i64 0, .int .i64 0, .int .i64 0, .int .i64 0, .int .i64 0]) (t := 36) ?hr ?_; (case hd => rfl); (case hg => rfl); (case hr => first | (go_simp; done) | (go_simp; rfl))
      intro gb6 hg w91 hbox hb
      have BK6 := Aside0.mk hbox; have GW6 := mGw HB hg; have GE6 := GW6; replace HB := mSt HB hb; have NB1_6 := mNe BK1 hg; have NB6_1 := mSy NB1_6; replace BK1 := mBb BK1 hb; have NB2_6 := mNe BK2 hg; have NB6_2 := mSy NB2_6; replace BK2 := mBb BK2 hb; have NB3_6 := mNe BK3 hg; have NB6_3 := mSy NB3_6; replace BK3 := mBb BK3 hb; have NB4_6 := mNe BK4 hg; have NB6_4 := mSy NB4_6; replace BK4 := mBb BK4 hb; have NB5_6 := mNe BK5 hg; have NB6_5 := mSy NB5_6; replace BK5 := mBb BK5 hb; have NB7_6 := mNe BK7 hg; have NB6_7 := mSy NB7_6; replace BK7 := mBb BK7 hb
      clear hb hbox hg
      refine hK.out _ _ ⟨blk_cell BK1.out 0, blk_cell BK1.out 1, blk_cell BK1.out 2, blk_cell BK1.out 3, blk_cell BK1.out 4, blk_cell BK1.out 5, blk_cell BK1.out 6, blk_cell BK3.out 0, blk_cell BK3.out 1, blk_cell BK2.out 0, blk_cell BK2.out 1⟩ (fun hHeld => ?_)
      clear hK K
      refine norm_ (a' := ?_) ?_ ?_
      rotate_left
      ·
       show Act.put _ (some 9) _ = _
       simp only [Act.put, List.setIfInBounds_toArray, List.set_cons_zero, List.set_cons_succ, i64_w, i32_w]
       rfl
      exact norm_ (by simp only [putAll, Act.put, List.setIfInBounds_toArray, List.set_cons_zero, List.set_cons_succ] <;> rfl) (hJ3_7_21_22 (gb6, gb7) _ ⟨hHeld, BK1.out, BK2.out, BK3.out, BK4.out, BK5.out, BK6.out, BK7.out, GW6.out, GE6.out, NB1_6.out, NB6_1.out, NB2_6.out, NB6_2.out, NB3_6.out, NB6_3.out, NB4_6.out, NB6_4.out, NB5_6.out, NB6_5.out, NB7_6.out, NB6_7.out, GW7.out, GE7.out, NB1_7.out, NB7_1.out, NB2_7.out, NB7_2.out, NB3_7.out, NB7_3.out, NB4_7.out, NB7_4.out, NB5_7.out, NB7_5.out, HB.out⟩)
    intro hJ3_7_22
    refine join_ (σ := Nat × Nat) 7 #[true, true, true, true, true, true, true, false, true, true, false, true, true, true, false, true, true, false, true, true, false, true, true, false, false] (fun s_ => [(66, .agg #[.int .i64 t529, .int .i64 t530]), (9, .pointer (some ⟨s_.1, 0, none⟩)), (10, .pointer (some ⟨s_.2, 0, none⟩))]) (fun s_ w' => (w'.cell? ⟨gb1, 0, none⟩ = some (.int .i64 a0_0) ∧ w'.cell? ⟨gb1, 1, none⟩ = some (.int .i64 a0_1) ∧ w'.cell? ⟨gb1, 2, none⟩ = some (.int .i64 a0_2) ∧ w'.cell? ⟨gb1, 3, none⟩ = some (.int .i64 a0_3) ∧ w'.cell? ⟨gb1, 4, none⟩ = some (.int .i64 a0_4) ∧ w'.cell? ⟨gb1, 5, none⟩ = some (.int .i64 a0_5) ∧ w'.cell? ⟨gb1, 6, none⟩ = some (.int .i64 a0_6) ∧ w'.cell? ⟨gb3, 0, none⟩ = some (.int .i64 a2_0) ∧ w'.cell? ⟨gb3, 1, none⟩ = some (.int .i64 a2_1) ∧ w'.cell? ⟨gb2, 0, none⟩ = some (.int .i64 a1_0) ∧ w'.cell? ⟨gb2, 1, none⟩ = some (.int .i64 a1_1)) ∧ (w'.heap[gb1]? = some (.cells #[.int .i64 a0_0, .int .i64 a0_1, .int .i64 a0_2, .int .i64 a0_3, .int .i64 a0_4, .int .i64 a0_5, .int .i64 a0_6] 31 (0, 0))) ∧ (w'.heap[gb2]? = some (.cells #[.int .i64 a1_0, .int .i64 a1_1] 23 (0, 0))) ∧ (w'.heap[gb3]? = some (.cells #[.int .i64 a2_0, .int .i64 a2_1] 23 (0, 0))) ∧ (w'.heap[gb4]? = some (.cells #[.int .i64 a0_0, .int .i64 a0_1, .int .i64 a0_2, .int .i64 a0_3, .int .i64 a0_6] 36 (0, 0))) ∧ (w'.heap[gb5]? = some (.cells #[.int .i64 a0_4, .int .i64 a0_5, .int .i64 a1_0, .int .i64 a1_1, .int .i64 a0_6] 36 (0, 0))) ∧ (w'.heap[s_.1]? = some (.cells #[.int .i64 0, .int .i64 0, .int .i64 0, .int .i64 0, .int .i64 0] 36 (0, 0))) ∧ (w'.heap[s_.2]? = some (.cells #[.int .i64 0, .int .i64 0, .int .i64 0, .int .i64 0, .int .i64 0] 36 (0, 0))) ∧ (w.heap.size ≤ s_.1) ∧ (w.heap.size ≤ s_.1) ∧ (gb1 ≠ s_.1) ∧ (s_.1 ≠ gb1) ∧ (gb2 ≠ s_.1) ∧ (s_.1 ≠ gb2) ∧ (gb3 ≠ s_.1) ∧ (s_.1 ≠ gb3) ∧ (gb4 ≠ s_.1) ∧ (s_.1 ≠ gb4) ∧ (gb5 ≠ s_.1) ∧ (s_.1 ≠ gb5) ∧ (s_.2 ≠ s_.1) ∧ (s_.1 ≠ s_.2) ∧ (w.heap.size ≤ s_.2) ∧ (w.heap.size ≤ s_.2) ∧ (gb1 ≠ s_.2) ∧ (s_.2 ≠ gb1) ∧ (gb2 ≠ s_.2) ∧ (s_.2 ≠ gb2) ∧ (gb3 ≠ s_.2) ∧ (s_.2 ≠ gb3) ∧ (gb4 ≠ s_.2) ∧ (s_.2 ≠ gb4) ∧ (gb5 ≠ s_.2) ∧ (s_.2 ≠ gb5) ∧ (Below w.heap.size w w')) ?_ ?_
    ·
     skip
     rintro ⟨gb6, gb7⟩ w90 ⟨hS_, h0_, h1_, h2_, h3_, h4_, h5_, h6_, h7_, h8_, h9_, h10_, h11_, h12_, h13_, h14_, h15_, h16_, h17_, h18_, h19_, h20_, h21_, h22_, h23_, h24_, h25_, h26_, h27_, h28_, h29_, h30_, h31_, h32_, h33_⟩
     try dsimp only at h0_ h1_ h2_ h3_ h4_ h5_ h6_ h7_ h8_ h9_ h10_ h11_ h12_ h13_ h14_ h15_ h16_ h17_ h18_ h19_ h20_ h21_ h22_ h23_ h24_ h25_ h26_ h27_ h28_ h29_ h30_ h31_ h32_ h33_
     have n0_ := Aside0.mk h0_
     have n1_ := Aside0.mk h1_
     have n2_ := Aside0.mk h2_
     have n3_ := Aside0.mk h3_
     have n4_ := Aside0.mk h4_
     have n5_ := Aside0.mk h5_
     have n6_ := Aside0.mk h6_
     have n7_ := Aside0.mk h7_
     have n8_ := Aside0.mk h8_
     have n9_ := Aside0.mk h9_
     have n10_ := Aside0.mk h10_
     have n11_ := Aside0.mk h11_
     have n12_ := Aside0.mk h12_
     have n13_ := Aside0.mk h13_
     have n14_ := Aside0.mk h14_
     have n15_ := Aside0.mk h15_
     have n16_ := Aside0.mk h16_
     have n17_ := Aside0.mk h17_
     have n18_ := Aside0.mk h18_
     have n19_ := Aside0.mk h19_
     have n20_ := Aside0.mk h20_
     have n21_ := Aside0.mk h21_
     have n22_ := Aside0.mk h22_
     have n23_ := Aside0.mk h23_
     have n24_ := Aside0.mk h24_
     have n25_ := Aside0.mk h25_
     have n26_ := Aside0.mk h26_
     have n27_ := Aside0.mk h27_
     have n28_ := Aside0.mk h28_
     have n29_ := Aside0.mk h29_
     have n30_ := Aside0.mk h30_
     have n31_ := Aside0.mk h31_
     have n32_ := Aside0.mk h32_
     have n33_ := Aside0.mk h33_
     clear BK1; clear BK2; clear BK3; clear BK4; clear BK5; clear HB
     clear h0_ h1_ h2_ h3_ h4_ h5_ h6_ h7_ h8_ h9_ h10_ h11_ h12_ h13_ h14_ h15_ h16_ h17_ h18_ h19_ h20_ h21_ h22_ h23_ h24_ h25_ h26_ h27_ h28_ h29_ h30_ h31_ h32_ h33_
     have BK1 := n0_
     have BK2 := n1_
     have BK3 := n2_
     have BK4 := n3_
     have BK5 := n4_
     have BK6 := n5_
     have BK7 := n6_
     have GW6 := n7_
     have GE6 := n8_
     have NB1_6 := n9_
     have NB6_1 := n10_
     have NB2_6 := n11_
     have NB6_2 := n12_
     have NB3_6 := n13_
     have NB6_3 := n14_
     have NB4_6 := n15_
     have NB6_4 := n16_
     have NB5_6 := n17_
     have NB6_5 := n18_
     have NB7_6 := n19_
     have NB6_7 := n20_
     have GW7 := n21_
     have GE7 := n22_
     have NB1_7 := n23_
     have NB7_1 := n24_
     have NB2_7 := n25_
     have NB7_2 := n26_
     have NB3_7 := n27_
     have NB7_3 := n28_
     have NB4_7 := n29_
     have NB7_4 := n30_
     have NB5_7 := n31_
     have NB7_5 := n32_
     have HB := n33_
     clear n0_ n1_ n2_ n3_ n4_ n5_ n6_ n7_ n8_ n9_ n10_ n11_ n12_ n13_ n14_ n15_ n16_ n17_ n18_ n19_ n20_ n21_ n22_ n23_ n24_ n25_ n26_ n27_ n28_ n29_ n30_ n31_ n32_ n33_
     have hHeld : w90.cell? ⟨gb1, 0, none⟩ = some (.int .i64 a0_0) ∧ w90.cell? ⟨gb1, 1, none⟩ = some (.int .i64 a0_1) ∧ w90.cell? ⟨gb1, 2, none⟩ = some (.int .i64 a0_2) ∧ w90.cell? ⟨gb1, 3, none⟩ = some (.int .i64 a0_3) ∧ w90.cell? ⟨gb1, 4, none⟩ = some (.int .i64 a0_4) ∧ w90.cell? ⟨gb1, 5, none⟩ = some (.int .i64 a0_5) ∧ w90.cell? ⟨gb1, 6, none⟩ = some (.int .i64 a0_6) ∧ w90.cell? ⟨gb3, 0, none⟩ = some (.int .i64 a2_0) ∧ w90.cell? ⟨gb3, 1, none⟩ = some (.int .i64 a2_1) ∧ w90.cell? ⟨gb2, 0, none⟩ = some (.int .i64 a1_0) ∧ w90.cell? ⟨gb2, 1, none⟩ = some (.int .i64 a1_1) := hS_
     refine norm_ (a' := ?_) ?_ ?_
     rotate_left
     ·
      simp only [putAll, Act.put, List.setIfInBounds_toArray, List.set_cons_zero, List.set_cons_succ]
      rfl
     refine one_ (i := 7) (N := some 70) #[true, true, true, true, true, true, true, true, true, true, false, true, true, true, false, true, true, false, true, true, false, true, true, false, false] rfl rfl (one_of HT_.out (by kernel_rfl)) (by decide) (fun K hK => ?_)
     refine goes_ Try.func27 (by kernel_rfl) rfl #[.agg #[.int .i64 a0_2, .int .i64 a0_3], .agg #[.int .i64 a2_0, .int .i64 a2_1]] (by rfl) rfl rfl (by (try simp only [List.map_toArray, List.map_cons, List.map_nil]); first | done | rfl | (simp only [List.length_drop, List.length_take]; rfl)) ?_
     with_reducible refine (dancestudiolaw03_shifted.calls a0_2 a0_3 a2_0 a2_1 t531 t532 _ A63.out).mono ?_
     rintro e w91 ⟨rfl, hb⟩
     refine ⟨_, rfl, ?_⟩
     replace BK1 := mBb BK1 hb; replace BK2 := mBb BK2 hb; replace BK3 := mBb BK3 hb; replace BK4 := mBb BK4 hb; replace BK5 := mBb BK5 hb; replace BK6 := mBb BK6 hb; replace BK7 := mBb BK7 hb; replace HB := mSt HB hb
     (try clear hb)
     (try clear hb2)
     (try clear hk)
     (try clear hi)
     refine hK.out _ _ ⟨blk_cell BK1.out 0, blk_cell BK1.out 1, blk_cell BK1.out 2, blk_cell BK1.out 3, blk_cell BK1.out 4, blk_cell BK1.out 5, blk_cell BK1.out 6, blk_cell BK3.out 0, blk_cell BK3.out 1, blk_cell BK2.out 0, blk_cell BK2.out 1⟩ (fun hHeld => ?_)
     clear hK K
     refine norm_ (a' := ?_) ?_ ?_
     rotate_left
     ·
      show Act.put _ (some 70) _ = _
      simp only [Act.put, List.setIfInBounds_toArray, List.set_cons_zero, List.set_cons_succ, i64_w, i32_w]
      rfl
     refine pure_ (i := 10) (N := some 73) (v := ?_) (a' := ?_) #[true, true, true, true, true, true, true, true, true, true, true, true, true, true, false, true, true, false, true, true, false, true, true, false, false] rfl rfl (any_of HT_.out (by kernel_rfl)) (fun _ _ _ h => h) (Or.inl ⟨by rfl, ?_⟩) ?_ ?_
     rotate_left
     ·
      intro w'
      go_simp
      with_reducible rfl
     rotate_left
     ·
      simp only [Act.put, List.setIfInBounds_toArray, List.set_cons_zero, List.set_cons_succ, i64_w, i32_w]
      rfl
     exact norm_ (by simp only [putAll, Act.put, List.setIfInBounds_toArray, List.set_cons_zero, List.set_cons_succ] <;> rfl) (hJ3_7_21_22 (gb6, gb7) _ ⟨hHeld, BK1.out, BK2.out, BK3.out, BK4.out, BK5.out, BK6.out, BK7.out, GW6.out, GE6.out, NB1_6.out, NB6_1.out, NB2_6.out, NB6_2.out, NB3_6.out, NB6_3.out, NB4_6.out, NB6_4.out, NB5_6.out, NB6_5.out, NB7_6.out, NB6_7.out, GW7.out, GE7.out, NB1_7.out, NB7_1.out, NB2_7.out, NB7_2.out, NB3_7.out, NB7_3.out, NB4_7.out, NB7_4.out, NB5_7.out, NB7_5.out, HB.out⟩)
    intro hJ3_21_22
    refine join_ (σ := Unit) 7 #[true, true, true, true, true, true, true, true, true, true, true, true, true, true, false, true, true, false, true, true, false, false, false, false, false] (fun s_ => [(66, .agg #[.int .i64 t529, .int .i64 t530]), (70, .agg #[.int .i64 t531, .int .i64 t532]), (73, .agg #[.int .i64 t529, .int .i64 t530, .int .i64 t531, .int .i64 t532, .int .i64 a0_6])]) (fun s_ w' => (w'.cell? ⟨gb1, 0, none⟩ = some (.int .i64 a0_0) ∧ w'.cell? ⟨gb1, 1, none⟩ = some (.int .i64 a0_1) ∧ w'.cell? ⟨gb1, 2, none⟩ = some (.int .i64 a0_2) ∧ w'.cell? ⟨gb1, 3, none⟩ = some (.int .i64 a0_3) ∧ w'.cell? ⟨gb1, 4, none⟩ = some (.int .i64 a0_4) ∧ w'.cell? ⟨gb1, 5, none⟩ = some (.int .i64 a0_5) ∧ w'.cell? ⟨gb1, 6, none⟩ = some (.int .i64 a0_6) ∧ w'.cell? ⟨gb3, 0, none⟩ = some (.int .i64 a2_0) ∧ w'.cell? ⟨gb3, 1, none⟩ = some (.int .i64 a2_1) ∧ w'.cell? ⟨gb2, 0, none⟩ = some (.int .i64 a1_0) ∧ w'.cell? ⟨gb2, 1, none⟩ = some (.int .i64 a1_1)) ∧ (w'.heap[gb1]? = some (.cells #[.int .i64 a0_0, .int .i64 a0_1, .int .i64 a0_2, .int .i64 a0_3, .int .i64 a0_4, .int .i64 a0_5, .int .i64 a0_6] 31 (0, 0))) ∧ (w'.heap[gb2]? = some (.cells #[.int .i64 a1_0, .int .i64 a1_1] 23 (0, 0))) ∧ (w'.heap[gb3]? = some (.cells #[.int .i64 a2_0, .int .i64 a2_1] 23 (0, 0))) ∧ (w'.heap[gb4]? = some (.cells #[.int .i64 a0_0, .int .i64 a0_1, .int .i64 a0_2, .int .i64 a0_3, .int .i64 a0_6] 36 (0, 0))) ∧ (w'.heap[gb5]? = some (.cells #[.int .i64 a0_4, .int .i64 a0_5, .int .i64 a1_0, .int .i64 a1_1, .int .i64 a0_6] 36 (0, 0))) ∧ (Below w.heap.size w w')) ?_ ?_
    ·
     skip
     rintro _ w89 ⟨hS_, h0_, h1_, h2_, h3_, h4_, h5_⟩
     have n0_ := Aside0.mk h0_
     have n1_ := Aside0.mk h1_
     have n2_ := Aside0.mk h2_
     have n3_ := Aside0.mk h3_
     have n4_ := Aside0.mk h4_
     have n5_ := Aside0.mk h5_
     clear BK1; clear BK2; clear BK3; clear BK4; clear BK5; clear HB
     clear h0_ h1_ h2_ h3_ h4_ h5_
     have BK1 := n0_
     have BK2 := n1_
     have BK3 := n2_
     have BK4 := n3_
     have BK5 := n4_
     have HB := n5_
     clear n0_ n1_ n2_ n3_ n4_ n5_
     have hHeld : w89.cell? ⟨gb1, 0, none⟩ = some (.int .i64 a0_0) ∧ w89.cell? ⟨gb1, 1, none⟩ = some (.int .i64 a0_1) ∧ w89.cell? ⟨gb1, 2, none⟩ = some (.int .i64 a0_2) ∧ w89.cell? ⟨gb1, 3, none⟩ = some (.int .i64 a0_3) ∧ w89.cell? ⟨gb1, 4, none⟩ = some (.int .i64 a0_4) ∧ w89.cell? ⟨gb1, 5, none⟩ = some (.int .i64 a0_5) ∧ w89.cell? ⟨gb1, 6, none⟩ = some (.int .i64 a0_6) ∧ w89.cell? ⟨gb3, 0, none⟩ = some (.int .i64 a2_0) ∧ w89.cell? ⟨gb3, 1, none⟩ = some (.int .i64 a2_1) ∧ w89.cell? ⟨gb2, 0, none⟩ = some (.int .i64 a1_0) ∧ w89.cell? ⟨gb2, 1, none⟩ = some (.int .i64 a1_1) := hS_
     refine norm_ (a' := ?_) ?_ ?_
     rotate_left
     ·
      simp only [putAll, Act.put, List.setIfInBounds_toArray, List.set_cons_zero, List.set_cons_succ]
      rfl
     refine three_ (i := 14) (j := 21) (k := 22) (Ni := some 77) (Nj := some 9) (Nk := some 10) #[true, true, true, true, true, true, true, true, true, true, true, true, true, true, true, true, true, false, true, true, false, false, false, false, false] #[true, true, true, true, true, true, true, true, true, true, true, true, true, true, false, true, true, false, true, true, false, true, false, false, false] #[true, true, true, true, true, true, true, true, true, true, true, true, true, true, false, true, true, false, true, true, false, false, true, false, false] rfl rfl rfl rfl rfl rfl (three_of HT_.out (by kernel_rfl)) (by decide) (by decide) (by decide) (fun K hK => ?_) (fun K hK => ?_) (fun K hK => ?_)
     ·
      skip
      refine goes_ Try.func27 (by kernel_rfl) rfl #[.agg #[.int .i64 a0_4, .int .i64 a0_5], .agg #[.int .i64 a2_0, .int .i64 a2_1]] (by rfl) rfl rfl (by (try simp only [List.map_toArray, List.map_cons, List.map_nil]); first | done | rfl | (simp only [List.length_drop, List.length_take]; rfl)) ?_
      with_reducible refine (dancestudiolaw03_shifted.calls a0_4 a0_5 a2_0 a2_1 t533 t534 _ A64.out).mono ?_
      rintro e w90 ⟨rfl, hb⟩
      refine ⟨_, rfl, ?_⟩
      replace BK1 := mBb BK1 hb; replace BK2 := mBb BK2 hb; replace BK3 := mBb BK3 hb; replace BK4 := mBb BK4 hb; replace BK5 := mBb BK5 hb; replace HB := mSt HB hb
      (try clear hb)
      (try clear hb2)
      (try clear hk)
      (try clear hi)
      refine hK.out _ _ ⟨blk_cell BK1.out 0, blk_cell BK1.out 1, blk_cell BK1.out 2, blk_cell BK1.out 3, blk_cell BK1.out 4, blk_cell BK1.out 5, blk_cell BK1.out 6, blk_cell BK3.out 0, blk_cell BK3.out 1, blk_cell BK2.out 0, blk_cell BK2.out 1⟩ (fun hHeld => ?_)
      clear hK K
      refine norm_ (a' := ?_) ?_ ?_
      rotate_left
      ·
       show Act.put _ (some 77) _ = _
       simp only [Act.put, List.setIfInBounds_toArray, List.set_cons_zero, List.set_cons_succ, i64_w, i32_w]
       rfl
      exact norm_ (by simp only [putAll, Act.put, List.setIfInBounds_toArray, List.set_cons_zero, List.set_cons_succ] <;> rfl) (hJ3_7_14 () _ ⟨hHeld, BK1.out, BK2.out, BK3.out, BK4.out, BK5.out, HB.out⟩)
     ·
      skip
      refine box_step ?hg (N := 9) ?hd (cs := #[.int .i64 0, .int .i64 0, .int .i64 0, .int .i64 0, .int .i64 0]) (t := 36) ?hr ?_; (case hd => rfl); (case hg => rfl); (case hr => first | (go_simp; done) | (go_simp; rfl))
      intro gb6 hg w90 hbox hb
      have BK6 := Aside0.mk hbox; have GW6 := mGw HB hg; have GE6 := GW6; replace HB := mSt HB hb; have NB1_6 := mNe BK1 hg; have NB6_1 := mSy NB1_6; replace BK1 := mBb BK1 hb; have NB2_6 := mNe BK2 hg; have NB6_2 := mSy NB2_6; replace BK2 := mBb BK2 hb; have NB3_6 := mNe BK3 hg; have NB6_3 := mSy NB3_6; replace BK3 := mBb BK3 hb; have NB4_6 := mNe BK4 hg; have NB6_4 := mSy NB4_6; replace BK4 := mBb BK4 hb; have NB5_6 := mNe BK5 hg; have NB6_5 := mSy NB5_6; replace BK5 := mBb BK5 hb
      clear hb hbox hg
      refine hK.out _ _ ⟨blk_cell BK1.out 0, blk_cell BK1.out 1, blk_cell BK1.out 2, blk_cell BK1.out 3, blk_cell BK1.out 4, blk_cell BK1.out 5, blk_cell BK1.out 6, blk_cell BK3.out 0, blk_cell BK3.out 1, blk_cell BK2.out 0, blk_cell BK2.out 1⟩ (fun hHeld => ?_)
      clear hK K
      refine norm_ (a' := ?_) ?_ ?_
      rotate_left
      ·
       show Act.put _ (some 9) _ = _
       simp only [Act.put, List.setIfInBounds_toArray, List.set_cons_zero, List.set_cons_succ, i64_w, i32_w]
       rfl
      exact norm_ (by simp only [putAll, Act.put, List.setIfInBounds_toArray, List.set_cons_zero, List.set_cons_succ] <;> rfl) (hJ3_7_21 (gb6) _ ⟨hHeld, BK1.out, BK2.out, BK3.out, BK4.out, BK5.out, BK6.out, GW6.out, GE6.out, NB1_6.out, NB6_1.out, NB2_6.out, NB6_2.out, NB3_6.out, NB6_3.out, NB4_6.out, NB6_4.out, NB5_6.out, NB6_5.out, HB.out⟩)
     ·
      skip
      refine box_step ?hg (N := 10) ?hd (cs := #[.int .i64 0, .int .i64 0, .int .i64 0, .int .i64 0, .int .i64 0]) (t := 36) ?hr ?_; (case hd => rfl); (case hg => rfl); (case hr => first | (go_simp; done) | (go_simp; rfl))
      intro gb7 hg w90 hbox hb
      have BK7 := Aside0.mk hbox; have GW7 := mGw HB hg; have GE7 := GW7; replace HB := mSt HB hb; have NB1_7 := mNe BK1 hg; have NB7_1 := mSy NB1_7; replace BK1 := mBb BK1 hb; have NB2_7 := mNe BK2 hg; have NB7_2 := mSy NB2_7; replace BK2 := mBb BK2 hb; have NB3_7 := mNe BK3 hg; have NB7_3 := mSy NB3_7; replace BK3 := mBb BK3 hb; have NB4_7 := mNe BK4 hg; have NB7_4 := mSy NB4_7; replace BK4 := mBb BK4 hb; have NB5_7 := mNe BK5 hg; have NB7_5 := mSy NB5_7; replace BK5 := mBb BK5 hb
      clear hb hbox hg
      refine hK.out _ _ ⟨blk_cell BK1.out 0, blk_cell BK1.out 1, blk_cell BK1.out 2, blk_cell BK1.out 3, blk_cell BK1.out 4, blk_cell BK1.out 5, blk_cell BK1.out 6, blk_cell BK3.out 0, blk_cell BK3.out 1, blk_cell BK2.out 0, blk_cell BK2.out 1⟩ (fun hHeld => ?_)
      clear hK K
      refine norm_ (a' := ?_) ?_ ?_
      rotate_left
      ·
       show Act.put _ (some 10) _ = _
       simp only [Act.put, List.setIfInBounds_toArray, List.set_cons_zero, List.set_cons_succ, i64_w, i32_w]
       rfl
      exact norm_ (by simp only [putAll, Act.put, List.setIfInBounds_toArray, List.set_cons_zero, List.set_cons_succ] <;> rfl) (hJ3_7_22 (gb7) _ ⟨hHeld, BK1.out, BK2.out, BK3.out, BK4.out, BK5.out, BK7.out, GW7.out, GE7.out, NB1_7.out, NB7_1.out, NB2_7.out, NB7_2.out, NB3_7.out, NB7_3.out, NB4_7.out, NB7_4.out, NB5_7.out, NB7_5.out, HB.out⟩)
    intro hJ3_7
    refine join_ (σ := Nat) 8 #[true, true, true, true, true, true, true, false, true, true, false, true, true, true, false, true, true, false, true, true, false, true, false, false, false] (fun s_ => [(66, .agg #[.int .i64 t529, .int .i64 t530]), (9, .pointer (some ⟨s_, 0, none⟩))]) (fun s_ w' => (w'.cell? ⟨gb1, 0, none⟩ = some (.int .i64 a0_0) ∧ w'.cell? ⟨gb1, 1, none⟩ = some (.int .i64 a0_1) ∧ w'.cell? ⟨gb1, 2, none⟩ = some (.int .i64 a0_2) ∧ w'.cell? ⟨gb1, 3, none⟩ = some (.int .i64 a0_3) ∧ w'.cell? ⟨gb1, 4, none⟩ = some (.int .i64 a0_4) ∧ w'.cell? ⟨gb1, 5, none⟩ = some (.int .i64 a0_5) ∧ w'.cell? ⟨gb1, 6, none⟩ = some (.int .i64 a0_6) ∧ w'.cell? ⟨gb3, 0, none⟩ = some (.int .i64 a2_0) ∧ w'.cell? ⟨gb3, 1, none⟩ = some (.int .i64 a2_1) ∧ w'.cell? ⟨gb2, 0, none⟩ = some (.int .i64 a1_0) ∧ w'.cell? ⟨gb2, 1, none⟩ = some (.int .i64 a1_1)) ∧ (w'.heap[gb1]? = some (.cells #[.int .i64 a0_0, .int .i64 a0_1, .int .i64 a0_2, .int .i64 a0_3, .int .i64 a0_4, .int .i64 a0_5, .int .i64 a0_6] 31 (0, 0))) ∧ (w'.heap[gb2]? = some (.cells #[.int .i64 a1_0, .int .i64 a1_1] 23 (0, 0))) ∧ (w'.heap[gb3]? = some (.cells #[.int .i64 a2_0, .int .i64 a2_1] 23 (0, 0))) ∧ (w'.heap[gb4]? = some (.cells #[.int .i64 a0_0, .int .i64 a0_1, .int .i64 a0_2, .int .i64 a0_3, .int .i64 a0_6] 36 (0, 0))) ∧ (w'.heap[gb5]? = some (.cells #[.int .i64 a0_4, .int .i64 a0_5, .int .i64 a1_0, .int .i64 a1_1, .int .i64 a0_6] 36 (0, 0))) ∧ (w'.heap[s_]? = some (.cells #[.int .i64 0, .int .i64 0, .int .i64 0, .int .i64 0, .int .i64 0] 36 (0, 0))) ∧ (w.heap.size ≤ s_) ∧ (w.heap.size ≤ s_) ∧ (gb1 ≠ s_) ∧ (s_ ≠ gb1) ∧ (gb2 ≠ s_) ∧ (s_ ≠ gb2) ∧ (gb3 ≠ s_) ∧ (s_ ≠ gb3) ∧ (gb4 ≠ s_) ∧ (s_ ≠ gb4) ∧ (gb5 ≠ s_) ∧ (s_ ≠ gb5) ∧ (Below w.heap.size w w')) ?_ ?_
    ·
     skip
     rintro gb6 w89 ⟨hS_, h0_, h1_, h2_, h3_, h4_, h5_, h6_, h7_, h8_, h9_, h10_, h11_, h12_, h13_, h14_, h15_, h16_, h17_, h18_⟩
     have n0_ := Aside0.mk h0_
     have n1_ := Aside0.mk h1_
     have n2_ := Aside0.mk h2_
     have n3_ := Aside0.mk h3_
     have n4_ := Aside0.mk h4_
     have n5_ := Aside0.mk h5_
     have n6_ := Aside0.mk h6_
     have n7_ := Aside0.mk h7_
     have n8_ := Aside0.mk h8_
     have n9_ := Aside0.mk h9_
     have n10_ := Aside0.mk h10_
     have n11_ := Aside0.mk h11_
     have n12_ := Aside0.mk h12_
     have n13_ := Aside0.mk h13_
     have n14_ := Aside0.mk h14_
     have n15_ := Aside0.mk h15_
     have n16_ := Aside0.mk h16_
     have n17_ := Aside0.mk h17_
     have n18_ := Aside0.mk h18_
     clear BK1; clear BK2; clear BK3; clear BK4; clear BK5; clear HB
     clear h0_ h1_ h2_ h3_ h4_ h5_ h6_ h7_ h8_ h9_ h10_ h11_ h12_ h13_ h14_ h15_ h16_ h17_ h18_
     have BK1 := n0_
     have BK2 := n1_
     have BK3 := n2_
     have BK4 := n3_
     have BK5 := n4_
     have BK6 := n5_
     have GW6 := n6_
     have GE6 := n7_
     have NB1_6 := n8_
     have NB6_1 := n9_
     have NB2_6 := n10_
     have NB6_2 := n11_
     have NB3_6 := n12_
     have NB6_3 := n13_
     have NB4_6 := n14_
     have NB6_4 := n15_
     have NB5_6 := n16_
     have NB6_5 := n17_
     have HB := n18_
     clear n0_ n1_ n2_ n3_ n4_ n5_ n6_ n7_ n8_ n9_ n10_ n11_ n12_ n13_ n14_ n15_ n16_ n17_ n18_
     have hHeld : w89.cell? ⟨gb1, 0, none⟩ = some (.int .i64 a0_0) ∧ w89.cell? ⟨gb1, 1, none⟩ = some (.int .i64 a0_1) ∧ w89.cell? ⟨gb1, 2, none⟩ = some (.int .i64 a0_2) ∧ w89.cell? ⟨gb1, 3, none⟩ = some (.int .i64 a0_3) ∧ w89.cell? ⟨gb1, 4, none⟩ = some (.int .i64 a0_4) ∧ w89.cell? ⟨gb1, 5, none⟩ = some (.int .i64 a0_5) ∧ w89.cell? ⟨gb1, 6, none⟩ = some (.int .i64 a0_6) ∧ w89.cell? ⟨gb3, 0, none⟩ = some (.int .i64 a2_0) ∧ w89.cell? ⟨gb3, 1, none⟩ = some (.int .i64 a2_1) ∧ w89.cell? ⟨gb2, 0, none⟩ = some (.int .i64 a1_0) ∧ w89.cell? ⟨gb2, 1, none⟩ = some (.int .i64 a1_1) := hS_
     refine norm_ (a' := ?_) ?_ ?_
     rotate_left
     ·
      simp only [putAll, Act.put, List.setIfInBounds_toArray, List.set_cons_zero, List.set_cons_succ]
      rfl
     refine two_ (i := 7) (j := 22) (Ni := some 70) (Nj := some 10) #[true, true, true, true, true, true, true, true, true, true, false, true, true, true, false, true, true, false, true, true, false, true, false, false, false] #[true, true, true, true, true, true, true, false, true, true, false, true, true, true, false, true, true, false, true, true, false, true, true, false, false] rfl rfl rfl rfl (two_of HT_.out (by kernel_rfl)) (by decide) (by decide) (fun K hK => ?_) (fun K hK => ?_)
     ·
      skip
      refine goes_ Try.func27 (by kernel_rfl) rfl #[.agg #[.int .i64 a0_2, .int .i64 a0_3], .agg #[.int .i64 a2_0, .int .i64 a2_1]] (by rfl) rfl rfl (by (try simp only [List.map_toArray, List.map_cons, List.map_nil]); first | done | rfl | (simp only [List.length_drop, List.length_take]; rfl)) ?_
      with_reducible refine (dancestudiolaw03_shifted.calls a0_2 a0_3 a2_0 a2_1 t531 t532 _ A63.out).mono ?_
      rintro e w90 ⟨rfl, hb⟩
      refine ⟨_, rfl, ?_⟩
      replace BK1 := mBb BK1 hb; replace BK2 := mBb BK2 hb; replace BK3 := mBb BK3 hb; replace BK4 := mBb BK4 hb; replace BK5 := mBb BK5 hb; replace BK6 := mBb BK6 hb; replace HB := mSt HB hb
      (try clear hb)
      (try clear hb2)
      (try clear hk)
      (try clear hi)
      refine hK.out _ _ ⟨blk_cell BK1.out 0, blk_cell BK1.out 1, blk_cell BK1.out 2, blk_cell BK1.out 3, blk_cell BK1.out 4, blk_cell BK1.out 5, blk_cell BK1.out 6, blk_cell BK3.out 0, blk_cell BK3.out 1, blk_cell BK2.out 0, blk_cell BK2.out 1⟩ (fun hHeld => ?_)
      clear hK K
      refine norm_ (a' := ?_) ?_ ?_
      rotate_left
      ·
       show Act.put _ (some 70) _ = _
       simp only [Act.put, List.setIfInBounds_toArray, List.set_cons_zero, List.set_cons_succ, i64_w, i32_w]
       rfl
      refine pure_ (i := 10) (N := some 73) (v := ?_) (a' := ?_) #[true, true, true, true, true, true, true, true, true, true, true, true, true, true, false, true, true, false, true, true, false, true, false, false, false] rfl rfl (any_of HT_.out (by kernel_rfl)) (fun _ _ _ h => h) (Or.inl ⟨by rfl, ?_⟩) ?_ ?_
      rotate_left
      ·
       intro w'
       go_simp
       with_reducible rfl
      rotate_left
      ·
       simp only [Act.put, List.setIfInBounds_toArray, List.set_cons_zero, List.set_cons_succ, i64_w, i32_w]
       rfl
      exact norm_ (by simp only [putAll, Act.put, List.setIfInBounds_toArray, List.set_cons_zero, List.set_cons_succ] <;> rfl) (hJ3_7_21 (gb6) _ ⟨hHeld, BK1.out, BK2.out, BK3.out, BK4.out, BK5.out, BK6.out, GW6.out, GE6.out, NB1_6.out, NB6_1.out, NB2_6.out, NB6_2.out, NB3_6.out, NB6_3.out, NB4_6.out, NB6_4.out, NB5_6.out, NB6_5.out, HB.out⟩)
     ·
      skip
      refine box_step ?hg (N := 10) ?hd (cs := #[.int .i64 0, .int .i64 0, .int .i64 0, .int .i64 0, .int .i64 0]) (t := 36) ?hr ?_; (case hd => rfl); (case hg => rfl); (case hr => first | (go_simp; done) | (go_simp; rfl))
      intro gb7 hg w90 hbox hb
      have BK7 := Aside0.mk hbox; have GW7 := mGw HB hg; have GE7 := GW7; replace HB := mSt HB hb; have NB1_7 := mNe BK1 hg; have NB7_1 := mSy NB1_7; replace BK1 := mBb BK1 hb; have NB2_7 := mNe BK2 hg; have NB7_2 := mSy NB2_7; replace BK2 := mBb BK2 hb; have NB3_7 := mNe BK3 hg; have NB7_3 := mSy NB3_7; replace BK3 := mBb BK3 hb; have NB4_7 := mNe BK4 hg; have NB7_4 := mSy NB4_7; replace BK4 := mBb BK4 hb; have NB5_7 := mNe BK5 hg; have NB7_5 := mSy NB5_7; replace BK5 := mBb BK5 hb; have NB6_7 := mNe BK6 hg; have NB7_6 := mSy NB6_7; replace BK6 := mBb BK6 hb
      clear hb hbox hg
      refine hK.out _ _ ⟨blk_cell BK1.out 0, blk_cell BK1.out 1, blk_cell BK1.out 2, blk_cell BK1.out 3, blk_cell BK1.out 4, blk_cell BK1.out 5, blk_cell BK1.out 6, blk_cell BK3.out 0, blk_cell BK3.out 1, blk_cell BK2.out 0, blk_cell BK2.out 1⟩ (fun hHeld => ?_)
      clear hK K
      refine norm_ (a' := ?_) ?_ ?_
      rotate_left
      ·
       show Act.put _ (some 10) _ = _
       simp only [Act.put, List.setIfInBounds_toArray, List.set_cons_zero, List.set_cons_succ, i64_w, i32_w]
       rfl
      exact norm_ (by simp only [putAll, Act.put, List.setIfInBounds_toArray, List.set_cons_zero, List.set_cons_succ] <;> rfl) (hJ3_21_22 (gb6, gb7) _ ⟨hHeld, BK1.out, BK2.out, BK3.out, BK4.out, BK5.out, BK6.out, BK7.out, GW6.out, GE6.out, NB1_6.out, NB6_1.out, NB2_6.out, NB6_2.out, NB3_6.out, NB6_3.out, NB4_6.out, NB6_4.out, NB5_6.out, NB6_5.out, NB7_6.out, NB6_7.out, GW7.out, GE7.out, NB1_7.out, NB7_1.out, NB2_7.out, NB7_2.out, NB3_7.out, NB7_3.out, NB4_7.out, NB7_4.out, NB5_7.out, NB7_5.out, HB.out⟩)
    intro hJ3_21
    refine join_ (σ := Nat) 8 #[true, true, true, true, true, true, true, false, true, true, false, true, true, true, false, true, true, false, true, true, false, false, true, false, false] (fun s_ => [(66, .agg #[.int .i64 t529, .int .i64 t530]), (10, .pointer (some ⟨s_, 0, none⟩))]) (fun s_ w' => (w'.cell? ⟨gb1, 0, none⟩ = some (.int .i64 a0_0) ∧ w'.cell? ⟨gb1, 1, none⟩ = some (.int .i64 a0_1) ∧ w'.cell? ⟨gb1, 2, none⟩ = some (.int .i64 a0_2) ∧ w'.cell? ⟨gb1, 3, none⟩ = some (.int .i64 a0_3) ∧ w'.cell? ⟨gb1, 4, none⟩ = some (.int .i64 a0_4) ∧ w'.cell? ⟨gb1, 5, none⟩ = some (.int .i64 a0_5) ∧ w'.cell? ⟨gb1, 6, none⟩ = some (.int .i64 a0_6) ∧ w'.cell? ⟨gb3, 0, none⟩ = some (.int .i64 a2_0) ∧ w'.cell? ⟨gb3, 1, none⟩ = some (.int .i64 a2_1) ∧ w'.cell? ⟨gb2, 0, none⟩ = some (.int .i64 a1_0) ∧ w'.cell? ⟨gb2, 1, none⟩ = some (.int .i64 a1_1)) ∧ (w'.heap[gb1]? = some (.cells #[.int .i64 a0_0, .int .i64 a0_1, .int .i64 a0_2, .int .i64 a0_3, .int .i64 a0_4, .int .i64 a0_5, .int .i64 a0_6] 31 (0, 0))) ∧ (w'.heap[gb2]? = some (.cells #[.int .i64 a1_0, .int .i64 a1_1] 23 (0, 0))) ∧ (w'.heap[gb3]? = some (.cells #[.int .i64 a2_0, .int .i64 a2_1] 23 (0, 0))) ∧ (w'.heap[gb4]? = some (.cells #[.int .i64 a0_0, .int .i64 a0_1, .int .i64 a0_2, .int .i64 a0_3, .int .i64 a0_6] 36 (0, 0))) ∧ (w'.heap[gb5]? = some (.cells #[.int .i64 a0_4, .int .i64 a0_5, .int .i64 a1_0, .int .i64 a1_1, .int .i64 a0_6] 36 (0, 0))) ∧ (w'.heap[s_]? = some (.cells #[.int .i64 0, .int .i64 0, .int .i64 0, .int .i64 0, .int .i64 0] 36 (0, 0))) ∧ (w.heap.size ≤ s_) ∧ (w.heap.size ≤ s_) ∧ (gb1 ≠ s_) ∧ (s_ ≠ gb1) ∧ (gb2 ≠ s_) ∧ (s_ ≠ gb2) ∧ (gb3 ≠ s_) ∧ (s_ ≠ gb3) ∧ (gb4 ≠ s_) ∧ (s_ ≠ gb4) ∧ (gb5 ≠ s_) ∧ (s_ ≠ gb5) ∧ (Below w.heap.size w w')) ?_ ?_
    ·
     skip
     rintro gb7 w89 ⟨hS_, h0_, h1_, h2_, h3_, h4_, h5_, h6_, h7_, h8_, h9_, h10_, h11_, h12_, h13_, h14_, h15_, h16_, h17_, h18_⟩
     have n0_ := Aside0.mk h0_
     have n1_ := Aside0.mk h1_
     have n2_ := Aside0.mk h2_
     have n3_ := Aside0.mk h3_
     have n4_ := Aside0.mk h4_
     have n5_ := Aside0.mk h5_
     have n6_ := Aside0.mk h6_
     have n7_ := Aside0.mk h7_
     have n8_ := Aside0.mk h8_
     have n9_ := Aside0.mk h9_
     have n10_ := Aside0.mk h10_
     have n11_ := Aside0.mk h11_
     have n12_ := Aside0.mk h12_
     have n13_ := Aside0.mk h13_
     have n14_ := Aside0.mk h14_
     have n15_ := Aside0.mk h15_
     have n16_ := Aside0.mk h16_
     have n17_ := Aside0.mk h17_
     have n18_ := Aside0.mk h18_
     clear BK1; clear BK2; clear BK3; clear BK4; clear BK5; clear HB
     clear h0_ h1_ h2_ h3_ h4_ h5_ h6_ h7_ h8_ h9_ h10_ h11_ h12_ h13_ h14_ h15_ h16_ h17_ h18_
     have BK1 := n0_
     have BK2 := n1_
     have BK3 := n2_
     have BK4 := n3_
     have BK5 := n4_
     have BK7 := n5_
     have GW7 := n6_
     have GE7 := n7_
     have NB1_7 := n8_
     have NB7_1 := n9_
     have NB2_7 := n10_
     have NB7_2 := n11_
     have NB3_7 := n12_
     have NB7_3 := n13_
     have NB4_7 := n14_
     have NB7_4 := n15_
     have NB5_7 := n16_
     have NB7_5 := n17_
     have HB := n18_
     clear n0_ n1_ n2_ n3_ n4_ n5_ n6_ n7_ n8_ n9_ n10_ n11_ n12_ n13_ n14_ n15_ n16_ n17_ n18_
     have hHeld : w89.cell? ⟨gb1, 0, none⟩ = some (.int .i64 a0_0) ∧ w89.cell? ⟨gb1, 1, none⟩ = some (.int .i64 a0_1) ∧ w89.cell? ⟨gb1, 2, none⟩ = some (.int .i64 a0_2) ∧ w89.cell? ⟨gb1, 3, none⟩ = some (.int .i64 a0_3) ∧ w89.cell? ⟨gb1, 4, none⟩ = some (.int .i64 a0_4) ∧ w89.cell? ⟨gb1, 5, none⟩ = some (.int .i64 a0_5) ∧ w89.cell? ⟨gb1, 6, none⟩ = some (.int .i64 a0_6) ∧ w89.cell? ⟨gb3, 0, none⟩ = some (.int .i64 a2_0) ∧ w89.cell? ⟨gb3, 1, none⟩ = some (.int .i64 a2_1) ∧ w89.cell? ⟨gb2, 0, none⟩ = some (.int .i64 a1_0) ∧ w89.cell? ⟨gb2, 1, none⟩ = some (.int .i64 a1_1) := hS_
     refine norm_ (a' := ?_) ?_ ?_
     rotate_left
     ·
      simp only [putAll, Act.put, List.setIfInBounds_toArray, List.set_cons_zero, List.set_cons_succ]
      rfl
     refine two_ (i := 7) (j := 21) (Ni := some 70) (Nj := some 9) #[true, true, true, true, true, true, true, true, true, true, false, true, true, true, false, true, true, false, true, true, false, false, true, false, false] #[true, true, true, true, true, true, true, false, true, true, false, true, true, true, false, true, true, false, true, true, false, true, true, false, false] rfl rfl rfl rfl (two_of HT_.out (by kernel_rfl)) (by decide) (by decide) (fun K hK => ?_) (fun K hK => ?_)
     ·
      skip
      refine goes_ Try.func27 (by kernel_rfl) rfl #[.agg #[.int .i64 a0_2, .int .i64 a0_3], .agg #[.int .i64 a2_0, .int .i64 a2_1]] (by rfl) rfl rfl (by (try simp only [List.map_toArray, List.map_cons, List.map_nil]); first | done | rfl | (simp only [List.length_drop, List.length_take]; rfl)) ?_
      with_reducible refine (dancestudiolaw03_shifted.calls a0_2 a0_3 a2_0 a2_1 t531 t532 _ A63.out).mono ?_
      rintro e w90 ⟨rfl, hb⟩
      refine ⟨_, rfl, ?_⟩
      replace BK1 := mBb BK1 hb; replace BK2 := mBb BK2 hb; replace BK3 := mBb BK3 hb; replace BK4 := mBb BK4 hb; replace BK5 := mBb BK5 hb; replace BK7 := mBb BK7 hb; replace HB := mSt HB hb
      (try clear hb)
      (try clear hb2)
      (try clear hk)
      (try clear hi)
      refine hK.out _ _ ⟨blk_cell BK1.out 0, blk_cell BK1.out 1, blk_cell BK1.out 2, blk_cell BK1.out 3, blk_cell BK1.out 4, blk_cell BK1.out 5, blk_cell BK1.out 6, blk_cell BK3.out 0, blk_cell BK3.out 1, blk_cell BK2.out 0, blk_cell BK2.out 1⟩ (fun hHeld => ?_)
      clear hK K
      refine norm_ (a' := ?_) ?_ ?_
      rotate_left
      ·
       show Act.put _ (some 70) _ = _
       simp only [Act.put, List.setIfInBounds_toArray, List.set_cons_zero, List.set_cons_succ, i64_w, i32_w]
       rfl
      refine pure_ (i := 10) (N := some 73) (v := ?_) (a' := ?_) #[true, true, true, true, true, true, true, true, true, true, true, true, true, true, false, true, true, false, true, true, false, false, true, false, false] rfl rfl (any_of HT_.out (by kernel_rfl)) (fun _ _ _ h => h) (Or.inl ⟨by rfl, ?_⟩) ?_ ?_
      rotate_left
      ·
       intro w'
       go_simp
       with_reducible rfl
      rotate_left
      ·
       simp only [Act.put, List.setIfInBounds_toArray, List.set_cons_zero, List.set_cons_succ, i64_w, i32_w]
       rfl
      exact norm_ (by simp only [putAll, Act.put, List.setIfInBounds_toArray, List.set_cons_zero, List.set_cons_succ] <;> rfl) (hJ3_7_22 (gb7) _ ⟨hHeld, BK1.out, BK2.out, BK3.out, BK4.out, BK5.out, BK7.out, GW7.out, GE7.out, NB1_7.out, NB7_1.out, NB2_7.out, NB7_2.out, NB3_7.out, NB7_3.out, NB4_7.out, NB7_4.out, NB5_7.out, NB7_5.out, HB.out⟩)
     ·
      skip
      refine box_step ?hg (N := 9) ?hd (cs := #[.int .i64 0, .int .i64 0, .int .i64 0, .int .i64 0, .int .i64 0]) (t := 36) ?hr ?_; (case hd => rfl); (case hg => rfl); (case hr => first | (go_simp; done) | (go_simp; rfl))
      intro gb6 hg w90 hbox hb
      have BK6 := Aside0.mk hbox; have GW6 := mGw HB hg; have GE6 := GW6; replace HB := mSt HB hb; have NB1_6 := mNe BK1 hg; have NB6_1 := mSy NB1_6; replace BK1 := mBb BK1 hb; have NB2_6 := mNe BK2 hg; have NB6_2 := mSy NB2_6; replace BK2 := mBb BK2 hb; have NB3_6 := mNe BK3 hg; have NB6_3 := mSy NB3_6; replace BK3 := mBb BK3 hb; have NB4_6 := mNe BK4 hg; have NB6_4 := mSy NB4_6; replace BK4 := mBb BK4 hb; have NB5_6 := mNe BK5 hg; have NB6_5 := mSy NB5_6; replace BK5 := mBb BK5 hb; have NB7_6 := mNe BK7 hg; have NB6_7 := mSy NB7_6; replace BK7 := mBb BK7 hb
      clear hb hbox hg
      refine hK.out _ _ ⟨blk_cell BK1.out 0, blk_cell BK1.out 1, blk_cell BK1.out 2, blk_cell BK1.out 3, blk_cell BK1.out 4, blk_cell BK1.out 5, blk_cell BK1.out 6, blk_cell BK3.out 0, blk_cell BK3.out 1, blk_cell BK2.out 0, blk_cell BK2.out 1⟩ (fun hHeld => ?_)
      clear hK K
      refine norm_ (a' := ?_) ?_ ?_
      rotate_left
      ·
       show Act.put _ (some 9) _ = _
       simp only [Act.put, List.setIfInBounds_toArray, List.set_cons_zero, List.set_cons_succ, i64_w, i32_w]
       rfl
      exact norm_ (by simp only [putAll, Act.put, List.setIfInBounds_toArray, List.set_cons_zero, List.set_cons_succ] <;> rfl) (hJ3_21_22 (gb6, gb7) _ ⟨hHeld, BK1.out, BK2.out, BK3.out, BK4.out, BK5.out, BK6.out, BK7.out, GW6.out, GE6.out, NB1_6.out, NB6_1.out, NB2_6.out, NB6_2.out, NB3_6.out, NB6_3.out, NB4_6.out, NB6_4.out, NB5_6.out, NB6_5.out, NB7_6.out, NB6_7.out, GW7.out, GE7.out, NB1_7.out, NB7_1.out, NB2_7.out, NB7_2.out, NB3_7.out, NB7_3.out, NB4_7.out, NB7_4.out, NB5_7.out, NB7_5.out, HB.out⟩)
    intro hJ3_22
    refine join_ (σ := Nat × Nat) 8 #[true, true, true, false, true, true, true, false, true, true, false, true, true, true, false, true, true, false, true, true, false, true, true, false, false] (fun s_ => [(9, .pointer (some ⟨s_.1, 0, none⟩)), (10, .pointer (some ⟨s_.2, 0, none⟩))]) (fun s_ w' => (w'.cell? ⟨gb1, 0, none⟩ = some (.int .i64 a0_0) ∧ w'.cell? ⟨gb1, 1, none⟩ = some (.int .i64 a0_1) ∧ w'.cell? ⟨gb1, 2, none⟩ = some (.int .i64 a0_2) ∧ w'.cell? ⟨gb1, 3, none⟩ = some (.int .i64 a0_3) ∧ w'.cell? ⟨gb1, 4, none⟩ = some (.int .i64 a0_4) ∧ w'.cell? ⟨gb1, 5, none⟩ = some (.int .i64 a0_5) ∧ w'.cell? ⟨gb1, 6, none⟩ = some (.int .i64 a0_6) ∧ w'.cell? ⟨gb3, 0, none⟩ = some (.int .i64 a2_0) ∧ w'.cell? ⟨gb3, 1, none⟩ = some (.int .i64 a2_1) ∧ w'.cell? ⟨gb2, 0, none⟩ = some (.int .i64 a1_0) ∧ w'.cell? ⟨gb2, 1, none⟩ = some (.int .i64 a1_1)) ∧ (w'.heap[gb1]? = some (.cells #[.int .i64 a0_0, .int .i64 a0_1, .int .i64 a0_2, .int .i64 a0_3, .int .i64 a0_4, .int .i64 a0_5, .int .i64 a0_6] 31 (0, 0))) ∧ (w'.heap[gb2]? = some (.cells #[.int .i64 a1_0, .int .i64 a1_1] 23 (0, 0))) ∧ (w'.heap[gb3]? = some (.cells #[.int .i64 a2_0, .int .i64 a2_1] 23 (0, 0))) ∧ (w'.heap[gb4]? = some (.cells #[.int .i64 a0_0, .int .i64 a0_1, .int .i64 a0_2, .int .i64 a0_3, .int .i64 a0_6] 36 (0, 0))) ∧ (w'.heap[gb5]? = some (.cells #[.int .i64 a0_4, .int .i64 a0_5, .int .i64 a1_0, .int .i64 a1_1, .int .i64 a0_6] 36 (0, 0))) ∧ (w'.heap[s_.1]? = some (.cells #[.int .i64 0, .int .i64 0, .int .i64 0, .int .i64 0, .int .i64 0] 36 (0, 0))) ∧ (w'.heap[s_.2]? = some (.cells #[.int .i64 0, .int .i64 0, .int .i64 0, .int .i64 0, .int .i64 0] 36 (0, 0))) ∧ (w.heap.size ≤ s_.1) ∧ (w.heap.size ≤ s_.1) ∧ (gb1 ≠ s_.1) ∧ (s_.1 ≠ gb1) ∧ (gb2 ≠ s_.1) ∧ (s_.1 ≠ gb2) ∧ (gb3 ≠ s_.1) ∧ (s_.1 ≠ gb3) ∧ (gb4 ≠ s_.1) ∧ (s_.1 ≠ gb4) ∧ (gb5 ≠ s_.1) ∧ (s_.1 ≠ gb5) ∧ (s_.2 ≠ s_.1) ∧ (s_.1 ≠ s_.2) ∧ (w.heap.size ≤ s_.2) ∧ (w.heap.size ≤ s_.2) ∧ (gb1 ≠ s_.2) ∧ (s_.2 ≠ gb1) ∧ (gb2 ≠ s_.2) ∧ (s_.2 ≠ gb2) ∧ (gb3 ≠ s_.2) ∧ (s_.2 ≠ gb3) ∧ (gb4 ≠ s_.2) ∧ (s_.2 ≠ gb4) ∧ (gb5 ≠ s_.2) ∧ (s_.2 ≠ gb5) ∧ (Below w.heap.size w w')) ?_ ?_
    ·
     skip
     rintro ⟨gb6, gb7⟩ w89 ⟨hS_, h0_, h1_, h2_, h3_, h4_, h5_, h6_, h7_, h8_, h9_, h10_, h11_, h12_, h13_, h14_, h15_, h16_, h17_, h18_, h19_, h20_, h21_, h22_, h23_, h24_, h25_, h26_, h27_, h28_, h29_, h30_, h31_, h32_, h33_⟩
     try dsimp only at h0_ h1_ h2_ h3_ h4_ h5_ h6_ h7_ h8_ h9_ h10_ h11_ h12_ h13_ h14_ h15_ h16_ h17_ h18_ h19_ h20_ h21_ h22_ h23_ h24_ h25_ h26_ h27_ h28_ h29_ h30_ h31_ h32_ h33_
     have n0_ := Aside0.mk h0_
     have n1_ := Aside0.mk h1_
     have n2_ := Aside0.mk h2_
     have n3_ := Aside0.mk h3_
     have n4_ := Aside0.mk h4_
     have n5_ := Aside0.mk h5_
     have n6_ := Aside0.mk h6_
     have n7_ := Aside0.mk h7_
     have n8_ := Aside0.mk h8_
     have n9_ := Aside0.mk h9_
     have n10_ := Aside0.mk h10_
     have n11_ := Aside0.mk h11_
     have n12_ := Aside0.mk h12_
     have n13_ := Aside0.mk h13_
     have n14_ := Aside0.mk h14_
     have n15_ := Aside0.mk h15_
     have n16_ := Aside0.mk h16_
     have n17_ := Aside0.mk h17_
     have n18_ := Aside0.mk h18_
     have n19_ := Aside0.mk h19_
     have n20_ := Aside0.mk h20_
     have n21_ := Aside0.mk h21_
     have n22_ := Aside0.mk h22_
     have n23_ := Aside0.mk h23_
     have n24_ := Aside0.mk h24_
     have n25_ := Aside0.mk h25_
     have n26_ := Aside0.mk h26_
     have n27_ := Aside0.mk h27_
     have n28_ := Aside0.mk h28_
     have n29_ := Aside0.mk h29_
     have n30_ := Aside0.mk h30_
     have n31_ := Aside0.mk h31_
     have n32_ := Aside0.mk h32_
     have n33_ := Aside0.mk h33_
     clear BK1; clear BK2; clear BK3; clear BK4; clear BK5; clear HB
     clear h0_ h1_ h2_ h3_ h4_ h5_ h6_ h7_ h8_ h9_ h10_ h11_ h12_ h13_ h14_ h15_ h16_ h17_ h18_ h19_ h20_ h21_ h22_ h23_ h24_ h25_ h26_ h27_ h28_ h29_ h30_ h31_ h32_ h33_
     have BK1 := n0_
     have BK2 := n1_
     have BK3 := n2_
     have BK4 := n3_
     have BK5 := n4_
     have BK6 := n5_
     have BK7 := n6_
     have GW6 := n7_
     have GE6 := n8_
     have NB1_6 := n9_
     have NB6_1 := n10_
     have NB2_6 := n11_
     have NB6_2 := n12_
     have NB3_6 := n13_
     have NB6_3 := n14_
     have NB4_6 := n15_
     have NB6_4 := n16_
     have NB5_6 := n17_
     have NB6_5 := n18_
     have NB7_6 := n19_
     have NB6_7 := n20_
     have GW7 := n21_
     have GE7 := n22_
     have NB1_7 := n23_
     have NB7_1 := n24_
     have NB2_7 := n25_
     have NB7_2 := n26_
     have NB3_7 := n27_
     have NB7_3 := n28_
     have NB4_7 := n29_
     have NB7_4 := n30_
     have NB5_7 := n31_
     have NB7_5 := n32_
     have HB := n33_
     clear n0_ n1_ n2_ n3_ n4_ n5_ n6_ n7_ n8_ n9_ n10_ n11_ n12_ n13_ n14_ n15_ n16_ n17_ n18_ n19_ n20_ n21_ n22_ n23_ n24_ n25_ n26_ n27_ n28_ n29_ n30_ n31_ n32_ n33_
     have hHeld : w89.cell? ⟨gb1, 0, none⟩ = some (.int .i64 a0_0) ∧ w89.cell? ⟨gb1, 1, none⟩ = some (.int .i64 a0_1) ∧ w89.cell? ⟨gb1, 2, none⟩ = some (.int .i64 a0_2) ∧ w89.cell? ⟨gb1, 3, none⟩ = some (.int .i64 a0_3) ∧ w89.cell? ⟨gb1, 4, none⟩ = some (.int .i64 a0_4) ∧ w89.cell? ⟨gb1, 5, none⟩ = some (.int .i64 a0_5) ∧ w89.cell? ⟨gb1, 6, none⟩ = some (.int .i64 a0_6) ∧ w89.cell? ⟨gb3, 0, none⟩ = some (.int .i64 a2_0) ∧ w89.cell? ⟨gb3, 1, none⟩ = some (.int .i64 a2_1) ∧ w89.cell? ⟨gb2, 0, none⟩ = some (.int .i64 a1_0) ∧ w89.cell? ⟨gb2, 1, none⟩ = some (.int .i64 a1_1) := hS_
     refine norm_ (a' := ?_) ?_ ?_
     rotate_left
     ·
      simp only [putAll, Act.put, List.setIfInBounds_toArray, List.set_cons_zero, List.set_cons_succ]
      rfl
     refine one_ (i := 3) (N := some 66) #[true, true, true, true, true, true, true, false, true, true, false, true, true, true, false, true, true, false, true, true, false, true, true, false, false] rfl rfl (one_of HT_.out (by kernel_rfl)) (by decide) (fun K hK => ?_)
     refine goes_ Try.func27 (by kernel_rfl) rfl #[.agg #[.int .i64 a0_0, .int .i64 a0_1], .agg #[.int .i64 a2_0, .int .i64 a2_1]] (by rfl) rfl rfl (by (try simp only [List.map_toArray, List.map_cons, List.map_nil]); first | done | rfl | (simp only [List.length_drop, List.length_take]; rfl)) ?_
     with_reducible refine (dancestudiolaw03_shifted.calls a0_0 a0_1 a2_0 a2_1 t529 t530 _ A62.out).mono ?_
     rintro e w90 ⟨rfl, hb⟩
     refine ⟨_, rfl, ?_⟩
     replace BK1 := mBb BK1 hb; replace BK2 := mBb BK2 hb; replace BK3 := mBb BK3 hb; replace BK4 := mBb BK4 hb; replace BK5 := mBb BK5 hb; replace BK6 := mBb BK6 hb; replace BK7 := mBb BK7 hb; replace HB := mSt HB hb
     (try clear hb)
     (try clear hb2)
     (try clear hk)
     (try clear hi)
     refine hK.out _ _ ⟨blk_cell BK1.out 0, blk_cell BK1.out 1, blk_cell BK1.out 2, blk_cell BK1.out 3, blk_cell BK1.out 4, blk_cell BK1.out 5, blk_cell BK1.out 6, blk_cell BK3.out 0, blk_cell BK3.out 1, blk_cell BK2.out 0, blk_cell BK2.out 1⟩ (fun hHeld => ?_)
     clear hK K
     refine norm_ (a' := ?_) ?_ ?_
     rotate_left
     ·
      show Act.put _ (some 66) _ = _
      simp only [Act.put, List.setIfInBounds_toArray, List.set_cons_zero, List.set_cons_succ, i64_w, i32_w]
      rfl
     exact norm_ (by simp only [putAll, Act.put, List.setIfInBounds_toArray, List.set_cons_zero, List.set_cons_succ] <;> rfl) (hJ3_21_22 (gb6, gb7) _ ⟨hHeld, BK1.out, BK2.out, BK3.out, BK4.out, BK5.out, BK6.out, BK7.out, GW6.out, GE6.out, NB1_6.out, NB6_1.out, NB2_6.out, NB6_2.out, NB3_6.out, NB6_3.out, NB4_6.out, NB6_4.out, NB5_6.out, NB6_5.out, NB7_6.out, NB6_7.out, GW7.out, GE7.out, NB1_7.out, NB7_1.out, NB2_7.out, NB7_2.out, NB3_7.out, NB7_3.out, NB4_7.out, NB7_4.out, NB5_7.out, NB7_5.out, HB.out⟩)
    intro hJ21_22
    refine join_ (σ := Unit) 9 #[true, true, true, true, true, true, true, false, true, true, false, true, true, true, false, true, true, false, true, true, false, false, false, false, false] (fun s_ => [(66, .agg #[.int .i64 t529, .int .i64 t530])]) (fun s_ w' => (w'.cell? ⟨gb1, 0, none⟩ = some (.int .i64 a0_0) ∧ w'.cell? ⟨gb1, 1, none⟩ = some (.int .i64 a0_1) ∧ w'.cell? ⟨gb1, 2, none⟩ = some (.int .i64 a0_2) ∧ w'.cell? ⟨gb1, 3, none⟩ = some (.int .i64 a0_3) ∧ w'.cell? ⟨gb1, 4, none⟩ = some (.int .i64 a0_4) ∧ w'.cell? ⟨gb1, 5, none⟩ = some (.int .i64 a0_5) ∧ w'.cell? ⟨gb1, 6, none⟩ = some (.int .i64 a0_6) ∧ w'.cell? ⟨gb3, 0, none⟩ = some (.int .i64 a2_0) ∧ w'.cell? ⟨gb3, 1, none⟩ = some (.int .i64 a2_1) ∧ w'.cell? ⟨gb2, 0, none⟩ = some (.int .i64 a1_0) ∧ w'.cell? ⟨gb2, 1, none⟩ = some (.int .i64 a1_1)) ∧ (w'.heap[gb1]? = some (.cells #[.int .i64 a0_0, .int .i64 a0_1, .int .i64 a0_2, .int .i64 a0_3, .int .i64 a0_4, .int .i64 a0_5, .int .i64 a0_6] 31 (0, 0))) ∧ (w'.heap[gb2]? = some (.cells #[.int .i64 a1_0, .int .i64 a1_1] 23 (0, 0))) ∧ (w'.heap[gb3]? = some (.cells #[.int .i64 a2_0, .int .i64 a2_1] 23 (0, 0))) ∧ (w'.heap[gb4]? = some (.cells #[.int .i64 a0_0, .int .i64 a0_1, .int .i64 a0_2, .int .i64 a0_3, .int .i64 a0_6] 36 (0, 0))) ∧ (w'.heap[gb5]? = some (.cells #[.int .i64 a0_4, .int .i64 a0_5, .int .i64 a1_0, .int .i64 a1_1, .int .i64 a0_6] 36 (0, 0))) ∧ (Below w.heap.size w w')) ?_ ?_
    ·
     skip
     rintro _ w88 ⟨hS_, h0_, h1_, h2_, h3_, h4_, h5_⟩
     have n0_ := Aside0.mk h0_
     have n1_ := Aside0.mk h1_
     have n2_ := Aside0.mk h2_
     have n3_ := Aside0.mk h3_
     have n4_ := Aside0.mk h4_
     have n5_ := Aside0.mk h5_
     clear BK1; clear BK2; clear BK3; clear BK4; clear BK5; clear HB
     clear h0_ h1_ h2_ h3_ h4_ h5_
     have BK1 := n0_
     have BK2 := n1_
     have BK3 := n2_
     have BK4 := n3_
     have BK5 := n4_
     have HB := n5_
     clear n0_ n1_ n2_ n3_ n4_ n5_
     have hHeld : w88.cell? ⟨gb1, 0, none⟩ = some (.int .i64 a0_0) ∧ w88.cell? ⟨gb1, 1, none⟩ = some (.int .i64 a0_1) ∧ w88.cell? ⟨gb1, 2, none⟩ = some (.int .i64 a0_2) ∧ w88.cell? ⟨gb1, 3, none⟩ = some (.int .i64 a0_3) ∧ w88.cell? ⟨gb1, 4, none⟩ = some (.int .i64 a0_4) ∧ w88.cell? ⟨gb1, 5, none⟩ = some (.int .i64 a0_5) ∧ w88.cell? ⟨gb1, 6, none⟩ = some (.int .i64 a0_6) ∧ w88.cell? ⟨gb3, 0, none⟩ = some (.int .i64 a2_0) ∧ w88.cell? ⟨gb3, 1, none⟩ = some (.int .i64 a2_1) ∧ w88.cell? ⟨gb2, 0, none⟩ = some (.int .i64 a1_0) ∧ w88.cell? ⟨gb2, 1, none⟩ = some (.int .i64 a1_1) := hS_
     refine norm_ (a' := ?_) ?_ ?_
     rotate_left
     ·
      simp only [putAll, Act.put, List.setIfInBounds_toArray, List.set_cons_zero, List.set_cons_succ]
      rfl
     refine three_ (i := 7) (j := 21) (k := 22) (Ni := some 70) (Nj := some 9) (Nk := some 10) #[true, true, true, true, true, true, true, true, true, true, false, true, true, true, false, true, true, false, true, true, false, false, false, false, false] #[true, true, true, true, true, true, true, false, true, true, false, true, true, true, false, true, true, false, true, true, false, true, false, false, false] #[true, true, true, true, true, true, true, false, true, true, false, true, true, true, false, true, true, false, true, true, false, false, true, false, false] rfl rfl rfl rfl rfl rfl (three_of HT_.out (by kernel_rfl)) (by decide) (by decide) (by decide) (fun K hK => ?_) (fun K hK => ?_) (fun K hK => ?_)
     ·
      skip
      refine goes_ Try.func27 (by kernel_rfl) rfl #[.agg #[.int .i64 a0_2, .int .i64 a0_3], .agg #[.int .i64 a2_0, .int .i64 a2_1]] (by rfl) rfl rfl (by (try simp only [List.map_toArray, List.map_cons, List.map_nil]); first | done | rfl | (simp only [List.length_drop, List.length_take]; rfl)) ?_
      with_reducible refine (dancestudiolaw03_shifted.calls a0_2 a0_3 a2_0 a2_1 t531 t532 _ A63.out).mono ?_
      rintro e w89 ⟨rfl, hb⟩
      refine ⟨_, rfl, ?_⟩
      replace BK1 := mBb BK1 hb; replace BK2 := mBb BK2 hb; replace BK3 := mBb BK3 hb; replace BK4 := mBb BK4 hb; replace BK5 := mBb BK5 hb; replace HB := mSt HB hb
      (try clear hb)
      (try clear hb2)
      (try clear hk)
      (try clear hi)
      refine hK.out _ _ ⟨blk_cell BK1.out 0, blk_cell BK1.out 1, blk_cell BK1.out 2, blk_cell BK1.out 3, blk_cell BK1.out 4, blk_cell BK1.out 5, blk_cell BK1.out 6, blk_cell BK3.out 0, blk_cell BK3.out 1, blk_cell BK2.out 0, blk_cell BK2.out 1⟩ (fun hHeld => ?_)
      clear hK K
      refine norm_ (a' := ?_) ?_ ?_
      rotate_left
      ·
       show Act.put _ (some 70) _ = _
       simp only [Act.put, List.setIfInBounds_toArray, List.set_cons_zero, List.set_cons_succ, i64_w, i32_w]
       rfl
      refine pure_ (i := 10) (N := some 73) (v := ?_) (a' := ?_) #[true, true, true, true, true, true, true, true, true, true, true, true, true, true, false, true, true, false, true, true, false, false, false, false, false] rfl rfl (any_of HT_.out (by kernel_rfl)) (fun _ _ _ h => h) (Or.inl ⟨by rfl, ?_⟩) ?_ ?_
      rotate_left
      ·
       intro w'
       go_simp
       with_reducible rfl
      rotate_left
      ·
       simp only [Act.put, List.setIfInBounds_toArray, List.set_cons_zero, List.set_cons_succ, i64_w, i32_w]
       rfl
      exact norm_ (by simp only [putAll, Act.put, List.setIfInBounds_toArray, List.set_cons_zero, List.set_cons_succ] <;> rfl) (hJ3_7 () _ ⟨hHeld, BK1.out, BK2.out, BK3.out, BK4.out, BK5.out, HB.out⟩)
     ·
      skip
      refine box_step ?hg (N := 9) ?hd (cs := #[.int .i64 0, .int .i64 0, .int .i64 0, .int .i64 0, .int .i64 0]) (t := 36) ?hr ?_; (case hd => rfl); (case hg => rfl); (case hr => first | (go_simp; done) | (go_simp; rfl))
      intro gb6 hg w89 hbox hb
      have BK6 := Aside0.mk hbox; have GW6 := mGw HB hg; have GE6 := GW6; replace HB := mSt HB hb; have NB1_6 := mNe BK1 hg; have NB6_1 := mSy NB1_6; replace BK1 := mBb BK1 hb; have NB2_6 := mNe BK2 hg; have NB6_2 := mSy NB2_6; replace BK2 := mBb BK2 hb; have NB3_6 := mNe BK3 hg; have NB6_3 := mSy NB3_6; replace BK3 := mBb BK3 hb; have NB4_6 := mNe BK4 hg; have NB6_4 := mSy NB4_6; replace BK4 := mBb BK4 hb; have NB5_6 := mNe BK5 hg; have NB6_5 := mSy NB5_6; replace BK5 := mBb BK5 hb
      clear hb hbox hg
      refine hK.out _ _ ⟨blk_cell BK1.out 0, blk_cell BK1.out 1, blk_cell BK1.out 2, blk_cell BK1.out 3, blk_cell BK1.out 4, blk_cell BK1.out 5, blk_cell BK1.out 6, blk_cell BK3.out 0, blk_cell BK3.out 1, blk_cell BK2.out 0, blk_cell BK2.out 1⟩ (fun hHeld => ?_)
      clear hK K
      refine norm_ (a' := ?_) ?_ ?_
      rotate_left
      ·
       show Act.put _ (some 9) _ = _
       simp only [Act.put, List.setIfInBounds_toArray, List.set_cons_zero, List.set_cons_succ, i64_w, i32_w]
       rfl
      exact norm_ (by simp only [putAll, Act.put, List.setIfInBounds_toArray, List.set_cons_zero, List.set_cons_succ] <;> rfl) (hJ3_21 (gb6) _ ⟨hHeld, BK1.out, BK2.out, BK3.out, BK4.out, BK5.out, BK6.out, GW6.out, GE6.out, NB1_6.out, NB6_1.out, NB2_6.out, NB6_2.out, NB3_6.out, NB6_3.out, NB4_6.out, NB6_4.out, NB5_6.out, NB6_5.out, HB.out⟩)
     ·
      skip
      refine box_step ?hg (N := 10) ?hd (cs := #[.int .i64 0, .int .i64 0, .int .i64 0, .int .i64 0, .int .i64 0]) (t := 36) ?hr ?_; (case hd => rfl); (case hg => rfl); (case hr => first | (go_simp; done) | (go_simp; rfl))
      intro gb7 hg w89 hbox hb
      have BK7 := Aside0.mk hbox; have GW7 := mGw HB hg; have GE7 := GW7; replace HB := mSt HB hb; have NB1_7 := mNe BK1 hg; have NB7_1 := mSy NB1_7; replace BK1 := mBb BK1 hb; have NB2_7 := mNe BK2 hg; have NB7_2 := mSy NB2_7; replace BK2 := mBb BK2 hb; have NB3_7 := mNe BK3 hg; have NB7_3 := mSy NB3_7; replace BK3 := mBb BK3 hb; have NB4_7 := mNe BK4 hg; have NB7_4 := mSy NB4_7; replace BK4 := mBb BK4 hb; have NB5_7 := mNe BK5 hg; have NB7_5 := mSy NB5_7; replace BK5 := mBb BK5 hb
      clear hb hbox hg
      refine hK.out _ _ ⟨blk_cell BK1.out 0, blk_cell BK1.out 1, blk_cell BK1.out 2, blk_cell BK1.out 3, blk_cell BK1.out 4, blk_cell BK1.out 5, blk_cell BK1.out 6, blk_cell BK3.out 0, blk_cell BK3.out 1, blk_cell BK2.out 0, blk_cell BK2.out 1⟩ (fun hHeld => ?_)
      clear hK K
      refine norm_ (a' := ?_) ?_ ?_
      rotate_left
      ·
       show Act.put _ (some 10) _ = _
       simp only [Act.put, List.setIfInBounds_toArray, List.set_cons_zero, List.set_cons_succ, i64_w, i32_w]
       rfl
      exact norm_ (by simp only [putAll, Act.put, List.setIfInBounds_toArray, List.set_cons_zero, List.set_cons_succ] <;> rfl) (hJ3_22 (gb7) _ ⟨hHeld, BK1.out, BK2.out, BK3.out, BK4.out, BK5.out, BK7.out, GW7.out, GE7.out, NB1_7.out, NB7_1.out, NB2_7.out, NB7_2.out, NB3_7.out, NB7_3.out, NB4_7.out, NB7_4.out, NB5_7.out, NB7_5.out, HB.out⟩)
    intro hJ3
    refine join_ (σ := Nat) 9 #[true, true, true, false, true, true, true, false, true, true, false, true, true, true, false, true, true, false, true, true, false, true, false, false, false] (fun s_ => [(9, .pointer (some ⟨s_, 0, none⟩))]) (fun s_ w' => (w'.cell? ⟨gb1, 0, none⟩ = some (.int .i64 a0_0) ∧ w'.cell? ⟨gb1, 1, none⟩ = some (.int .i64 a0_1) ∧ w'.cell? ⟨gb1, 2, none⟩ = some (.int .i64 a0_2) ∧ w'.cell? ⟨gb1, 3, none⟩ = some (.int .i64 a0_3) ∧ w'.cell? ⟨gb1, 4, none⟩ = some (.int .i64 a0_4) ∧ w'.cell? ⟨gb1, 5, none⟩ = some (.int .i64 a0_5) ∧ w'.cell? ⟨gb1, 6, none⟩ = some (.int .i64 a0_6) ∧ w'.cell? ⟨gb3, 0, none⟩ = some (.int .i64 a2_0) ∧ w'.cell? ⟨gb3, 1, none⟩ = some (.int .i64 a2_1) ∧ w'.cell? ⟨gb2, 0, none⟩ = some (.int .i64 a1_0) ∧ w'.cell? ⟨gb2, 1, none⟩ = some (.int .i64 a1_1)) ∧ (w'.heap[gb1]? = some (.cells #[.int .i64 a0_0, .int .i64 a0_1, .int .i64 a0_2, .int .i64 a0_3, .int .i64 a0_4, .int .i64 a0_5, .int .i64 a0_6] 31 (0, 0))) ∧ (w'.heap[gb2]? = some (.cells #[.int .i64 a1_0, .int .i64 a1_1] 23 (0, 0))) ∧ (w'.heap[gb3]? = some (.cells #[.int .i64 a2_0, .int .i64 a2_1] 23 (0, 0))) ∧ (w'.heap[gb4]? = some (.cells #[.int .i64 a0_0, .int .i64 a0_1, .int .i64 a0_2, .int .i64 a0_3, .int .i64 a0_6] 36 (0, 0))) ∧ (w'.heap[gb5]? = some (.cells #[.int .i64 a0_4, .int .i64 a0_5, .int .i64 a1_0, .int .i64 a1_1, .int .i64 a0_6] 36 (0, 0))) ∧ (w'.heap[s_]? = some (.cells #[.int .i64 0, .int .i64 0, .int .i64 0, .int .i64 0, .int .i64 0] 36 (0, 0))) ∧ (w.heap.size ≤ s_) ∧ (w.heap.size ≤ s_) ∧ (gb1 ≠ s_) ∧ (s_ ≠ gb1) ∧ (gb2 ≠ s_) ∧ (s_ ≠ gb2) ∧ (gb3 ≠ s_) ∧ (s_ ≠ gb3) ∧ (gb4 ≠ s_) ∧ (s_ ≠ gb4) ∧ (gb5 ≠ s_) ∧ (s_ ≠ gb5) ∧ (Below w.heap.size w w')) ?_ ?_
    ·
     skip
     rintro gb6 w88 ⟨hS_, h0_, h1_, h2_, h3_, h4_, h5_, h6_, h7_, h8_, h9_, h10_, h11_, h12_, h13_, h14_, h15_, h16_, h17_, h18_⟩
     have n0_ := Aside0.mk h0_
     have n1_ := Aside0.mk h1_
     have n2_ := Aside0.mk h2_
     have n3_ := Aside0.mk h3_
     have n4_ := Aside0.mk h4_
     have n5_ := Aside0.mk h5_
     have n6_ := Aside0.mk h6_
     have n7_ := Aside0.mk h7_
     have n8_ := Aside0.mk h8_
     have n9_ := Aside0.mk h9_
     have n10_ := Aside0.mk h10_
     have n11_ := Aside0.mk h11_
     have n12_ := Aside0.mk h12_
     have n13_ := Aside0.mk h13_
     have n14_ := Aside0.mk h14_
     have n15_ := Aside0.mk h15_
     have n16_ := Aside0.mk h16_
     have n17_ := Aside0.mk h17_
     have n18_ := Aside0.mk h18_
     clear BK1; clear BK2; clear BK3; clear BK4; clear BK5; clear HB
     clear h0_ h1_ h2_ h3_ h4_ h5_ h6_ h7_ h8_ h9_ h10_ h11_ h12_ h13_ h14_ h15_ h16_ h17_ h18_
     have BK1 := n0_
     have BK2 := n1_
     have BK3 := n2_
     have BK4 := n3_
     have BK5 := n4_
     have BK6 := n5_
     have GW6 := n6_
     have GE6 := n7_
     have NB1_6 := n8_
     have NB6_1 := n9_
     have NB2_6 := n10_
     have NB6_2 := n11_
     have NB3_6 := n12_
     have NB6_3 := n13_
     have NB4_6 := n14_
     have NB6_4 := n15_
     have NB5_6 := n16_
     have NB6_5 := n17_
     have HB := n18_
     clear n0_ n1_ n2_ n3_ n4_ n5_ n6_ n7_ n8_ n9_ n10_ n11_ n12_ n13_ n14_ n15_ n16_ n17_ n18_
     have hHeld : w88.cell? ⟨gb1, 0, none⟩ = some (.int .i64 a0_0) ∧ w88.cell? ⟨gb1, 1, none⟩ = some (.int .i64 a0_1) ∧ w88.cell? ⟨gb1, 2, none⟩ = some (.int .i64 a0_2) ∧ w88.cell? ⟨gb1, 3, none⟩ = some (.int .i64 a0_3) ∧ w88.cell? ⟨gb1, 4, none⟩ = some (.int .i64 a0_4) ∧ w88.cell? ⟨gb1, 5, none⟩ = some (.int .i64 a0_5) ∧ w88.cell? ⟨gb1, 6, none⟩ = some (.int .i64 a0_6) ∧ w88.cell? ⟨gb3, 0, none⟩ = some (.int .i64 a2_0) ∧ w88.cell? ⟨gb3, 1, none⟩ = some (.int .i64 a2_1) ∧ w88.cell? ⟨gb2, 0, none⟩ = some (.int .i64 a1_0) ∧ w88.cell? ⟨gb2, 1, none⟩ = some (.int .i64 a1_1) := hS_
     refine norm_ (a' := ?_) ?_ ?_
     rotate_left
     ·
      simp only [putAll, Act.put, List.setIfInBounds_toArray, List.set_cons_zero, List.set_cons_succ]
      rfl
     refine two_ (i := 3) (j := 22) (Ni := some 66) (Nj := some 10) #[true, true, true, true, true, true, true, false, true, true, false, true, true, true, false, true, true, false, true, true, false, true, false, false, false] #[true, true, true, false, true, true, true, false, true, true, false, true, true, true, false, true, true, false, true, true, false, true, true, false, false] rfl rfl rfl rfl (two_of HT_.out (by kernel_rfl)) (by decide) (by decide) (fun K hK => ?_) (fun K hK => ?_)
     ·
      skip
      refine goes_ Try.func27 (by kernel_rfl) rfl #[.agg #[.int .i64 a0_0, .int .i64 a0_1], .agg #[.int .i64 a2_0, .int .i64 a2_1]] (by rfl) rfl rfl (by (try simp only [List.map_toArray, List.map_cons, List.map_nil]); first | done | rfl | (simp only [List.length_drop, List.length_take]; rfl)) ?_
      with_reducible refine (dancestudiolaw03_shifted.calls a0_0 a0_1 a2_0 a2_1 t529 t530 _ A62.out).mono ?_
      rintro e w89 ⟨rfl, hb⟩
      refine ⟨_, rfl, ?_⟩
      replace BK1 := mBb BK1 hb; replace BK2 := mBb BK2 hb; replace BK3 := mBb BK3 hb; replace BK4 := mBb BK4 hb; replace BK5 := mBb BK5 hb; replace BK6 := mBb BK6 hb; replace HB := mSt HB hb
      (try clear hb)
      (try clear hb2)
      (try clear hk)
      (try clear hi)
      refine hK.out _ _ ⟨blk_cell BK1.out 0, blk_cell BK1.out 1, blk_cell BK1.out 2, blk_cell BK1.out 3, blk_cell BK1.out 4, blk_cell BK1.out 5, blk_cell BK1.out 6, blk_cell BK3.out 0, blk_cell BK3.out 1, blk_cell BK2.out 0, blk_cell BK2.out 1⟩ (fun hHeld => ?_)
      clear hK K
      refine norm_ (a' := ?_) ?_ ?_
      rotate_left
      ·
       show Act.put _ (some 66) _ = _
       simp only [Act.put, List.setIfInBounds_toArray, List.set_cons_zero, List.set_cons_succ, i64_w, i32_w]
       rfl
      exact norm_ (by simp only [putAll, Act.put, List.setIfInBounds_toArray, List.set_cons_zero, List.set_cons_succ] <;> rfl) (hJ3_21 (gb6) _ ⟨hHeld, BK1.out, BK2.out, BK3.out, BK4.out, BK5.out, BK6.out, GW6.out, GE6.out, NB1_6.out, NB6_1.out, NB2_6.out, NB6_2.out, NB3_6.out, NB6_3.out, NB4_6.out, NB6_4.out, NB5_6.out, NB6_5.out, HB.out⟩)
     ·
      skip
      refine box_step ?hg (N := 10) ?hd (cs := #[.int .i64 0, .int .i64 0, .int .i64 0, .int .i64 0, .int .i64 0]) (t := 36) ?hr ?_; (case hd => rfl); (case hg => rfl); (case hr => first | (go_simp; done) | (go_simp; rfl))
      intro gb7 hg w89 hbox hb
      have BK7 := Aside0.mk hbox; have GW7 := mGw HB hg; have GE7 := GW7; replace HB := mSt HB hb; have NB1_7 := mNe BK1 hg; have NB7_1 := mSy NB1_7; replace BK1 := mBb BK1 hb; have NB2_7 := mNe BK2 hg; have NB7_2 := mSy NB2_7; replace BK2 := mBb BK2 hb; have NB3_7 := mNe BK3 hg; have NB7_3 := mSy NB3_7; replace BK3 := mBb BK3 hb; have NB4_7 := mNe BK4 hg; have NB7_4 := mSy NB4_7; replace BK4 := mBb BK4 hb; have NB5_7 := mNe BK5 hg; have NB7_5 := mSy NB5_7; replace BK5 := mBb BK5 hb; have NB6_7 := mNe BK6 hg; have NB7_6 := mSy NB6_7; replace BK6 := mBb BK6 hb
      clear hb hbox hg
      refine hK.out _ _ ⟨blk_cell BK1.out 0, blk_cell BK1.out 1, blk_cell BK1.out 2, blk_cell BK1.out 3, blk_cell BK1.out 4, blk_cell BK1.out 5, blk_cell BK1.out 6, blk_cell BK3.out 0, blk_cell BK3.out 1, blk_cell BK2.out 0, blk_cell BK2.out 1⟩ (fun hHeld => ?_)
      clear hK K
      refine norm_ (a' := ?_) ?_ ?_
      rotate_left
      ·
       show Act.put _ (some 10) _ = _
       simp only [Act.put, List.setIfInBounds_toArray, List.set_cons_zero, List.set_cons_succ, i64_w, i32_w]
       rfl
      exact norm_ (by simp only [putAll, Act.put, List.setIfInBounds_toArray, List.set_cons_zero, List.set_cons_succ] <;> rfl) (hJ21_22 (gb6, gb7) _ ⟨hHeld, BK1.out, BK2.out, BK3.out, BK4.out, BK5.out, BK6.out, BK7.out, GW6.out, GE6.out, NB1_6.out, NB6_1.out, NB2_6.out, NB6_2.out, NB3_6.out, NB6_3.out, NB4_6.out, NB6_4.out, NB5_6.out, NB6_5.out, NB7_6.out, NB6_7.out, GW7.out, GE7.out, NB1_7.out, NB7_1.out, NB2_7.out, NB7_2.out, NB3_7.out, NB7_3.out, NB4_7.out, NB7_4.out, NB5_7.out, NB7_5.out, HB.out⟩)
    intro hJ21
    refine join_ (σ := Nat) 9 #[true, true, true, false, true, true, true, false, true, true, false, true, true, true, false, true, true, false, true, true, false, false, true, false, false] (fun s_ => [(10, .pointer (some ⟨s_, 0, none⟩))]) (fun s_ w' => (w'.cell? ⟨gb1, 0, none⟩ = some (.int .i64 a0_0) ∧ w'.cell? ⟨gb1, 1, none⟩ = some (.int .i64 a0_1) ∧ w'.cell? ⟨gb1, 2, none⟩ = some (.int .i64 a0_2) ∧ w'.cell? ⟨gb1, 3, none⟩ = some (.int .i64 a0_3) ∧ w'.cell? ⟨gb1, 4, none⟩ = some (.int .i64 a0_4) ∧ w'.cell? ⟨gb1, 5, none⟩ = some (.int .i64 a0_5) ∧ w'.cell? ⟨gb1, 6, none⟩ = some (.int .i64 a0_6) ∧ w'.cell? ⟨gb3, 0, none⟩ = some (.int .i64 a2_0) ∧ w'.cell? ⟨gb3, 1, none⟩ = some (.int .i64 a2_1) ∧ w'.cell? ⟨gb2, 0, none⟩ = some (.int .i64 a1_0) ∧ w'.cell? ⟨gb2, 1, none⟩ = some (.int .i64 a1_1)) ∧ (w'.heap[gb1]? = some (.cells #[.int .i64 a0_0, .int .i64 a0_1, .int .i64 a0_2, .int .i64 a0_3, .int .i64 a0_4, .int .i64 a0_5, .int .i64 a0_6] 31 (0, 0))) ∧ (w'.heap[gb2]? = some (.cells #[.int .i64 a1_0, .int .i64 a1_1] 23 (0, 0))) ∧ (w'.heap[gb3]? = some (.cells #[.int .i64 a2_0, .int .i64 a2_1] 23 (0, 0))) ∧ (w'.heap[gb4]? = some (.cells #[.int .i64 a0_0, .int .i64 a0_1, .int .i64 a0_2, .int .i64 a0_3, .int .i64 a0_6] 36 (0, 0))) ∧ (w'.heap[gb5]? = some (.cells #[.int .i64 a0_4, .int .i64 a0_5, .int .i64 a1_0, .int .i64 a1_1, .int .i64 a0_6] 36 (0, 0))) ∧ (w'.heap[s_]? = some (.cells #[.int .i64 0, .int .i64 0, .int .i64 0, .int .i64 0, .int .i64 0] 36 (0, 0))) ∧ (w.heap.size ≤ s_) ∧ (w.heap.size ≤ s_) ∧ (gb1 ≠ s_) ∧ (s_ ≠ gb1) ∧ (gb2 ≠ s_) ∧ (s_ ≠ gb2) ∧ (gb3 ≠ s_) ∧ (s_ ≠ gb3) ∧ (gb4 ≠ s_) ∧ (s_ ≠ gb4) ∧ (gb5 ≠ s_) ∧ (s_ ≠ gb5) ∧ (Below w.heap.size w w')) ?_ ?_
    rotate_left
    ·
     intro hJ22
     refine three_ (i := 3) (j := 21) (k := 22) (Ni := some 66) (Nj := some 9) (Nk := some 10) #[true, true, true, true, true, true, true, false, true, true, false, true, true, true, false, true, true, false, true, true, false, false, false, false, false] #[true, true, true, false, true, true, true, false, true, true, false, true, true, true, false, true, true, false, true, true, false, true, false, false, false] #[true, true, true, false, true, true, true, false, true, true, false, true, true, true, false, true, true, false, true, true, false, false, true, false, false] rfl rfl rfl rfl rfl rfl (three_of HT_.out (by kernel_rfl)) (by decide) (by decide) (by decide) (fun K hK => ?_) (fun K hK => ?_) (fun K hK => ?_)
     ·
      skip
      refine goes_ Try.func27 (by kernel_rfl) rfl #[.agg #[.int .i64 a0_0, .int .i64 a0_1], .agg #[.int .i64 a2_0, .int .i64 a2_1]] (by rfl) rfl rfl (by (try simp only [List.map_toArray, List.map_cons, List.map_nil]); first | done | rfl | (simp only [List.length_drop, List.length_take]; rfl)) ?_
      with_reducible refine (dancestudiolaw03_shifted.calls a0_0 a0_1 a2_0 a2_1 t529 t530 _ A62.out).mono ?_
      rintro e w87 ⟨rfl, hb⟩
      refine ⟨_, rfl, ?_⟩
      replace BK1 := mBb BK1 hb; replace BK2 := mBb BK2 hb; replace BK3 := mBb BK3 hb; replace BK4 := mBb BK4 hb; replace BK5 := mBb BK5 hb; replace HB := mSt HB hb
      (try clear hb)
      (try clear hb2)
      (try clear hk)
      (try clear hi)
      refine hK.out _ _ ⟨blk_cell BK1.out 0, blk_cell BK1.out 1, blk_cell BK1.out 2, blk_cell BK1.out 3, blk_cell BK1.out 4, blk_cell BK1.out 5, blk_cell BK1.out 6, blk_cell BK3.out 0, blk_cell BK3.out 1, blk_cell BK2.out 0, blk_cell BK2.out 1⟩ (fun hHeld => ?_)
      clear hK K
      refine norm_ (a' := ?_) ?_ ?_
      rotate_left
      ·
       show Act.put _ (some 66) _ = _
       simp only [Act.put, List.setIfInBounds_toArray, List.set_cons_zero, List.set_cons_succ, i64_w, i32_w]
       rfl
      exact norm_ (by simp only [putAll, Act.put, List.setIfInBounds_toArray, List.set_cons_zero, List.set_cons_succ] <;> rfl) (hJ3 () _ ⟨hHeld, BK1.out, BK2.out, BK3.out, BK4.out, BK5.out, HB.out⟩)
     ·
      skip
      refine box_step ?hg (N := 9) ?hd (cs := #[.int .i64 0, .int .i64 0, .int .i64 0, .int .i64 0, .int .i64 0]) (t := 36) ?hr ?_; (case hd => rfl); (case hg => rfl); (case hr => first | (go_simp; done) | (go_simp; rfl))
      intro gb6 hg w87 hbox hb
      have BK6 := Aside0.mk hbox; have GW6 := mGw HB hg; have GE6 := GW6; replace HB := mSt HB hb; have NB1_6 := mNe BK1 hg; have NB6_1 := mSy NB1_6; replace BK1 := mBb BK1 hb; have NB2_6 := mNe BK2 hg; have NB6_2 := mSy NB2_6; replace BK2 := mBb BK2 hb; have NB3_6 := mNe BK3 hg; have NB6_3 := mSy NB3_6; replace BK3 := mBb BK3 hb; have NB4_6 := mNe BK4 hg; have NB6_4 := mSy NB4_6; replace BK4 := mBb BK4 hb; have NB5_6 := mNe BK5 hg; have NB6_5 := mSy NB5_6; replace BK5 := mBb BK5 hb
      clear hb hbox hg
      refine hK.out _ _ ⟨blk_cell BK1.out 0, blk_cell BK1.out 1, blk_cell BK1.out 2, blk_cell BK1.out 3, blk_cell BK1.out 4, blk_cell BK1.out 5, blk_cell BK1.out 6, blk_cell BK3.out 0, blk_cell BK3.out 1, blk_cell BK2.out 0, blk_cell BK2.out 1⟩ (fun hHeld => ?_)
      clear hK K
      refine norm_ (a' := ?_) ?_ ?_
      rotate_left
      ·
       show Act.put _ (some 9) _ = _
       simp only [Act.put, List.setIfInBounds_toArray, List.set_cons_zero, List.set_cons_succ, i64_w, i32_w]
       rfl
      exact norm_ (by simp only [putAll, Act.put, List.setIfInBounds_toArray, List.set_cons_zero, List.set_cons_succ] <;> rfl) (hJ21 (gb6) _ ⟨hHeld, BK1.out, BK2.out, BK3.out, BK4.out, BK5.out, BK6.out, GW6.out, GE6.out, NB1_6.out, NB6_1.out, NB2_6.out, NB6_2.out, NB3_6.out, NB6_3.out, NB4_6.out, NB6_4.out, NB5_6.out, NB6_5.out, HB.out⟩)
     ·
      skip
      refine box_step ?hg (N := 10) ?hd (cs := #[.int .i64 0, .int .i64 0, .int .i64 0, .int .i64 0, .int .i64 0]) (t := 36) ?hr ?_; (case hd => rfl); (case hg => rfl); (case hr => first | (go_simp; done) | (go_simp; rfl))
      intro gb7 hg w87 hbox hb
      have BK7 := Aside0.mk hbox; have GW7 := mGw HB hg; have GE7 := GW7; replace HB := mSt HB hb; have NB1_7 := mNe BK1 hg; have NB7_1 := mSy NB1_7; replace BK1 := mBb BK1 hb; have NB2_7 := mNe BK2 hg; have NB7_2 := mSy NB2_7; replace BK2 := mBb BK2 hb; have NB3_7 := mNe BK3 hg; have NB7_3 := mSy NB3_7; replace BK3 := mBb BK3 hb; have NB4_7 := mNe BK4 hg; have NB7_4 := mSy NB4_7; replace BK4 := mBb BK4 hb; have NB5_7 := mNe BK5 hg; have NB7_5 := mSy NB5_7; replace BK5 := mBb BK5 hb
      clear hb hbox hg
      refine hK.out _ _ ⟨blk_cell BK1.out 0, blk_cell BK1.out 1, blk_cell BK1.out 2, blk_cell BK1.out 3, blk_cell BK1.out 4, blk_cell BK1.out 5, blk_cell BK1.out 6, blk_cell BK3.out 0, blk_cell BK3.out 1, blk_cell BK2.out 0, blk_cell BK2.out 1⟩ (fun hHeld => ?_)
      clear hK K
      refine norm_ (a' := ?_) ?_ ?_
      rotate_left
      ·
       show Act.put _ (some 10) _ = _
       simp only [Act.put, List.setIfInBounds_toArray, List.set_cons_zero, List.set_cons_succ, i64_w, i32_w]
       rfl
      exact norm_ (by simp only [putAll, Act.put, List.setIfInBounds_toArray, List.set_cons_zero, List.set_cons_succ] <;> rfl) (hJ22 (gb7) _ ⟨hHeld, BK1.out, BK2.out, BK3.out, BK4.out, BK5.out, BK7.out, GW7.out, GE7.out, NB1_7.out, NB7_1.out, NB2_7.out, NB7_2.out, NB3_7.out, NB7_3.out, NB4_7.out, NB7_4.out, NB5_7.out, NB7_5.out, HB.out⟩)
    skip
    rintro gb7 w88 ⟨hS_, h0_, h1_, h2_, h3_, h4_, h5_, h6_, h7_, h8_, h9_, h10_, h11_, h12_, h13_, h14_, h15_, h16_, h17_, h18_⟩
    have n0_ := Aside0.mk h0_
    have n1_ := Aside0.mk h1_
    have n2_ := Aside0.mk h2_
    have n3_ := Aside0.mk h3_
    have n4_ := Aside0.mk h4_
    have n5_ := Aside0.mk h5_
    have n6_ := Aside0.mk h6_
    have n7_ := Aside0.mk h7_
    have n8_ := Aside0.mk h8_
    have n9_ := Aside0.mk h9_
    have n10_ := Aside0.mk h10_
    have n11_ := Aside0.mk h11_
    have n12_ := Aside0.mk h12_
    have n13_ := Aside0.mk h13_
    have n14_ := Aside0.mk h14_
    have n15_ := Aside0.mk h15_
    have n16_ := Aside0.mk h16_
    have n17_ := Aside0.mk h17_
    have n18_ := Aside0.mk h18_
    clear BK1; clear BK2; clear BK3; clear BK4; clear BK5; clear HB
    clear h0_ h1_ h2_ h3_ h4_ h5_ h6_ h7_ h8_ h9_ h10_ h11_ h12_ h13_ h14_ h15_ h16_ h17_ h18_
    have BK1 := n0_
    have BK2 := n1_
    have BK3 := n2_
    have BK4 := n3_
    have BK5 := n4_
    have BK7 := n5_
    have GW7 := n6_
    have GE7 := n7_
    have NB1_7 := n8_
    have NB7_1 := n9_
    have NB2_7 := n10_
    have NB7_2 := n11_
    have NB3_7 := n12_
    have NB7_3 := n13_
    have NB4_7 := n14_
    have NB7_4 := n15_
    have NB5_7 := n16_
    have NB7_5 := n17_
    have HB := n18_
    clear n0_ n1_ n2_ n3_ n4_ n5_ n6_ n7_ n8_ n9_ n10_ n11_ n12_ n13_ n14_ n15_ n16_ n17_ n18_
    have hHeld : w88.cell? ⟨gb1, 0, none⟩ = some (.int .i64 a0_0) ∧ w88.cell? ⟨gb1, 1, none⟩ = some (.int .i64 a0_1) ∧ w88.cell? ⟨gb1, 2, none⟩ = some (.int .i64 a0_2) ∧ w88.cell? ⟨gb1, 3, none⟩ = some (.int .i64 a0_3) ∧ w88.cell? ⟨gb1, 4, none⟩ = some (.int .i64 a0_4) ∧ w88.cell? ⟨gb1, 5, none⟩ = some (.int .i64 a0_5) ∧ w88.cell? ⟨gb1, 6, none⟩ = some (.int .i64 a0_6) ∧ w88.cell? ⟨gb3, 0, none⟩ = some (.int .i64 a2_0) ∧ w88.cell? ⟨gb3, 1, none⟩ = some (.int .i64 a2_1) ∧ w88.cell? ⟨gb2, 0, none⟩ = some (.int .i64 a1_0) ∧ w88.cell? ⟨gb2, 1, none⟩ = some (.int .i64 a1_1) := hS_
    refine norm_ (a' := ?_) ?_ ?_
    rotate_left
    ·
     simp only [putAll, Act.put, List.setIfInBounds_toArray, List.set_cons_zero, List.set_cons_succ]
     rfl
    refine two_ (i := 3) (j := 21) (Ni := some 66) (Nj := some 9) #[true, true, true, true, true, true, true, false, true, true, false, true, true, true, false, true, true, false, true, true, false, false, true, false, false] #[true, true, true, false, true, true, true, false, true, true, false, true, true, true, false, true, true, false, true, true, false, true, true, false, false] rfl rfl rfl rfl (two_of HT_.out (by kernel_rfl)) (by decide) (by decide) (fun K hK => ?_) (fun K hK => ?_)
    ·
     skip
     refine goes_ Try.func27 (by kernel_rfl) rfl #[.agg #[.int .i64 a0_0, .int .i64 a0_1], .agg #[.int .i64 a2_0, .int .i64 a2_1]] (by rfl) rfl rfl (by (try simp only [List.map_toArray, List.map_cons, List.map_nil]); first | done | rfl | (simp only [List.length_drop, List.length_take]; rfl)) ?_
     with_reducible refine (dancestudiolaw03_shifted.calls a0_0 a0_1 a2_0 a2_1 t529 t530 _ A62.out).mono ?_
     rintro e w89 ⟨rfl, hb⟩
     refine ⟨_, rfl, ?_⟩
     replace BK1 := mBb BK1 hb; replace BK2 := mBb BK2 hb; replace BK3 := mBb BK3 hb; replace BK4 := mBb BK4 hb; replace BK5 := mBb BK5 hb; replace BK7 := mBb BK7 hb; replace HB := mSt HB hb
     (try clear hb)
     (try clear hb2)
     (try clear hk)
     (try clear hi)
     refine hK.out _ _ ⟨blk_cell BK1.out 0, blk_cell BK1.out 1, blk_cell BK1.out 2, blk_cell BK1.out 3, blk_cell BK1.out 4, blk_cell BK1.out 5, blk_cell BK1.out 6, blk_cell BK3.out 0, blk_cell BK3.out 1, blk_cell BK2.out 0, blk_cell BK2.out 1⟩ (fun hHeld => ?_)
     clear hK K
     refine norm_ (a' := ?_) ?_ ?_
     rotate_left
     ·
      show Act.put _ (some 66) _ = _
      simp only [Act.put, List.setIfInBounds_toArray, List.set_cons_zero, List.set_cons_succ, i64_w, i32_w]
      rfl
     exact norm_ (by simp only [putAll, Act.put, List.setIfInBounds_toArray, List.set_cons_zero, List.set_cons_succ] <;> rfl) (hJ3_22 (gb7) _ ⟨hHeld, BK1.out, BK2.out, BK3.out, BK4.out, BK5.out, BK7.out, GW7.out, GE7.out, NB1_7.out, NB7_1.out, NB2_7.out, NB7_2.out, NB3_7.out, NB7_3.out, NB4_7.out, NB7_4.out, NB5_7.out, NB7_5.out, HB.out⟩)
    ·
     skip
     refine box_step ?hg (N := 9) ?hd (cs := #[.int .i64 0, .int .i64 0, .int .i64 0, .int .i64 0, .int .i64 0]) (t := 36) ?hr ?_; (case hd => rfl); (case hg => rfl); (case hr => first | (go_simp; done) | (go_simp; rfl))
     intro gb6 hg w89 hbox hb
     have BK6 := Aside0.mk hbox; have GW6 := mGw HB hg; have GE6 := GW6; replace HB := mSt HB hb; have NB1_6 := mNe BK1 hg; have NB6_1 := mSy NB1_6; replace BK1 := mBb BK1 hb; have NB2_6 := mNe BK2 hg; have NB6_2 := mSy NB2_6; replace BK2 := mBb BK2 hb; have NB3_6 := mNe BK3 hg; have NB6_3 := mSy NB3_6; replace BK3 := mBb BK3 hb; have NB4_6 := mNe BK4 hg; have NB6_4 := mSy NB4_6; replace BK4 := mBb BK4 hb; have NB5_6 := mNe BK5 hg; have NB6_5 := mSy NB5_6; replace BK5 := mBb BK5 hb; have NB7_6 := mNe BK7 hg; have NB6_7 := mSy NB7_6; replace BK7 := mBb BK7 hb
     clear hb hbox hg
     refine hK.out _ _ ⟨blk_cell BK1.out 0, blk_cell BK1.out 1, blk_cell BK1.out 2, blk_cell BK1.out 3, blk_cell BK1.out 4, blk_cell BK1.out 5, blk_cell BK1.out 6, blk_cell BK3.out 0, blk_cell BK3.out 1, blk_cell BK2.out 0, blk_cell BK2.out 1⟩ (fun hHeld => ?_)
     clear hK K
     refine norm_ (a' := ?_) ?_ ?_
     rotate_left
     ·
      show Act.put _ (some 9) _ = _
      simp only [Act.put, List.setIfInBounds_toArray, List.set_cons_zero, List.set_cons_succ, i64_w, i32_w]
      rfl
     exact norm_ (by simp only [putAll, Act.put, List.setIfInBounds_toArray, List.set_cons_zero, List.set_cons_succ] <;> rfl) (hJ21_22 (gb6, gb7) _ ⟨hHeld, BK1.out, BK2.out, BK3.out, BK4.out, BK5.out, BK6.out, BK7.out, GW6.out, GE6.out, NB1_6.out, NB6_1.out, NB2_6.out, NB6_2.out, NB3_6.out, NB6_3.out, NB4_6.out, NB6_4.out, NB5_6.out, NB6_5.out, NB7_6.out, NB6_7.out, GW7.out, GE7.out, NB1_7.out, NB7_1.out, NB2_7.out, NB7_2.out, NB3_7.out, NB7_3.out, NB4_7.out, NB7_4.out, NB5_7.out, NB7_5.out, HB.out⟩)
   rintro ⟨gb6, gb7⟩ w93 ⟨hS_, h0_, h1_, h2_, h3_, h4_, h5_, h6_, h7_, h8_, h9_, h10_, h11_, h12_, h13_, h14_, h15_, h16_, h17_, h18_, h19_, h20_, h21_, h22_, h23_, h24_, h25_, h26_, h27_, h28_, h29_, h30_, h31_, h32_, h33_⟩
   try dsimp only at h0_ h1_ h2_ h3_ h4_ h5_ h6_ h7_ h8_ h9_ h10_ h11_ h12_ h13_ h14_ h15_ h16_ h17_ h18_ h19_ h20_ h21_ h22_ h23_ h24_ h25_ h26_ h27_ h28_ h29_ h30_ h31_ h32_ h33_
   have n0_ := Aside0.mk h0_
   have n1_ := Aside0.mk h1_
   have n2_ := Aside0.mk h2_
   have n3_ := Aside0.mk h3_
   have n4_ := Aside0.mk h4_
   have n5_ := Aside0.mk h5_
   have n6_ := Aside0.mk h6_
   have n7_ := Aside0.mk h7_
   have n8_ := Aside0.mk h8_
   have n9_ := Aside0.mk h9_
   have n10_ := Aside0.mk h10_
   have n11_ := Aside0.mk h11_
   have n12_ := Aside0.mk h12_
   have n13_ := Aside0.mk h13_
   have n14_ := Aside0.mk h14_
   have n15_ := Aside0.mk h15_
   have n16_ := Aside0.mk h16_
   have n17_ := Aside0.mk h17_
   have n18_ := Aside0.mk h18_
   have n19_ := Aside0.mk h19_
   have n20_ := Aside0.mk h20_
   have n21_ := Aside0.mk h21_
   have n22_ := Aside0.mk h22_
   have n23_ := Aside0.mk h23_
   have n24_ := Aside0.mk h24_
   have n25_ := Aside0.mk h25_
   have n26_ := Aside0.mk h26_
   have n27_ := Aside0.mk h27_
   have n28_ := Aside0.mk h28_
   have n29_ := Aside0.mk h29_
   have n30_ := Aside0.mk h30_
   have n31_ := Aside0.mk h31_
   have n32_ := Aside0.mk h32_
   have n33_ := Aside0.mk h33_
   clear BK1; clear BK2; clear BK3; clear BK4; clear BK5; clear HB
   clear h0_ h1_ h2_ h3_ h4_ h5_ h6_ h7_ h8_ h9_ h10_ h11_ h12_ h13_ h14_ h15_ h16_ h17_ h18_ h19_ h20_ h21_ h22_ h23_ h24_ h25_ h26_ h27_ h28_ h29_ h30_ h31_ h32_ h33_
   have BK1 := n0_
   have BK2 := n1_
   have BK3 := n2_
   have BK4 := n3_
   have BK5 := n4_
   have BK6 := n5_
   have BK7 := n6_
   have GW6 := n7_
   have GE6 := n8_
   have NB1_6 := n9_
   have NB6_1 := n10_
   have NB2_6 := n11_
   have NB6_2 := n12_
   have NB3_6 := n13_
   have NB6_3 := n14_
   have NB4_6 := n15_
   have NB6_4 := n16_
   have NB5_6 := n17_
   have NB6_5 := n18_
   have NB7_6 := n19_
   have NB6_7 := n20_
   have GW7 := n21_
   have GE7 := n22_
   have NB1_7 := n23_
   have NB7_1 := n24_
   have NB2_7 := n25_
   have NB7_2 := n26_
   have NB3_7 := n27_
   have NB7_3 := n28_
   have NB4_7 := n29_
   have NB7_4 := n30_
   have NB5_7 := n31_
   have NB7_5 := n32_
   have HB := n33_
   clear n0_ n1_ n2_ n3_ n4_ n5_ n6_ n7_ n8_ n9_ n10_ n11_ n12_ n13_ n14_ n15_ n16_ n17_ n18_ n19_ n20_ n21_ n22_ n23_ n24_ n25_ n26_ n27_ n28_ n29_ n30_ n31_ n32_ n33_
   have hHeld : w93.cell? ⟨gb1, 0, none⟩ = some (.int .i64 a0_0) ∧ w93.cell? ⟨gb1, 1, none⟩ = some (.int .i64 a0_1) ∧ w93.cell? ⟨gb1, 2, none⟩ = some (.int .i64 a0_2) ∧ w93.cell? ⟨gb1, 3, none⟩ = some (.int .i64 a0_3) ∧ w93.cell? ⟨gb1, 4, none⟩ = some (.int .i64 a0_4) ∧ w93.cell? ⟨gb1, 5, none⟩ = some (.int .i64 a0_5) ∧ w93.cell? ⟨gb1, 6, none⟩ = some (.int .i64 a0_6) ∧ w93.cell? ⟨gb3, 0, none⟩ = some (.int .i64 a2_0) ∧ w93.cell? ⟨gb3, 1, none⟩ = some (.int .i64 a2_1) ∧ w93.cell? ⟨gb2, 0, none⟩ = some (.int .i64 a1_0) ∧ w93.cell? ⟨gb2, 1, none⟩ = some (.int .i64 a1_1) := hS_
   refine norm_ (a' := ?_) ?_ ?_
   rotate_left
   ·
    simp only [putAll, Act.put, List.setIfInBounds_toArray, List.set_cons_zero, List.set_cons_succ]
    rfl
   refine one_ (i := 23) (N := none) #[true, true, true, true, true, true, true, true, true, true, true, true, true, true, true, true, true, true, true, true, true, true, true, true, false] rfl rfl (one_of HT_.out (by kernel_rfl)) (by decide) (fun K hK => ?_)
   have hs94 : w93.cell? ⟨gb6, 0, none⟩ = some (.int .i64 0) := (blk_cell BK6.out 0).trans rfl
   have hfs94 := blk_frozen BK6.out 0
   have hns94_0 := NB1_6.out
   have hns94_1 := NB2_6.out
   have hns94_2 := NB3_6.out
   have hns94_3 := NB4_6.out
   have hns94_4 := NB5_6.out
   have hns94_6 := NB7_6.out
   have hms94_0 := NB6_1.out
   have hms94_1 := NB6_2.out
   have hms94_2 := NB6_3.out
   have hms94_3 := NB6_4.out
   have hms94_4 := NB6_5.out
   have hms94_6 := NB6_7.out
   have hs95 : w93.cell? ⟨gb6, 1, none⟩ = some (.int .i64 0) := (blk_cell BK6.out 1).trans rfl
   have hfs95 := blk_frozen BK6.out 1
   have hns95_0 := NB1_6.out
   have hns95_1 := NB2_6.out
   have hns95_2 := NB3_6.out
   have hns95_3 := NB4_6.out
   have hns95_4 := NB5_6.out
   have hns95_6 := NB7_6.out
   have hms95_0 := NB6_1.out
   have hms95_1 := NB6_2.out
   have hms95_2 := NB6_3.out
   have hms95_3 := NB6_4.out
   have hms95_4 := NB6_5.out
   have hms95_6 := NB6_7.out
   have hs96 : w93.cell? ⟨gb6, 2, none⟩ = some (.int .i64 0) := (blk_cell BK6.out 2).trans rfl
   have hfs96 := blk_frozen BK6.out 2
   have hns96_0 := NB1_6.out
   have hns96_1 := NB2_6.out
   have hns96_2 := NB3_6.out
   have hns96_3 := NB4_6.out
   have hns96_4 := NB5_6.out
   have hns96_6 := NB7_6.out
   have hms96_0 := NB6_1.out
   have hms96_1 := NB6_2.out
   have hms96_2 := NB6_3.out
   have hms96_3 := NB6_4.out
   have hms96_4 := NB6_5.out
   have hms96_6 := NB6_7.out
   have hs97 : w93.cell? ⟨gb6, 3, none⟩ = some (.int .i64 0) := (blk_cell BK6.out 3).trans rfl
   have hfs97 := blk_frozen BK6.out 3
   have hns97_0 := NB1_6.out
   have hns97_1 := NB2_6.out
   have hns97_2 := NB3_6.out
   have hns97_3 := NB4_6.out
   have hns97_4 := NB5_6.out
   have hns97_6 := NB7_6.out
   have hms97_0 := NB6_1.out
   have hms97_1 := NB6_2.out
   have hms97_2 := NB6_3.out
   have hms97_3 := NB6_4.out
   have hms97_4 := NB6_5.out
   have hms97_6 := NB6_7.out
   have hs98 : w93.cell? ⟨gb6, 4, none⟩ = some (.int .i64 0) := (blk_cell BK6.out 4).trans rfl
   have hfs98 := blk_frozen BK6.out 4
   have hns98_0 := NB1_6.out
   have hns98_1 := NB2_6.out
   have hns98_2 := NB3_6.out
   have hns98_3 := NB4_6.out
   have hns98_4 := NB5_6.out
   have hns98_6 := NB7_6.out
   have hms98_0 := NB6_1.out
   have hms98_1 := NB6_2.out
   have hms98_2 := NB6_3.out
   have hms98_3 := NB6_4.out
   have hms98_4 := NB6_5.out
   have hms98_6 := NB6_7.out
   refine skip_ (w1 := ?_) (by rfl) rfl ?_ ?_
   rotate_left
   ·
    go_simp
    rfl
   refine hK.out _ _ ⟨((cell_far (p := ⟨gb6, _, none⟩) NB1_6.out _).trans (((cell_far (p := ⟨gb6, _, none⟩) NB1_6.out _).trans (((cell_far (p := ⟨gb6, _, none⟩) NB1_6.out _).trans (((cell_far (p := ⟨gb6, _, none⟩) NB1_6.out _).trans (((cell_far (p := ⟨gb6, _, none⟩) NB1_6.out _).trans (hHeld.1)))))))))), ((cell_far (p := ⟨gb6, _, none⟩) NB1_6.out _).trans (((cell_far (p := ⟨gb6, _, none⟩) NB1_6.out _).trans (((cell_far (p := ⟨gb6, _, none⟩) NB1_6.out _).trans (((cell_far (p := ⟨gb6, _, none⟩) NB1_6.out _).trans (((cell_far (p := ⟨gb6, _, none⟩) NB1_6.out _).trans (hHeld.2.1)))))))))), ((cell_far (p := ⟨gb6, _, none⟩) NB1_6.out _).trans (((cell_far (p := ⟨gb6, _, none⟩) NB1_6.out _).trans (((cell_far (p := ⟨gb6, _, none⟩) NB1_6.out _).trans (((cell_far (p := ⟨gb6, _, none⟩) NB1_6.out _).trans (((cell_far (p := ⟨gb6, _, none⟩) NB1_6.out _).trans (hHeld.2.2.1)))))))))), ((cell_far (p := ⟨gb6, _, none⟩) NB1_6.out _).trans (((cell_far (p := ⟨gb6, _, none⟩) NB1_6.out _).trans (((cell_far (p := ⟨gb6, _, none⟩) NB1_6.out _).trans (((cell_far (p := ⟨gb6, _, none⟩) NB1_6.out _).trans (((cell_far (p := ⟨gb6, _, none⟩) NB1_6.out _).trans (hHeld.2.2.2.1)))))))))), ((cell_far (p := ⟨gb6, _, none⟩) NB1_6.out _).trans (((cell_far (p := ⟨gb6, _, none⟩) NB1_6.out _).trans (((cell_far (p := ⟨gb6, _, none⟩) NB1_6.out _).trans (((cell_far (p := ⟨gb6, _, none⟩) NB1_6.out _).trans (((cell_far (p := ⟨gb6, _, none⟩) NB1_6.out _).trans (hHeld.2.2.2.2.1)))))))))), ((cell_far (p := ⟨gb6, _, none⟩) NB1_6.out _).trans (((cell_far (p := ⟨gb6, _, none⟩) NB1_6.out _).trans (((cell_far (p := ⟨gb6, _, none⟩) NB1_6.out _).trans (((cell_far (p := ⟨gb6, _, none⟩) NB1_6.out _).trans (((cell_far (p := ⟨gb6, _, none⟩) NB1_6.out _).trans (hHeld.2.2.2.2.2.1)))))))))), ((cell_far (p := ⟨gb6, _, none⟩) NB1_6.out _).trans (((cell_far (p := ⟨gb6, _, none⟩) NB1_6.out _).trans (((cell_far (p := ⟨gb6, _, none⟩) NB1_6.out _).trans (((cell_far (p := ⟨gb6, _, none⟩) NB1_6.out _).trans (((cell_far (p := ⟨gb6, _, none⟩) NB1_6.out _).trans (hHeld.2.2.2.2.2.2.1)))))))))), ((cell_far (p := ⟨gb6, _, none⟩) NB3_6.out _).trans (((cell_far (p := ⟨gb6, _, none⟩) NB3_6.out _).trans (((cell_far (p := ⟨gb6, _, none⟩) NB3_6.out _).trans (((cell_far (p := ⟨gb6, _, none⟩) NB3_6.out _).trans (((cell_far (p := ⟨gb6, _, none⟩) NB3_6.out _).trans (hHeld.2.2.2.2.2.2.2.1)))))))))), ((cell_far (p := ⟨gb6, _, none⟩) NB3_6.out _).trans (((cell_far (p := ⟨gb6, _, none⟩) NB3_6.out _).trans (((cell_far (p := ⟨gb6, _, none⟩) NB3_6.out _).trans (((cell_far (p := ⟨gb6, _, none⟩) NB3_6.out _).trans (((cell_far (p := ⟨gb6, _, none⟩) NB3_6.out _).trans (hHeld.2.2.2.2.2.2.2.2.1)))))))))), ((cell_far (p := ⟨gb6, _, none⟩) NB2_6.out _).trans (((cell_far (p := ⟨gb6, _, none⟩) NB2_6.out _).trans (((cell_far (p := ⟨gb6, _, none⟩) NB2_6.out _).trans (((cell_far (p := ⟨gb6, _, none⟩) NB2_6.out _).trans (((cell_far (p := ⟨gb6, _, none⟩) NB2_6.out _).trans (hHeld.2.2.2.2.2.2.2.2.2.1)))))))))), ((cell_far (p := ⟨gb6, _, none⟩) NB2_6.out _).trans (((cell_far (p := ⟨gb6, _, none⟩) NB2_6.out _).trans (((cell_far (p := ⟨gb6, _, none⟩) NB2_6.out _).trans (((cell_far (p := ⟨gb6, _, none⟩) NB2_6.out _).trans (((cell_far (p := ⟨gb6, _, none⟩) NB2_6.out _).trans (hHeld.2.2.2.2.2.2.2.2.2.2))))))))))⟩ (fun hHeld => ?_)
   clear hK K
   refine one_ (i := 24) (N := none) #[true, true, true, true, true, true, true, true, true, true, true, true, true, true, true, true, true, true, true, true, true, true, true, true, true] rfl rfl (one_of HT_.out (by kernel_rfl)) (by decide) (fun K hK => ?_)
   have hs99 : w93.cell? ⟨gb7, 0, none⟩ = some (.int .i64 0) := (blk_cell BK7.out 0).trans rfl
   have hfs99 := blk_frozen BK7.out 0
   have hns99_0 := NB1_7.out
   have hns99_1 := NB2_7.out
   have hns99_2 := NB3_7.out
   have hns99_3 := NB4_7.out
   have hns99_4 := NB5_7.out
   have hns99_5 := NB6_7.out
   have hms99_0 := NB7_1.out
   have hms99_1 := NB7_2.out
   have hms99_2 := NB7_3.out
   have hms99_3 := NB7_4.out
   have hms99_4 := NB7_5.out
   have hms99_5 := NB7_6.out
   have hs100 : w93.cell? ⟨gb7, 1, none⟩ = some (.int .i64 0) := (blk_cell BK7.out 1).trans rfl
   have hfs100 := blk_frozen BK7.out 1
   have hns100_0 := NB1_7.out
   have hns100_1 := NB2_7.out
   have hns100_2 := NB3_7.out
   have hns100_3 := NB4_7.out
   have hns100_4 := NB5_7.out
   have hns100_5 := NB6_7.out
   have hms100_0 := NB7_1.out
   have hms100_1 := NB7_2.out
   have hms100_2 := NB7_3.out
   have hms100_3 := NB7_4.out
   have hms100_4 := NB7_5.out
   have hms100_5 := NB7_6.out
   have hs101 : w93.cell? ⟨gb7, 2, none⟩ = some (.int .i64 0) := (blk_cell BK7.out 2).trans rfl
   have hfs101 := blk_frozen BK7.out 2
   have hns101_0 := NB1_7.out
   have hns101_1 := NB2_7.out
   have hns101_2 := NB3_7.out
   have hns101_3 := NB4_7.out
   have hns101_4 := NB5_7.out
   have hns101_5 := NB6_7.out
   have hms101_0 := NB7_1.out
   have hms101_1 := NB7_2.out
   have hms101_2 := NB7_3.out
   have hms101_3 := NB7_4.out
   have hms101_4 := NB7_5.out
   have hms101_5 := NB7_6.out
   have hs102 : w93.cell? ⟨gb7, 3, none⟩ = some (.int .i64 0) := (blk_cell BK7.out 3).trans rfl
   have hfs102 := blk_frozen BK7.out 3
   have hns102_0 := NB1_7.out
   have hns102_1 := NB2_7.out
   have hns102_2 := NB3_7.out
   have hns102_3 := NB4_7.out
   have hns102_4 := NB5_7.out
   have hns102_5 := NB6_7.out
   have hms102_0 := NB7_1.out
   have hms102_1 := NB7_2.out
   have hms102_2 := NB7_3.out
   have hms102_3 := NB7_4.out
   have hms102_4 := NB7_5.out
   have hms102_5 := NB7_6.out
   have hs103 : w93.cell? ⟨gb7, 4, none⟩ = some (.int .i64 0) := (blk_cell BK7.out 4).trans rfl
   have hfs103 := blk_frozen BK7.out 4
   have hns103_0 := NB1_7.out
   have hns103_1 := NB2_7.out
   have hns103_2 := NB3_7.out
   have hns103_3 := NB4_7.out
   have hns103_4 := NB5_7.out
   have hns103_5 := NB6_7.out
   have hms103_0 := NB7_1.out
   have hms103_1 := NB7_2.out
   have hms103_2 := NB7_3.out
   have hms103_3 := NB7_4.out
   have hms103_4 := NB7_5.out
   have hms103_5 := NB7_6.out
   refine skip_ (w1 := ?_) (by rfl) rfl ?_ ?_
   rotate_left
   ·
    go_simp
    rfl
   refine hK.out _ _ ⟨((cell_far (p := ⟨gb7, _, none⟩) NB1_7.out _).trans (((cell_far (p := ⟨gb7, _, none⟩) NB1_7.out _).trans (((cell_far (p := ⟨gb7, _, none⟩) NB1_7.out _).trans (((cell_far (p := ⟨gb7, _, none⟩) NB1_7.out _).trans (((cell_far (p := ⟨gb7, _, none⟩) NB1_7.out _).trans (hHeld.1)))))))))), ((cell_far (p := ⟨gb7, _, none⟩) NB1_7.out _).trans (((cell_far (p := ⟨gb7, _, none⟩) NB1_7.out _).trans (((cell_far (p := ⟨gb7, _, none⟩) NB1_7.out _).trans (((cell_far (p := ⟨gb7, _, none⟩) NB1_7.out _).trans (((cell_far (p := ⟨gb7, _, none⟩) NB1_7.out _).trans (hHeld.2.1)))))))))), ((cell_far (p := ⟨gb7, _, none⟩) NB1_7.out _).trans (((cell_far (p := ⟨gb7, _, none⟩) NB1_7.out _).trans (((cell_far (p := ⟨gb7, _, none⟩) NB1_7.out _).trans (((cell_far (p := ⟨gb7, _, none⟩) NB1_7.out _).trans (((cell_far (p := ⟨gb7, _, none⟩) NB1_7.out _).trans (hHeld.2.2.1)))))))))), ((cell_far (p := ⟨gb7, _, none⟩) NB1_7.out _).trans (((cell_far (p := ⟨gb7, _, none⟩) NB1_7.out _).trans (((cell_far (p := ⟨gb7, _, none⟩) NB1_7.out _).trans (((cell_far (p := ⟨gb7, _, none⟩) NB1_7.out _).trans (((cell_far (p := ⟨gb7, _, none⟩) NB1_7.out _).trans (hHeld.2.2.2.1)))))))))), ((cell_far (p := ⟨gb7, _, none⟩) NB1_7.out _).trans (((cell_far (p := ⟨gb7, _, none⟩) NB1_7.out _).trans (((cell_far (p := ⟨gb7, _, none⟩) NB1_7.out _).trans (((cell_far (p := ⟨gb7, _, none⟩) NB1_7.out _).trans (((cell_far (p := ⟨gb7, _, none⟩) NB1_7.out _).trans (hHeld.2.2.2.2.1)))))))))), ((cell_far (p := ⟨gb7, _, none⟩) NB1_7.out _).trans (((cell_far (p := ⟨gb7, _, none⟩) NB1_7.out _).trans (((cell_far (p := ⟨gb7, _, none⟩) NB1_7.out _).trans (((cell_far (p := ⟨gb7, _, none⟩) NB1_7.out _).trans (((cell_far (p := ⟨gb7, _, none⟩) NB1_7.out _).trans (hHeld.2.2.2.2.2.1)))))))))), ((cell_far (p := ⟨gb7, _, none⟩) NB1_7.out _).trans (((cell_far (p := ⟨gb7, _, none⟩) NB1_7.out _).trans (((cell_far (p := ⟨gb7, _, none⟩) NB1_7.out _).trans (((cell_far (p := ⟨gb7, _, none⟩) NB1_7.out _).trans (((cell_far (p := ⟨gb7, _, none⟩) NB1_7.out _).trans (hHeld.2.2.2.2.2.2.1)))))))))), ((cell_far (p := ⟨gb7, _, none⟩) NB3_7.out _).trans (((cell_far (p := ⟨gb7, _, none⟩) NB3_7.out _).trans (((cell_far (p := ⟨gb7, _, none⟩) NB3_7.out _).trans (((cell_far (p := ⟨gb7, _, none⟩) NB3_7.out _).trans (((cell_far (p := ⟨gb7, _, none⟩) NB3_7.out _).trans (hHeld.2.2.2.2.2.2.2.1)))))))))), ((cell_far (p := ⟨gb7, _, none⟩) NB3_7.out _).trans (((cell_far (p := ⟨gb7, _, none⟩) NB3_7.out _).trans (((cell_far (p := ⟨gb7, _, none⟩) NB3_7.out _).trans (((cell_far (p := ⟨gb7, _, none⟩) NB3_7.out _).trans (((cell_far (p := ⟨gb7, _, none⟩) NB3_7.out _).trans (hHeld.2.2.2.2.2.2.2.2.1)))))))))), ((cell_far (p := ⟨gb7, _, none⟩) NB2_7.out _).trans (((cell_far (p := ⟨gb7, _, none⟩) NB2_7.out _).trans (((cell_far (p := ⟨gb7, _, none⟩) NB2_7.out _).trans (((cell_far (p := ⟨gb7, _, none⟩) NB2_7.out _).trans (((cell_far (p := ⟨gb7, _, none⟩) NB2_7.out _).trans (hHeld.2.2.2.2.2.2.2.2.2.1)))))))))), ((cell_far (p := ⟨gb7, _, none⟩) NB2_7.out _).trans (((cell_far (p := ⟨gb7, _, none⟩) NB2_7.out _).trans (((cell_far (p := ⟨gb7, _, none⟩) NB2_7.out _).trans (((cell_far (p := ⟨gb7, _, none⟩) NB2_7.out _).trans (((cell_far (p := ⟨gb7, _, none⟩) NB2_7.out _).trans (hHeld.2.2.2.2.2.2.2.2.2.2))))))))))⟩ (fun hHeld => ?_)
   clear hK K
   refine done_ (done_of HT_.out (by kernel_rfl)) ?_
   have hnb104 := NB1_2.out
   have hnc104 := NB2_1.out
   have hnb105 := NB1_3.out
   have hnc105 := NB3_1.out
   have hnb106 := NB1_4.out
   have hnc106 := NB4_1.out
   have hnb107 := NB1_5.out
   have hnc107 := NB5_1.out
   have hnb108 := NB1_6.out
   have hnc108 := NB6_1.out
   have hnb109 := NB1_7.out
   have hnc109 := NB7_1.out
   have hcz110 := blk_cell BK1.out; have hfz110 := blk_frozen BK1.out
   go_upto_region 9 with (first | ((with_reducible refine gate_callee (f := 16) rfl ?_); refine goesL_ (some 93) rfl rfl Try.func16 (by kernel_rfl) rfl #[.agg #[.int .i64 a0_0, .int .i64 a0_1], .agg #[.int .i64 a0_2, .int .i64 a0_3], .agg #[.int .i64 a0_4, .int .i64 a0_5], .int .i64 a0_6] rfl (by (try simp only [List.map_toArray, List.map_cons, List.map_nil]); first | done | rfl | (simp only [List.length_drop, List.length_take]; rfl)) ?_; (with_reducible refine (geom_Near.calls kj3 a0_0 a0_1 a0_2 a0_3 a0_4 a0_5 a0_6 t539 t540 _ A66.out).mono ?_); rintro e w111 ⟨rfl, hb⟩; refine ⟨_, rfl, ?_⟩; replace BK1 := Aside0.mk (blk_below (g := gb1) (o := .cells #[.int .i64 a0_0, .int .i64 a0_1, .int .i64 a0_2, .int .i64 a0_3, .int .i64 a0_4, .int .i64 a0_5, .int .i64 a0_6] 31 (0, 0)) (by (with_reducible repeat (first | refine blk_drewN ?_ _ | refine blk_drew ?_ | refine blk_alloc ?_ _)); refine blk_far ?_ NB1_7.out _; (with_reducible repeat (first | refine blk_drewN ?_ _ | refine blk_drew ?_ | refine blk_alloc ?_ _)); refine blk_far ?_ NB1_7.out _; (with_reducible repeat (first | refine blk_drewN ?_ _ | refine blk_drew ?_ | refine blk_alloc ?_ _)); refine blk_far ?_ NB1_7.out _; (with_reducible repeat (first | refine blk_drewN ?_ _ | refine blk_drew ?_ | refine blk_alloc ?_ _)); refine blk_far ?_ NB1_7.out _; (with_reducible repeat (first | refine blk_drewN ?_ _ | refine blk_drew ?_ | refine blk_alloc ?_ _)); refine blk_far ?_ NB1_7.out _; (with_reducible repeat (first | refine blk_drewN ?_ _ | refine blk_drew ?_ | refine blk_alloc ?_ _)); refine blk_far ?_ NB1_6.out _; (with_reducible repeat (first | refine blk_drewN ?_ _ | refine blk_drew ?_ | refine blk_alloc ?_ _)); refine blk_far ?_ NB1_6.out _; (with_reducible repeat (first | refine blk_drewN ?_ _ | refine blk_drew ?_ | refine blk_alloc ?_ _)); refine blk_far ?_ NB1_6.out _; (with_reducible repeat (first | refine blk_drewN ?_ _ | refine blk_drew ?_ | refine blk_alloc ?_ _)); refine blk_far ?_ NB1_6.out _; (with_reducible repeat (first | refine blk_drewN ?_ _ | refine blk_drew ?_ | refine blk_alloc ?_ _)); refine blk_far ?_ NB1_6.out _; (with_reducible repeat (first | refine blk_drewN ?_ _ | refine blk_drew ?_ | refine blk_alloc ?_ _)); exact BK1.out) hb); replace BK2 := Aside0.mk (blk_below (g := gb2) (o := .cells #[.int .i64 a1_0, .int .i64 a1_1] 23 (0, 0)) (by (with_reducible repeat (first | refine blk_drewN ?_ _ | refine blk_drew ?_ | refine blk_alloc ?_ _)); refine blk_far ?_ NB2_7.out _; (with_reducible repeat (first | refine blk_drewN ?_ _ | refine blk_drew ?_ | refine blk_alloc ?_ _)); refine blk_far ?_ NB2_7.out _; (with_reducible repeat (first | refine blk_drewN ?_ _ | refine blk_drew ?_ | refine blk_alloc ?_ _)); refine blk_far ?_ NB2_7.out _; (with_reducible repeat (first | refine blk_drewN ?_ _ | refine blk_drew ?_ | refine blk_alloc ?_ _)); refine blk_far ?_ NB2_7.out _; (with_reducible repeat (first | refine blk_drewN ?_ _ | refine blk_drew ?_ | refine blk_alloc ?_ _)); refine blk_far ?_ NB2_7.out _; (with_reducible repeat (first | refine blk_drewN ?_ _ | refine blk_drew ?_ | refine blk_alloc ?_ _)); refine blk_far ?_ NB2_6.out _; (with_reducible repeat (first | refine blk_drewN ?_ _ | refine blk_drew ?_ | refine blk_alloc ?_ _)); refine blk_far ?_ NB2_6.out _; (with_reducible repeat (first | refine blk_drewN ?_ _ | refine blk_drew ?_ | refine blk_alloc ?_ _)); refine blk_far ?_ NB2_6.out _; (with_reducible repeat (first | refine blk_drewN ?_ _ | refine blk_drew ?_ | refine blk_alloc ?_ _)); refine blk_far ?_ NB2_6.out _; (with_reducible repeat (first | refine blk_drewN ?_ _ | refine blk_drew ?_ | refine blk_alloc ?_ _)); refine blk_far ?_ NB2_6.out _; (with_reducible repeat (first | refine blk_drewN ?_ _ | refine blk_drew ?_ | refine blk_alloc ?_ _)); exact BK2.out) hb); replace BK3 := Aside0.mk (blk_below (g := gb3) (o := .cells #[.int .i64 a2_0, .int .i64 a2_1] 23 (0, 0)) (by (with_reducible repeat (first | refine blk_drewN ?_ _ | refine blk_drew ?_ | refine blk_alloc ?_ _)); refine blk_far ?_ NB3_7.out _; (with_reducible repeat (first | refine blk_drewN ?_ _ | refine blk_drew ?_ | refine blk_alloc ?_ _)); refine blk_far ?_ NB3_7.out _; (with_reducible repeat (first | refine blk_drewN ?_ _ | refine blk_drew ?_ | refine blk_alloc ?_ _)); refine blk_far ?_ NB3_7.out _; (with_reducible repeat (first | refine blk_drewN ?_ _ | refine blk_drew ?_ | refine blk_alloc ?_ _)); refine blk_far ?_ NB3_7.out _; (with_reducible repeat (first | refine blk_drewN ?_ _ | refine blk_drew ?_ | refine blk_alloc ?_ _)); refine blk_far ?_ NB3_7.out _; (with_reducible repeat (first | refine blk_drewN ?_ _ | refine blk_drew ?_ | refine blk_alloc ?_ _)); refine blk_far ?_ NB3_6.out _; (with_reducible repeat (first | refine blk_drewN ?_ _ | refine blk_drew ?_ | refine blk_alloc ?_ _)); refine blk_far ?_ NB3_6.out _; (with_reducible repeat (first | refine blk_drewN ?_ _ | refine blk_drew ?_ | refine blk_alloc ?_ _)); refine blk_far ?_ NB3_6.out _; (with_reducible repeat (first | refine blk_drewN ?_ _ | refine blk_drew ?_ | refine blk_alloc ?_ _)); refine blk_far ?_ NB3_6.out _; (with_reducible repeat (first | refine blk_drewN ?_ _ | refine blk_drew ?_ | refine blk_alloc ?_ _)); refine blk_far ?_ NB3_6.out _; (with_reducible repeat (first | refine blk_drewN ?_ _ | refine blk_drew ?_ | refine blk_alloc ?_ _)); exact BK3.out) hb); replace BK4 := Aside0.mk (blk_below (g := gb4) (o := .cells #[.int .i64 a0_0, .int .i64 a0_1, .int .i64 a0_2, .int .i64 a0_3, .int .i64 a0_6] 36 (0, 0)) (by (with_reducible repeat (first | refine blk_drewN ?_ _ | refine blk_drew ?_ | refine blk_alloc ?_ _)); refine blk_far ?_ NB4_7.out _; (with_reducible repeat (first | refine blk_drewN ?_ _ | refine blk_drew ?_ | refine blk_alloc ?_ _)); refine blk_far ?_ NB4_7.out _; (with_reducible repeat (first | refine blk_drewN ?_ _ | refine blk_drew ?_ | refine blk_alloc ?_ _)); refine blk_far ?_ NB4_7.out _; (with_reducible repeat (first | refine blk_drewN ?_ _ | refine blk_drew ?_ | refine blk_alloc ?_ _)); refine blk_far ?_ NB4_7.out _; (with_reducible repeat (first | refine blk_drewN ?_ _ | refine blk_drew ?_ | refine blk_alloc ?_ _)); refine blk_far ?_ NB4_7.out _; (with_reducible repeat (first | refine blk_drewN ?_ _ | refine blk_drew ?_ | refine blk_alloc ?_ _)); refine blk_far ?_ NB4_6.out _; (with_reducible repeat (first | refine blk_drewN ?_ _ | refine blk_drew ?_ | refine blk_alloc ?_ _)); refine blk_far ?_ NB4_6.out _; (with_reducible repeat (first | refine blk_drewN ?_ _ | refine blk_drew ?_ | refine blk_alloc ?_ _)); refine blk_far ?_ NB4_6.out _; (with_reducible repeat (first | refine blk_drewN ?_ _ | refine blk_drew ?_ | refine blk_alloc ?_ _)); refine blk_far ?_ NB4_6.out _; (with_reducible repeat (first | refine blk_drewN ?_ _ | refine blk_drew ?_ | refine blk_alloc ?_ _)); refine blk_far ?_ NB4_6.out _; (with_reducible repeat (first | refine blk_drewN ?_ _ | refine blk_drew ?_ | refine blk_alloc ?_ _)); exact BK4.out) hb); replace BK5 := Aside0.mk (blk_below (g := gb5) (o := .cells #[.int .i64 a0_4, .int .i64 a0_5, .int .i64 a1_0, .int .i64 a1_1, .int .i64 a0_6] 36 (0, 0)) (by (with_reducible repeat (first | refine blk_drewN ?_ _ | refine blk_drew ?_ | refine blk_alloc ?_ _)); refine blk_far ?_ NB5_7.out _; (with_reducible repeat (first | refine blk_drewN ?_ _ | refine blk_drew ?_ | refine blk_alloc ?_ _)); refine blk_far ?_ NB5_7.out _; (with_reducible repeat (first | refine blk_drewN ?_ _ | refine blk_drew ?_ | refine blk_alloc ?_ _)); refine blk_far ?_ NB5_7.out _; (with_reducible repeat (first | refine blk_drewN ?_ _ | refine blk_drew ?_ | refine blk_alloc ?_ _)); refine blk_far ?_ NB5_7.out _; (with_reducible repeat (first | refine blk_drewN ?_ _ | refine blk_drew ?_ | refine blk_alloc ?_ _)); refine blk_far ?_ NB5_7.out _; (with_reducible repeat (first | refine blk_drewN ?_ _ | refine blk_drew ?_ | refine blk_alloc ?_ _)); refine blk_far ?_ NB5_6.out _; (with_reducible repeat (first | refine blk_drewN ?_ _ | refine blk_drew ?_ | refine blk_alloc ?_ _)); refine blk_far ?_ NB5_6.out _; (with_reducible repeat (first | refine blk_drewN ?_ _ | refine blk_drew ?_ | refine blk_alloc ?_ _)); refine blk_far ?_ NB5_6.out _; (with_reducible repeat (first | refine blk_drewN ?_ _ | refine blk_drew ?_ | refine blk_alloc ?_ _)); refine blk_far ?_ NB5_6.out _; (with_reducible repeat (first | refine blk_drewN ?_ _ | refine blk_drew ?_ | refine blk_alloc ?_ _)); refine blk_far ?_ NB5_6.out _; (with_reducible repeat (first | refine blk_drewN ?_ _ | refine blk_drew ?_ | refine blk_alloc ?_ _)); exact BK5.out) hb); replace BK6 := Aside0.mk (blk_below (g := gb6) (o := .cells #[.int .i64 t529, .int .i64 t530, .int .i64 t531, .int .i64 t532, .int .i64 a0_6] 36 (0, 0)) (by (with_reducible repeat (first | refine blk_drewN ?_ _ | refine blk_drew ?_ | refine blk_alloc ?_ _)); refine blk_far ?_ NB6_7.out _; (with_reducible repeat (first | refine blk_drewN ?_ _ | refine blk_drew ?_ | refine blk_alloc ?_ _)); refine blk_far ?_ NB6_7.out _; (with_reducible repeat (first | refine blk_drewN ?_ _ | refine blk_drew ?_ | refine blk_alloc ?_ _)); refine blk_far ?_ NB6_7.out _; (with_reducible repeat (first | refine blk_drewN ?_ _ | refine blk_drew ?_ | refine blk_alloc ?_ _)); refine blk_far ?_ NB6_7.out _; (with_reducible repeat (first | refine blk_drewN ?_ _ | refine blk_drew ?_ | refine blk_alloc ?_ _)); refine blk_far ?_ NB6_7.out _; (with_reducible repeat (first | refine blk_drewN ?_ _ | refine blk_drew ?_ | refine blk_alloc ?_ _)); refine blk_put (cs := #[.int .i64 t529, .int .i64 t530, .int .i64 t531, .int .i64 t532, .int .i64 0]) ?_ 4 _ rfl; (with_reducible repeat (first | refine blk_drewN ?_ _ | refine blk_drew ?_ | refine blk_alloc ?_ _)); refine blk_put (cs := #[.int .i64 t529, .int .i64 t530, .int .i64 t531, .int .i64 0, .int .i64 0]) ?_ 3 _ rfl; (with_reducible repeat (first | refine blk_drewN ?_ _ | refine blk_drew ?_ | refine blk_alloc ?_ _)); refine blk_put (cs := #[.int .i64 t529, .int .i64 t530, .int .i64 0, .int .i64 0, .int .i64 0]) ?_ 2 _ rfl; (with_reducible repeat (first | refine blk_drewN ?_ _ | refine blk_drew ?_ | refine blk_alloc ?_ _)); refine blk_put (cs := #[.int .i64 t529, .int .i64 0, .int .i64 0, .int .i64 0, .int .i64 0]) ?_ 1 _ rfl; (with_reducible repeat (first | refine blk_drewN ?_ _ | refine blk_drew ?_ | refine blk_alloc ?_ _)); refine blk_put (cs := #[.int .i64 0, .int .i64 0, .int .i64 0, .int .i64 0, .int .i64 0]) ?_ 0 _ rfl; (with_reducible repeat (first | refine blk_drewN ?_ _ | refine blk_drew ?_ | refine blk_alloc ?_ _)); exact BK6.out) hb); replace BK7 := Aside0.mk (blk_below (g := gb7) (o := .cells #[.int .i64 t533, .int .i64 t534, .int .i64 t535, .int .i64 t536, .int .i64 a0_6] 36 (0, 0)) (by (with_reducible repeat (first | refine blk_drewN ?_ _ | refine blk_drew ?_ | refine blk_alloc ?_ _)); refine blk_put (cs := #[.int .i64 t533, .int .i64 t534, .int .i64 t535, .int .i64 t536, .int .i64 0]) ?_ 4 _ rfl; (with_reducible repeat (first | refine blk_drewN ?_ _ | refine blk_drew ?_ | refine blk_alloc ?_ _)); refine blk_put (cs := #[.int .i64 t533, .int .i64 t534, .int .i64 t535, .int .i64 0, .int .i64 0]) ?_ 3 _ rfl; (with_reducible repeat (first | refine blk_drewN ?_ _ | refine blk_drew ?_ | refine blk_alloc ?_ _)); refine blk_put (cs := #[.int .i64 t533, .int .i64 t534, .int .i64 0, .int .i64 0, .int .i64 0]) ?_ 2 _ rfl; (with_reducible repeat (first | refine blk_drewN ?_ _ | refine blk_drew ?_ | refine blk_alloc ?_ _)); refine blk_put (cs := #[.int .i64 t533, .int .i64 0, .int .i64 0, .int .i64 0, .int .i64 0]) ?_ 1 _ rfl; (with_reducible repeat (first | refine blk_drewN ?_ _ | refine blk_drew ?_ | refine blk_alloc ?_ _)); refine blk_put (cs := #[.int .i64 0, .int .i64 0, .int .i64 0, .int .i64 0, .int .i64 0]) ?_ 0 _ rfl; (with_reducible repeat (first | refine blk_drewN ?_ _ | refine blk_drew ?_ | refine blk_alloc ?_ _)); refine blk_far ?_ NB7_6.out _; (with_reducible repeat (first | refine blk_drewN ?_ _ | refine blk_drew ?_ | refine blk_alloc ?_ _)); refine blk_far ?_ NB7_6.out _; (with_reducible repeat (first | refine blk_drewN ?_ _ | refine blk_drew ?_ | refine blk_alloc ?_ _)); refine blk_far ?_ NB7_6.out _; (with_reducible repeat (first | refine blk_drewN ?_ _ | refine blk_drew ?_ | refine blk_alloc ?_ _)); refine blk_far ?_ NB7_6.out _; (with_reducible repeat (first | refine blk_drewN ?_ _ | refine blk_drew ?_ | refine blk_alloc ?_ _)); refine blk_far ?_ NB7_6.out _; (with_reducible repeat (first | refine blk_drewN ?_ _ | refine blk_drew ?_ | refine blk_alloc ?_ _)); exact BK7.out) hb); replace HB := Aside0.mk (below_step (by repeat (first | (with_reducible first | exact HB.out | apply below_alloc | apply pw_below_drewN | apply below_drew1 | refine below_set ?_ GE1.out | refine below_set ?_ GE2.out | refine below_set ?_ GE3.out | refine below_set ?_ GE4.out | refine below_set ?_ GE5.out | refine below_set ?_ GE6.out | refine below_set ?_ GE7.out) | exact HB.out)) hb); (try clear hb); have hnb112 := NB6_2.out; have hnc112 := NB2_6.out; have hnb113 := NB6_3.out; have hnc113 := NB3_6.out; have hnb114 := NB6_4.out; have hnc114 := NB4_6.out; have hnb115 := NB6_5.out; have hnc115 := NB5_6.out; have hnb116 := NB6_7.out; have hnc116 := NB7_6.out; have hcz117 := blk_cell BK6.out; have hfz117 := blk_frozen BK6.out; have hnb118 := NB7_2.out; have hnc118 := NB2_7.out; have hnb119 := NB7_3.out; have hnc119 := NB3_7.out; have hnb120 := NB7_4.out; have hnc120 := NB4_7.out; have hnb121 := NB7_5.out; have hnc121 := NB5_7.out; have hcz122 := blk_cell BK7.out; have hfz122 := blk_frozen BK7.out; have hcz123 := blk_cell BK1.out; have hfz123 := blk_frozen BK1.out) | ((with_reducible refine gate_callee (f := 16) rfl ?_); refine goesL_ (some 105) rfl rfl Try.func16 (by kernel_rfl) rfl #[.agg #[.int .i64 t529, .int .i64 t530], .agg #[.int .i64 t531, .int .i64 t532], .agg #[.int .i64 t533, .int .i64 t534], .int .i64 a0_6] rfl (by (try simp only [List.map_toArray, List.map_cons, List.map_nil]); first | done | rfl | (simp only [List.length_drop, List.length_take]; rfl)) ?_; (with_reducible refine (geom_Near.calls kj3 t529 t530 t531 t532 t533 t534 a0_6 t541 t542 _ A67.out).mono ?_); rintro e w124 ⟨rfl, hb⟩; refine ⟨_, rfl, ?_⟩; replace BK1 := mBb BK1 hb; replace BK2 := mBb BK2 hb; replace BK3 := mBb BK3 hb; replace BK4 := mBb BK4 hb; replace BK5 := mBb BK5 hb; replace BK6 := mBb BK6 hb; replace BK7 := mBb BK7 hb; replace HB := Aside0.mk (below_step (by repeat (first | (with_reducible first | exact HB.out | apply below_alloc | apply pw_below_drewN | apply below_drew1 | refine below_set ?_ GE1.out | refine below_set ?_ GE2.out | refine below_set ?_ GE3.out | refine below_set ?_ GE4.out | refine below_set ?_ GE5.out | refine below_set ?_ GE6.out | refine below_set ?_ GE7.out) | exact HB.out)) hb); (try clear hb); have hnb125 := NB4_2.out; have hnc125 := NB2_4.out; have hnb126 := NB4_3.out; have hnc126 := NB3_4.out; have hnb127 := NB4_5.out; have hnc127 := NB5_4.out; have hcz128 := blk_cell BK4.out; have hfz128 := blk_frozen BK4.out; have hnb129 := NB5_2.out; have hnc129 := NB2_5.out; have hnb130 := NB5_3.out; have hnc130 := NB3_5.out; have hcz131 := blk_cell BK5.out; have hfz131 := blk_frozen BK5.out) | ((with_reducible refine gate_callee (f := 18) rfl ?_); refine goesL_ (some 111) rfl rfl Try.func18 (by kernel_rfl) rfl #[.agg #[.int .i64 a0_0, .int .i64 a0_1, .int .i64 a0_2, .int .i64 a0_3, .int .i64 a0_6], .agg #[.int .i64 a0_4, .int .i64 a0_5, .int .i64 a1_0, .int .i64 a1_1, .int .i64 a0_6]] rfl (by (try simp only [List.map_toArray, List.map_cons, List.map_nil]); first | done | rfl | (simp only [List.length_drop, List.length_take]; rfl)) ?_; (with_reducible refine (geom_Touch.calls kj3 a0_0 a0_1 a0_2 a0_3 a0_6 a0_4 a0_5 a1_0 a1_1 a0_6 t543 t544 _ A68.out).mono ?_); rintro e w132 ⟨rfl, hb⟩; refine ⟨_, rfl, ?_⟩; replace BK1 := mBb BK1 hb; replace BK2 := mBb BK2 hb; replace BK3 := mBb BK3 hb; replace BK4 := mBb BK4 hb; replace BK5 := mBb BK5 hb; replace BK6 := mBb BK6 hb; replace BK7 := mBb BK7 hb; replace HB := Aside0.mk (below_step (by repeat (first | (with_reducible first | exact HB.out | apply below_alloc | apply pw_below_drewN | apply below_drew1 | refine below_set ?_ GE1.out | refine below_set ?_ GE2.out | refine below_set ?_ GE3.out | refine below_set ?_ GE4.out | refine below_set ?_ GE5.out | refine below_set ?_ GE6.out | refine below_set ?_ GE7.out) | exact HB.out)) hb); (try clear hb); have hcz133 := blk_cell BK6.out; have hfz133 := blk_frozen BK6.out; have hcz134 := blk_cell BK7.out; have hfz134 := blk_frozen BK7.out) | ((with_reducible refine gate_callee (f := 18) rfl ?_); refine goesL_ (some 117) rfl rfl Try.func18 (by kernel_rfl) rfl #[.agg #[.int .i64 t529, .int .i64 t530, .int .i64 t531, .int .i64 t532, .int .i64 a0_6], .agg #[.int .i64 t533, .int .i64 t534, .int .i64 t535, .int .i64 t536, .int .i64 a0_6]] rfl (by (try simp only [List.map_toArray, List.map_cons, List.map_nil]); first | done | rfl | (simp only [List.length_drop, List.length_take]; rfl)) ?_; (with_reducible refine (geom_Touch.calls kj3 t529 t530 t531 t532 a0_6 t533 t534 t535 t536 a0_6 t545 t546 _ A69.out).mono ?_); rintro e w135 ⟨rfl, hb⟩; refine ⟨_, rfl, ?_⟩; replace BK1 := mBb BK1 hb; replace BK2 := mBb BK2 hb; replace BK3 := mBb BK3 hb; replace BK4 := mBb BK4 hb; replace BK5 := mBb BK5 hb; replace BK6 := mBb BK6 hb; replace BK7 := mBb BK7 hb; replace HB := Aside0.mk (below_step (by repeat (first | (with_reducible first | exact HB.out | apply below_alloc | apply pw_below_drewN | apply below_drew1 | refine below_set ?_ GE1.out | refine below_set ?_ GE2.out | refine below_set ?_ GE3.out | refine below_set ?_ GE4.out | refine below_set ?_ GE5.out | refine below_set ?_ GE6.out | refine below_set ?_ GE7.out) | exact HB.out)) hb); (try clear hb)))
   (try simp only [Act.put, List.setIfInBounds_toArray, List.set_cons_zero, List.set_cons_succ])
   go_cut [137] (fun v137 wc => ∃ (kq : Nat) (x137_69 : Bool), v137 = .bool x137_69 ∧ Aside0 (dancestudiolaw03_GeomShifts.j1 kq x137_69 a0_0 a0_1 a0_2 a0_3 a0_4 a0_5 a0_6 a1_0 a1_1 t529 t530 t531 t532 a0_6 t533 t534 t535 t536 a0_6 = some r) ∧ Aside0 (kq ≤ kj3) ∧ Aside0 (wc.heap[gb1]? = some (.cells #[.int .i64 a0_0, .int .i64 a0_1, .int .i64 a0_2, .int .i64 a0_3, .int .i64 a0_4, .int .i64 a0_5, .int .i64 a0_6] 31 (0, 0))) ∧ Aside0 (wc.heap[gb2]? = some (.cells #[.int .i64 a1_0, .int .i64 a1_1] 23 (0, 0))) ∧ Aside0 (wc.heap[gb3]? = some (.cells #[.int .i64 a2_0, .int .i64 a2_1] 23 (0, 0))) ∧ Aside0 (wc.heap[gb4]? = some (.cells #[.int .i64 a0_0, .int .i64 a0_1, .int .i64 a0_2, .int .i64 a0_3, .int .i64 a0_6] 36 (0, 0))) ∧ Aside0 (wc.heap[gb5]? = some (.cells #[.int .i64 a0_4, .int .i64 a0_5, .int .i64 a1_0, .int .i64 a1_1, .int .i64 a0_6] 36 (0, 0))) ∧ Aside0 (wc.heap[gb6]? = some (.cells #[.int .i64 t529, .int .i64 t530, .int .i64 t531, .int .i64 t532, .int .i64 a0_6] 36 (0, 0))) ∧ Aside0 (wc.heap[gb7]? = some (.cells #[.int .i64 t533, .int .i64 t534, .int .i64 t535, .int .i64 t536, .int .i64 a0_6] 36 (0, 0))) ∧ Aside0 (Below w.heap.size w wc))
   case first =>
    have H := HC70.out
    clear HC70
    by_cases c136 : (t539 != t541) = true
    ·
     rw [if_pos c136] at H
     have c136b0 : (t539 != t541) = true := c136
     (try (have c136b1 : decide (t539 = t541) = false := by simpa using c136))
     (try (have c136b2 : (t539 == t541) = false := by simpa using c136))
     (try (have c136b3 : ¬ (t539 = t541) := by simpa using c136))
     clear c136
     (first | rw [c136b0] | (simp only [i64_w, i32_w]; rw [c136b0]) | skip)
     have H' := Aside0.mk H
     clear H
     go_wp2
     go_meet
     case rel => exact ⟨_, (true), (by first | rfl | (simp; done) | (simp [*]; done)), H', ⟨by have := HJ3.out; first | omega | exact Nat.le_refl _⟩, ⟨BK1.out⟩, ⟨BK2.out⟩, ⟨BK3.out⟩, ⟨BK4.out⟩, ⟨BK5.out⟩, ⟨BK6.out⟩, ⟨BK7.out⟩, ⟨by repeat (first | (with_reducible first | exact HB.out | apply below_alloc | apply pw_below_drewN | apply below_drew1 | refine below_set ?_ GE1.out | refine below_set ?_ GE2.out | refine below_set ?_ GE3.out | refine below_set ?_ GE4.out | refine below_set ?_ GE5.out | refine below_set ?_ GE6.out | refine below_set ?_ GE7.out) | exact HB.out)⟩⟩
    rw [if_neg c136] at H
    have c136b0 : (t539 != t541) = false := by simpa using c136
    (try (have c136b1 : decide (t539 = t541) = true := by simpa using c136))
    (try (have c136b2 : (t539 == t541) = true := by simpa using c136))
    clear c136
    (first | rw [c136b0] | (simp only [i64_w, i32_w]; rw [c136b0]) | skip)
    by_cases c137 : t540 = t542
    rotate_left
    ·
     rw [if_neg c137] at H
     have c137b0 : (t540 == t542) = false := beq_eq_false_iff_ne.mpr c137
     have c137b1 : (t540 != t542) = true := bne_iff_ne.mpr c137
     have H' := Aside0.mk H
     clear H
     go_wp2
     go_meet
     case rel => exact ⟨_, (true), (by first | rfl | (simp; done) | (simp [*]; done)), H', ⟨by have := HJ3.out; first | omega | exact Nat.le_refl _⟩, ⟨BK1.out⟩, ⟨BK2.out⟩, ⟨BK3.out⟩, ⟨BK4.out⟩, ⟨BK5.out⟩, ⟨BK6.out⟩, ⟨BK7.out⟩, ⟨by repeat (first | (with_reducible first | exact HB.out | apply below_alloc | apply pw_below_drewN | apply below_drew1 | refine below_set ?_ GE1.out | refine below_set ?_ GE2.out | refine below_set ?_ GE3.out | refine below_set ?_ GE4.out | refine below_set ?_ GE5.out | refine below_set ?_ GE6.out | refine below_set ?_ GE7.out) | exact HB.out)⟩⟩
    rw [if_pos c137] at H
    have c137b0 : (t540 == t542) = true := beq_iff_eq.mpr c137
    have c137b1 : (t540 != t542) = false := bne_eq_false_iff_eq.mpr c137
    clear c137
    by_cases c138 : (t543 != t545) = true
    rotate_left
    ·
     rw [if_neg c138] at H
     have c138b0 : (t543 != t545) = false := by simpa using c138
     (try (have c138b1 : decide (t543 = t545) = true := by simpa using c138))
     (try (have c138b2 : (t543 == t545) = true := by simpa using c138))
     clear c138
     have H' := Aside0.mk H
     clear H
     go_wp2
     go_meet
     case rel => exact ⟨_, ((t544 != t546)), (by first | rfl | (simp; done) | (simp [*]; done)), H', ⟨by have := HJ3.out; first | omega | exact Nat.le_refl _⟩, ⟨BK1.out⟩, ⟨BK2.out⟩, ⟨BK3.out⟩, ⟨BK4.out⟩, ⟨BK5.out⟩, ⟨BK6.out⟩, ⟨BK7.out⟩, ⟨by repeat (first | (with_reducible first | exact HB.out | apply below_alloc | apply pw_below_drewN | apply below_drew1 | refine below_set ?_ GE1.out | refine below_set ?_ GE2.out | refine below_set ?_ GE3.out | refine below_set ?_ GE4.out | refine below_set ?_ GE5.out | refine below_set ?_ GE6.out | refine below_set ?_ GE7.out) | exact HB.out)⟩⟩
    rw [if_pos c138] at H
    have c138b0 : (t543 != t545) = true := c138
    (try (have c138b1 : decide (t543 = t545) = false := by simpa using c138))
    (try (have c138b2 : (t543 == t545) = false := by simpa using c138))
    (try (have c138b3 : ¬ (t543 = t545) := by simpa using c138))
    clear c138
    have H' := Aside0.mk H
    clear H
    go_wp2
    go_meet
    case rel => exact ⟨_, (true), (by first | rfl | (simp; done) | (simp [*]; done)), H', ⟨by have := HJ3.out; first | omega | exact Nat.le_refl _⟩, ⟨BK1.out⟩, ⟨BK2.out⟩, ⟨BK3.out⟩, ⟨BK4.out⟩, ⟨BK5.out⟩, ⟨BK6.out⟩, ⟨BK7.out⟩, ⟨by repeat (first | (with_reducible first | exact HB.out | apply below_alloc | apply pw_below_drewN | apply below_drew1 | refine below_set ?_ GE1.out | refine below_set ?_ GE2.out | refine below_set ?_ GE3.out | refine below_set ?_ GE4.out | refine below_set ?_ GE5.out | refine below_set ?_ GE6.out | refine below_set ?_ GE7.out) | exact HB.out)⟩⟩
   case rest =>
    clear HC70; try clear c1; try clear p2; try clear c10; try clear c11; try clear c12; try clear c13; try clear c16; try clear c18; try clear c104; try clear c105; try clear c106; try clear c107; try clear c108; try clear c109; try clear c112; try clear c113; try clear c114; try clear c115; try clear c116; try clear c118; try clear c119; try clear c120; try clear c121; try clear c125; try clear c126; try clear c127; try clear c129; try clear c130; try clear c136; try clear c136b0; try clear c136b1; try clear c136b2; try clear c137; try clear c137b0; try clear c137b1; try clear c138; try clear c138b0; try clear c138b1; try clear c138b2; try clear hcz110_0; try clear hcz110_1; try clear hcz110_2; try clear hcz110_3; try clear hcz110_4; try clear hcz110_5; try clear hcz110_6; try clear hcz117_0; try clear hcz117_1; try clear hcz117_2; try clear hcz117_3; try clear hcz117_4; try clear hcz122_0; try clear hcz122_1; try clear hcz122_2; try clear hcz122_3; try clear hcz122_4; try clear hcz123_0; try clear hcz123_1; try clear hcz123_2; try clear hcz123_3; try clear hcz123_4; try clear hcz123_5; try clear hcz123_6; try clear hcz128_0; try clear hcz128_1; try clear hcz128_2; try clear hcz128_3; try clear hcz128_4; try clear hcz131_0; try clear hcz131_1; try clear hcz131_2; try clear hcz131_3; try clear hcz131_4; try clear hcz133_0; try clear hcz133_1; try clear hcz133_2; try clear hcz133_3; try clear hcz133_4; try clear hcz134_0; try clear hcz134_1; try clear hcz134_2; try clear hcz134_3; try clear hcz134_4; try clear hfz110_0; try clear hfz110_1; try clear hfz110_2; try clear hfz110_3; try clear hfz110_4; try clear hfz110_5; try clear hfz110_6; try clear hfz117_0; try clear hfz117_1; try clear hfz117_2; try clear hfz117_3; try clear hfz117_4; try clear hfz122_0; try clear hfz122_1; try clear hfz122_2; try clear hfz122_3; try clear hfz122_4; try clear hfz123_0; try clear hfz123_1; try clear hfz123_2; try clear hfz123_3; try clear hfz123_4; try clear hfz123_5; try clear hfz123_6; try clear hfz128_0; try clear hfz128_1; try clear hfz128_2; try clear hfz128_3; try clear hfz128_4; try clear hfz131_0; try clear hfz131_1; try clear hfz131_2; try clear hfz131_3; try clear hfz131_4; try clear hfz133_0; try clear hfz133_1; try clear hfz133_2; try clear hfz133_3; try clear hfz133_4; try clear hfz134_0; try clear hfz134_1; try clear hfz134_2; try clear hfz134_3; try clear hfz134_4
    obtain ⟨kq, x137_69, rfl, HA, HJ69, BK1, BK2, BK3, BK4, BK5, BK6, BK7, HB⟩ := hcut
    cases kq with
    | zero => exact absurd HA.out (by simp [dancestudiolaw03_GeomShifts.j1])
    | succ kj69 =>
     have H := HA.out
     clear HA
     simp only [dancestudiolaw03_GeomShifts.j1] at H
     by_cases c139 : x137_69 = true
     ·
      subst c139
      rw [if_pos rfl] at H
      exact absurd H (by simp)
     replace c139 := Bool.eq_false_iff.mpr c139
     subst c139
     rw [if_neg (show ¬ (false = true) by decide)] at H
     replace H := Option.bind_eq_some_iff.mp H
     obtain ⟨⟨t547, t548⟩, A1400, H⟩ := H
     try dsimp only at H
     have A140 := Aside0.mk A1400
     clear A1400
     replace H := Option.bind_eq_some_iff.mp H
     obtain ⟨⟨t549, t550⟩, A1410, H⟩ := H
     try dsimp only at H
     have A141 := Aside0.mk A1410
     clear A1410
     replace H := Option.bind_eq_some_iff.mp H
     obtain ⟨⟨t551, t552⟩, A1420, H⟩ := H
     try dsimp only at H
     have A142 := Aside0.mk A1420
     clear A1420
     replace H := Option.bind_eq_some_iff.mp H
     obtain ⟨⟨t553, t554⟩, A1430, H⟩ := H
     try dsimp only at H
     have A143 := Aside0.mk A1430
     clear A1430
     by_cases c144 : t547 = t549
     rotate_left
     ·
      rw [if_neg c144] at H
      exact absurd H (by simp)
     rw [if_pos c144] at H
     have c144b0 : (t547 == t549) = true := beq_iff_eq.mpr c144
     have c144b1 : (t547 != t549) = false := bne_eq_false_iff_eq.mpr c144
     clear c144
     by_cases c145 : t551 = (wrap64 (-t553))
     rotate_left
     ·
      rw [if_neg c145] at H
      exact absurd H (by simp)
     rw [if_pos c145] at H
     have c145b0 : (t551 == (wrap64 (-t553))) = true := beq_iff_eq.mpr c145
     have c145b1 : (t551 != (wrap64 (-t553))) = false := bne_eq_false_iff_eq.mpr c145
     clear c145
     by_cases c146 : t548 = 0
     rotate_left
     ·
      rw [if_neg c146] at H
      exact absurd H (by simp)
     rw [if_pos c146] at H
     have c146b0 : (t548 == 0) = true := beq_iff_eq.mpr c146
     have c146b1 : (t548 != 0) = false := bne_eq_false_iff_eq.mpr c146
     clear c146
     by_cases c147 : t550 = 0
     rotate_left
     ·
      rw [if_neg c147] at H
      exact absurd H (by simp)
     rw [if_pos c147] at H
     have c147b0 : (t550 == 0) = true := beq_iff_eq.mpr c147
     have c147b1 : (t550 != 0) = false := bne_eq_false_iff_eq.mpr c147
     clear c147
     by_cases c148 : t552 = 0
     rotate_left
     ·
      rw [if_neg c148] at H
      exact absurd H (by simp)
     rw [if_pos c148] at H
     have c148b0 : (t552 == 0) = true := beq_iff_eq.mpr c148
     have c148b1 : (t552 != 0) = false := bne_eq_false_iff_eq.mpr c148
     clear c148
     by_cases c149 : t554 = 0
     rotate_left
     ·
      rw [if_neg c149] at H
      exact absurd H (by simp)
     rw [if_pos c149] at H
     have c149b0 : (t554 == 0) = true := beq_iff_eq.mpr c149
     have c149b1 : (t554 != 0) = false := bne_eq_false_iff_eq.mpr c149
     clear c149
     replace H := Option.bind_eq_some_iff.mp H
     obtain ⟨t555, A1500, H⟩ := H
     try dsimp only at H
     have A150 := Aside0.mk A1500
     clear A1500
     obtain rfl := Option.some.inj H
     have hnb151 := NB1_2.out
     have hnc151 := NB2_1.out
     have hnb152 := NB1_3.out
     have hnc152 := NB3_1.out
     have hnb153 := NB1_4.out
     have hnc153 := NB4_1.out
     have hnb154 := NB1_5.out
     have hnc154 := NB5_1.out
     have hnb155 := NB1_6.out
     have hnc155 := NB6_1.out
     have hnb156 := NB1_7.out
     have hnc156 := NB7_1.out
     have hcz157 := blk_cell BK1.out; have hfz157 := blk_frozen BK1.out
     have hnb158 := NB2_3.out
     have hnc158 := NB3_2.out
     have hnb159 := NB2_4.out
     have hnc159 := NB4_2.out
     have hnb160 := NB2_5.out
     have hnc160 := NB5_2.out
     have hnb161 := NB2_6.out
     have hnc161 := NB6_2.out
     have hnb162 := NB2_7.out
     have hnc162 := NB7_2.out
     have hcz163 := blk_cell BK2.out; have hfz163 := blk_frozen BK2.out
     go_wp2_with (first | ((with_reducible refine gate_callee (f := 11) rfl ?_); refine goesL_ (some 142) rfl rfl Try.func11 (by kernel_rfl) rfl #[.agg #[.int .i64 a0_0, .int .i64 a0_1], .agg #[.int .i64 a1_0, .int .i64 a1_1]] rfl (by (try simp only [List.map_toArray, List.map_cons, List.map_nil]); first | done | rfl | (simp only [List.length_drop, List.length_take]; rfl)) ?_; (with_reducible refine (geom_Dist2.calls kj69 a0_0 a0_1 a1_0 a1_1 t547 t548 _ A140.out).mono ?_); rintro e w164 ⟨rfl, hb⟩; refine ⟨_, rfl, ?_⟩; replace BK1 := mBb BK1 hb; replace BK2 := mBb BK2 hb; replace BK3 := mBb BK3 hb; replace BK4 := mBb BK4 hb; replace BK5 := mBb BK5 hb; replace BK6 := mBb BK6 hb; replace BK7 := mBb BK7 hb; replace HB := mSt HB hb; (try clear hb); have hnb165 := NB7_3.out; have hnc165 := NB3_7.out; have hnb166 := NB7_4.out; have hnc166 := NB4_7.out; have hnb167 := NB7_5.out; have hnc167 := NB5_7.out; have hnb168 := NB7_6.out; have hnc168 := NB6_7.out; have hcz169 := blk_cell BK7.out; have hfz169 := blk_frozen BK7.out; have hnb170 := NB6_3.out; have hnc170 := NB3_6.out; have hnb171 := NB6_4.out; have hnc171 := NB4_6.out; have hnb172 := NB6_5.out; have hnc172 := NB5_6.out; have hcz173 := blk_cell BK6.out; have hfz173 := blk_frozen BK6.out) | ((with_reducible refine gate_callee (f := 11) rfl ?_); refine goesL_ (some 150) rfl rfl Try.func11 (by kernel_rfl) rfl #[.agg #[.int .i64 t535, .int .i64 t536], .agg #[.int .i64 t529, .int .i64 t530]] rfl (by (try simp only [List.map_toArray, List.map_cons, List.map_nil]); first | done | rfl | (simp only [List.length_drop, List.length_take]; rfl)) ?_; (with_reducible refine (geom_Dist2.calls kj69 t535 t536 t529 t530 t549 t550 _ A141.out).mono ?_); rintro e w174 ⟨rfl, hb⟩; refine ⟨_, rfl, ?_⟩; replace BK1 := mBb BK1 hb; replace BK2 := mBb BK2 hb; replace BK3 := mBb BK3 hb; replace BK4 := mBb BK4 hb; replace BK5 := mBb BK5 hb; replace BK6 := mBb BK6 hb; replace BK7 := mBb BK7 hb; replace HB := mSt HB hb; (try clear hb); have hcz175 := blk_cell BK1.out; have hfz175 := blk_frozen BK1.out; have hcz176 := blk_cell BK2.out; have hfz176 := blk_frozen BK2.out) | ((with_reducible refine gate_callee (f := 13) rfl ?_); refine goesL_ (some 159) rfl rfl Try.func13 (by kernel_rfl) rfl #[.agg #[.int .i64 a0_0, .int .i64 a0_1], .agg #[.int .i64 a0_2, .int .i64 a0_3], .agg #[.int .i64 a1_0, .int .i64 a1_1]] rfl (by (try simp only [List.map_toArray, List.map_cons, List.map_nil]); first | done | rfl | (simp only [List.length_drop, List.length_take]; rfl)) ?_; (with_reducible refine (geom_Cross.calls kj69 a0_0 a0_1 a0_2 a0_3 a1_0 a1_1 t551 t552 _ A142.out).mono ?_); rintro e w177 ⟨rfl, hb⟩; refine ⟨_, rfl, ?_⟩; replace BK1 := mBb BK1 hb; replace BK2 := mBb BK2 hb; replace BK3 := mBb BK3 hb; replace BK4 := mBb BK4 hb; replace BK5 := mBb BK5 hb; replace BK6 := mBb BK6 hb; replace BK7 := mBb BK7 hb; replace HB := mSt HB hb; (try clear hb); have hcz178 := blk_cell BK6.out; have hfz178 := blk_frozen BK6.out; have hcz179 := blk_cell BK7.out; have hfz179 := blk_frozen BK7.out) | ((with_reducible refine gate_callee (f := 13) rfl ?_); refine goesL_ (some 169) rfl rfl Try.func13 (by kernel_rfl) rfl #[.agg #[.int .i64 t529, .int .i64 t530], .agg #[.int .i64 t535, .int .i64 t536], .agg #[.int .i64 t531, .int .i64 t532]] rfl (by (try simp only [List.map_toArray, List.map_cons, List.map_nil]); first | done | rfl | (simp only [List.length_drop, List.length_take]; rfl)) ?_; (with_reducible refine (geom_Cross.calls kj69 t529 t530 t535 t536 t531 t532 t553 t554 _ A143.out).mono ?_); rintro e w180 ⟨rfl, hb⟩; refine ⟨_, rfl, ?_⟩; replace BK1 := mBb BK1 hb; replace BK2 := mBb BK2 hb; replace BK3 := mBb BK3 hb; replace BK4 := mBb BK4 hb; replace BK5 := mBb BK5 hb; replace BK6 := mBb BK6 hb; replace BK7 := mBb BK7 hb; replace HB := mSt HB hb; (try clear hb)) | (go_at_call 15; (with_reducible refine (dancestudiolaw03_awake.calls kj69  t555 _ A150.out).mono ?_); rintro e w181 ⟨rfl, hb⟩; replace BK1 := mBb BK1 hb; replace BK2 := mBb BK2 hb; replace BK3 := mBb BK3 hb; replace BK4 := mBb BK4 hb; replace BK5 := mBb BK5 hb; replace BK6 := mBb BK6 hb; replace BK7 := mBb BK7 hb; replace HB := mSt HB hb; (try clear hb)))
     go_ret
     exact ⟨by first | rfl | (simp [errW_none, errW_some] <;> rfl) | (simp [*, errW_none, errW_some] <;> rfl), by repeat (first | (with_reducible first | exact HB.out | apply below_alloc | apply pw_below_drewN | apply below_drew1 | refine below_set ?_ GE1.out | refine below_set ?_ GE2.out | refine below_set ?_ GE3.out | refine below_set ?_ GE4.out | refine below_set ?_ GE5.out | refine below_set ?_ GE6.out | refine below_set ?_ GE7.out) | exact HB.out)⟩
end Go.Proofs.Ytmilejcbkpkplaa.PAll
