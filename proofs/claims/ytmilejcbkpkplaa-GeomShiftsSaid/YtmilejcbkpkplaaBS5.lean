/- Texts of the proof, laid end to end. -/
import Derived.Test.YtmilejcbkpkplaaBS2
import Derived.Test.YtmilejcbkpkplaaBS3
import Derived.Test.YtmilejcbkpkplaaBS4
-- Written by wip/tools/handprint.py: walks of the functions that the law reaches; Lean checks them.
namespace Go.Proofs.Ytmilejcbkpkplaa.PAll
open Go.RowKit Go.Proofs.YtmilejcbkpkplaaW.PrintWords Go.Proofs.YtmilejcbkpkplaaW.PrintLast Go.Proofs.YtmilejcbkpkplaaW.PrintMore
attribute [local go_sem] max2_int min2_int max_two min_two max_three min_three max_four min_four   -- for this text's walks alone
set_option linter.unusedVariables false
set_option linter.unusedSimpArgs false

/-! ### geom_Inside: function 23 -/
mutual
def geom_Inside.j0 : Nat → List (S23) → Bool → Int → Int → Option (Bool × Int)
 | 0, _, _, _, _ => none
 | k + 1, x1, x21, x255000, x255001 => if x21 = true then (some (false, 1)) else ((geom_hull.f k x1).bind fun t260 => (if (t260.length : Int) = 0 then (some (false, 0)) else (if (t260.length : Int) < 3 then (if 0 < (t260.length : Int) then ((geom_minus.f ((rd_T23 t260 0).f0) ((rd_T23 t260 0).f1) x255000 x255001).bind fun bt264 => (if 0 ≤ (wrap64 ((t260.length : Int) - 1)) then (if (wrap64 ((t260.length : Int) - 1)) < (t260.length : Int) then ((geom_minus.f ((rd_T23 t260 (wrap64 ((t260.length : Int) - 1))).f0) ((rd_T23 t260 (wrap64 ((t260.length : Int) - 1))).f1) ((rd_T23 t260 0).f0) ((rd_T23 t260 0).f1)).bind fun bt268 => ((geom_nearest.f k bt264.1 bt264.2 bt268.1 bt268.2 0).bind fun t270 => (some (decide (t270 ≤ 0), 0)))) else (none)) else (none))) else (none)) else (geom_Inside.l0 k t260 t260 (t260.length : Int) 0 x255000 x255001))))
def geom_Inside.l0 : Nat → List (S23) → List (S23) → Int → Int → Int → Int → Option (Bool × Int)
 | 0, _, _, _, _, _, _ => none
 | k + 1, x6, x47, x48, x49, x255000, x255001 => if x49 < x48 then (if 0 ≤ x49 then (if x49 < (x47.length : Int) then (if (x6.length : Int) = 0 then (none) else (if 0 ≤ (Int.tmod (wrap64 (x49 + 1)) (x6.length : Int)) then (if (Int.tmod (wrap64 (x49 + 1)) (x6.length : Int)) < (x6.length : Int) then ((geom_minus.f ((rd_T23 x6 (Int.tmod (wrap64 (x49 + 1)) (x6.length : Int))).f0) ((rd_T23 x6 (Int.tmod (wrap64 (x49 + 1)) (x6.length : Int))).f1) ((rd_T23 x47 x49).f0) ((rd_T23 x47 x49).f1)).bind fun bt275 => ((geom_minus.f x255000 x255001 ((rd_T23 x47 x49).f0) ((rd_T23 x47 x49).f1)).bind fun bt277 => ((geom_cross.f bt275.1 bt275.2 bt277.1 bt277.2).bind fun t279 => (if t279 < 0 then (some (false, 0)) else (geom_Inside.l0 k x6 x47 x48 (wrap64 (x49 + 1)) x255000 x255001))))) else (none)) else (none))) else (none)) else (none)) else (some (true, 0))
end
def geom_Inside.f (k : Nat) (a0_0 : Int) (a0_1 : Int) (l1 : List (S23)) : Option (Bool × Int) := if (l1.length : Int) > 16 then (some (false, 3)) else ((geom_valid.f k (([(⟨a0_0, a0_1⟩ : S23)] : List (S23))) ([] : List Int)).bind fun t258 => (if t258 = true then ((geom_valid.f k l1 ([] : List Int)).bind fun t259 => (geom_Inside.j0 k l1 (!t259) a0_0 a0_1)) else (geom_Inside.j0 k l1 true a0_0 a0_1)))
theorem geom_Inside.mono_l : ∀ k, (∀ y0 y1 y2 y3, LeO (geom_Inside.j0 k y0 y1 y2 y3) (geom_Inside.j0 (k + 1) y0 y1 y2 y3)) ∧ (∀ y0 y1 y2 y3 y4 y5, LeO (geom_Inside.l0 k y0 y1 y2 y3 y4 y5) (geom_Inside.l0 (k + 1) y0 y1 y2 y3 y4 y5))
 | 0 => ⟨fun _ _ _ _ r h => by simp [geom_Inside.j0] at h, fun _ _ _ _ _ _ r h => by simp [geom_Inside.l0] at h⟩
 | k + 1 => by
  obtain ⟨ih0, ih1⟩ := geom_Inside.mono_l k
  refine ⟨?_, ?_⟩
  ·
   intro y0 y1 y2 y3
   unfold geom_Inside.j0
   repeat' first
   | (with_reducible exact ih0 _ _ _ _)
   | (with_reducible exact ih1 _ _ _ _ _ _)
   | (with_reducible exact geom_hull.mono _ _)
   | (with_reducible exact geom_nearest.mono _ _ _ _ _ _)
   | (with_reducible exact geom_valid.mono _ _ _)
   | (with_reducible exact LeO.refl _)
   | (with_reducible exact LeO.none _)
   | (with_reducible refine LeO.ite ?_ ?_)
   | (with_reducible refine LeO.bind ?_ (fun _ => ?_))
   | exact ih0 _ _ _ _
   | exact ih1 _ _ _ _ _ _
   | exact geom_hull.mono _ _
   | exact geom_nearest.mono _ _ _ _ _ _
   | exact geom_valid.mono _ _ _
   | exact LeO.none _
   | refine LeO.ite ?_ ?_
   | refine LeO.bind ?_ (fun _ => ?_)
  ·
   intro y0 y1 y2 y3 y4 y5
   unfold geom_Inside.l0
   repeat' first
   | (with_reducible exact ih0 _ _ _ _)
   | (with_reducible exact ih1 _ _ _ _ _ _)
   | (with_reducible exact geom_hull.mono _ _)
   | (with_reducible exact geom_nearest.mono _ _ _ _ _ _)
   | (with_reducible exact geom_valid.mono _ _ _)
   | (with_reducible exact LeO.refl _)
   | (with_reducible exact LeO.none _)
   | (with_reducible refine LeO.ite ?_ ?_)
   | (with_reducible refine LeO.bind ?_ (fun _ => ?_))
   | exact ih0 _ _ _ _
   | exact ih1 _ _ _ _ _ _
   | exact geom_hull.mono _ _
   | exact geom_nearest.mono _ _ _ _ _ _
   | exact geom_valid.mono _ _ _
   | exact LeO.none _
   | refine LeO.ite ?_ ?_
   | refine LeO.bind ?_ (fun _ => ?_)
theorem geom_Inside.mono : ∀ a0 a1 a2 k, LeO (geom_Inside.f k a0 a1 a2) (geom_Inside.f (k + 1) a0 a1 a2) := by
 intro a0 a1 a2 k
 obtain ⟨ih0, ih1⟩ := geom_Inside.mono_l k
 unfold geom_Inside.f
 repeat' first
   | (with_reducible exact ih0 _ _ _ _)
   | (with_reducible exact ih1 _ _ _ _ _ _)
   | (with_reducible exact geom_hull.mono _ _)
   | (with_reducible exact geom_nearest.mono _ _ _ _ _ _)
   | (with_reducible exact geom_valid.mono _ _ _)
   | (with_reducible exact LeO.refl _)
   | (with_reducible exact LeO.none _)
   | (with_reducible refine LeO.ite ?_ ?_)
   | (with_reducible refine LeO.bind ?_ (fun _ => ?_))
   | exact ih0 _ _ _ _
   | exact ih1 _ _ _ _ _ _
   | exact geom_hull.mono _ _
   | exact geom_nearest.mono _ _ _ _ _ _
   | exact geom_valid.mono _ _ _
   | exact LeO.none _
   | refine LeO.ite ?_ ?_
   | refine LeO.bind ?_ (fun _ => ?_)
def geom_Inside.T9 : Bool × List (List Nat × List Nat) := (true, [([], []), ([0], [0]), ([1], [1]), ([], []), ([2, 3], [2, 3]), ([], []), ([], []), ([6], [6]), ([7], [7]), ([5, 8], [5, 8]), ([9], [9]), ([], []), ([11], [11]), ([12], [12]), ([10, 13, 4], [10, 13]), ([4, 14, 14], [4, 14]), ([15], [15]), ([16, 15, 0, 1, 2, 3, 4, 5, 6, 7, 8, 9, 10, 11, 12, 13, 14, 15, 16], [16]), ([17, 0, 1, 2, 3, 4, 5, 6, 7, 8, 9, 10, 11, 12, 13, 14, 15, 16, 17], [])])
def geom_Inside.B9 : List Nat := [0, 1, 3, 0, 15, 0, 0, 64, 192, 480, 992, 0, 2048, 6144, 16383, 32767, 65535, 131071, 262143]
theorem geom_Inside.tab9 : rtab .any (opsOf Try.f23 9) = geom_Inside.T9 := by kernel_rfl
theorem geom_Inside.bits9 : waitsOk geom_Inside.T9.2 geom_Inside.B9 = true := by kernel_rfl
def geom_Inside.T14 : Bool × List (List Nat × List Nat) := (true, [([], []), ([], []), ([0, 1], [0, 1]), ([], []), ([], []), ([3, 4, 2], [3, 4]), ([2, 5, 5], [2, 5]), ([6], [6])])
def geom_Inside.B14 : List Nat := [0, 0, 3, 0, 0, 31, 63, 127]
theorem geom_Inside.tab14 : rtab .any (opsOf Try.f23 14) = geom_Inside.T14 := by kernel_rfl
theorem geom_Inside.bits14 : waitsOk geom_Inside.T14.2 geom_Inside.B14 = true := by kernel_rfl
set_option maxHeartbeats 8000000 in
set_option maxRecDepth 100000 in
theorem geom_Inside.calls (k : Nat) (a0_0 : Int) (a0_1 : Int) (A1 : Option Addr) (c1 : Nat) (l1 : List (S23)) (r1 : Bool) (r2 : Int) (w : World) (hr1 : Kd.C k23 w A1 l1.length l1) (hc1 : l1.length ≤ c1) (h : geom_Inside.f k a0_0 a0_1 l1 = some (r1, r2)) :
  Calls Try.prog 23 #[.agg #[.int .i64 a0_0, .int .i64 a0_1], .slice A1 l1.length c1] w fun e w' => e = .returned (.tuple #[.bool r1, .int .i64 r2]) ∧ Below w.heap.size w w' := by
 have hu23 := Try.underlying23
 have HR1 := Aside0.mk hr1
 have HC1 := Aside0.mk hc1
 clear hr1 hc1
 have HB := Aside0.mk (Below.refl w.heap.size w)
 have H : (if (l1.length : Int) > 16 then (some (false, 3)) else ((geom_valid.f k (([(⟨a0_0, a0_1⟩ : S23)] : List (S23))) ([] : List Int)).bind fun t258 => (if t258 = true then ((geom_valid.f k l1 ([] : List Int)).bind fun t259 => (geom_Inside.j0 k l1 (!t259) a0_0 a0_1)) else (geom_Inside.j0 k l1 true a0_0 a0_1)))) = some (r1, r2) := h
 clear h
 by_cases c3 : (l1.length : Int) > 16
 ·
  rw [if_pos c3] at H
  have c3b0 : decide (16 < (l1.length : Int)) = true := decide_eq_true c3
  have c3b1 : decide (16 < l1.length) = true := decide_eq_true (by omega)
  clear c3
  simp only [Option.some.injEq, Prod.mk.injEq] at H
  obtain ⟨rfl, rfl⟩ := H
  go_enter Try.func23, Try.ntmps23
  go_wp2_with (first | ((with_reducible refine gate_dst (N := 2) rfl ?_); refine box_event ?hg (N := 2) ?hd (cs := #[.int .i64 a0_0, .int .i64 a0_1]) (t := 23) ?hr ?_; (case hd => rfl); (case hg => rfl); (case hr => first | (go_simp; done) | (go_simp; rfl)); intro gb254 hg w4 hbox hb; have BK254 := Aside0.mk hbox; have GW254 := mGw HB hg; have GE254 := GW254; replace HB := mSt HB hb; clear hb hbox hg))
  go_ret2
  exact ⟨by first | rfl | (simp [errW_none, errW_some] <;> rfl) | (simp [*, errW_none, errW_some] <;> rfl), HB.out⟩
 rw [if_neg c3] at H
 have c3b0 : decide (16 < (l1.length : Int)) = false := decide_eq_false c3
 have c3b1 : decide (16 < l1.length) = false := decide_eq_false (by omega)
 clear c3
 have HC5 := Aside0.mk H
 clear H
 go_enter Try.func23, Try.ntmps23
 go_upto_region 3 with (first | ((with_reducible refine gate_dst (N := 2) rfl ?_); refine box_event ?hg (N := 2) ?hd (cs := #[.int .i64 a0_0, .int .i64 a0_1]) (t := 23) ?hr ?_; (case hd => rfl); (case hg => rfl); (case hr => first | (go_simp; done) | (go_simp; rfl)); intro gb254 hg w6 hbox hb; have BK254 := Aside0.mk hbox; have GW254 := mGw HB hg; have GE254 := GW254; replace HB := mSt HB hb; clear hb hbox hg))
 (try simp only [Act.put, List.setIfInBounds_toArray, List.set_cons_zero, List.set_cons_succ])
 go_cut [21] (fun v21 wc => ∃ (kq : Nat) (x21_4 : Bool), v21 = .bool x21_4 ∧ Aside0 (geom_Inside.j0 kq l1 x21_4 a0_0 a0_1 = some (r1, r2)) ∧ Aside0 (kq ≤ k) ∧ Aside0 (wc.heap[gb254]? = some (.cells #[.int .i64 a0_0, .int .i64 a0_1] 23 (0, 0))) ∧ Aside0 (Below w.heap.size w wc))
 case first =>
  have H := HC5.out
  clear HC5
  obtain ⟨y255, hy255⟩ : ∃ y_ : List (S23), y_ = (([(⟨a0_0, a0_1⟩ : S23)] : List (S23))) := ⟨_, rfl⟩
  rw [← hy255] at H
  have Ny255 := Aside0.mk hy255
  clear hy255
  replace H := Option.bind_eq_some_iff.mp H
  obtain ⟨t258, A70, H⟩ := H
  try dsimp only at H
  have A7 := Aside0.mk A70
  clear A70
  by_cases c8 : t258 = true
  rotate_left
  ·
   replace c8 := Bool.eq_false_iff.mpr c8
   subst c8
   rw [if_neg (show ¬ (false = true) by decide)] at H
   have H' := Aside0.mk H
   clear H
   have hcz16 := blk_cell BK254.out; have hfz16 := blk_frozen BK254.out
   go_wp2_with (first | ((with_reducible refine gate_dst (N := 14) rfl ?_); refine Kd.R_lit k23 _ 23 ?hg (N := 14) ?hd (xs := ([(⟨a0_0, a0_1⟩ : S23)] : List (S23))) (inner := [.int .i64 a0_0, .int .i64 a0_1]) (ok := fun _ => True) (okp := fun _ => True) ?hr ?hp (fun _ hk => hk) trivial (Below.refl _ _) (Nat.le_refl _) (by simp) ?_; (case hd => rfl); (case hg => rfl); (case hr => first | (go_simp; done) | (go_simp; rfl)); (case hp => exact (Reps.c2 (k23_mkM _ _ _ _) (Reps.none _ _))); intro v256 w17 ho18 hb hg_ hnew_; clear hg_ hnew_; (first | rw [← Ny255.out] at ho18 | (simp only [Int.reduceToNat] at ho18; rw [← Ny255.out] at ho18)); have HO257 := Aside0.mk (Kd.R_lower (Kd.R_newB ho18 (g := gb254) (o := .cells #[.int .i64 a0_0, .int .i64 a0_1] 23 (0, 0)) BK254.out) (below_size HB.out)); replace BK254 := mBb BK254 hb; replace HB := mSt HB hb; clear hb ho18; obtain ⟨Ao19, co19, eo19⟩ := Kd.R_slice HO257.out; subst eo19) | ((with_reducible refine gate_callee (f := 28) rfl ?_); refine goesL_ (some 15) rfl rfl Try.func28 (by kernel_rfl) rfl #[.slice Ao19 y255.length co19, .slice none 0 0] rfl (by (try simp only [List.map_toArray, List.map_cons, List.map_nil]); first | done | rfl | (simp only [List.length_drop, List.length_take]; rfl)) ?_; (refine (geom_valid.calls k _ _ y255 _ _ ([] : List Int) false _ ?side1 ?side2 ?side3 ?side4 A7.out).mono ?_); (case side1 => repeat (first | exact (Kd.R_reads' HO257.out).2.2 | (with_reducible refine Kd.C_alloc ?_ _) | (with_reducible refine Kd.C_drewN ?_ _) | (with_reducible refine Kd.C_drew ?_))); (case side2 => exact (Kd.R_reads' HO257.out).2.1); (case side3 => exact Kd.C_nil _ _); (case side4 => exact Nat.le_refl _); rintro e w20 ⟨rfl, hb⟩; refine ⟨_, rfl, ?_⟩; replace HO257 := Aside0.mk (Kd.R_below HO257.out hb); replace BK254 := mBb BK254 hb; replace HB := mSt HB hb; (try clear hb)))
   go_meet
   case rel => exact ⟨_, (true), (by first | rfl | (simp; done) | (simp [*]; done)), H', ⟨by first | omega | exact Nat.le_refl _⟩, ⟨BK254.out⟩, ⟨HB.out⟩⟩
  subst c8
  rw [if_pos rfl] at H
  replace H := Option.bind_eq_some_iff.mp H
  obtain ⟨t259, A90, H⟩ := H
  try dsimp only at H
  have A9 := Aside0.mk A90
  clear A90
  have H' := Aside0.mk H
  clear H
  have hcz10 := blk_cell BK254.out; have hfz10 := blk_frozen BK254.out
  go_wp2_with (first | ((with_reducible refine gate_dst (N := 14) rfl ?_); refine Kd.R_lit k23 _ 23 ?hg (N := 14) ?hd (xs := ([(⟨a0_0, a0_1⟩ : S23)] : List (S23))) (inner := [.int .i64 a0_0, .int .i64 a0_1]) (ok := fun _ => True) (okp := fun _ => True) ?hr ?hp (fun _ hk => hk) trivial (Below.refl _ _) (Nat.le_refl _) (by simp) ?_; (case hd => rfl); (case hg => rfl); (case hr => first | (go_simp; done) | (go_simp; rfl)); (case hp => exact (Reps.c2 (k23_mkM _ _ _ _) (Reps.none _ _))); intro v256 w11 ho12 hb hg_ hnew_; clear hg_ hnew_; (first | rw [← Ny255.out] at ho12 | (simp only [Int.reduceToNat] at ho12; rw [← Ny255.out] at ho12)); have HO257 := Aside0.mk (Kd.R_lower (Kd.R_newB ho12 (g := gb254) (o := .cells #[.int .i64 a0_0, .int .i64 a0_1] 23 (0, 0)) BK254.out) (below_size HB.out)); replace BK254 := mBb BK254 hb; replace HB := mSt HB hb; clear hb ho12; obtain ⟨Ao13, co13, eo13⟩ := Kd.R_slice HO257.out; subst eo13) | ((with_reducible refine gate_callee (f := 28) rfl ?_); refine goesL_ (some 15) rfl rfl Try.func28 (by kernel_rfl) rfl #[.slice Ao13 y255.length co13, .slice none 0 0] rfl (by (try simp only [List.map_toArray, List.map_cons, List.map_nil]); first | done | rfl | (simp only [List.length_drop, List.length_take]; rfl)) ?_; (refine (geom_valid.calls k _ _ y255 _ _ ([] : List Int) true _ ?side1 ?side2 ?side3 ?side4 A7.out).mono ?_); (case side1 => repeat (first | exact (Kd.R_reads' HO257.out).2.2 | (with_reducible refine Kd.C_alloc ?_ _) | (with_reducible refine Kd.C_drewN ?_ _) | (with_reducible refine Kd.C_drew ?_))); (case side2 => exact (Kd.R_reads' HO257.out).2.1); (case side3 => exact Kd.C_nil _ _); (case side4 => exact Nat.le_refl _); rintro e w14 ⟨rfl, hb⟩; refine ⟨_, rfl, ?_⟩; replace HO257 := Aside0.mk (Kd.R_below HO257.out hb); replace BK254 := mBb BK254 hb; replace HB := mSt HB hb; (try clear hb)) | (go_at_call 28; (refine (geom_valid.calls k _ _ l1 _ _ ([] : List Int) t259 _ ?side1 ?side2 ?side3 ?side4 A9.out).mono ?_); (case side1 => repeat (first | exact (Kd.C_below HR1.out HB.out) | (with_reducible refine Kd.C_alloc ?_ _) | (with_reducible refine Kd.C_drewN ?_ _) | (with_reducible refine Kd.C_drew ?_))); (case side2 => exact HC1.out); (case side3 => exact Kd.C_nil _ _); (case side4 => exact Nat.le_refl _); rintro e w15 ⟨rfl, hb⟩; replace HO257 := Aside0.mk (Kd.R_below HO257.out hb); replace BK254 := mBb BK254 hb; replace HB := mSt HB hb; (try clear hb)))
  go_meet
  case rel => exact ⟨_, (!t259), (by first | rfl | (simp; done) | (simp [*]; done)), H', ⟨by first | omega | exact Nat.le_refl _⟩, ⟨BK254.out⟩, ⟨HB.out⟩⟩
 case rest =>
  clear HC5; try clear c1; try clear c2; try clear p2; try clear c3; try clear c3b0; try clear c3b1; try clear c8; try clear hcz10_0; try clear hcz10_1; try clear hcz16_0; try clear hcz16_1; try clear hfz10_0; try clear hfz10_1; try clear hfz16_0; try clear hfz16_1
  obtain ⟨kq, x21_4, rfl, HA, HJ4, BK254, HB⟩ := hcut
  cases kq with
  | zero => exact absurd HA.out (by simp [geom_Inside.j0])
  | succ kj4 =>
   have H := HA.out
   clear HA
   simp only [geom_Inside.j0] at H
   by_cases c21 : x21_4 = true
   ·
    subst c21
    rw [if_pos rfl] at H
    simp only [Option.some.injEq, Prod.mk.injEq] at H
    obtain ⟨rfl, rfl⟩ := H
    go_wp2
    go_ret2
    exact ⟨by first | rfl | (simp [errW_none, errW_some] <;> rfl) | (simp [*, errW_none, errW_some] <;> rfl), HB.out⟩
   replace c21 := Bool.eq_false_iff.mpr c21
   subst c21
   rw [if_neg (show ¬ (false = true) by decide)] at H
   replace H := Option.bind_eq_some_iff.mp H
   obtain ⟨t260, A220, H⟩ := H
   try dsimp only at H
   have A22 := Aside0.mk A220
   clear A220
   by_cases c23 : (t260.length : Int) = 0
   ·
    rw [if_pos c23] at H
    have c23b0 : ((t260.length : Int) == 0) = true := beq_iff_eq.mpr c23
    have c23b1 : ((t260.length : Int) != 0) = false := bne_eq_false_iff_eq.mpr c23
    clear c23
    simp only [Option.some.injEq, Prod.mk.injEq] at H
    obtain ⟨rfl, rfl⟩ := H
    go_wp2_with (first | ((with_reducible refine gate_callee (f := 41) rfl ?_); refine goesL_ (some 23) rfl rfl Try.func41 (by kernel_rfl) rfl #[.slice A1 l1.length c1] rfl (by (try simp only [List.map_toArray, List.map_cons, List.map_nil]); first | done | rfl | (simp only [List.length_drop, List.length_take]; rfl)) ?_; (with_reducible refine (geom_hull.calls kj4 _ _ l1 t260 _ ?side1 ?side2 A22.out).mono ?_); (case side1 => repeat (first | exact (Kd.C_below HR1.out HB.out) | (with_reducible refine Kd.C_alloc ?_ _) | (with_reducible refine Kd.C_drewN ?_ _) | (with_reducible refine Kd.C_drew ?_))); (case side2 => exact HC1.out); rintro e w24 ⟨v261, rfl, ho0, hb⟩; refine ⟨_, rfl, ?_⟩; have HO262 := Aside0.mk (Kd.R_lower (Kd.R_newB ho0 (g := gb254) (o := .cells #[.int .i64 a0_0, .int .i64 a0_1] 23 (0, 0)) BK254.out) (below_size HB.out)); replace BK254 := mBb BK254 hb; replace HB := mSt HB hb; (try clear hb); (try clear ho0); obtain ⟨Ao25, co25, eo25⟩ := Kd.R_slice HO262.out; subst eo25))
    go_ret2
    exact ⟨by first | rfl | (simp [errW_none, errW_some] <;> rfl) | (simp [*, errW_none, errW_some] <;> rfl), HB.out⟩
   rw [if_neg c23] at H
   have c23b0 : ((t260.length : Int) == 0) = false := beq_eq_false_iff_ne.mpr c23
   have c23b1 : ((t260.length : Int) != 0) = true := bne_iff_ne.mpr c23
   have c23b2 : ¬ (t260 = []) := fun h_ => c23 (by rw [h_]; rfl)
   by_cases c26 : (t260.length : Int) < 3
   ·
    rw [if_pos c26] at H
    have c26b0 : decide ((t260.length : Int) < 3) = true := decide_eq_true c26
    have c26b1 : decide (t260.length < 3) = true := decide_eq_true (by omega)
    clear c26
    by_cases c27 : 0 < (t260.length : Int)
    rotate_left
    ·
     rw [if_neg c27] at H
     exact absurd H (by simp)
    rw [if_pos c27] at H
    have c27b0 : decide (0 < (t260.length : Int)) = true := decide_eq_true c27
    have c27b1 : decide (0 < t260.length) = true := decide_eq_true (by omega)
    clear c27
    replace H := Option.bind_eq_some_iff.mp H
    obtain ⟨⟨t264, t265⟩, A280, H⟩ := H
    try dsimp only at H
    have A28 := Aside0.mk A280
    clear A280
    obtain ⟨ji29, hji29⟩ : ∃ j_ : Int, (wrap64 ((t260.length : Int) - 1)) = j_ := ⟨_, rfl⟩
    replace H : (if 0 ≤ (ji29) then (if (ji29) < (t260.length : Int) then ((geom_minus.f ((rd_T23 t260 (ji29)).f0) ((rd_T23 t260 (ji29)).f1) ((rd_T23 t260 0).f0) ((rd_T23 t260 0).f1)).bind fun bt268 => ((geom_nearest.f kj4 t264 t265 bt268.1 bt268.2 0).bind fun t270 => (some (decide (t270 ≤ 0), 0)))) else (none)) else (none)) = some (r1, r2) := by first | (rw [hji29] at H; exact H) | (simp only [hji29] at H ⊢; exact H)
    (try rw [hji29] at A22)
    (try rw [hji29] at A28)
    have hji29w : (IntKind.i64.wrap ((t260.length : Int) - 1)) = ji29 := (i64_w _).trans hji29
    by_cases c30 : 0 ≤ (ji29)
    rotate_left
    ·
     rw [if_neg c30] at H
     exact absurd H (by simp)
    rw [if_pos c30] at H
    have c30b0 : decide (0 ≤ (ji29)) = true := decide_eq_true c30
    clear c30
    by_cases c31 : (ji29) < (t260.length : Int)
    rotate_left
    ·
     rw [if_neg c31] at H
     exact absurd H (by simp)
    rw [if_pos c31] at H
    have c31b0 : decide ((ji29) < (t260.length : Int)) = true := decide_eq_true c31
    clear c31
    replace H := Option.bind_eq_some_iff.mp H
    obtain ⟨⟨t268, t269⟩, A320, H⟩ := H
    try dsimp only at H
    have A32 := Aside0.mk A320
    clear A320
    replace H := Option.bind_eq_some_iff.mp H
    obtain ⟨t270, A330, H⟩ := H
    try dsimp only at H
    have A33 := Aside0.mk A330
    clear A330
    simp only [Option.some.injEq, Prod.mk.injEq] at H
    obtain ⟨rfl, rfl⟩ := H
    try go_wp2_with (first | ((with_reducible refine gate_callee (f := 41) rfl ?_); refine goesL_ (some 23) rfl rfl Try.func41 (by kernel_rfl) rfl #[.slice A1 l1.length c1] rfl (by (try simp only [List.map_toArray, List.map_cons, List.map_nil]); first | done | rfl | (simp only [List.length_drop, List.length_take]; rfl)) ?_; (with_reducible refine (geom_hull.calls kj4 _ _ l1 t260 _ ?side1 ?side2 A22.out).mono ?_); (case side1 => repeat (first | exact (Kd.C_below HR1.out HB.out) | (with_reducible refine Kd.C_alloc ?_ _) | (with_reducible refine Kd.C_drewN ?_ _) | (with_reducible refine Kd.C_drew ?_))); (case side2 => exact HC1.out); rintro e w34 ⟨v261, rfl, ho0, hb⟩; refine ⟨_, rfl, ?_⟩; have HO262 := Aside0.mk (Kd.R_lower (Kd.R_newB ho0 (g := gb254) (o := .cells #[.int .i64 a0_0, .int .i64 a0_1] 23 (0, 0)) BK254.out) (below_size HB.out)); replace BK254 := mBb BK254 hb; replace HB := mSt HB hb; (try clear hb); (try clear ho0); obtain ⟨Ao35, co35, eo35⟩ := Kd.R_slice HO262.out; subst eo35))
    replace HO262 := Aside0.mk (Kd.R_drew HO262.out); replace BK254 := Aside0.mk (blk_drew BK254.out); replace HB := Aside0.mk (below_drew1 HB.out)
    have p263 : 0 ≤ (0 : Int) := (by omega)
    have q263 : 0 < (t260.length : Int) := of_decide_eq_true (by first | (with_reducible assumption) | assumption)
    obtain ⟨ad263, e263, hx263_0, hx263_1⟩ := at_T23 (Kd.R_reads' HO262.out).2.2 0 p263 q263
    cases e263
    have qi263 : (0 < t260.length) = True := eq_true (by omega)
    (try rw [show ((0 : Int)).toNat = 0 from rfl] at hx263_0)
    (try rw [show 0 * 2 = 0 from rfl] at hx263_0)
    (try rw [Addr.add_zero'] at hx263_0)
    (try rw [show ((0 : Int)).toNat = 0 from rfl] at hx263_1)
    (try rw [show 0 * 2 = 0 from rfl] at hx263_1)
    (try rw [Addr.add_zero'] at hx263_1)
    replace p263 := eq_true p263
    replace q263 := eq_true q263
    have p266 : 0 ≤ ((ji29) : Int) := of_decide_eq_true (by first | (with_reducible assumption) | assumption)
    have q266 : (ji29) < (t260.length : Int) := of_decide_eq_true (by first | (with_reducible assumption) | assumption)
    obtain ⟨ad266, e266, hx266_0, hx266_1⟩ := at_T23 (Kd.R_reads' HO262.out).2.2 (ji29) p266 q266
    obtain rfl : ad263 = ad266 := (by injection e266)
    replace p266 := eq_true p266
    replace q266 := eq_true q266
    have p267 : 0 ≤ (0 : Int) := (by omega)
    have q267 : 0 < (t260.length : Int) := of_decide_eq_true (by first | (with_reducible assumption) | assumption)
    obtain ⟨ad267, e267, hx267_0, hx267_1⟩ := at_T23 (Kd.R_reads' HO262.out).2.2 0 p267 q267
    obtain rfl : ad263 = ad267 := (by injection e267)
    have qi267 : (0 < t260.length) = True := eq_true (by omega)
    (try rw [show ((0 : Int)).toNat = 0 from rfl] at hx267_0)
    (try rw [show 0 * 2 = 0 from rfl] at hx267_0)
    (try rw [Addr.add_zero'] at hx267_0)
    (try rw [show ((0 : Int)).toNat = 0 from rfl] at hx267_1)
    (try rw [show 0 * 2 = 0 from rfl] at hx267_1)
    (try rw [Addr.add_zero'] at hx267_1)
    replace p267 := eq_true p267
    replace q267 := eq_true q267
    refine start_ (n := 19) (S := fun w' => w'.cell? ⟨gb254, 0, none⟩ = some (.int .i64 a0_0) ∧ w'.cell? ⟨gb254, 1, none⟩ = some (.int .i64 a0_1) ∧ w'.cell? ad263 = some (.int .i64 ((rd_T23 t260 0).f0)) ∧ w'.cell? ⟨ad263.block, ad263.off + 1, none⟩ = some (.int .i64 ((rd_T23 t260 0).f1)) ∧ w'.cell? (ad263.add (((ji29)).toNat * 2)) = some (.int .i64 ((rd_T23 t260 (ji29)).f0)) ∧ w'.cell? ⟨(ad263.add (((ji29)).toNat * 2)).block, (ad263.add (((ji29)).toNat * 2)).off + 1, none⟩ = some (.int .i64 ((rd_T23 t260 (ji29)).f1)) ∧ w'.cell? ad263 = some (.int .i64 ((rd_T23 t260 0).f0)) ∧ w'.cell? ⟨ad263.block, ad263.off + 1, none⟩ = some (.int .i64 ((rd_T23 t260 0).f1))) (ds := []) #[false, false, false, false, false, false, false, false, false, false, false, false, false, false, false, false, false, false, false] (by kernel_rfl) rfl rfl ⟨(blk_cell BK254.out 0).trans rfl, (blk_cell BK254.out 1).trans rfl, hx263_0, hx263_1, hx266_0, hx266_1, hx267_0, hx267_1⟩ (fun hHeld => ?_); refine with_tabW geom_Inside.tab9 geom_Inside.bits9 (fun HT_ HW_ => ?_)
    generalize w34.drew = w36 at HO262 BK254 HB hx263_0 hx263_1 hx266_0 hx266_1 hx267_0 hx267_1 hHeld ⊢
    refine pure_ (i := 0) (N := some 30) (v := ?_) (a' := ?_) #[true, false, false, false, false, false, false, false, false, false, false, false, false, false, false, false, false, false, false] rfl rfl (any_of HT_.out (by kernel_rfl)) (fun _ _ _ h => h) (Or.inl ⟨by rfl, ?_⟩) ?_ ?_
    rotate_left
    ·
     intro w'
     go_simp
     with_reducible rfl
    rotate_left
    ·
     simp only [Act.put, List.setIfInBounds_toArray, List.set_cons_zero, List.set_cons_succ, i64_w, i32_w]
     rfl
    refine pure_ (i := 1) (N := some 31) (v := ?_) (a' := ?_) #[true, true, false, false, false, false, false, false, false, false, false, false, false, false, false, false, false, false, false] rfl rfl (any_of HT_.out (by kernel_rfl)) (fun _ _ _ h => h) (Or.inl ⟨by rfl, ?_⟩) ?_ ?_
    rotate_left
    ·
     intro w'
     go_simp
     with_reducible rfl
    rotate_left
    ·
     simp only [Act.put, List.setIfInBounds_toArray, List.set_cons_zero, List.set_cons_succ, i64_w, i32_w]
     rfl
    refine pure_ (i := 5) (N := some 35) (v := ?_) (a' := ?_) #[true, true, false, false, false, true, false, false, false, false, false, false, false, false, false, false, false, false, false] rfl rfl (any_of HT_.out (by kernel_rfl)) (fun _ _ _ h => h) (Or.inl ⟨by rfl, ?_⟩) ?_ ?_
    rotate_left
    ·
     intro w'
     go_simp
     with_reducible rfl
    rotate_left
    ·
     simp only [Act.put, List.setIfInBounds_toArray, List.set_cons_zero, List.set_cons_succ, i64_w, i32_w]
     rfl
    refine pure_ (i := 6) (N := some 36) (v := ?_) (a' := ?_) #[true, true, false, false, false, true, true, false, false, false, false, false, false, false, false, false, false, false, false] rfl rfl (any_of HT_.out (by kernel_rfl)) (fun _ _ _ h => h) (Or.inl ⟨by rfl, ?_⟩) ?_ ?_
    rotate_left
    ·
     intro w'
     go_simp
     with_reducible rfl
    rotate_left
    ·
     simp only [Act.put, List.setIfInBounds_toArray, List.set_cons_zero, List.set_cons_succ, i64_w, i32_w]
     rfl
    refine pure_ (i := 7) (N := some 37) (v := ?_) (a' := ?_) #[true, true, false, false, false, true, true, true, false, false, false, false, false, false, false, false, false, false, false] rfl rfl (any_of HT_.out (by kernel_rfl)) (fun _ _ _ h => h) (Or.inl ⟨by rfl, ?_⟩) ?_ ?_
    rotate_left
    ·
     intro w'
     go_simp
     with_reducible rfl
    rotate_left
    ·
     simp only [Act.put, List.setIfInBounds_toArray, List.set_cons_zero, List.set_cons_succ, i64_w, i32_w]
     rfl
    refine pure_ (i := 8) (N := some 38) (v := ?_) (a' := ?_) #[true, true, false, false, false, true, true, true, true, false, false, false, false, false, false, false, false, false, false] rfl rfl (any_of HT_.out (by kernel_rfl)) (fun _ _ _ h => h) (Or.inl ⟨by rfl, ?_⟩) ?_ ?_
    rotate_left
    ·
     intro w'
     go_simp
     with_reducible rfl
    rotate_left
    ·
     simp only [Act.put, List.setIfInBounds_toArray, List.set_cons_zero, List.set_cons_succ, i64_w, i32_w]
     rfl
    refine pure_ (i := 9) (N := some 39) (v := ?_) (a' := ?_) #[true, true, false, false, false, true, true, true, true, true, false, false, false, false, false, false, false, false, false] rfl rfl (any_of HT_.out (by kernel_rfl)) (fun _ _ _ h => h) (Or.inl ⟨by rfl, ?_⟩) ?_ ?_
    rotate_left
    ·
     intro w'
     go_simp
     with_reducible rfl
    rotate_left
    ·
     simp only [Act.put, List.setIfInBounds_toArray, List.set_cons_zero, List.set_cons_succ, i64_w, i32_w]
     rfl
    refine pure_ (i := 11) (N := some 41) (v := ?_) (a' := ?_) #[true, true, false, false, false, true, true, true, true, true, false, true, false, false, false, false, false, false, false] rfl rfl (any_of HT_.out (by kernel_rfl)) (fun _ _ _ h => h) (Or.inl ⟨by rfl, ?_⟩) ?_ ?_
    rotate_left
    ·
     intro w'
     go_simp
     with_reducible rfl
    rotate_left
    ·
     simp only [Act.put, List.setIfInBounds_toArray, List.set_cons_zero, List.set_cons_succ, i64_w, i32_w]
     rfl
    refine pure_ (i := 12) (N := some 42) (v := ?_) (a' := ?_) #[true, true, false, false, false, true, true, true, true, true, false, true, true, false, false, false, false, false, false] rfl rfl (any_of HT_.out (by kernel_rfl)) (fun _ _ _ h => h) (Or.inl ⟨by rfl, ?_⟩) ?_ ?_
    rotate_left
    ·
     intro w'
     go_simp
     with_reducible rfl
    rotate_left
    ·
     simp only [Act.put, List.setIfInBounds_toArray, List.set_cons_zero, List.set_cons_succ, i64_w, i32_w]
     rfl
    refine take_ (i := 2) (N := some 32) (v := ?_) (a' := ?_) #[true, true, true, false, false, true, true, true, true, true, false, true, true, false, false, false, false, false, false] rfl rfl (take_ofW HT_.out HW_.out (by kernel_rfl)) (fun _ _ _ h => h) (Or.inl ⟨by rfl, ?_⟩) hHeld ?_ ?_
    rotate_left
    ·
     rintro w' ⟨s0, s1, s2, s3, s4, s5, s6, s7⟩
     go_simp
     with_reducible rfl
    rotate_left
    ·
     simp only [Act.put, List.setIfInBounds_toArray, List.set_cons_zero, List.set_cons_succ, i64_w, i32_w]
     rfl
    refine take_ (i := 3) (N := some 33) (v := ?_) (a' := ?_) #[true, true, true, true, false, true, true, true, true, true, false, true, true, false, false, false, false, false, false] rfl rfl (take_ofW HT_.out HW_.out (by kernel_rfl)) (fun _ _ _ h => h) (Or.inl ⟨by rfl, ?_⟩) hHeld ?_ ?_
    rotate_left
    ·
     rintro w' ⟨s0, s1, s2, s3, s4, s5, s6, s7⟩
     go_simp
     with_reducible rfl
    rotate_left
    ·
     simp only [Act.put, List.setIfInBounds_toArray, List.set_cons_zero, List.set_cons_succ, i64_w, i32_w]
     rfl
    refine take_ (i := 10) (N := some 40) (v := ?_) (a' := ?_) #[true, true, true, true, false, true, true, true, true, true, true, true, true, false, false, false, false, false, false] rfl rfl (take_ofW HT_.out HW_.out (by kernel_rfl)) (fun _ _ _ h => h) (Or.inl ⟨by rfl, ?_⟩) hHeld ?_ ?_
    rotate_left
    ·
     rintro w' ⟨s0, s1, s2, s3, s4, s5, s6, s7⟩
     go_simp
     with_reducible rfl
    rotate_left
    ·
     simp only [Act.put, List.setIfInBounds_toArray, List.set_cons_zero, List.set_cons_succ, i64_w, i32_w]
     rfl
    refine take_ (i := 13) (N := some 43) (v := ?_) (a' := ?_) #[true, true, true, true, false, true, true, true, true, true, true, true, true, true, false, false, false, false, false] rfl rfl (take_ofW HT_.out HW_.out (by kernel_rfl)) (fun _ _ _ h => h) (Or.inl ⟨by rfl, ?_⟩) hHeld ?_ ?_
    rotate_left
    ·
     rintro w' ⟨s0, s1, s2, s3, s4, s5, s6, s7⟩
     go_simp
     with_reducible rfl
    rotate_left
    ·
     simp only [Act.put, List.setIfInBounds_toArray, List.set_cons_zero, List.set_cons_succ, i64_w, i32_w]
     rfl
    refine one_ (i := 4) (N := some 34) #[true, true, true, true, true, true, true, true, true, true, true, true, true, true, false, false, false, false, false] rfl rfl (one_of HT_.out (by kernel_rfl)) (by decide) (fun K hK => ?_)
    refine goes_ Try.func29 (by kernel_rfl) rfl #[.agg #[.int .i64 ((rd_T23 t260 0).f0), .int .i64 ((rd_T23 t260 0).f1)], .agg #[.int .i64 a0_0, .int .i64 a0_1]] (by rfl) rfl rfl (by (try simp only [List.map_toArray, List.map_cons, List.map_nil]); first | done | rfl | (simp only [List.length_drop, List.length_take]; rfl)) ?_
    with_reducible refine (geom_minus.calls ((rd_T23 t260 0).f0) ((rd_T23 t260 0).f1) a0_0 a0_1 t264 t265 _ A28.out).mono ?_
    rintro e w37 ⟨rfl, hb⟩
    have HS2_ := (hb.cell (World.block_lt_of_cell? _ _ (hHeld.2.2.1))).trans (hHeld.2.2.1)
    have HS3_ := (hb.cell (World.block_lt_of_cell? _ _ (hHeld.2.2.2.1))).trans (hHeld.2.2.2.1)
    have HS4_ := (hb.cell (World.block_lt_of_cell? _ _ (hHeld.2.2.2.2.1))).trans (hHeld.2.2.2.2.1)
    have HS5_ := (hb.cell (World.block_lt_of_cell? _ _ (hHeld.2.2.2.2.2.1))).trans (hHeld.2.2.2.2.2.1)
    have HS6_ := (hb.cell (World.block_lt_of_cell? _ _ (hHeld.2.2.2.2.2.2.1))).trans (hHeld.2.2.2.2.2.2.1)
    have HS7_ := (hb.cell (World.block_lt_of_cell? _ _ (hHeld.2.2.2.2.2.2.2))).trans (hHeld.2.2.2.2.2.2.2)
    refine ⟨_, rfl, ?_⟩
    replace HO262 := Aside0.mk (Kd.R_below HO262.out hb); replace BK254 := mBb BK254 hb; replace HB := mSt HB hb
    (try clear hb)
    (try clear hb2)
    (try clear hk)
    (try clear hi)
    refine hK.out _ _ ⟨blk_cell BK254.out 0, blk_cell BK254.out 1, HS2_, HS3_, HS4_, HS5_, HS6_, HS7_⟩ (fun hHeld => ?_)
    clear hK K
    refine norm_ (a' := ?_) ?_ ?_
    rotate_left
    ·
     show Act.put _ (some 34) _ = _
     simp only [Act.put, List.setIfInBounds_toArray, List.set_cons_zero, List.set_cons_succ, i64_w, i32_w]
     rfl
    refine one_ (i := 14) (N := some 44) #[true, true, true, true, true, true, true, true, true, true, true, true, true, true, true, false, false, false, false] rfl rfl (one_of HT_.out (by kernel_rfl)) (by decide) (fun K hK => ?_)
    refine goes_ Try.func29 (by kernel_rfl) rfl #[.agg #[.int .i64 ((rd_T23 t260 (ji29)).f0), .int .i64 ((rd_T23 t260 (ji29)).f1)], .agg #[.int .i64 ((rd_T23 t260 0).f0), .int .i64 ((rd_T23 t260 0).f1)]] (by rfl) rfl rfl (by (try simp only [List.map_toArray, List.map_cons, List.map_nil]); first | done | (simp only [hji29]; rfl) | rfl | (simp only [List.length_drop, List.length_take]; rfl)) ?_
    with_reducible refine (geom_minus.calls ((rd_T23 t260 (ji29)).f0) ((rd_T23 t260 (ji29)).f1) ((rd_T23 t260 0).f0) ((rd_T23 t260 0).f1) t268 t269 _ A32.out).mono ?_
    rintro e w38 ⟨rfl, hb⟩
    have HS2_ := (hb.cell (World.block_lt_of_cell? _ _ (hHeld.2.2.1))).trans (hHeld.2.2.1)
    have HS3_ := (hb.cell (World.block_lt_of_cell? _ _ (hHeld.2.2.2.1))).trans (hHeld.2.2.2.1)
    have HS4_ := (hb.cell (World.block_lt_of_cell? _ _ (hHeld.2.2.2.2.1))).trans (hHeld.2.2.2.2.1)
    have HS5_ := (hb.cell (World.block_lt_of_cell? _ _ (hHeld.2.2.2.2.2.1))).trans (hHeld.2.2.2.2.2.1)
    have HS6_ := (hb.cell (World.block_lt_of_cell? _ _ (hHeld.2.2.2.2.2.2.1))).trans (hHeld.2.2.2.2.2.2.1)
    have HS7_ := (hb.cell (World.block_lt_of_cell? _ _ (hHeld.2.2.2.2.2.2.2))).trans (hHeld.2.2.2.2.2.2.2)
    refine ⟨_, rfl, ?_⟩
    replace HO262 := Aside0.mk (Kd.R_below HO262.out hb); replace BK254 := mBb BK254 hb; replace HB := mSt HB hb
    (try clear hb)
    (try clear hb2)
    (try clear hk)
    (try clear hi)
    refine hK.out _ _ ⟨blk_cell BK254.out 0, blk_cell BK254.out 1, HS2_, HS3_, HS4_, HS5_, HS6_, HS7_⟩ (fun hHeld => ?_)
    clear hK K
    refine norm_ (a' := ?_) ?_ ?_
    rotate_left
    ·
     show Act.put _ (some 44) _ = _
     simp only [Act.put, List.setIfInBounds_toArray, List.set_cons_zero, List.set_cons_succ, i64_w, i32_w]
     rfl
    refine one_ (i := 15) (N := some 45) #[true, true, true, true, true, true, true, true, true, true, true, true, true, true, true, true, false, false, false] rfl rfl (one_of HT_.out (by kernel_rfl)) (by decide) (fun K hK => ?_)
    refine goes_ Try.func36 (by kernel_rfl) rfl #[.agg #[.int .i64 t264, .int .i64 t265], .agg #[.int .i64 t268, .int .i64 t269], .int .i64 0] (by rfl) rfl rfl (by (try simp only [List.map_toArray, List.map_cons, List.map_nil]); first | done | rfl | (simp only [List.length_drop, List.length_take]; rfl)) ?_
    with_reducible refine (geom_nearest.calls kj4 t264 t265 t268 t269 0 t270 _ A33.out).mono ?_
    rintro e w39 ⟨rfl, hb⟩
    have HS2_ := (hb.cell (World.block_lt_of_cell? _ _ (hHeld.2.2.1))).trans (hHeld.2.2.1)
    have HS3_ := (hb.cell (World.block_lt_of_cell? _ _ (hHeld.2.2.2.1))).trans (hHeld.2.2.2.1)
    have HS4_ := (hb.cell (World.block_lt_of_cell? _ _ (hHeld.2.2.2.2.1))).trans (hHeld.2.2.2.2.1)
    have HS5_ := (hb.cell (World.block_lt_of_cell? _ _ (hHeld.2.2.2.2.2.1))).trans (hHeld.2.2.2.2.2.1)
    have HS6_ := (hb.cell (World.block_lt_of_cell? _ _ (hHeld.2.2.2.2.2.2.1))).trans (hHeld.2.2.2.2.2.2.1)
    have HS7_ := (hb.cell (World.block_lt_of_cell? _ _ (hHeld.2.2.2.2.2.2.2))).trans (hHeld.2.2.2.2.2.2.2)
    refine ⟨_, rfl, ?_⟩
    replace HO262 := Aside0.mk (Kd.R_below HO262.out hb); replace BK254 := mBb BK254 hb; replace HB := mSt HB hb
    (try clear hb)
    (try clear hb2)
    (try clear hk)
    (try clear hi)
    refine hK.out _ _ ⟨blk_cell BK254.out 0, blk_cell BK254.out 1, HS2_, HS3_, HS4_, HS5_, HS6_, HS7_⟩ (fun hHeld => ?_)
    clear hK K
    refine norm_ (a' := ?_) ?_ ?_
    rotate_left
    ·
     show Act.put _ (some 45) _ = _
     simp only [Act.put, List.setIfInBounds_toArray, List.set_cons_zero, List.set_cons_succ, i64_w, i32_w]
     rfl
    refine pure_ (i := 16) (N := some 46) (v := ?_) (a' := ?_) #[true, true, true, true, true, true, true, true, true, true, true, true, true, true, true, true, true, false, false] rfl rfl (any_of HT_.out (by kernel_rfl)) (fun _ _ _ h => h) (Or.inl ⟨by rfl, ?_⟩) ?_ ?_
    rotate_left
    ·
     intro w'
     go_simp
     with_reducible rfl
    rotate_left
    ·
     simp only [Act.put, List.setIfInBounds_toArray, List.set_cons_zero, List.set_cons_succ, i64_w, i32_w]
     rfl
    refine pure_ (i := 17) (N := some 4) (v := ?_) (a' := ?_) #[true, true, true, true, true, true, true, true, true, true, true, true, true, true, true, true, true, true, false] rfl rfl (any_of HT_.out (by kernel_rfl)) (fun _ _ _ h => h) (Or.inl ⟨by rfl, ?_⟩) ?_ ?_
    rotate_left
    ·
     intro w'
     go_simp
     with_reducible rfl
    rotate_left
    ·
     simp only [Act.put, List.setIfInBounds_toArray, List.set_cons_zero, List.set_cons_succ, i64_w, i32_w]
     rfl
    refine pure_ (i := 18) (N := some 5) (v := ?_) (a' := ?_) #[true, true, true, true, true, true, true, true, true, true, true, true, true, true, true, true, true, true, true] rfl rfl (any_of HT_.out (by kernel_rfl)) (fun _ _ _ h => h) (Or.inl ⟨by rfl, ?_⟩) ?_ ?_
    rotate_left
    ·
     intro w'
     go_simp
     with_reducible rfl
    rotate_left
    ·
     simp only [Act.put, List.setIfInBounds_toArray, List.set_cons_zero, List.set_cons_succ, i64_w, i32_w]
     rfl
    refine done_ (done_of HT_.out (by kernel_rfl)) ?_
    try go_wp2
    go_ret2
    exact ⟨by first | rfl | (simp [errW_none, errW_some] <;> rfl) | (simp only [← hji29]; first | rfl | (simp [errW_none, errW_some] <;> rfl)) | (simp [*, errW_none, errW_some] <;> rfl), HB.out⟩
   rw [if_neg c26] at H
   have c26b0 : decide ((t260.length : Int) < 3) = false := decide_eq_false c26
   have c26b1 : decide (t260.length < 3) = false := decide_eq_false (by omega)
   clear c26
   have H' := Aside0.mk H
   clear H
   go_wp2_with (first | ((with_reducible refine gate_callee (f := 41) rfl ?_); refine goesL_ (some 23) rfl rfl Try.func41 (by kernel_rfl) rfl #[.slice A1 l1.length c1] rfl (by (try simp only [List.map_toArray, List.map_cons, List.map_nil]); first | done | rfl | (simp only [List.length_drop, List.length_take]; rfl)) ?_; (with_reducible refine (geom_hull.calls kj4 _ _ l1 t260 _ ?side1 ?side2 A22.out).mono ?_); (case side1 => repeat (first | exact (Kd.C_below HR1.out HB.out) | (with_reducible refine Kd.C_alloc ?_ _) | (with_reducible refine Kd.C_drewN ?_ _) | (with_reducible refine Kd.C_drew ?_))); (case side2 => exact HC1.out); rintro e w40 ⟨v261, rfl, ho0, hb⟩; refine ⟨_, rfl, ?_⟩; have HO262 := Aside0.mk (Kd.R_lower (Kd.R_newB ho0 (g := gb254) (o := .cells #[.int .i64 a0_0, .int .i64 a0_1] 23 (0, 0)) BK254.out) (below_size HB.out)); replace BK254 := mBb BK254 hb; replace HB := mSt HB hb; (try clear hb); (try clear ho0); obtain ⟨Ao41, co41, eo41⟩ := Kd.R_slice HO262.out; subst eo41))
   go_loopg [49] kj4 (fun kq v49 w' => ∃ (x49_2 : Int), v49 = .int .i64 x49_2 ∧ Aside0 (geom_Inside.l0 kq t260 t260 (t260.length : Int) x49_2 a0_0 a0_1 = some (r1, r2)) ∧ Aside0 (kq ≤ kj4) ∧ Aside0 (Kd.R k23 23 w' w.heap.size (fun k_ => k_ ≠ gb254) (.slice Ao41 t260.length co41) t260) ∧ Aside0 (Kd.R k23 23 w' w.heap.size (fun k_ => k_ ≠ gb254) (.slice Ao41 t260.length co41) t260) ∧ Aside0 (w'.heap[gb254]? = some (.cells #[.int .i64 a0_0, .int .i64 a0_1] 23 (0, 0))) ∧ Aside0 (Below w.heap.size w w'))
   case atStart => exact ⟨(0), (by first | rfl | (simp; done) | (simp [*]; done)), H', ⟨Nat.le_refl _⟩, ⟨by (with_reducible repeat (first | apply Kd.R_alloc | apply Kd.R_drewN | apply Kd.R_drew)); exact Kd.R_mono HO262.out (fun _ hk => hk.2)⟩, ⟨by (with_reducible repeat (first | apply Kd.R_alloc | apply Kd.R_drewN | apply Kd.R_drew)); exact Kd.R_mono HO262.out (fun _ hk => hk.2)⟩, ⟨BK254.out⟩, ⟨HB.out⟩⟩
   case round =>
    clear H'
    try clear c1; try clear c2; try clear p2; try clear q2; try clear hx2; try clear qi2; try clear c3; try clear c3b0; try clear c3b1; try clear c4; try clear p6; try clear c8; try clear c21; try clear c23; try clear c23b0; try clear c23b1; try clear c23b2; try clear c26; try clear c26b0; try clear c26b1; try clear p26; try clear q26; try clear hx26; try clear qi26; try clear c27; try clear c27b0; try clear c27b1; try clear c28; try clear c29; try clear c30; try clear c30b0; try clear c31; try clear c31b0; try clear c36; try clear c41; try clear hcz10_0; try clear hcz10_1; try clear hcz16_0; try clear hcz16_1; try clear hfz10_0; try clear hfz10_1; try clear hfz16_0; try clear hfz16_1; try clear hx263_0; try clear hx263_1; try clear hx266_0; try clear hx266_1; try clear hx267_0; try clear hx267_1; try clear p263; try clear p266; try clear p267; try clear q263; try clear q266; try clear q267
    obtain ⟨x49_2, rfl, HA, HK2, HO_6, HO_47, BK254, HB⟩ := hrel
    cases gk with
    | zero => exact absurd HA.out (by simp [geom_Inside.l0])
    | succ k2 =>
     have H := HA.out
     clear HA
     simp only [geom_Inside.l0] at H
     by_cases c42 : x49_2 < (t260.length : Int)
     rotate_left
     ·
      rw [if_neg c42] at H
      have c42b0 : decide (x49_2 < (t260.length : Int)) = false := decide_eq_false c42
      clear c42
      simp only [Option.some.injEq, Prod.mk.injEq] at H
      obtain ⟨rfl, rfl⟩ := H
      go_wp2
      go_ret2
      exact ⟨by first | rfl | (simp [errW_none, errW_some] <;> rfl) | (simp [*, errW_none, errW_some] <;> rfl), HB.out⟩
     rw [if_pos c42] at H
     have c42b0 : decide (x49_2 < (t260.length : Int)) = true := decide_eq_true c42
     clear c42
     by_cases c43 : 0 ≤ x49_2
     rotate_left
     ·
      rw [if_neg c43] at H
      exact absurd H (by simp)
     rw [if_pos c43] at H
     have c43b0 : decide (0 ≤ x49_2) = true := decide_eq_true c43
     clear c43
     by_cases c44 : x49_2 < (t260.length : Int)
     rotate_left
     ·
      rw [if_neg c44] at H
      exact absurd H (by simp)
     rw [if_pos c44] at H
     have c44b0 : decide (x49_2 < (t260.length : Int)) = true := decide_eq_true c44
     clear c44
     by_cases c45 : (t260.length : Int) = 0
     ·
      rw [if_pos c45] at H
      exact absurd H (by simp)
     rw [if_neg c45] at H
     have c45b0 : ((t260.length : Int) == 0) = false := beq_eq_false_iff_ne.mpr c45
     have c45b1 : ((t260.length : Int) != 0) = true := bne_iff_ne.mpr c45
     have c45b2 : ¬ (t260 = []) := fun h_ => c45 (by rw [h_]; rfl)
     obtain ⟨ji46, hji46⟩ : ∃ j_ : Int, (Int.tmod (wrap64 (x49_2 + 1)) (t260.length : Int)) = j_ := ⟨_, rfl⟩
     replace H : (if 0 ≤ (ji46) then (if (ji46) < (t260.length : Int) then ((geom_minus.f ((rd_T23 t260 (ji46)).f0) ((rd_T23 t260 (ji46)).f1) ((rd_T23 t260 x49_2).f0) ((rd_T23 t260 x49_2).f1)).bind fun bt275 => ((geom_minus.f a0_0 a0_1 ((rd_T23 t260 x49_2).f0) ((rd_T23 t260 x49_2).f1)).bind fun bt277 => ((geom_cross.f bt275.1 bt275.2 bt277.1 bt277.2).bind fun t279 => (if t279 < 0 then (some (false, 0)) else (geom_Inside.l0 k2 t260 t260 (t260.length : Int) (wrap64 (x49_2 + 1)) a0_0 a0_1))))) else (none)) else (none)) = some (r1, r2) := by first | (rw [hji46] at H; exact H) | (simp only [hji46] at H ⊢; exact H)
     by_cases c47 : 0 ≤ (ji46)
     rotate_left
     ·
      rw [if_neg c47] at H
      exact absurd H (by simp)
     rw [if_pos c47] at H
     have c47b0 : decide (0 ≤ (ji46)) = true := decide_eq_true c47
     clear c47
     by_cases c48 : (ji46) < (t260.length : Int)
     rotate_left
     ·
      rw [if_neg c48] at H
      exact absurd H (by simp)
     rw [if_pos c48] at H
     have c48b0 : decide ((ji46) < (t260.length : Int)) = true := decide_eq_true c48
     clear c48
     replace H := Option.bind_eq_some_iff.mp H
     obtain ⟨⟨t275, t276⟩, A490, H⟩ := H
     try dsimp only at H
     have A49 := Aside0.mk A490
     clear A490
     replace H := Option.bind_eq_some_iff.mp H
     obtain ⟨⟨t277, t278⟩, A500, H⟩ := H
     try dsimp only at H
     have A50 := Aside0.mk A500
     clear A500
     replace H := Option.bind_eq_some_iff.mp H
     obtain ⟨t279, A510, H⟩ := H
     try dsimp only at H
     have A51 := Aside0.mk A510
     clear A510
     by_cases c52 : t279 < 0
     ·
      rw [if_pos c52] at H
      have c52b0 : decide (t279 < 0) = true := decide_eq_true c52
      clear c52
      simp only [Option.some.injEq, Prod.mk.injEq] at H
      obtain ⟨rfl, rfl⟩ := H
      have p271 : 0 ≤ (x49_2 : Int) := of_decide_eq_true (by first | (with_reducible assumption) | assumption)
      have q271 : x49_2 < (t260.length : Int) := of_decide_eq_true (by first | (with_reducible assumption) | assumption)
      obtain ⟨ad271, e271, hx271_0, hx271_1⟩ := at_T23 (Kd.R_reads' HO_47.out).2.2 x49_2 p271 q271
      cases e271
      replace p271 := eq_true p271
      replace q271 := eq_true q271
      try go_wp2_with (first | ((with_reducible refine gate_dst (N := 8) rfl ?_); refine box_event ?hg (N := 8) ?hd (cs := #[.int .i64 0, .int .i64 0]) (t := 23) ?hr ?_; (case hd => rfl); (case hg => rfl); (case hr => first | (go_simp; done) | (go_simp; rfl)); intro gb272 hg w53 hbox hb; replace HO_6 := Aside0.mk (Kd.R_below (Kd.R_elderB (by (with_reducible repeat (first | apply Kd.R_alloc | apply Kd.R_drewN | apply Kd.R_drew)); exact HO_6.out) gb272 (Nat.le_of_eq hg.symm)) hb); replace HO_47 := Aside0.mk (Kd.R_below (Kd.R_elderB (by (with_reducible repeat (first | apply Kd.R_alloc | apply Kd.R_drewN | apply Kd.R_drew)); exact HO_47.out) gb272 (Nat.le_of_eq hg.symm)) hb); have BK272 := Aside0.mk hbox; have GW272 := Aside0.mk ((by rw [hg]; exact (below_size (by repeat (first | (with_reducible first | exact HB.out | apply below_alloc | apply pw_below_drewN | apply below_drew1 | refine below_set ?_ GE254.out) | exact HB.out))) : w.heap.size ≤ gb272)); have GE272 := GW272; replace HB := Aside0.mk (below_step (by repeat (first | (with_reducible first | exact HB.out | apply below_alloc | apply pw_below_drewN | apply below_drew1 | refine below_set ?_ GE254.out) | exact HB.out)) hb); have NB254_272 := mNe BK254 hg; have NB272_254 := mSy NB254_272; replace BK254 := mBb BK254 hb; clear hb hbox hg; have hnb54 := NB272_254.out; have hnc54 := NB254_272.out; have hcz55 := blk_cell BK272.out; have hfz55 := blk_frozen BK272.out; have p273 : 0 ≤ ((ji46) : Int) := of_decide_eq_true (by first | (with_reducible assumption) | assumption); have q273 : (ji46) < (t260.length : Int) := of_decide_eq_true (by first | (with_reducible assumption) | assumption); obtain ⟨ad273, e273, hx273_0, hx273_1⟩ := at_T23 (Kd.R_reads' HO_6.out).2.2 (ji46) p273 q273; obtain rfl : ad271 = ad273 := (by injection e273); have hn273_0 : ad271.block ≠ gb272 := Kd.own_blk (Kd.R_away HO_6.out (fun _ hk => hk.2)); have hn273_1 : ad271.block ≠ gb272 := Kd.own_blk (Kd.R_away HO_6.out (fun _ hk => hk.2)); replace hx273_0 := (cell_far (p := ⟨gb272, 0, none⟩) (by first | (rw [add_block]; exact hn273_0) | (show (Addr.add _ _).block ≠ _; rw [add_block]; exact hn273_0) | exact hn273_0) (.int .i64 ((rd_T23 t260 x49_2).f0))).trans hx273_0; replace hx273_1 := (cell_far (p := ⟨gb272, 0, none⟩) (by first | (rw [add_block]; exact hn273_0) | (show (Addr.add _ _).block ≠ _; rw [add_block]; exact hn273_0) | exact hn273_0) (.int .i64 ((rd_T23 t260 x49_2).f0))).trans hx273_1; replace hx273_0 := (cell_far (p := ⟨gb272, 1, none⟩) (by first | (rw [add_block]; exact hn273_1) | (show (Addr.add _ _).block ≠ _; rw [add_block]; exact hn273_1) | exact hn273_1) (.int .i64 ((rd_T23 t260 x49_2).f1))).trans hx273_0; replace hx273_1 := (cell_far (p := ⟨gb272, 1, none⟩) (by first | (rw [add_block]; exact hn273_1) | (show (Addr.add _ _).block ≠ _; rw [add_block]; exact hn273_1) | exact hn273_1) (.int .i64 ((rd_T23 t260 x49_2).f1))).trans hx273_1; clear hn273_0; clear hn273_1; replace p273 := eq_true p273; replace q273 := eq_true q273) | ((with_reducible refine gate_dst (N := 9) rfl ?_); refine box_event ?hg (N := 9) ?hd (cs := #[.int .i64 0, .int .i64 0]) (t := 23) ?hr ?_; (case hd => rfl); (case hg => rfl); (case hr => first | (go_simp; done) | (go_simp; rfl)); intro gb274 hg w56 hbox hb; replace HO_6 := Aside0.mk (Kd.R_below (Kd.R_elderB (by (with_reducible repeat (first | apply Kd.R_alloc | apply Kd.R_drewN | apply Kd.R_drew)); exact (Kd.R_mono (Kd.R_far (p := ⟨gb272, 1, none⟩) (Kd.R_far (p := ⟨gb272, 0, none⟩) (Kd.R_mono HO_6.out (fun k_ hk => (⟨hk, hk.2⟩ : _ ∧ k_ ≠ gb272))) (fun _ hk => hk.2) (.int .i64 ((rd_T23 t260 x49_2).f0))) (fun _ hk => hk.2) (.int .i64 ((rd_T23 t260 x49_2).f1))) (fun _ h_ => h_.1))) gb274 (Nat.le_of_eq hg.symm)) hb); replace HO_47 := Aside0.mk (Kd.R_below (Kd.R_elderB (by (with_reducible repeat (first | apply Kd.R_alloc | apply Kd.R_drewN | apply Kd.R_drew)); exact (Kd.R_mono (Kd.R_far (p := ⟨gb272, 1, none⟩) (Kd.R_far (p := ⟨gb272, 0, none⟩) (Kd.R_mono HO_47.out (fun k_ hk => (⟨hk, hk.2⟩ : _ ∧ k_ ≠ gb272))) (fun _ hk => hk.2) (.int .i64 ((rd_T23 t260 x49_2).f0))) (fun _ hk => hk.2) (.int .i64 ((rd_T23 t260 x49_2).f1))) (fun _ h_ => h_.1))) gb274 (Nat.le_of_eq hg.symm)) hb); have BK274 := Aside0.mk hbox; have GW274 := Aside0.mk ((by rw [hg]; exact (below_size (by repeat (first | (with_reducible first | exact HB.out | apply below_alloc | apply pw_below_drewN | apply below_drew1 | refine below_set ?_ GE254.out | refine below_set ?_ GE272.out) | exact HB.out))) : w.heap.size ≤ gb274)); have GE274 := GW274; replace HB := Aside0.mk (below_step (by repeat (first | (with_reducible first | exact HB.out | apply below_alloc | apply pw_below_drewN | apply below_drew1 | refine below_set ?_ GE254.out | refine below_set ?_ GE272.out) | exact HB.out)) hb); have NB254_274 := Aside0.mk ((by rw [hg]; exact Nat.ne_of_lt (blk_lt (g := gb254) (o := .cells #[.int .i64 a0_0, .int .i64 a0_1] 23 (0, 0)) (by (with_reducible repeat (first | refine blk_drewN ?_ _ | refine blk_drew ?_ | refine blk_alloc ?_ _)); refine blk_far ?_ NB254_272.out _; (with_reducible repeat (first | refine blk_drewN ?_ _ | refine blk_drew ?_ | refine blk_alloc ?_ _)); refine blk_far ?_ NB254_272.out _; (with_reducible repeat (first | refine blk_drewN ?_ _ | refine blk_drew ?_ | refine blk_alloc ?_ _)); exact BK254.out)) : gb254 ≠ gb274)); have NB274_254 := mSy NB254_274; replace BK254 := Aside0.mk (blk_below (g := gb254) (o := .cells #[.int .i64 a0_0, .int .i64 a0_1] 23 (0, 0)) (by (with_reducible repeat (first | refine blk_drewN ?_ _ | refine blk_drew ?_ | refine blk_alloc ?_ _)); refine blk_far ?_ NB254_272.out _; (with_reducible repeat (first | refine blk_drewN ?_ _ | refine blk_drew ?_ | refine blk_alloc ?_ _)); refine blk_far ?_ NB254_272.out _; (with_reducible repeat (first | refine blk_drewN ?_ _ | refine blk_drew ?_ | refine blk_alloc ?_ _)); exact BK254.out) hb); have NB272_274 := Aside0.mk ((by rw [hg]; exact Nat.ne_of_lt (blk_lt (g := gb272) (o := .cells #[.int .i64 ((rd_T23 t260 x49_2).f0), .int .i64 ((rd_T23 t260 x49_2).f1)] 23 (0, 0)) (by (with_reducible repeat (first | refine blk_drewN ?_ _ | refine blk_drew ?_ | refine blk_alloc ?_ _)); refine blk_put (cs := #[.int .i64 ((rd_T23 t260 x49_2).f0), .int .i64 0]) ?_ 1 _ rfl; (with_reducible repeat (first | refine blk_drewN ?_ _ | refine blk_drew ?_ | refine blk_alloc ?_ _)); refine blk_put (cs := #[.int .i64 0, .int .i64 0]) ?_ 0 _ rfl; (with_reducible repeat (first | refine blk_drewN ?_ _ | refine blk_drew ?_ | refine blk_alloc ?_ _)); exact BK272.out)) : gb272 ≠ gb274)); have NB274_272 := mSy NB272_274; replace BK272 := Aside0.mk (blk_below (g := gb272) (o := .cells #[.int .i64 ((rd_T23 t260 x49_2).f0), .int .i64 ((rd_T23 t260 x49_2).f1)] 23 (0, 0)) (by (with_reducible repeat (first | refine blk_drewN ?_ _ | refine blk_drew ?_ | refine blk_alloc ?_ _)); refine blk_put (cs := #[.int .i64 ((rd_T23 t260 x49_2).f0), .int .i64 0]) ?_ 1 _ rfl; (with_reducible repeat (first | refine blk_drewN ?_ _ | refine blk_drew ?_ | refine blk_alloc ?_ _)); refine blk_put (cs := #[.int .i64 0, .int .i64 0]) ?_ 0 _ rfl; (with_reducible repeat (first | refine blk_drewN ?_ _ | refine blk_drew ?_ | refine blk_alloc ?_ _)); exact BK272.out) hb); clear hb hbox hg; have hnb57 := NB274_254.out; have hnc57 := NB254_274.out; have hnb58 := NB274_272.out; have hnc58 := NB272_274.out; have hcz59 := blk_cell BK274.out; have hfz59 := blk_frozen BK274.out))
      have n0_ : Aside0 (Kd.R k23 23 ((w56.setCell ⟨gb274, 0, none⟩ (.int .i64 ((rd_T23 t260 (ji46)).f0))).setCell ⟨gb274, 1, none⟩ (.int .i64 ((rd_T23 t260 (ji46)).f1))) w.heap.size (fun k_ => k_ ≠ gb254 ∧ k_ ≠ gb272 ∧ k_ ≠ gb274) (.slice (some ad271) t260.length co41) t260) := ⟨by (with_reducible repeat (first | apply Kd.R_alloc | apply Kd.R_drewN | apply Kd.R_drew)); exact Kd.R_mono (Kd.R_far (p := ⟨gb274, 1, none⟩) (Kd.R_far (p := ⟨gb274, 0, none⟩) (Kd.R_mono HO_6.out (fun k_ hk => (⟨hk, hk.2⟩ : _ ∧ k_ ≠ gb274))) (fun _ hk => hk.2) (.int .i64 ((rd_T23 t260 (ji46)).f0))) (fun _ hk => hk.2) (.int .i64 ((rd_T23 t260 (ji46)).f1))) (fun _ hk => ⟨hk.1.1.1, ⟨hk.1.1.2, hk.1.2⟩⟩)⟩
      have n1_ : Aside0 (Kd.R k23 23 ((w56.setCell ⟨gb274, 0, none⟩ (.int .i64 ((rd_T23 t260 (ji46)).f0))).setCell ⟨gb274, 1, none⟩ (.int .i64 ((rd_T23 t260 (ji46)).f1))) w.heap.size (fun k_ => k_ ≠ gb254 ∧ k_ ≠ gb272 ∧ k_ ≠ gb274) (.slice (some ad271) t260.length co41) t260) := ⟨by (with_reducible repeat (first | apply Kd.R_alloc | apply Kd.R_drewN | apply Kd.R_drew)); exact Kd.R_mono (Kd.R_far (p := ⟨gb274, 1, none⟩) (Kd.R_far (p := ⟨gb274, 0, none⟩) (Kd.R_mono HO_47.out (fun k_ hk => (⟨hk, hk.2⟩ : _ ∧ k_ ≠ gb274))) (fun _ hk => hk.2) (.int .i64 ((rd_T23 t260 (ji46)).f0))) (fun _ hk => hk.2) (.int .i64 ((rd_T23 t260 (ji46)).f1))) (fun _ hk => ⟨hk.1.1.1, ⟨hk.1.1.2, hk.1.2⟩⟩)⟩
      have n2_ : Aside0 (((w56.setCell ⟨gb274, 0, none⟩ (.int .i64 ((rd_T23 t260 (ji46)).f0))).setCell ⟨gb274, 1, none⟩ (.int .i64 ((rd_T23 t260 (ji46)).f1))).heap[gb254]? = some (.cells #[.int .i64 a0_0, .int .i64 a0_1] 23 (0, 0))) := ⟨by (with_reducible repeat (first | refine blk_drewN ?_ _ | refine blk_drew ?_ | refine blk_alloc ?_ _)); refine blk_far ?_ NB254_274.out _; (with_reducible repeat (first | refine blk_drewN ?_ _ | refine blk_drew ?_ | refine blk_alloc ?_ _)); refine blk_far ?_ NB254_274.out _; (with_reducible repeat (first | refine blk_drewN ?_ _ | refine blk_drew ?_ | refine blk_alloc ?_ _)); exact BK254.out⟩
      have n3_ : Aside0 (((w56.setCell ⟨gb274, 0, none⟩ (.int .i64 ((rd_T23 t260 (ji46)).f0))).setCell ⟨gb274, 1, none⟩ (.int .i64 ((rd_T23 t260 (ji46)).f1))).heap[gb272]? = some (.cells #[.int .i64 ((rd_T23 t260 x49_2).f0), .int .i64 ((rd_T23 t260 x49_2).f1)] 23 (0, 0))) := ⟨by (with_reducible repeat (first | refine blk_drewN ?_ _ | refine blk_drew ?_ | refine blk_alloc ?_ _)); refine blk_far ?_ NB272_274.out _; (with_reducible repeat (first | refine blk_drewN ?_ _ | refine blk_drew ?_ | refine blk_alloc ?_ _)); refine blk_far ?_ NB272_274.out _; (with_reducible repeat (first | refine blk_drewN ?_ _ | refine blk_drew ?_ | refine blk_alloc ?_ _)); exact BK272.out⟩
      have n4_ : Aside0 (((w56.setCell ⟨gb274, 0, none⟩ (.int .i64 ((rd_T23 t260 (ji46)).f0))).setCell ⟨gb274, 1, none⟩ (.int .i64 ((rd_T23 t260 (ji46)).f1))).heap[gb274]? = some (.cells #[.int .i64 ((rd_T23 t260 (ji46)).f0), .int .i64 ((rd_T23 t260 (ji46)).f1)] 23 (0, 0))) := ⟨by (with_reducible repeat (first | refine blk_drewN ?_ _ | refine blk_drew ?_ | refine blk_alloc ?_ _)); refine blk_put (cs := #[.int .i64 ((rd_T23 t260 (ji46)).f0), .int .i64 0]) ?_ 1 _ rfl; (with_reducible repeat (first | refine blk_drewN ?_ _ | refine blk_drew ?_ | refine blk_alloc ?_ _)); refine blk_put (cs := #[.int .i64 0, .int .i64 0]) ?_ 0 _ rfl; (with_reducible repeat (first | refine blk_drewN ?_ _ | refine blk_drew ?_ | refine blk_alloc ?_ _)); exact BK274.out⟩
      have n5_ : Aside0 (Below w.heap.size w ((w56.setCell ⟨gb274, 0, none⟩ (.int .i64 ((rd_T23 t260 (ji46)).f0))).setCell ⟨gb274, 1, none⟩ (.int .i64 ((rd_T23 t260 (ji46)).f1)))) := ⟨by repeat (first | (with_reducible first | exact HB.out | apply below_alloc | apply pw_below_drewN | apply below_drew1 | refine below_set ?_ GE254.out | refine below_set ?_ GE272.out | refine below_set ?_ GE274.out) | exact HB.out)⟩
      (try clear HO_6)
      (try clear HO_47)
      (try clear BK254)
      (try clear BK272)
      (try clear BK274)
      (try clear HB)
      generalize ((w56.setCell ⟨gb274, 0, none⟩ (.int .i64 ((rd_T23 t260 (ji46)).f0))).setCell ⟨gb274, 1, none⟩ (.int .i64 ((rd_T23 t260 (ji46)).f1))) = w60 at n0_ n1_ n2_ n3_ n4_ n5_ ⊢
      have HO_6 := n0_
      have HO_47 := n1_
      have BK254 := n2_
      have BK272 := n3_
      have BK274 := n4_
      have HB := n5_
      clear n0_ n1_ n2_ n3_ n4_ n5_
      replace HO_6 := Aside0.mk (Kd.R_drew HO_6.out); replace HO_47 := Aside0.mk (Kd.R_drew HO_47.out); replace BK254 := Aside0.mk (blk_drew BK254.out); replace BK272 := Aside0.mk (blk_drew BK272.out); replace BK274 := Aside0.mk (blk_drew BK274.out); replace HB := Aside0.mk (below_drew1 HB.out)
      refine start_ (n := 8) (S := fun w' => w'.cell? ⟨gb274, 0, none⟩ = some (.int .i64 ((rd_T23 t260 (ji46)).f0)) ∧ w'.cell? ⟨gb274, 1, none⟩ = some (.int .i64 ((rd_T23 t260 (ji46)).f1)) ∧ w'.cell? ⟨gb272, 0, none⟩ = some (.int .i64 ((rd_T23 t260 x49_2).f0)) ∧ w'.cell? ⟨gb272, 1, none⟩ = some (.int .i64 ((rd_T23 t260 x49_2).f1)) ∧ w'.cell? ⟨gb254, 0, none⟩ = some (.int .i64 a0_0) ∧ w'.cell? ⟨gb254, 1, none⟩ = some (.int .i64 a0_1)) (ds := []) #[false, false, false, false, false, false, false, false] (by kernel_rfl) rfl rfl ⟨(blk_cell BK274.out 0).trans rfl, (blk_cell BK274.out 1).trans rfl, (blk_cell BK272.out 0).trans rfl, (blk_cell BK272.out 1).trans rfl, (blk_cell BK254.out 0).trans rfl, (blk_cell BK254.out 1).trans rfl⟩ (fun hHeld => ?_); refine with_tabW geom_Inside.tab14 geom_Inside.bits14 (fun HT_ HW_ => ?_)
      generalize w60.drew = w61 at HO_6 HO_47 BK254 BK272 BK274 HB hHeld ⊢
      refine take_ (i := 0) (N := some 62) (v := ?_) (a' := ?_) #[true, false, false, false, false, false, false, false] rfl rfl (take_ofW HT_.out HW_.out (by kernel_rfl)) (fun _ _ _ h => h) (Or.inl ⟨by rfl, ?_⟩) hHeld ?_ ?_
      rotate_left
      ·
       rintro w' ⟨s0, s1, s2, s3, s4, s5⟩
       go_simp
       with_reducible rfl
      rotate_left
      ·
       simp only [Act.put, List.setIfInBounds_toArray, List.set_cons_zero, List.set_cons_succ, i64_w, i32_w]
       rfl
      refine take_ (i := 1) (N := some 63) (v := ?_) (a' := ?_) #[true, true, false, false, false, false, false, false] rfl rfl (take_ofW HT_.out HW_.out (by kernel_rfl)) (fun _ _ _ h => h) (Or.inl ⟨by rfl, ?_⟩) hHeld ?_ ?_
      rotate_left
      ·
       rintro w' ⟨s0, s1, s2, s3, s4, s5⟩
       go_simp
       with_reducible rfl
      rotate_left
      ·
       simp only [Act.put, List.setIfInBounds_toArray, List.set_cons_zero, List.set_cons_succ, i64_w, i32_w]
       rfl
      refine take_ (i := 3) (N := some 65) (v := ?_) (a' := ?_) #[true, true, false, true, false, false, false, false] rfl rfl (take_ofW HT_.out HW_.out (by kernel_rfl)) (fun _ _ _ h => h) (Or.inl ⟨by rfl, ?_⟩) hHeld ?_ ?_
      rotate_left
      ·
       rintro w' ⟨s0, s1, s2, s3, s4, s5⟩
       go_simp
       with_reducible rfl
      rotate_left
      ·
       simp only [Act.put, List.setIfInBounds_toArray, List.set_cons_zero, List.set_cons_succ, i64_w, i32_w]
       rfl
      refine take_ (i := 4) (N := some 66) (v := ?_) (a' := ?_) #[true, true, false, true, true, false, false, false] rfl rfl (take_ofW HT_.out HW_.out (by kernel_rfl)) (fun _ _ _ h => h) (Or.inl ⟨by rfl, ?_⟩) hHeld ?_ ?_
      rotate_left
      ·
       rintro w' ⟨s0, s1, s2, s3, s4, s5⟩
       go_simp
       with_reducible rfl
      rotate_left
      ·
       simp only [Act.put, List.setIfInBounds_toArray, List.set_cons_zero, List.set_cons_succ, i64_w, i32_w]
       rfl
      refine one_ (i := 2) (N := some 64) #[true, true, true, true, true, false, false, false] rfl rfl (one_of HT_.out (by kernel_rfl)) (by decide) (fun K hK => ?_)
      refine goes_ Try.func29 (by kernel_rfl) rfl #[.agg #[.int .i64 ((rd_T23 t260 (ji46)).f0), .int .i64 ((rd_T23 t260 (ji46)).f1)], .agg #[.int .i64 ((rd_T23 t260 x49_2).f0), .int .i64 ((rd_T23 t260 x49_2).f1)]] (by rfl) rfl rfl (by (try simp only [List.map_toArray, List.map_cons, List.map_nil]); first | done | (simp only [hji46]; rfl) | rfl | (simp only [List.length_drop, List.length_take]; rfl)) ?_
      with_reducible refine (geom_minus.calls ((rd_T23 t260 (ji46)).f0) ((rd_T23 t260 (ji46)).f1) ((rd_T23 t260 x49_2).f0) ((rd_T23 t260 x49_2).f1) t275 t276 _ A49.out).mono ?_
      rintro e w62 ⟨rfl, hb⟩
      refine ⟨_, rfl, ?_⟩
      replace HO_6 := Aside0.mk (Kd.R_below HO_6.out hb); replace HO_47 := Aside0.mk (Kd.R_below HO_47.out hb); replace BK254 := mBb BK254 hb; replace BK272 := mBb BK272 hb; replace BK274 := mBb BK274 hb; replace HB := mSt HB hb
      (try clear hb)
      (try clear hb2)
      (try clear hk)
      (try clear hi)
      refine hK.out _ _ ⟨blk_cell BK274.out 0, blk_cell BK274.out 1, blk_cell BK272.out 0, blk_cell BK272.out 1, blk_cell BK254.out 0, blk_cell BK254.out 1⟩ (fun hHeld => ?_)
      clear hK K
      refine norm_ (a' := ?_) ?_ ?_
      rotate_left
      ·
       show Act.put _ (some 64) _ = _
       simp only [Act.put, List.setIfInBounds_toArray, List.set_cons_zero, List.set_cons_succ, i64_w, i32_w]
       rfl
      refine one_ (i := 5) (N := some 67) #[true, true, true, true, true, true, false, false] rfl rfl (one_of HT_.out (by kernel_rfl)) (by decide) (fun K hK => ?_)
      refine goes_ Try.func29 (by kernel_rfl) rfl #[.agg #[.int .i64 a0_0, .int .i64 a0_1], .agg #[.int .i64 ((rd_T23 t260 x49_2).f0), .int .i64 ((rd_T23 t260 x49_2).f1)]] (by rfl) rfl rfl (by (try simp only [List.map_toArray, List.map_cons, List.map_nil]); first | done | rfl | (simp only [List.length_drop, List.length_take]; rfl)) ?_
      with_reducible refine (geom_minus.calls a0_0 a0_1 ((rd_T23 t260 x49_2).f0) ((rd_T23 t260 x49_2).f1) t277 t278 _ A50.out).mono ?_
      rintro e w63 ⟨rfl, hb⟩
      refine ⟨_, rfl, ?_⟩
      replace HO_6 := Aside0.mk (Kd.R_below HO_6.out hb); replace HO_47 := Aside0.mk (Kd.R_below HO_47.out hb); replace BK254 := mBb BK254 hb; replace BK272 := mBb BK272 hb; replace BK274 := mBb BK274 hb; replace HB := mSt HB hb
      (try clear hb)
      (try clear hb2)
      (try clear hk)
      (try clear hi)
      refine hK.out _ _ ⟨blk_cell BK274.out 0, blk_cell BK274.out 1, blk_cell BK272.out 0, blk_cell BK272.out 1, blk_cell BK254.out 0, blk_cell BK254.out 1⟩ (fun hHeld => ?_)
      clear hK K
      refine norm_ (a' := ?_) ?_ ?_
      rotate_left
      ·
       show Act.put _ (some 67) _ = _
       simp only [Act.put, List.setIfInBounds_toArray, List.set_cons_zero, List.set_cons_succ, i64_w, i32_w]
       rfl
      refine one_ (i := 6) (N := some 68) #[true, true, true, true, true, true, true, false] rfl rfl (one_of HT_.out (by kernel_rfl)) (by decide) (fun K hK => ?_)
      refine goes_ Try.func33 (by kernel_rfl) rfl #[.agg #[.int .i64 t275, .int .i64 t276], .agg #[.int .i64 t277, .int .i64 t278]] (by rfl) rfl rfl (by (try simp only [List.map_toArray, List.map_cons, List.map_nil]); first | done | rfl | (simp only [List.length_drop, List.length_take]; rfl)) ?_
      with_reducible refine (geom_cross.calls t275 t276 t277 t278 t279 _ A51.out).mono ?_
      rintro e w64 ⟨rfl, hb⟩
      refine ⟨_, rfl, ?_⟩
      replace HO_6 := Aside0.mk (Kd.R_below HO_6.out hb); replace HO_47 := Aside0.mk (Kd.R_below HO_47.out hb); replace BK254 := mBb BK254 hb; replace BK272 := mBb BK272 hb; replace BK274 := mBb BK274 hb; replace HB := mSt HB hb
      (try clear hb)
      (try clear hb2)
      (try clear hk)
      (try clear hi)
      refine hK.out _ _ ⟨blk_cell BK274.out 0, blk_cell BK274.out 1, blk_cell BK272.out 0, blk_cell BK272.out 1, blk_cell BK254.out 0, blk_cell BK254.out 1⟩ (fun hHeld => ?_)
      clear hK K
      refine norm_ (a' := ?_) ?_ ?_
      rotate_left
      ·
       show Act.put _ (some 68) _ = _
       simp only [Act.put, List.setIfInBounds_toArray, List.set_cons_zero, List.set_cons_succ, i64_w, i32_w]
       rfl
      refine pure_ (i := 7) (N := some 69) (v := ?_) (a' := ?_) #[true, true, true, true, true, true, true, true] rfl rfl (any_of HT_.out (by kernel_rfl)) (fun _ _ _ h => h) (Or.inl ⟨by rfl, ?_⟩) ?_ ?_
      rotate_left
      ·
       intro w'
       go_simp
       with_reducible rfl
      rotate_left
      ·
       simp only [Act.put, List.setIfInBounds_toArray, List.set_cons_zero, List.set_cons_succ, i64_w, i32_w]
       rfl
      refine done_ (done_of HT_.out (by kernel_rfl)) ?_
      try go_wp2
      go_ret2
      exact ⟨by first | rfl | (simp [errW_none, errW_some] <;> rfl) | (simp only [← hji46]; first | rfl | (simp [errW_none, errW_some] <;> rfl)) | (simp [*, errW_none, errW_some] <;> rfl), HB.out⟩
     rw [if_neg c52] at H
     have c52b0 : decide (t279 < 0) = false := decide_eq_false c52
     clear c52
     have H' := Aside0.mk H
     clear H
     have p271 : 0 ≤ (x49_2 : Int) := of_decide_eq_true (by first | (with_reducible assumption) | assumption)
     have q271 : x49_2 < (t260.length : Int) := of_decide_eq_true (by first | (with_reducible assumption) | assumption)
     obtain ⟨ad271, e271, hx271_0, hx271_1⟩ := at_T23 (Kd.R_reads' HO_47.out).2.2 x49_2 p271 q271
     cases e271
     replace p271 := eq_true p271
     replace q271 := eq_true q271
     try go_wp2_with (first | ((with_reducible refine gate_dst (N := 8) rfl ?_); refine box_event ?hg (N := 8) ?hd (cs := #[.int .i64 0, .int .i64 0]) (t := 23) ?hr ?_; (case hd => rfl); (case hg => rfl); (case hr => first | (go_simp; done) | (go_simp; rfl)); intro gb272 hg w65 hbox hb; replace HO_6 := Aside0.mk (Kd.R_below (Kd.R_elderB (by (with_reducible repeat (first | apply Kd.R_alloc | apply Kd.R_drewN | apply Kd.R_drew)); exact HO_6.out) gb272 (Nat.le_of_eq hg.symm)) hb); replace HO_47 := Aside0.mk (Kd.R_below (Kd.R_elderB (by (with_reducible repeat (first | apply Kd.R_alloc | apply Kd.R_drewN | apply Kd.R_drew)); exact HO_47.out) gb272 (Nat.le_of_eq hg.symm)) hb); have BK272 := Aside0.mk hbox; have GW272 := Aside0.mk ((by rw [hg]; exact (below_size (by repeat (first | (with_reducible first | exact HB.out | apply below_alloc | apply pw_below_drewN | apply below_drew1 | refine below_set ?_ GE254.out) | exact HB.out))) : w.heap.size ≤ gb272)); have GE272 := GW272; replace HB := Aside0.mk (below_step (by repeat (first | (with_reducible first | exact HB.out | apply below_alloc | apply pw_below_drewN | apply below_drew1 | refine below_set ?_ GE254.out) | exact HB.out)) hb); have NB254_272 := mNe BK254 hg; have NB272_254 := mSy NB254_272; replace BK254 := mBb BK254 hb; clear hb hbox hg; have hnb66 := NB272_254.out; have hnc66 := NB254_272.out; have hcz67 := blk_cell BK272.out; have hfz67 := blk_frozen BK272.out; have p273 : 0 ≤ ((ji46) : Int) := of_decide_eq_true (by first | (with_reducible assumption) | assumption); have q273 : (ji46) < (t260.length : Int) := of_decide_eq_true (by first | (with_reducible assumption) | assumption); obtain ⟨ad273, e273, hx273_0, hx273_1⟩ := at_T23 (Kd.R_reads' HO_6.out).2.2 (ji46) p273 q273; obtain rfl : ad271 = ad273 := (by injection e273); have hn273_0 : ad271.block ≠ gb272 := Kd.own_blk (Kd.R_away HO_6.out (fun _ hk => hk.2)); have hn273_1 : ad271.block ≠ gb272 := Kd.own_blk (Kd.R_away HO_6.out (fun _ hk => hk.2)); replace hx273_0 := (cell_far (p := ⟨gb272, 0, none⟩) (by first | (rw [add_block]; exact hn273_0) | (show (Addr.add _ _).block ≠ _; rw [add_block]; exact hn273_0) | exact hn273_0) (.int .i64 ((rd_T23 t260 x49_2).f0))).trans hx273_0; replace hx273_1 := (cell_far (p := ⟨gb272, 0, none⟩) (by first | (rw [add_block]; exact hn273_0) | (show (Addr.add _ _).block ≠ _; rw [add_block]; exact hn273_0) | exact hn273_0) (.int .i64 ((rd_T23 t260 x49_2).f0))).trans hx273_1; replace hx273_0 := (cell_far (p := ⟨gb272, 1, none⟩) (by first | (rw [add_block]; exact hn273_1) | (show (Addr.add _ _).block ≠ _; rw [add_block]; exact hn273_1) | exact hn273_1) (.int .i64 ((rd_T23 t260 x49_2).f1))).trans hx273_0; replace hx273_1 := (cell_far (p := ⟨gb272, 1, none⟩) (by first | (rw [add_block]; exact hn273_1) | (show (Addr.add _ _).block ≠ _; rw [add_block]; exact hn273_1) | exact hn273_1) (.int .i64 ((rd_T23 t260 x49_2).f1))).trans hx273_1; clear hn273_0; clear hn273_1; replace p273 := eq_true p273; replace q273 := eq_true q273) | ((with_reducible refine gate_dst (N := 9) rfl ?_); refine box_event ?hg (N := 9) ?hd (cs := #[.int .i64 0, .int .i64 0]) (t := 23) ?hr ?_; (case hd => rfl); (case hg => rfl); (case hr => first | (go_simp; done) | (go_simp; rfl)); intro gb274 hg w68 hbox hb; replace HO_6 := Aside0.mk (Kd.R_below (Kd.R_elderB (by (with_reducible repeat (first | apply Kd.R_alloc | apply Kd.R_drewN | apply Kd.R_drew)); exact (Kd.R_mono (Kd.R_far (p := ⟨gb272, 1, none⟩) (Kd.R_far (p := ⟨gb272, 0, none⟩) (Kd.R_mono HO_6.out (fun k_ hk => (⟨hk, hk.2⟩ : _ ∧ k_ ≠ gb272))) (fun _ hk => hk.2) (.int .i64 ((rd_T23 t260 x49_2).f0))) (fun _ hk => hk.2) (.int .i64 ((rd_T23 t260 x49_2).f1))) (fun _ h_ => h_.1))) gb274 (Nat.le_of_eq hg.symm)) hb); replace HO_47 := Aside0.mk (Kd.R_below (Kd.R_elderB (by (with_reducible repeat (first | apply Kd.R_alloc | apply Kd.R_drewN | apply Kd.R_drew)); exact (Kd.R_mono (Kd.R_far (p := ⟨gb272, 1, none⟩) (Kd.R_far (p := ⟨gb272, 0, none⟩) (Kd.R_mono HO_47.out (fun k_ hk => (⟨hk, hk.2⟩ : _ ∧ k_ ≠ gb272))) (fun _ hk => hk.2) (.int .i64 ((rd_T23 t260 x49_2).f0))) (fun _ hk => hk.2) (.int .i64 ((rd_T23 t260 x49_2).f1))) (fun _ h_ => h_.1))) gb274 (Nat.le_of_eq hg.symm)) hb); have BK274 := Aside0.mk hbox; have GW274 := Aside0.mk ((by rw [hg]; exact (below_size (by repeat (first | (with_reducible first | exact HB.out | apply below_alloc | apply pw_below_drewN | apply below_drew1 | refine below_set ?_ GE254.out | refine below_set ?_ GE272.out) | exact HB.out))) : w.heap.size ≤ gb274)); have GE274 := GW274; replace HB := Aside0.mk (below_step (by repeat (first | (with_reducible first | exact HB.out | apply below_alloc | apply pw_below_drewN | apply below_drew1 | refine below_set ?_ GE254.out | refine below_set ?_ GE272.out) | exact HB.out)) hb); have NB254_274 := Aside0.mk ((by rw [hg]; exact Nat.ne_of_lt (blk_lt (g := gb254) (o := .cells #[.int .i64 a0_0, .int .i64 a0_1] 23 (0, 0)) (by (with_reducible repeat (first | refine blk_drewN ?_ _ | refine blk_drew ?_ | refine blk_alloc ?_ _)); refine blk_far ?_ NB254_272.out _; (with_reducible repeat (first | refine blk_drewN ?_ _ | refine blk_drew ?_ | refine blk_alloc ?_ _)); refine blk_far ?_ NB254_272.out _; (with_reducible repeat (first | refine blk_drewN ?_ _ | refine blk_drew ?_ | refine blk_alloc ?_ _)); exact BK254.out)) : gb254 ≠ gb274)); have NB274_254 := mSy NB254_274; replace BK254 := Aside0.mk (blk_below (g := gb254) (o := .cells #[.int .i64 a0_0, .int .i64 a0_1] 23 (0, 0)) (by (with_reducible repeat (first | refine blk_drewN ?_ _ | refine blk_drew ?_ | refine blk_alloc ?_ _)); refine blk_far ?_ NB254_272.out _; (with_reducible repeat (first | refine blk_drewN ?_ _ | refine blk_drew ?_ | refine blk_alloc ?_ _)); refine blk_far ?_ NB254_272.out _; (with_reducible repeat (first | refine blk_drewN ?_ _ | refine blk_drew ?_ | refine blk_alloc ?_ _)); exact BK254.out) hb); have NB272_274 := Aside0.mk ((by rw [hg]; exact Nat.ne_of_lt (blk_lt (g := gb272) (o := .cells #[.int .i64 ((rd_T23 t260 x49_2).f0), .int .i64 ((rd_T23 t260 x49_2).f1)] 23 (0, 0)) (by (with_reducible repeat (first | refine blk_drewN ?_ _ | refine blk_drew ?_ | refine blk_alloc ?_ _)); refine blk_put (cs := #[.int .i64 ((rd_T23 t260 x49_2).f0), .int .i64 0]) ?_ 1 _ rfl; (with_reducible repeat (first | refine blk_drewN ?_ _ | refine blk_drew ?_ | refine blk_alloc ?_ _)); refine blk_put (cs := #[.int .i64 0, .int .i64 0]) ?_ 0 _ rfl; (with_reducible repeat (first | refine blk_drewN ?_ _ | refine blk_drew ?_ | refine blk_alloc ?_ _)); exact BK272.out)) : gb272 ≠ gb274)); have NB274_272 := mSy NB272_274; replace BK272 := Aside0.mk (blk_below (g := gb272) (o := .cells #[.int .i64 ((rd_T23 t260 x49_2).f0), .int .i64 ((rd_T23 t260 x49_2).f1)] 23 (0, 0)) (by (with_reducible repeat (first | refine blk_drewN ?_ _ | refine blk_drew ?_ | refine blk_alloc ?_ _)); refine blk_put (cs := #[.int .i64 ((rd_T23 t260 x49_2).f0), .int .i64 0]) ?_ 1 _ rfl; (with_reducible repeat (first | refine blk_drewN ?_ _ | refine blk_drew ?_ | refine blk_alloc ?_ _)); refine blk_put (cs := #[.int .i64 0, .int .i64 0]) ?_ 0 _ rfl; (with_reducible repeat (first | refine blk_drewN ?_ _ | refine blk_drew ?_ | refine blk_alloc ?_ _)); exact BK272.out) hb); clear hb hbox hg; have hnb69 := NB274_254.out; have hnc69 := NB254_274.out; have hnb70 := NB274_272.out; have hnc70 := NB272_274.out; have hcz71 := blk_cell BK274.out; have hfz71 := blk_frozen BK274.out))
     have n0_ : Aside0 (Kd.R k23 23 ((w68.setCell ⟨gb274, 0, none⟩ (.int .i64 ((rd_T23 t260 (ji46)).f0))).setCell ⟨gb274, 1, none⟩ (.int .i64 ((rd_T23 t260 (ji46)).f1))) w.heap.size (fun k_ => k_ ≠ gb254 ∧ k_ ≠ gb272 ∧ k_ ≠ gb274) (.slice (some ad271) t260.length co41) t260) := ⟨by (with_reducible repeat (first | apply Kd.R_alloc | apply Kd.R_drewN | apply Kd.R_drew)); exact Kd.R_mono (Kd.R_far (p := ⟨gb274, 1, none⟩) (Kd.R_far (p := ⟨gb274, 0, none⟩) (Kd.R_mono HO_6.out (fun k_ hk => (⟨hk, hk.2⟩ : _ ∧ k_ ≠ gb274))) (fun _ hk => hk.2) (.int .i64 ((rd_T23 t260 (ji46)).f0))) (fun _ hk => hk.2) (.int .i64 ((rd_T23 t260 (ji46)).f1))) (fun _ hk => ⟨hk.1.1.1, ⟨hk.1.1.2, hk.1.2⟩⟩)⟩
     have n1_ : Aside0 (Kd.R k23 23 ((w68.setCell ⟨gb274, 0, none⟩ (.int .i64 ((rd_T23 t260 (ji46)).f0))).setCell ⟨gb274, 1, none⟩ (.int .i64 ((rd_T23 t260 (ji46)).f1))) w.heap.size (fun k_ => k_ ≠ gb254 ∧ k_ ≠ gb272 ∧ k_ ≠ gb274) (.slice (some ad271) t260.length co41) t260) := ⟨by (with_reducible repeat (first | apply Kd.R_alloc | apply Kd.R_drewN | apply Kd.R_drew)); exact Kd.R_mono (Kd.R_far (p := ⟨gb274, 1, none⟩) (Kd.R_far (p := ⟨gb274, 0, none⟩) (Kd.R_mono HO_47.out (fun k_ hk => (⟨hk, hk.2⟩ : _ ∧ k_ ≠ gb274))) (fun _ hk => hk.2) (.int .i64 ((rd_T23 t260 (ji46)).f0))) (fun _ hk => hk.2) (.int .i64 ((rd_T23 t260 (ji46)).f1))) (fun _ hk => ⟨hk.1.1.1, ⟨hk.1.1.2, hk.1.2⟩⟩)⟩
     have n2_ : Aside0 (((w68.setCell ⟨gb274, 0, none⟩ (.int .i64 ((rd_T23 t260 (ji46)).f0))).setCell ⟨gb274, 1, none⟩ (.int .i64 ((rd_T23 t260 (ji46)).f1))).heap[gb254]? = some (.cells #[.int .i64 a0_0, .int .i64 a0_1] 23 (0, 0))) := ⟨by (with_reducible repeat (first | refine blk_drewN ?_ _ | refine blk_drew ?_ | refine blk_alloc ?_ _)); refine blk_far ?_ NB254_274.out _; (with_reducible repeat (first | refine blk_drewN ?_ _ | refine blk_drew ?_ | refine blk_alloc ?_ _)); refine blk_far ?_ NB254_274.out _; (with_reducible repeat (first | refine blk_drewN ?_ _ | refine blk_drew ?_ | refine blk_alloc ?_ _)); exact BK254.out⟩
     have n3_ : Aside0 (((w68.setCell ⟨gb274, 0, none⟩ (.int .i64 ((rd_T23 t260 (ji46)).f0))).setCell ⟨gb274, 1, none⟩ (.int .i64 ((rd_T23 t260 (ji46)).f1))).heap[gb272]? = some (.cells #[.int .i64 ((rd_T23 t260 x49_2).f0), .int .i64 ((rd_T23 t260 x49_2).f1)] 23 (0, 0))) := ⟨by (with_reducible repeat (first | refine blk_drewN ?_ _ | refine blk_drew ?_ | refine blk_alloc ?_ _)); refine blk_far ?_ NB272_274.out _; (with_reducible repeat (first | refine blk_drewN ?_ _ | refine blk_drew ?_ | refine blk_alloc ?_ _)); refine blk_far ?_ NB272_274.out _; (with_reducible repeat (first | refine blk_drewN ?_ _ | refine blk_drew ?_ | refine blk_alloc ?_ _)); exact BK272.out⟩
     have n4_ : Aside0 (((w68.setCell ⟨gb274, 0, none⟩ (.int .i64 ((rd_T23 t260 (ji46)).f0))).setCell ⟨gb274, 1, none⟩ (.int .i64 ((rd_T23 t260 (ji46)).f1))).heap[gb274]? = some (.cells #[.int .i64 ((rd_T23 t260 (ji46)).f0), .int .i64 ((rd_T23 t260 (ji46)).f1)] 23 (0, 0))) := ⟨by (with_reducible repeat (first | refine blk_drewN ?_ _ | refine blk_drew ?_ | refine blk_alloc ?_ _)); refine blk_put (cs := #[.int .i64 ((rd_T23 t260 (ji46)).f0), .int .i64 0]) ?_ 1 _ rfl; (with_reducible repeat (first | refine blk_drewN ?_ _ | refine blk_drew ?_ | refine blk_alloc ?_ _)); refine blk_put (cs := #[.int .i64 0, .int .i64 0]) ?_ 0 _ rfl; (with_reducible repeat (first | refine blk_drewN ?_ _ | refine blk_drew ?_ | refine blk_alloc ?_ _)); exact BK274.out⟩
     have n5_ : Aside0 (Below w.heap.size w ((w68.setCell ⟨gb274, 0, none⟩ (.int .i64 ((rd_T23 t260 (ji46)).f0))).setCell ⟨gb274, 1, none⟩ (.int .i64 ((rd_T23 t260 (ji46)).f1)))) := ⟨by repeat (first | (with_reducible first | exact HB.out | apply below_alloc | apply pw_below_drewN | apply below_drew1 | refine below_set ?_ GE254.out | refine below_set ?_ GE272.out | refine below_set ?_ GE274.out) | exact HB.out)⟩
     (try clear HO_6)
     (try clear HO_47)
     (try clear BK254)
     (try clear BK272)
     (try clear BK274)
     (try clear HB)
     generalize ((w68.setCell ⟨gb274, 0, none⟩ (.int .i64 ((rd_T23 t260 (ji46)).f0))).setCell ⟨gb274, 1, none⟩ (.int .i64 ((rd_T23 t260 (ji46)).f1))) = w72 at n0_ n1_ n2_ n3_ n4_ n5_ ⊢
     have HO_6 := n0_
     have HO_47 := n1_
     have BK254 := n2_
     have BK272 := n3_
     have BK274 := n4_
     have HB := n5_
     clear n0_ n1_ n2_ n3_ n4_ n5_
     replace HO_6 := Aside0.mk (Kd.R_drew HO_6.out); replace HO_47 := Aside0.mk (Kd.R_drew HO_47.out); replace BK254 := Aside0.mk (blk_drew BK254.out); replace BK272 := Aside0.mk (blk_drew BK272.out); replace BK274 := Aside0.mk (blk_drew BK274.out); replace HB := Aside0.mk (below_drew1 HB.out)
     refine start_ (n := 8) (S := fun w' => w'.cell? ⟨gb274, 0, none⟩ = some (.int .i64 ((rd_T23 t260 (ji46)).f0)) ∧ w'.cell? ⟨gb274, 1, none⟩ = some (.int .i64 ((rd_T23 t260 (ji46)).f1)) ∧ w'.cell? ⟨gb272, 0, none⟩ = some (.int .i64 ((rd_T23 t260 x49_2).f0)) ∧ w'.cell? ⟨gb272, 1, none⟩ = some (.int .i64 ((rd_T23 t260 x49_2).f1)) ∧ w'.cell? ⟨gb254, 0, none⟩ = some (.int .i64 a0_0) ∧ w'.cell? ⟨gb254, 1, none⟩ = some (.int .i64 a0_1)) (ds := []) #[false, false, false, false, false, false, false, false] (by kernel_rfl) rfl rfl ⟨(blk_cell BK274.out 0).trans rfl, (blk_cell BK274.out 1).trans rfl, (blk_cell BK272.out 0).trans rfl, (blk_cell BK272.out 1).trans rfl, (blk_cell BK254.out 0).trans rfl, (blk_cell BK254.out 1).trans rfl⟩ (fun hHeld => ?_); refine with_tabW geom_Inside.tab14 geom_Inside.bits14 (fun HT_ HW_ => ?_)
     generalize w72.drew = w73 at HO_6 HO_47 BK254 BK272 BK274 HB hHeld ⊢
     refine take_ (i := 0) (N := some 62) (v := ?_) (a' := ?_) #[true, false, false, false, false, false, false, false] rfl rfl (take_ofW HT_.out HW_.out (by kernel_rfl)) (fun _ _ _ h => h) (Or.inl ⟨by rfl, ?_⟩) hHeld ?_ ?_
     rotate_left
     ·
      rintro w' ⟨s0, s1, s2, s3, s4, s5⟩
      go_simp
      with_reducible rfl
     rotate_left
     ·
      simp only [Act.put, List.setIfInBounds_toArray, List.set_cons_zero, List.set_cons_succ, i64_w, i32_w]
      rfl
     refine take_ (i := 1) (N := some 63) (v := ?_) (a' := ?_) #[true, true, false, false, false, false, false, false] rfl rfl (take_ofW HT_.out HW_.out (by kernel_rfl)) (fun _ _ _ h => h) (Or.inl ⟨by rfl, ?_⟩) hHeld ?_ ?_
     rotate_left
     ·
      rintro w' ⟨s0, s1, s2, s3, s4, s5⟩
      go_simp
      with_reducible rfl
     rotate_left
     ·
      simp only [Act.put, List.setIfInBounds_toArray, List.set_cons_zero, List.set_cons_succ, i64_w, i32_w]
      rfl
     refine take_ (i := 3) (N := some 65) (v := ?_) (a' := ?_) #[true, true, false, true, false, false, false, false] rfl rfl (take_ofW HT_.out HW_.out (by kernel_rfl)) (fun _ _ _ h => h) (Or.inl ⟨by rfl, ?_⟩) hHeld ?_ ?_
     rotate_left
     ·
      rintro w' ⟨s0, s1, s2, s3, s4, s5⟩
      go_simp
      with_reducible rfl
     rotate_left
     ·
      simp only [Act.put, List.setIfInBounds_toArray, List.set_cons_zero, List.set_cons_succ, i64_w, i32_w]
      rfl
     refine take_ (i := 4) (N := some 66) (v := ?_) (a' := ?_) #[true, true, false, true, true, false, false, false] rfl rfl (take_ofW HT_.out HW_.out (by kernel_rfl)) (fun _ _ _ h => h) (Or.inl ⟨by rfl, ?_⟩) hHeld ?_ ?_
     rotate_left
     ·
      rintro w' ⟨s0, s1, s2, s3, s4, s5⟩
      go_simp
      with_reducible rfl
     rotate_left
     ·
      simp only [Act.put, List.setIfInBounds_toArray, List.set_cons_zero, List.set_cons_succ, i64_w, i32_w]
      rfl
     refine one_ (i := 2) (N := some 64) #[true, true, true, true, true, false, false, false] rfl rfl (one_of HT_.out (by kernel_rfl)) (by decide) (fun K hK => ?_)
     refine goes_ Try.func29 (by kernel_rfl) rfl #[.agg #[.int .i64 ((rd_T23 t260 (ji46)).f0), .int .i64 ((rd_T23 t260 (ji46)).f1)], .agg #[.int .i64 ((rd_T23 t260 x49_2).f0), .int .i64 ((rd_T23 t260 x49_2).f1)]] (by rfl) rfl rfl (by (try simp only [List.map_toArray, List.map_cons, List.map_nil]); first | done | (simp only [hji46]; rfl) | rfl | (simp only [List.length_drop, List.length_take]; rfl)) ?_
     with_reducible refine (geom_minus.calls ((rd_T23 t260 (ji46)).f0) ((rd_T23 t260 (ji46)).f1) ((rd_T23 t260 x49_2).f0) ((rd_T23 t260 x49_2).f1) t275 t276 _ A49.out).mono ?_
     rintro e w74 ⟨rfl, hb⟩
     refine ⟨_, rfl, ?_⟩
     replace HO_6 := Aside0.mk (Kd.R_below HO_6.out hb); replace HO_47 := Aside0.mk (Kd.R_below HO_47.out hb); replace BK254 := mBb BK254 hb; replace BK272 := mBb BK272 hb; replace BK274 := mBb BK274 hb; replace HB := mSt HB hb
     (try clear hb)
     (try clear hb2)
     (try clear hk)
     (try clear hi)
     refine hK.out _ _ ⟨blk_cell BK274.out 0, blk_cell BK274.out 1, blk_cell BK272.out 0, blk_cell BK272.out 1, blk_cell BK254.out 0, blk_cell BK254.out 1⟩ (fun hHeld => ?_)
     clear hK K
     refine norm_ (a' := ?_) ?_ ?_
     rotate_left
     ·
      show Act.put _ (some 64) _ = _
      simp only [Act.put, List.setIfInBounds_toArray, List.set_cons_zero, List.set_cons_succ, i64_w, i32_w]
      rfl
     refine one_ (i := 5) (N := some 67) #[true, true, true, true, true, true, false, false] rfl rfl (one_of HT_.out (by kernel_rfl)) (by decide) (fun K hK => ?_)
     refine goes_ Try.func29 (by kernel_rfl) rfl #[.agg #[.int .i64 a0_0, .int .i64 a0_1], .agg #[.int .i64 ((rd_T23 t260 x49_2).f0), .int .i64 ((rd_T23 t260 x49_2).f1)]] (by rfl) rfl rfl (by (try simp only [List.map_toArray, List.map_cons, List.map_nil]); first | done | rfl | (simp only [List.length_drop, List.length_take]; rfl)) ?_
     with_reducible refine (geom_minus.calls a0_0 a0_1 ((rd_T23 t260 x49_2).f0) ((rd_T23 t260 x49_2).f1) t277 t278 _ A50.out).mono ?_
     rintro e w75 ⟨rfl, hb⟩
     refine ⟨_, rfl, ?_⟩
     replace HO_6 := Aside0.mk (Kd.R_below HO_6.out hb); replace HO_47 := Aside0.mk (Kd.R_below HO_47.out hb); replace BK254 := mBb BK254 hb; replace BK272 := mBb BK272 hb; replace BK274 := mBb BK274 hb; replace HB := mSt HB hb
     (try clear hb)
     (try clear hb2)
     (try clear hk)
     (try clear hi)
     refine hK.out _ _ ⟨blk_cell BK274.out 0, blk_cell BK274.out 1, blk_cell BK272.out 0, blk_cell BK272.out 1, blk_cell BK254.out 0, blk_cell BK254.out 1⟩ (fun hHeld => ?_)
     clear hK K
     refine norm_ (a' := ?_) ?_ ?_
     rotate_left
     ·
      show Act.put _ (some 67) _ = _
      simp only [Act.put, List.setIfInBounds_toArray, List.set_cons_zero, List.set_cons_succ, i64_w, i32_w]
      rfl
     refine one_ (i := 6) (N := some 68) #[true, true, true, true, true, true, true, false] rfl rfl (one_of HT_.out (by kernel_rfl)) (by decide) (fun K hK => ?_)
     refine goes_ Try.func33 (by kernel_rfl) rfl #[.agg #[.int .i64 t275, .int .i64 t276], .agg #[.int .i64 t277, .int .i64 t278]] (by rfl) rfl rfl (by (try simp only [List.map_toArray, List.map_cons, List.map_nil]); first | done | rfl | (simp only [List.length_drop, List.length_take]; rfl)) ?_
     with_reducible refine (geom_cross.calls t275 t276 t277 t278 t279 _ A51.out).mono ?_
     rintro e w76 ⟨rfl, hb⟩
     refine ⟨_, rfl, ?_⟩
     replace HO_6 := Aside0.mk (Kd.R_below HO_6.out hb); replace HO_47 := Aside0.mk (Kd.R_below HO_47.out hb); replace BK254 := mBb BK254 hb; replace BK272 := mBb BK272 hb; replace BK274 := mBb BK274 hb; replace HB := mSt HB hb
     (try clear hb)
     (try clear hb2)
     (try clear hk)
     (try clear hi)
     refine hK.out _ _ ⟨blk_cell BK274.out 0, blk_cell BK274.out 1, blk_cell BK272.out 0, blk_cell BK272.out 1, blk_cell BK254.out 0, blk_cell BK254.out 1⟩ (fun hHeld => ?_)
     clear hK K
     refine norm_ (a' := ?_) ?_ ?_
     rotate_left
     ·
      show Act.put _ (some 68) _ = _
      simp only [Act.put, List.setIfInBounds_toArray, List.set_cons_zero, List.set_cons_succ, i64_w, i32_w]
      rfl
     refine pure_ (i := 7) (N := some 69) (v := ?_) (a' := ?_) #[true, true, true, true, true, true, true, true] rfl rfl (any_of HT_.out (by kernel_rfl)) (fun _ _ _ h => h) (Or.inl ⟨by rfl, ?_⟩) ?_ ?_
     rotate_left
     ·
      intro w'
      go_simp
      with_reducible rfl
     rotate_left
     ·
      simp only [Act.put, List.setIfInBounds_toArray, List.set_cons_zero, List.set_cons_succ, i64_w, i32_w]
      rfl
     refine done_ (done_of HT_.out (by kernel_rfl)) ?_
     try go_wp2
     go_roundg k2
     case measure => have := HJ4.out; have := HK2.out; omega
     case rel => exact ⟨(wrap64 (x49_2 + 1)), (by first | rfl | (simp; done) | (simp [*]; done)), H', ⟨by have := HJ4.out; have := HK2.out; omega⟩, ⟨by (with_reducible repeat (first | apply Kd.R_alloc | apply Kd.R_drewN | apply Kd.R_drew)); exact Kd.R_mono HO_6.out (fun _ hk => hk.1)⟩, ⟨by (with_reducible repeat (first | apply Kd.R_alloc | apply Kd.R_drewN | apply Kd.R_drew)); exact Kd.R_mono HO_47.out (fun _ hk => hk.1)⟩, ⟨BK254.out⟩, ⟨HB.out⟩⟩
end Go.Proofs.Ytmilejcbkpkplaa.PAll
-- Written by wip/tools/handprint.py: walks of the functions that the law reaches; Lean checks them.
namespace Go.Proofs.Ytmilejcbkpkplaa.PAll
open Go.RowKit Go.Proofs.YtmilejcbkpkplaaW.PrintWords Go.Proofs.YtmilejcbkpkplaaW.PrintLast Go.Proofs.YtmilejcbkpkplaaW.PrintMore
attribute [local go_sem] max2_int min2_int max_two min_two max_three min_three max_four min_four   -- for this text's walks alone
set_option linter.unusedVariables false
set_option linter.unusedSimpArgs false

/-! ### dancestudiolaw03_disc: function 35 -/
def dancestudiolaw03_disc.f (a0 : Int) (a1 : Int) (a2 : Int) (a3 : Int) : Option (Int × Int × Int × Int × Int) := some (a0, a1, a2, a3, 300)
set_option maxHeartbeats 8000000 in
set_option maxRecDepth 100000 in
theorem dancestudiolaw03_disc.calls (a0 : Int) (a1 : Int) (a2 : Int) (a3 : Int) (r1 : Int) (r2 : Int) (r3 : Int) (r4 : Int) (r5 : Int) (w : World) (h : dancestudiolaw03_disc.f a0 a1 a2 a3 = some (r1, r2, r3, r4, r5)) :
  Calls Try.prog 35 #[.int .i64 a0, .int .i64 a1, .int .i64 a2, .int .i64 a3] w fun e w' => e = .returned (.agg #[.int .i64 r1, .int .i64 r2, .int .i64 r3, .int .i64 r4, .int .i64 r5]) ∧ Below w.heap.size w w' := by
 have hu36 := Try.underlying36
 have hu23 := Try.underlying23
 have HB := Aside0.mk (Below.refl w.heap.size w)
 have H : (some (a0, a1, a2, a3, 300)) = some (r1, r2, r3, r4, r5) := h
 clear h
 simp only [Option.some.injEq, Prod.mk.injEq] at H
 obtain ⟨rfl, rfl, rfl, rfl, rfl⟩ := H
 go_enter Try.func35, Try.ntmps35
 go_wp2_with (first | ((with_reducible refine gate_dst (N := 8) rfl ?_); refine box_event ?hg (N := 8) ?hd (cs := #[.int .i64 0, .int .i64 0, .int .i64 0, .int .i64 0, .int .i64 0]) (t := 36) ?hr ?_; (case hd => rfl); (case hg => rfl); (case hr => first | (go_simp; done) | (go_simp; rfl)); intro gb280 hg w5 hbox hb; have n0_ := Aside0.mk (below_step (by repeat (first | (with_reducible first | exact HB.out | apply below_alloc | apply pw_below_drewN | apply below_drew1) | exact HB.out)) hb); have n1_ := Aside0.mk (hbox); have n2_ := Aside0.mk ((by rw [hg]; exact (below_size (by repeat (first | (with_reducible first | exact HB.out | apply below_alloc | apply pw_below_drewN | apply below_drew1) | exact HB.out))) : w.heap.size ≤ gb280)); have n3_ := Aside0.mk ((by rw [hg]; exact (below_size (by repeat (first | (with_reducible first | exact HB.out | apply below_alloc | apply pw_below_drewN | apply below_drew1) | exact HB.out))) : w.heap.size ≤ gb280)); clear HB; have HB := n0_; have BK280 := n1_; have GW280 := n2_; have GE280 := n3_; clear n0_ n1_ n2_ n3_; clear hb hbox hg; have hcz6_0 : w5.cell? ⟨gb280, 0, none⟩ = some (.int .i64 0) := (blk_cell BK280.out 0).trans rfl; have hcz6_1 : w5.cell? ⟨gb280, 1, none⟩ = some (.int .i64 0) := (blk_cell BK280.out 1).trans rfl; have hcz6_2 : w5.cell? ⟨gb280, 2, none⟩ = some (.int .i64 0) := (blk_cell BK280.out 2).trans rfl; have hcz6_3 : w5.cell? ⟨gb280, 3, none⟩ = some (.int .i64 0) := (blk_cell BK280.out 3).trans rfl; have hcz6_4 : w5.cell? ⟨gb280, 4, none⟩ = some (.int .i64 0) := (blk_cell BK280.out 4).trans rfl; have hfz6_0 := blk_frozen BK280.out 0; have hfz6_1 := blk_frozen BK280.out 1; have hfz6_2 := blk_frozen BK280.out 2; have hfz6_3 := blk_frozen BK280.out 3; have hfz6_4 := blk_frozen BK280.out 4))
 refine bodyPost_ret (results_cell_row rfl _ _ gb280 36 #[.int .i64 a0, .int .i64 a1, .int .i64 a2, .int .i64 a3, .int .i64 300] (0, 0) _ rfl (by (with_reducible repeat (first | refine blk_drewN ?_ _ | refine blk_drew ?_ | refine blk_alloc ?_ _)); refine blk_put (cs := #[.int .i64 a0, .int .i64 a1, .int .i64 a2, .int .i64 a3, .int .i64 0]) ?_ 4 _ rfl; (with_reducible repeat (first | refine blk_drewN ?_ _ | refine blk_drew ?_ | refine blk_alloc ?_ _)); refine blk_put (cs := #[.int .i64 a0, .int .i64 a1, .int .i64 a2, .int .i64 0, .int .i64 0]) ?_ 3 _ rfl; (with_reducible repeat (first | refine blk_drewN ?_ _ | refine blk_drew ?_ | refine blk_alloc ?_ _)); refine blk_put (cs := #[.int .i64 a0, .int .i64 a1, .int .i64 0, .int .i64 0, .int .i64 0]) ?_ 2 _ rfl; (with_reducible repeat (first | refine blk_drewN ?_ _ | refine blk_drew ?_ | refine blk_alloc ?_ _)); refine blk_put (cs := #[.int .i64 a0, .int .i64 0, .int .i64 0, .int .i64 0, .int .i64 0]) ?_ 1 _ rfl; (with_reducible repeat (first | refine blk_drewN ?_ _ | refine blk_drew ?_ | refine blk_alloc ?_ _)); refine blk_put (cs := #[.int .i64 0, .int .i64 0, .int .i64 0, .int .i64 0, .int .i64 0]) ?_ 0 _ rfl; (with_reducible repeat (first | refine blk_drewN ?_ _ | refine blk_drew ?_ | refine blk_alloc ?_ _)); exact BK280.out) Try.underlying36 rfl (by kernel_rfl)) rfl ?_
 exact ⟨by first | rfl | (simp [errW_none, errW_some] <;> rfl) | (simp [*, errW_none, errW_some] <;> rfl), by repeat (first | (with_reducible first | exact HB.out | apply below_alloc | apply pw_below_drewN | apply below_drew1 | refine below_set ?_ GE280.out) | exact HB.out)⟩
end Go.Proofs.Ytmilejcbkpkplaa.PAll
-- Written by wip/tools/handprint.py: walks of the functions that the law reaches; Lean checks them.
namespace Go.Proofs.Ytmilejcbkpkplaa.PAll
open Go.RowKit Go.Proofs.YtmilejcbkpkplaaW.PrintWords Go.Proofs.YtmilejcbkpkplaaW.PrintLast Go.Proofs.YtmilejcbkpkplaaW.PrintMore
attribute [local go_sem] max2_int min2_int max_two min_two max_three min_three max_four min_four   -- for this text's walks alone
set_option linter.unusedVariables false
set_option linter.unusedSimpArgs false

/-! ### dancestudiolaw03_awake: function 15 -/
mutual
def dancestudiolaw03_awake.j0 : Nat → Bool → Int → Int → Int → Int → Option (Bool)
 | 0, _, _, _, _, _ => none
 | k + 1, x47, x282000, x282001, x283000, x283001 => if x47 = true then (none) else ((geom_Near.f k 0 5 x282000 x282001 x283000 x283001 5).bind fun bt287 => ((geom_Near.f k 0 5 x282000 x282001 x283000 x283001 4).bind fun bt289 => ((geom_Near.f k 13 4 x282000 x282001 x283000 x283001 5).bind fun bt291 => ((geom_Near.f k 13 4 x282000 x282001 x283000 x283001 4).bind fun bt293 => (if bt287.2 = 0 then (if bt289.2 = 0 then (if bt291.2 = 0 then (if bt293.2 = 0 then (if bt287.1 = true then (if bt289.1 = true then (dancestudiolaw03_awake.j1 k true) else (if bt291.1 = true then (dancestudiolaw03_awake.j1 k bt293.1) else (dancestudiolaw03_awake.j1 k true))) else (dancestudiolaw03_awake.j1 k true)) else (dancestudiolaw03_awake.j1 k true)) else (dancestudiolaw03_awake.j1 k true)) else (dancestudiolaw03_awake.j1 k true)) else (dancestudiolaw03_awake.j1 k true))))))
def dancestudiolaw03_awake.j1 : Nat → Bool → Option (Bool)
 | 0, _ => none
 | k + 1, x103 => if x103 = true then (none) else ((dancestudiolaw03_disc.f 0 0 0 1000).bind fun bt295 => ((dancestudiolaw03_disc.f 600 1000 600 0).bind fun bt300 => ((geom_Touch.f k bt295.1 bt295.2.1 bt295.2.2.1 bt295.2.2.2.1 bt295.2.2.2.2 bt300.1 bt300.2.1 bt300.2.2.1 bt300.2.2.2.1 bt300.2.2.2.2).bind fun bt305 => ((dancestudiolaw03_disc.f 0 0 0 1000).bind fun bt307 => ((dancestudiolaw03_disc.f 599 1000 599 0).bind fun bt312 => ((geom_Touch.f k bt307.1 bt307.2.1 bt307.2.2.1 bt307.2.2.2.1 bt307.2.2.2.2 bt312.1 bt312.2.1 bt312.2.2.1 bt312.2.2.2.1 bt312.2.2.2.2).bind fun bt317 => (if bt305.2 = 0 then (if bt317.2 = 0 then (if bt305.1 = true then (dancestudiolaw03_awake.j2 k true) else (dancestudiolaw03_awake.j2 k (!bt317.1))) else (dancestudiolaw03_awake.j2 k true)) else (dancestudiolaw03_awake.j2 k true))))))))
def dancestudiolaw03_awake.j2 : Nat → Bool → Option (Bool)
 | 0, _ => none
 | k + 1, x128 => if x128 = true then (none) else ((some (([(⟨0, 0⟩ : S23), (⟨2, 0⟩ : S23), (⟨1, 1⟩ : S23), (⟨2, 2⟩ : S23), (⟨0, 2⟩ : S23), (⟨1, 0⟩ : S23)] : List (S23)) : List (S23))).bind fun y319 => ((geom_Hull.f k y319).bind fun bt322 => ((geom_Inside.f k 1 0 y319).bind fun bt326 => ((geom_Inside.f k 3 1 y319).bind fun bt328 => (if bt322.2 = 0 then (if bt326.2 = 0 then (if bt328.2 = 0 then (if bt326.1 = true then (if bt328.1 = true then (none) else ((dancestudioref03_Same.f k bt322.1 (([(⟨0, 0⟩ : S23), (⟨2, 0⟩ : S23), (⟨2, 2⟩ : S23), (⟨0, 2⟩ : S23)] : List (S23)))).bind fun t333 => (some t333))) else (none)) else (none)) else (none)) else (none))))))
end
def dancestudiolaw03_awake.f (k : Nat)  : Option (Bool) := (geom_Dist2.f k 0 0 3 4).bind fun bt283 => ((geom_Cross.f k 0 0 1 0 0 1).bind fun bt285 => (if bt283.2 = 0 then (if bt285.2 = 0 then (if bt283.1 = 25 then (dancestudiolaw03_awake.j0 k (bt285.1 != 1) (-10) 0 10 0) else (dancestudiolaw03_awake.j0 k true (-10) 0 10 0)) else (dancestudiolaw03_awake.j0 k true (-10) 0 10 0)) else (dancestudiolaw03_awake.j0 k true (-10) 0 10 0)))
theorem dancestudiolaw03_awake.mono_l : ∀ k, (∀ y0 y1 y2 y3 y4, LeO (dancestudiolaw03_awake.j0 k y0 y1 y2 y3 y4) (dancestudiolaw03_awake.j0 (k + 1) y0 y1 y2 y3 y4)) ∧ (∀ y0, LeO (dancestudiolaw03_awake.j1 k y0) (dancestudiolaw03_awake.j1 (k + 1) y0)) ∧ (∀ y0, LeO (dancestudiolaw03_awake.j2 k y0) (dancestudiolaw03_awake.j2 (k + 1) y0))
 | 0 => ⟨fun _ _ _ _ _ r h => by simp [dancestudiolaw03_awake.j0] at h, fun _ r h => by simp [dancestudiolaw03_awake.j1] at h, fun _ r h => by simp [dancestudiolaw03_awake.j2] at h⟩
 | k + 1 => by
  obtain ⟨ih0, ih1, ih2⟩ := dancestudiolaw03_awake.mono_l k
  refine ⟨?_, ?_, ?_⟩
  ·
   intro y0 y1 y2 y3 y4
   unfold dancestudiolaw03_awake.j0
   repeat' first
   | (with_reducible exact ih0 _ _ _ _ _)
   | (with_reducible exact ih1 _)
   | (with_reducible exact ih2 _)
   | (with_reducible exact dancestudioref03_Same.mono _ _ _)
   | (with_reducible exact geom_Cross.mono _ _ _ _ _ _ _)
   | (with_reducible exact geom_Dist2.mono _ _ _ _ _)
   | (with_reducible exact geom_Hull.mono _ _)
   | (with_reducible exact geom_Inside.mono _ _ _ _)
   | (with_reducible exact geom_Near.mono _ _ _ _ _ _ _ _)
   | (with_reducible exact geom_Touch.mono _ _ _ _ _ _ _ _ _ _ _)
   | (with_reducible exact LeO.refl _)
   | (with_reducible exact LeO.none _)
   | (with_reducible refine LeO.ite ?_ ?_)
   | (with_reducible refine LeO.bind ?_ (fun _ => ?_))
   | exact ih0 _ _ _ _ _
   | exact ih1 _
   | exact ih2 _
   | exact dancestudioref03_Same.mono _ _ _
   | exact geom_Cross.mono _ _ _ _ _ _ _
   | exact geom_Dist2.mono _ _ _ _ _
   | exact geom_Hull.mono _ _
   | exact geom_Inside.mono _ _ _ _
   | exact geom_Near.mono _ _ _ _ _ _ _ _
   | exact geom_Touch.mono _ _ _ _ _ _ _ _ _ _ _
   | exact LeO.none _
   | refine LeO.ite ?_ ?_
   | refine LeO.bind ?_ (fun _ => ?_)
  ·
   intro y0
   unfold dancestudiolaw03_awake.j1
   repeat' first
   | (with_reducible exact ih0 _ _ _ _ _)
   | (with_reducible exact ih1 _)
   | (with_reducible exact ih2 _)
   | (with_reducible exact dancestudioref03_Same.mono _ _ _)
   | (with_reducible exact geom_Cross.mono _ _ _ _ _ _ _)
   | (with_reducible exact geom_Dist2.mono _ _ _ _ _)
   | (with_reducible exact geom_Hull.mono _ _)
   | (with_reducible exact geom_Inside.mono _ _ _ _)
   | (with_reducible exact geom_Near.mono _ _ _ _ _ _ _ _)
   | (with_reducible exact geom_Touch.mono _ _ _ _ _ _ _ _ _ _ _)
   | (with_reducible exact LeO.refl _)
   | (with_reducible exact LeO.none _)
   | (with_reducible refine LeO.ite ?_ ?_)
   | (with_reducible refine LeO.bind ?_ (fun _ => ?_))
   | exact ih0 _ _ _ _ _
   | exact ih1 _
   | exact ih2 _
   | exact dancestudioref03_Same.mono _ _ _
   | exact geom_Cross.mono _ _ _ _ _ _ _
   | exact geom_Dist2.mono _ _ _ _ _
   | exact geom_Hull.mono _ _
   | exact geom_Inside.mono _ _ _ _
   | exact geom_Near.mono _ _ _ _ _ _ _ _
   | exact geom_Touch.mono _ _ _ _ _ _ _ _ _ _ _
   | exact LeO.none _
   | refine LeO.ite ?_ ?_
   | refine LeO.bind ?_ (fun _ => ?_)
  ·
   intro y0
   unfold dancestudiolaw03_awake.j2
   repeat' first
   | (with_reducible exact ih0 _ _ _ _ _)
   | (with_reducible exact ih1 _)
   | (with_reducible exact ih2 _)
   | (with_reducible exact dancestudioref03_Same.mono _ _ _)
   | (with_reducible exact geom_Cross.mono _ _ _ _ _ _ _)
   | (with_reducible exact geom_Dist2.mono _ _ _ _ _)
   | (with_reducible exact geom_Hull.mono _ _)
   | (with_reducible exact geom_Inside.mono _ _ _ _)
   | (with_reducible exact geom_Near.mono _ _ _ _ _ _ _ _)
   | (with_reducible exact geom_Touch.mono _ _ _ _ _ _ _ _ _ _ _)
   | (with_reducible exact LeO.refl _)
   | (with_reducible exact LeO.none _)
   | (with_reducible refine LeO.ite ?_ ?_)
   | (with_reducible refine LeO.bind ?_ (fun _ => ?_))
   | exact ih0 _ _ _ _ _
   | exact ih1 _
   | exact ih2 _
   | exact dancestudioref03_Same.mono _ _ _
   | exact geom_Cross.mono _ _ _ _ _ _ _
   | exact geom_Dist2.mono _ _ _ _ _
   | exact geom_Hull.mono _ _
   | exact geom_Inside.mono _ _ _ _
   | exact geom_Near.mono _ _ _ _ _ _ _ _
   | exact geom_Touch.mono _ _ _ _ _ _ _ _ _ _ _
   | exact LeO.none _
   | refine LeO.ite ?_ ?_
   | refine LeO.bind ?_ (fun _ => ?_)
theorem dancestudiolaw03_awake.mono : ∀ k, LeO (dancestudiolaw03_awake.f k ) (dancestudiolaw03_awake.f (k + 1) ) := by
 intro  k
 obtain ⟨ih0, ih1, ih2⟩ := dancestudiolaw03_awake.mono_l k
 unfold dancestudiolaw03_awake.f
 repeat' first
   | (with_reducible exact ih0 _ _ _ _ _)
   | (with_reducible exact ih1 _)
   | (with_reducible exact ih2 _)
   | (with_reducible exact dancestudioref03_Same.mono _ _ _)
   | (with_reducible exact geom_Cross.mono _ _ _ _ _ _ _)
   | (with_reducible exact geom_Dist2.mono _ _ _ _ _)
   | (with_reducible exact geom_Hull.mono _ _)
   | (with_reducible exact geom_Inside.mono _ _ _ _)
   | (with_reducible exact geom_Near.mono _ _ _ _ _ _ _ _)
   | (with_reducible exact geom_Touch.mono _ _ _ _ _ _ _ _ _ _ _)
   | (with_reducible exact LeO.refl _)
   | (with_reducible exact LeO.none _)
   | (with_reducible refine LeO.ite ?_ ?_)
   | (with_reducible refine LeO.bind ?_ (fun _ => ?_))
   | exact ih0 _ _ _ _ _
   | exact ih1 _
   | exact ih2 _
   | exact dancestudioref03_Same.mono _ _ _
   | exact geom_Cross.mono _ _ _ _ _ _ _
   | exact geom_Dist2.mono _ _ _ _ _
   | exact geom_Hull.mono _ _
   | exact geom_Inside.mono _ _ _ _
   | exact geom_Near.mono _ _ _ _ _ _ _ _
   | exact geom_Touch.mono _ _ _ _ _ _ _ _ _ _ _
   | exact LeO.none _
   | refine LeO.ite ?_ ?_
   | refine LeO.bind ?_ (fun _ => ?_)
set_option maxHeartbeats 8000000 in
set_option maxRecDepth 100000 in
theorem dancestudiolaw03_awake.calls (k : Nat)  (r : Bool) (w : World) (h : dancestudiolaw03_awake.f k  = some r) :
  Calls Try.prog 15 #[] w fun e w' => e = .returned (.bool r) ∧ Below w.heap.size w w' := by
 have hu23 := Try.underlying23
 have HB := Aside0.mk (Below.refl w.heap.size w)
 have H : ((geom_Dist2.f k 0 0 3 4).bind fun bt283 => ((geom_Cross.f k 0 0 1 0 0 1).bind fun bt285 => (if bt283.2 = 0 then (if bt285.2 = 0 then (if bt283.1 = 25 then (dancestudiolaw03_awake.j0 k (bt285.1 != 1) (-10) 0 10 0) else (dancestudiolaw03_awake.j0 k true (-10) 0 10 0)) else (dancestudiolaw03_awake.j0 k true (-10) 0 10 0)) else (dancestudiolaw03_awake.j0 k true (-10) 0 10 0)))) = some r := h
 clear h
 replace H := Option.bind_eq_some_iff.mp H
 obtain ⟨⟨t283, t284⟩, A10, H⟩ := H
 replace H : ((geom_Cross.f k 0 0 1 0 0 1).bind fun bt285 => (if t284 = 0 then (if bt285.2 = 0 then (if t283 = 25 then (dancestudiolaw03_awake.j0 k (bt285.1 != 1) (-10) 0 10 0) else (dancestudiolaw03_awake.j0 k true (-10) 0 10 0)) else (dancestudiolaw03_awake.j0 k true (-10) 0 10 0)) else (dancestudiolaw03_awake.j0 k true (-10) 0 10 0))) = some r := H
 have A1 := Aside0.mk A10
 clear A10
 replace H := Option.bind_eq_some_iff.mp H
 obtain ⟨⟨t285, t286⟩, A20, H⟩ := H
 replace H : (if t284 = 0 then (if t286 = 0 then (if t283 = 25 then (dancestudiolaw03_awake.j0 k (t285 != 1) (-10) 0 10 0) else (dancestudiolaw03_awake.j0 k true (-10) 0 10 0)) else (dancestudiolaw03_awake.j0 k true (-10) 0 10 0)) else (dancestudiolaw03_awake.j0 k true (-10) 0 10 0)) = some r := H
 have A2 := Aside0.mk A20
 clear A20
 have HC3 := Aside0.mk H
 clear H
 go_enter Try.func15, Try.ntmps15
 go_upto_region 4 with (first | ((with_reducible refine gate_dst (N := 1) rfl ?_); (try (refine gate_guard (by rfl) ?_; dsimp only)); refine box_event ?hg (N := 1) ?hd (cs := #[.int .i64 0, .int .i64 0]) (t := 23) ?hr ?_; (case hd => rfl); (case hg => rfl); (case hr => first | (go_simp; done) | (go_simp; rfl)); intro gb281 hg w4 hbox hb; have BK281 := Aside0.mk (hbox); have GW281 := Aside0.mk ((by rw [hg]; exact (below_size (by repeat (first | (with_reducible first | exact HB.out | apply below_alloc | apply pw_below_drewN | apply below_drew1) | exact HB.out))) : w.heap.size ≤ gb281)); have GE281 := GW281; replace HB := Aside0.mk (below_step (by repeat (first | (with_reducible first | exact HB.out | apply below_alloc | apply pw_below_drewN | apply below_drew1) | exact HB.out)) hb); clear hb hbox hg) | ((with_reducible refine gate_dst (N := 2) rfl ?_); (try (refine gate_guard (by rfl) ?_; dsimp only)); refine box_event ?hg (N := 2) ?hd (cs := #[.int .i64 0, .int .i64 0]) (t := 23) ?hr ?_; (case hd => rfl); (case hg => rfl); (case hr => first | (go_simp; done) | (go_simp; rfl)); intro gb282 hg w5 hbox hb; have BK282 := Aside0.mk (hbox); have GW282 := Aside0.mk ((by rw [hg]; exact (below_size (by repeat (first | (with_reducible first | exact HB.out | apply below_alloc | apply pw_below_drewN | apply below_drew1 | refine below_set ?_ GE281.out) | exact HB.out))) : w.heap.size ≤ gb282)); have GE282 := GW282; replace HB := Aside0.mk (below_step (by repeat (first | (with_reducible first | exact HB.out | apply below_alloc | apply pw_below_drewN | apply below_drew1 | refine below_set ?_ GE281.out) | exact HB.out)) hb); have NB281_282 := Aside0.mk ((by rw [hg]; exact Nat.ne_of_lt (blk_lt BK281.out) : gb281 ≠ gb282)); have NB282_281 := Aside0.mk NB281_282.out.symm; replace BK281 := Aside0.mk (blk_below BK281.out hb); clear hb hbox hg; have hnb6 := NB281_282.out; have hnc6 := NB282_281.out; have hcz7_0 : w5.cell? ⟨gb281, 0, none⟩ = some (.int .i64 0) := (blk_cell BK281.out 0).trans rfl; have hcz7_1 : w5.cell? ⟨gb281, 1, none⟩ = some (.int .i64 0) := (blk_cell BK281.out 1).trans rfl; have hfz7_0 := blk_frozen BK281.out 0; have hfz7_1 := blk_frozen BK281.out 1; have hcz8_0 : w5.cell? ⟨gb282, 0, none⟩ = some (.int .i64 0) := (blk_cell BK282.out 0).trans rfl; have hcz8_1 : w5.cell? ⟨gb282, 1, none⟩ = some (.int .i64 0) := (blk_cell BK282.out 1).trans rfl; have hfz8_0 := blk_frozen BK282.out 0; have hfz8_1 := blk_frozen BK282.out 1) | ((with_reducible refine gate_callee (f := 11) rfl ?_); refine goesL_ (some 24) rfl rfl Try.func11 (by kernel_rfl) rfl #[.agg #[.int .i64 0, .int .i64 0], .agg #[.int .i64 3, .int .i64 4]] rfl (by (try simp only [List.map_toArray, List.map_cons, List.map_nil]); first | done | rfl | (simp only [List.length_drop, List.length_take]; rfl)) ?_; (with_reducible refine (geom_Dist2.calls k 0 0 3 4 t283 t284 _ A1.out).mono ?_); rintro e w9 ⟨rfl, hb⟩; refine ⟨_, rfl, ?_⟩; replace BK281 := Aside0.mk (blk_below (g := gb281) (o := .cells #[.int .i64 (-10), .int .i64 0] 23 (0, 0)) (by (with_reducible repeat (first | refine blk_drewN ?_ _ | refine blk_drew ?_ | refine blk_alloc ?_ _)); refine blk_far ?_ NB281_282.out _; (with_reducible repeat (first | refine blk_drewN ?_ _ | refine blk_drew ?_ | refine blk_alloc ?_ _)); refine blk_far ?_ NB281_282.out _; (with_reducible repeat (first | refine blk_drewN ?_ _ | refine blk_drew ?_ | refine blk_alloc ?_ _)); refine blk_put (cs := #[.int .i64 (-10), .int .i64 0]) ?_ 1 _ rfl; (with_reducible repeat (first | refine blk_drewN ?_ _ | refine blk_drew ?_ | refine blk_alloc ?_ _)); refine blk_put (cs := #[.int .i64 0, .int .i64 0]) ?_ 0 _ rfl; (with_reducible repeat (first | refine blk_drewN ?_ _ | refine blk_drew ?_ | refine blk_alloc ?_ _)); exact BK281.out) hb); replace BK282 := Aside0.mk (blk_below (g := gb282) (o := .cells #[.int .i64 10, .int .i64 0] 23 (0, 0)) (by (with_reducible repeat (first | refine blk_drewN ?_ _ | refine blk_drew ?_ | refine blk_alloc ?_ _)); refine blk_put (cs := #[.int .i64 10, .int .i64 0]) ?_ 1 _ rfl; (with_reducible repeat (first | refine blk_drewN ?_ _ | refine blk_drew ?_ | refine blk_alloc ?_ _)); refine blk_put (cs := #[.int .i64 0, .int .i64 0]) ?_ 0 _ rfl; (with_reducible repeat (first | refine blk_drewN ?_ _ | refine blk_drew ?_ | refine blk_alloc ?_ _)); refine blk_far ?_ NB282_281.out _; (with_reducible repeat (first | refine blk_drewN ?_ _ | refine blk_drew ?_ | refine blk_alloc ?_ _)); refine blk_far ?_ NB282_281.out _; (with_reducible repeat (first | refine blk_drewN ?_ _ | refine blk_drew ?_ | refine blk_alloc ?_ _)); exact BK282.out) hb); replace HB := Aside0.mk (below_step (by repeat (first | (with_reducible first | exact HB.out | apply below_alloc | apply pw_below_drewN | apply below_drew1 | refine below_set ?_ GE281.out | refine below_set ?_ GE282.out) | exact HB.out)) hb); (try clear hb); (try clear hb2); (try clear hk); (try clear hi)) | ((with_reducible refine gate_callee (f := 13) rfl ?_); refine goesL_ (some 31) rfl rfl Try.func13 (by kernel_rfl) rfl #[.agg #[.int .i64 0, .int .i64 0], .agg #[.int .i64 1, .int .i64 0], .agg #[.int .i64 0, .int .i64 1]] rfl (by (try simp only [List.map_toArray, List.map_cons, List.map_nil]); first | done | rfl | (simp only [List.length_drop, List.length_take]; rfl)) ?_; (with_reducible refine (geom_Cross.calls k 0 0 1 0 0 1 t285 t286 _ A2.out).mono ?_); rintro e w10 ⟨rfl, hb⟩; refine ⟨_, rfl, ?_⟩; replace BK281 := Aside0.mk (blk_below BK281.out hb); replace BK282 := Aside0.mk (blk_below BK282.out hb); replace HB := Aside0.mk (below_step (by repeat (first | (with_reducible first | exact HB.out | apply below_alloc | apply pw_below_drewN | apply below_drew1 | refine below_set ?_ GE281.out | refine below_set ?_ GE282.out) | exact HB.out)) hb); (try clear hb); (try clear hb2); (try clear hk); (try clear hi)))
 (try simp only [Act.put, List.setIfInBounds_toArray, List.set_cons_zero, List.set_cons_succ])
 go_cut [47] (fun v47 wc => ∃ (kq : Nat) (x47_2 : Bool), v47 = .bool x47_2 ∧ Aside0 (dancestudiolaw03_awake.j0 kq x47_2 (-10) 0 10 0 = some r) ∧ Aside0 (kq ≤ k) ∧ Aside0 (wc.heap[gb281]? = some (.cells #[.int .i64 (-10), .int .i64 0] 23 (0, 0))) ∧ Aside0 (wc.heap[gb282]? = some (.cells #[.int .i64 10, .int .i64 0] 23 (0, 0))) ∧ Aside0 (Below w.heap.size w wc))
 case first =>
  have H := HC3.out
  clear HC3
  by_cases c11 : t284 = 0
  rotate_left
  ·
   rw [if_neg c11] at H
   have c11b0 : (t284 == 0) = false := beq_eq_false_iff_ne.mpr c11
   have c11b1 : (t284 != 0) = true := bne_iff_ne.mpr c11
   (first | rw [c11b0] | (simp only [i64_w, i32_w]; rw [c11b0]) | skip)
   have H' := Aside0.mk H
   clear H
   go_wp2
   go_meet
   case rel => exact ⟨_, (true), (by first | rfl | (simp; done) | (simp [*]; done)), H', ⟨by first | omega | exact Nat.le_refl _⟩, ⟨BK281.out⟩, ⟨BK282.out⟩, ⟨HB.out⟩⟩
  rw [if_pos c11] at H
  have c11b0 : (t284 == 0) = true := beq_iff_eq.mpr c11
  have c11b1 : (t284 != 0) = false := bne_eq_false_iff_eq.mpr c11
  clear c11
  (first | rw [c11b0] | (simp only [i64_w, i32_w]; rw [c11b0]) | skip)
  by_cases c12 : t286 = 0
  rotate_left
  ·
   rw [if_neg c12] at H
   have c12b0 : (t286 == 0) = false := beq_eq_false_iff_ne.mpr c12
   have c12b1 : (t286 != 0) = true := bne_iff_ne.mpr c12
   have H' := Aside0.mk H
   clear H
   go_wp2
   go_meet
   case rel => exact ⟨_, (true), (by first | rfl | (simp; done) | (simp [*]; done)), H', ⟨by first | omega | exact Nat.le_refl _⟩, ⟨BK281.out⟩, ⟨BK282.out⟩, ⟨HB.out⟩⟩
  rw [if_pos c12] at H
  have c12b0 : (t286 == 0) = true := beq_iff_eq.mpr c12
  have c12b1 : (t286 != 0) = false := bne_eq_false_iff_eq.mpr c12
  clear c12
  by_cases c13 : t283 = 25
  rotate_left
  ·
   rw [if_neg c13] at H
   have c13b0 : (t283 == 25) = false := beq_eq_false_iff_ne.mpr c13
   have c13b1 : (t283 != 25) = true := bne_iff_ne.mpr c13
   have H' := Aside0.mk H
   clear H
   go_wp2
   go_meet
   case rel => exact ⟨_, (true), (by first | rfl | (simp; done) | (simp [*]; done)), H', ⟨by first | omega | exact Nat.le_refl _⟩, ⟨BK281.out⟩, ⟨BK282.out⟩, ⟨HB.out⟩⟩
  rw [if_pos c13] at H
  have c13b0 : (t283 == 25) = true := beq_iff_eq.mpr c13
  have c13b1 : (t283 != 25) = false := bne_eq_false_iff_eq.mpr c13
  clear c13
  have H' := Aside0.mk H
  clear H
  go_wp2
  go_meet
  case rel => exact ⟨_, ((t285 != 1)), (by first | rfl | (simp; done) | (simp [*]; done)), H', ⟨by first | omega | exact Nat.le_refl _⟩, ⟨BK281.out⟩, ⟨BK282.out⟩, ⟨HB.out⟩⟩
 case rest =>
  clear HC3; try clear c1; try clear p2; try clear c6; try clear c11; try clear c11b0; try clear c11b1; try clear c12; try clear c12b0; try clear c12b1; try clear c13; try clear c13b0; try clear c13b1; try clear hcz7_0; try clear hcz7_1; try clear hcz8_0; try clear hcz8_1; try clear hfz7_0; try clear hfz7_1; try clear hfz8_0; try clear hfz8_1
  obtain ⟨kq, x47_2, rfl, HA, HJ2, BK281, BK282, HB⟩ := hcut
  cases kq with
  | zero => exact absurd HA.out (by simp [dancestudiolaw03_awake.j0])
  | succ kj2 =>
   have H := HA.out
   clear HA
   simp only [dancestudiolaw03_awake.j0] at H
   by_cases c14 : x47_2 = true
   ·
    subst c14
    have H1 : (none) = some r := by rw [if_pos rfl] at H; exact H
    clear H
    have H := H1
    clear H1
    exact absurd H (by simp)
   replace c14 := Bool.eq_false_iff.mpr c14
   subst c14
   have H1 : ((geom_Near.f kj2 0 5 (-10) 0 10 0 5).bind fun bt287 => ((geom_Near.f kj2 0 5 (-10) 0 10 0 4).bind fun bt289 => ((geom_Near.f kj2 13 4 (-10) 0 10 0 5).bind fun bt291 => ((geom_Near.f kj2 13 4 (-10) 0 10 0 4).bind fun bt293 => (if bt287.2 = 0 then (if bt289.2 = 0 then (if bt291.2 = 0 then (if bt293.2 = 0 then (if bt287.1 = true then (if bt289.1 = true then (dancestudiolaw03_awake.j1 kj2 true) else (if bt291.1 = true then (dancestudiolaw03_awake.j1 kj2 bt293.1) else (dancestudiolaw03_awake.j1 kj2 true))) else (dancestudiolaw03_awake.j1 kj2 true)) else (dancestudiolaw03_awake.j1 kj2 true)) else (dancestudiolaw03_awake.j1 kj2 true)) else (dancestudiolaw03_awake.j1 kj2 true)) else (dancestudiolaw03_awake.j1 kj2 true)))))) = some r := by rw [if_neg (show ¬ (false = true) by decide)] at H; exact H
   clear H
   have H := H1
   clear H1
   replace H := Option.bind_eq_some_iff.mp H
   obtain ⟨⟨t287, t288⟩, A150, H⟩ := H
   replace H : ((geom_Near.f kj2 0 5 (-10) 0 10 0 4).bind fun bt289 => ((geom_Near.f kj2 13 4 (-10) 0 10 0 5).bind fun bt291 => ((geom_Near.f kj2 13 4 (-10) 0 10 0 4).bind fun bt293 => (if t288 = 0 then (if bt289.2 = 0 then (if bt291.2 = 0 then (if bt293.2 = 0 then (if t287 = true then (if bt289.1 = true then (dancestudiolaw03_awake.j1 kj2 true) else (if bt291.1 = true then (dancestudiolaw03_awake.j1 kj2 bt293.1) else (dancestudiolaw03_awake.j1 kj2 true))) else (dancestudiolaw03_awake.j1 kj2 true)) else (dancestudiolaw03_awake.j1 kj2 true)) else (dancestudiolaw03_awake.j1 kj2 true)) else (dancestudiolaw03_awake.j1 kj2 true)) else (dancestudiolaw03_awake.j1 kj2 true))))) = some r := H
   have A15 := Aside0.mk A150
   clear A150
   replace H := Option.bind_eq_some_iff.mp H
   obtain ⟨⟨t289, t290⟩, A160, H⟩ := H
   replace H : ((geom_Near.f kj2 13 4 (-10) 0 10 0 5).bind fun bt291 => ((geom_Near.f kj2 13 4 (-10) 0 10 0 4).bind fun bt293 => (if t288 = 0 then (if t290 = 0 then (if bt291.2 = 0 then (if bt293.2 = 0 then (if t287 = true then (if t289 = true then (dancestudiolaw03_awake.j1 kj2 true) else (if bt291.1 = true then (dancestudiolaw03_awake.j1 kj2 bt293.1) else (dancestudiolaw03_awake.j1 kj2 true))) else (dancestudiolaw03_awake.j1 kj2 true)) else (dancestudiolaw03_awake.j1 kj2 true)) else (dancestudiolaw03_awake.j1 kj2 true)) else (dancestudiolaw03_awake.j1 kj2 true)) else (dancestudiolaw03_awake.j1 kj2 true)))) = some r := H
   have A16 := Aside0.mk A160
   clear A160
   replace H := Option.bind_eq_some_iff.mp H
   obtain ⟨⟨t291, t292⟩, A170, H⟩ := H
   replace H : ((geom_Near.f kj2 13 4 (-10) 0 10 0 4).bind fun bt293 => (if t288 = 0 then (if t290 = 0 then (if t292 = 0 then (if bt293.2 = 0 then (if t287 = true then (if t289 = true then (dancestudiolaw03_awake.j1 kj2 true) else (if t291 = true then (dancestudiolaw03_awake.j1 kj2 bt293.1) else (dancestudiolaw03_awake.j1 kj2 true))) else (dancestudiolaw03_awake.j1 kj2 true)) else (dancestudiolaw03_awake.j1 kj2 true)) else (dancestudiolaw03_awake.j1 kj2 true)) else (dancestudiolaw03_awake.j1 kj2 true)) else (dancestudiolaw03_awake.j1 kj2 true))) = some r := H
   have A17 := Aside0.mk A170
   clear A170
   replace H := Option.bind_eq_some_iff.mp H
   obtain ⟨⟨t293, t294⟩, A180, H⟩ := H
   replace H : (if t288 = 0 then (if t290 = 0 then (if t292 = 0 then (if t294 = 0 then (if t287 = true then (if t289 = true then (dancestudiolaw03_awake.j1 kj2 true) else (if t291 = true then (dancestudiolaw03_awake.j1 kj2 t293) else (dancestudiolaw03_awake.j1 kj2 true))) else (dancestudiolaw03_awake.j1 kj2 true)) else (dancestudiolaw03_awake.j1 kj2 true)) else (dancestudiolaw03_awake.j1 kj2 true)) else (dancestudiolaw03_awake.j1 kj2 true)) else (dancestudiolaw03_awake.j1 kj2 true)) = some r := H
   have A18 := Aside0.mk A180
   clear A180
   have HC19 := Aside0.mk H
   clear H
   have hnb20 := NB281_282.out
   have hnc20 := NB282_281.out
   have hcz21_0 : wc.cell? ⟨gb281, 0, none⟩ = some (.int .i64 (-10)) := (blk_cell BK281.out 0).trans rfl
   have hcz21_1 : wc.cell? ⟨gb281, 1, none⟩ = some (.int .i64 0) := (blk_cell BK281.out 1).trans rfl
   have hfz21_0 := blk_frozen BK281.out 0
   have hfz21_1 := blk_frozen BK281.out 1
   have hcz22_0 : wc.cell? ⟨gb282, 0, none⟩ = some (.int .i64 10) := (blk_cell BK282.out 0).trans rfl
   have hcz22_1 : wc.cell? ⟨gb282, 1, none⟩ = some (.int .i64 0) := (blk_cell BK282.out 1).trans rfl
   have hfz22_0 := blk_frozen BK282.out 0
   have hfz22_1 := blk_frozen BK282.out 1
   go_upto_region 10 with (first | ((with_reducible refine gate_callee (f := 16) rfl ?_); refine goesL_ (some 52) rfl rfl Try.func16 (by kernel_rfl) rfl #[.agg #[.int .i64 0, .int .i64 5], .agg #[.int .i64 (-10), .int .i64 0], .agg #[.int .i64 10, .int .i64 0], .int .i64 5] rfl (by (try simp only [List.map_toArray, List.map_cons, List.map_nil]); first | done | rfl | (simp only [List.length_drop, List.length_take]; rfl)) ?_; (with_reducible refine (geom_Near.calls kj2 0 5 (-10) 0 10 0 5 t287 t288 _ A15.out).mono ?_); rintro e w23 ⟨rfl, hb⟩; refine ⟨_, rfl, ?_⟩; replace BK281 := Aside0.mk (blk_below BK281.out hb); replace BK282 := Aside0.mk (blk_below BK282.out hb); replace HB := Aside0.mk (below_step HB.out hb); (try clear hb); (try clear hb2); (try clear hk); (try clear hi); have hcz24_0 : w23.cell? ⟨gb281, 0, none⟩ = some (.int .i64 (-10)) := (blk_cell BK281.out 0).trans rfl; have hcz24_1 : w23.cell? ⟨gb281, 1, none⟩ = some (.int .i64 0) := (blk_cell BK281.out 1).trans rfl; have hfz24_0 := blk_frozen BK281.out 0; have hfz24_1 := blk_frozen BK281.out 1; have hcz25_0 : w23.cell? ⟨gb282, 0, none⟩ = some (.int .i64 10) := (blk_cell BK282.out 0).trans rfl; have hcz25_1 : w23.cell? ⟨gb282, 1, none⟩ = some (.int .i64 0) := (blk_cell BK282.out 1).trans rfl; have hfz25_0 := blk_frozen BK282.out 0; have hfz25_1 := blk_frozen BK282.out 1) | ((with_reducible refine gate_callee (f := 16) rfl ?_); refine goesL_ (some 59) rfl rfl Try.func16 (by kernel_rfl) rfl #[.agg #[.int .i64 0, .int .i64 5], .agg #[.int .i64 (-10), .int .i64 0], .agg #[.int .i64 10, .int .i64 0], .int .i64 4] rfl (by (try simp only [List.map_toArray, List.map_cons, List.map_nil]); first | done | rfl | (simp only [List.length_drop, List.length_take]; rfl)) ?_; (with_reducible refine (geom_Near.calls kj2 0 5 (-10) 0 10 0 4 t289 t290 _ A16.out).mono ?_); rintro e w26 ⟨rfl, hb⟩; refine ⟨_, rfl, ?_⟩; replace BK281 := Aside0.mk (blk_below BK281.out hb); replace BK282 := Aside0.mk (blk_below BK282.out hb); replace HB := Aside0.mk (below_step HB.out hb); (try clear hb); (try clear hb2); (try clear hk); (try clear hi); have hcz27_0 : w26.cell? ⟨gb281, 0, none⟩ = some (.int .i64 (-10)) := (blk_cell BK281.out 0).trans rfl; have hcz27_1 : w26.cell? ⟨gb281, 1, none⟩ = some (.int .i64 0) := (blk_cell BK281.out 1).trans rfl; have hfz27_0 := blk_frozen BK281.out 0; have hfz27_1 := blk_frozen BK281.out 1; have hcz28_0 : w26.cell? ⟨gb282, 0, none⟩ = some (.int .i64 10) := (blk_cell BK282.out 0).trans rfl; have hcz28_1 : w26.cell? ⟨gb282, 1, none⟩ = some (.int .i64 0) := (blk_cell BK282.out 1).trans rfl; have hfz28_0 := blk_frozen BK282.out 0; have hfz28_1 := blk_frozen BK282.out 1) | ((with_reducible refine gate_callee (f := 16) rfl ?_); refine goesL_ (some 66) rfl rfl Try.func16 (by kernel_rfl) rfl #[.agg #[.int .i64 13, .int .i64 4], .agg #[.int .i64 (-10), .int .i64 0], .agg #[.int .i64 10, .int .i64 0], .int .i64 5] rfl (by (try simp only [List.map_toArray, List.map_cons, List.map_nil]); first | done | rfl | (simp only [List.length_drop, List.length_take]; rfl)) ?_; (with_reducible refine (geom_Near.calls kj2 13 4 (-10) 0 10 0 5 t291 t292 _ A17.out).mono ?_); rintro e w29 ⟨rfl, hb⟩; refine ⟨_, rfl, ?_⟩; replace BK281 := Aside0.mk (blk_below BK281.out hb); replace BK282 := Aside0.mk (blk_below BK282.out hb); replace HB := Aside0.mk (below_step HB.out hb); (try clear hb); (try clear hb2); (try clear hk); (try clear hi); have hcz30_0 : w29.cell? ⟨gb281, 0, none⟩ = some (.int .i64 (-10)) := (blk_cell BK281.out 0).trans rfl; have hcz30_1 : w29.cell? ⟨gb281, 1, none⟩ = some (.int .i64 0) := (blk_cell BK281.out 1).trans rfl; have hfz30_0 := blk_frozen BK281.out 0; have hfz30_1 := blk_frozen BK281.out 1; have hcz31_0 : w29.cell? ⟨gb282, 0, none⟩ = some (.int .i64 10) := (blk_cell BK282.out 0).trans rfl; have hcz31_1 : w29.cell? ⟨gb282, 1, none⟩ = some (.int .i64 0) := (blk_cell BK282.out 1).trans rfl; have hfz31_0 := blk_frozen BK282.out 0; have hfz31_1 := blk_frozen BK282.out 1) | ((with_reducible refine gate_callee (f := 16) rfl ?_); refine goesL_ (some 73) rfl rfl Try.func16 (by kernel_rfl) rfl #[.agg #[.int .i64 13, .int .i64 4], .agg #[.int .i64 (-10), .int .i64 0], .agg #[.int .i64 10, .int .i64 0], .int .i64 4] rfl (by (try simp only [List.map_toArray, List.map_cons, List.map_nil]); first | done | rfl | (simp only [List.length_drop, List.length_take]; rfl)) ?_; (with_reducible refine (geom_Near.calls kj2 13 4 (-10) 0 10 0 4 t293 t294 _ A18.out).mono ?_); rintro e w32 ⟨rfl, hb⟩; refine ⟨_, rfl, ?_⟩; replace BK281 := Aside0.mk (blk_below BK281.out hb); replace BK282 := Aside0.mk (blk_below BK282.out hb); replace HB := Aside0.mk (below_step HB.out hb); (try clear hb); (try clear hb2); (try clear hk); (try clear hi)))
   (try simp only [Act.put, List.setIfInBounds_toArray, List.set_cons_zero, List.set_cons_succ])
   go_cut [103] (fun v103 wc => ∃ (kq : Nat) (x103_18 : Bool), v103 = .bool x103_18 ∧ Aside0 (dancestudiolaw03_awake.j1 kq x103_18 = some r) ∧ Aside0 (kq ≤ kj2) ∧ Aside0 (wc.heap[gb281]? = some (.cells #[.int .i64 (-10), .int .i64 0] 23 (0, 0))) ∧ Aside0 (wc.heap[gb282]? = some (.cells #[.int .i64 10, .int .i64 0] 23 (0, 0))) ∧ Aside0 (Below w.heap.size w wc))
   case first =>
    have H := HC19.out
    clear HC19
    by_cases c33 : t288 = 0
    rotate_left
    ·
     rw [if_neg c33] at H
     have c33b0 : (t288 == 0) = false := beq_eq_false_iff_ne.mpr c33
     have c33b1 : (t288 != 0) = true := bne_iff_ne.mpr c33
     (first | rw [c33b0] | (simp only [i64_w, i32_w]; rw [c33b0]) | skip)
     have H' := Aside0.mk H
     clear H
     go_wp2
     go_meet
     case rel => exact ⟨_, (true), (by first | rfl | (simp; done) | (simp [*]; done)), H', ⟨by have := HJ2.out; first | omega | exact Nat.le_refl _⟩, ⟨BK281.out⟩, ⟨BK282.out⟩, ⟨HB.out⟩⟩
    rw [if_pos c33] at H
    have c33b0 : (t288 == 0) = true := beq_iff_eq.mpr c33
    have c33b1 : (t288 != 0) = false := bne_eq_false_iff_eq.mpr c33
    clear c33
    (first | rw [c33b0] | (simp only [i64_w, i32_w]; rw [c33b0]) | skip)
    by_cases c34 : t290 = 0
    rotate_left
    ·
     rw [if_neg c34] at H
     have c34b0 : (t290 == 0) = false := beq_eq_false_iff_ne.mpr c34
     have c34b1 : (t290 != 0) = true := bne_iff_ne.mpr c34
     have H' := Aside0.mk H
     clear H
     go_wp2
     go_meet
     case rel => exact ⟨_, (true), (by first | rfl | (simp; done) | (simp [*]; done)), H', ⟨by have := HJ2.out; first | omega | exact Nat.le_refl _⟩, ⟨BK281.out⟩, ⟨BK282.out⟩, ⟨HB.out⟩⟩
    rw [if_pos c34] at H
    have c34b0 : (t290 == 0) = true := beq_iff_eq.mpr c34
    have c34b1 : (t290 != 0) = false := bne_eq_false_iff_eq.mpr c34
    clear c34
    by_cases c35 : t292 = 0
    rotate_left
    ·
     rw [if_neg c35] at H
     have c35b0 : (t292 == 0) = false := beq_eq_false_iff_ne.mpr c35
     have c35b1 : (t292 != 0) = true := bne_iff_ne.mpr c35
     have H' := Aside0.mk H
     clear H
     go_wp2
     go_meet
     case rel => exact ⟨_, (true), (by first | rfl | (simp; done) | (simp [*]; done)), H', ⟨by have := HJ2.out; first | omega | exact Nat.le_refl _⟩, ⟨BK281.out⟩, ⟨BK282.out⟩, ⟨HB.out⟩⟩
    rw [if_pos c35] at H
    have c35b0 : (t292 == 0) = true := beq_iff_eq.mpr c35
    have c35b1 : (t292 != 0) = false := bne_eq_false_iff_eq.mpr c35
    clear c35
    by_cases c36 : t294 = 0
    rotate_left
    ·
     rw [if_neg c36] at H
     have c36b0 : (t294 == 0) = false := beq_eq_false_iff_ne.mpr c36
     have c36b1 : (t294 != 0) = true := bne_iff_ne.mpr c36
     have H' := Aside0.mk H
     clear H
     go_wp2
     go_meet
     case rel => exact ⟨_, (true), (by first | rfl | (simp; done) | (simp [*]; done)), H', ⟨by have := HJ2.out; first | omega | exact Nat.le_refl _⟩, ⟨BK281.out⟩, ⟨BK282.out⟩, ⟨HB.out⟩⟩
    rw [if_pos c36] at H
    have c36b0 : (t294 == 0) = true := beq_iff_eq.mpr c36
    have c36b1 : (t294 != 0) = false := bne_eq_false_iff_eq.mpr c36
    clear c36
    by_cases c37 : t287 = true
    rotate_left
    ·
     replace c37 := Bool.eq_false_iff.mpr c37
     subst c37
     have H1 : (dancestudiolaw03_awake.j1 kj2 true) = some r := by rw [if_neg (show ¬ (false = true) by decide)] at H; exact H
     clear H
     have H := H1
     clear H1
     have H' := Aside0.mk H
     clear H
     go_wp2
     go_meet
     case rel => exact ⟨_, (true), (by first | rfl | (simp; done) | (simp [*]; done)), H', ⟨by have := HJ2.out; first | omega | exact Nat.le_refl _⟩, ⟨BK281.out⟩, ⟨BK282.out⟩, ⟨HB.out⟩⟩
    subst c37
    have H1 : (if t289 = true then (dancestudiolaw03_awake.j1 kj2 true) else (if t291 = true then (dancestudiolaw03_awake.j1 kj2 t293) else (dancestudiolaw03_awake.j1 kj2 true))) = some r := by rw [if_pos rfl] at H; exact H
    clear H
    have H := H1
    clear H1
    by_cases c38 : t289 = true
    ·
     subst c38
     have H1 : (dancestudiolaw03_awake.j1 kj2 true) = some r := by rw [if_pos rfl] at H; exact H
     clear H
     have H := H1
     clear H1
     have H' := Aside0.mk H
     clear H
     go_wp2
     go_meet
     case rel => exact ⟨_, (true), (by first | rfl | (simp; done) | (simp [*]; done)), H', ⟨by have := HJ2.out; first | omega | exact Nat.le_refl _⟩, ⟨BK281.out⟩, ⟨BK282.out⟩, ⟨HB.out⟩⟩
    replace c38 := Bool.eq_false_iff.mpr c38
    subst c38
    have H1 : (if t291 = true then (dancestudiolaw03_awake.j1 kj2 t293) else (dancestudiolaw03_awake.j1 kj2 true)) = some r := by rw [if_neg (show ¬ (false = true) by decide)] at H; exact H
    clear H
    have H := H1
    clear H1
    by_cases c39 : t291 = true
    ·
     subst c39
     have H1 : (dancestudiolaw03_awake.j1 kj2 t293) = some r := by rw [if_pos rfl] at H; exact H
     clear H
     have H := H1
     clear H1
     have H' := Aside0.mk H
     clear H
     go_wp2
     go_meet
     case rel => exact ⟨_, (t293), (by first | rfl | (simp; done) | (simp [*]; done)), H', ⟨by have := HJ2.out; first | omega | exact Nat.le_refl _⟩, ⟨BK281.out⟩, ⟨BK282.out⟩, ⟨HB.out⟩⟩
    replace c39 := Bool.eq_false_iff.mpr c39
    subst c39
    have H1 : (dancestudiolaw03_awake.j1 kj2 true) = some r := by rw [if_neg (show ¬ (false = true) by decide)] at H; exact H
    clear H
    have H := H1
    clear H1
    have H' := Aside0.mk H
    clear H
    go_wp2
    go_meet
    case rel => exact ⟨_, (true), (by first | rfl | (simp; done) | (simp [*]; done)), H', ⟨by have := HJ2.out; first | omega | exact Nat.le_refl _⟩, ⟨BK281.out⟩, ⟨BK282.out⟩, ⟨HB.out⟩⟩
   case rest =>
    clear HC19; try clear c1; try clear c2; try clear p2; try clear c3; try clear c6; try clear c11; try clear c11b0; try clear c11b1; try clear c12; try clear c12b0; try clear c12b1; try clear c13; try clear c13b0; try clear c13b1; try clear c14; try clear c15; try clear c16; try clear c20; try clear c33; try clear c33b0; try clear c33b1; try clear c34; try clear c34b0; try clear c34b1; try clear c35; try clear c35b0; try clear c35b1; try clear c36; try clear c36b0; try clear c36b1; try clear c37; try clear c38; try clear c39; try clear hcz21_0; try clear hcz21_1; try clear hcz22_0; try clear hcz22_1; try clear hcz24_0; try clear hcz24_1; try clear hcz25_0; try clear hcz25_1; try clear hcz27_0; try clear hcz27_1; try clear hcz28_0; try clear hcz28_1; try clear hcz30_0; try clear hcz30_1; try clear hcz31_0; try clear hcz31_1; try clear hcz7_0; try clear hcz7_1; try clear hcz8_0; try clear hcz8_1; try clear hfz21_0; try clear hfz21_1; try clear hfz22_0; try clear hfz22_1; try clear hfz24_0; try clear hfz24_1; try clear hfz25_0; try clear hfz25_1; try clear hfz27_0; try clear hfz27_1; try clear hfz28_0; try clear hfz28_1; try clear hfz30_0; try clear hfz30_1; try clear hfz31_0; try clear hfz31_1; try clear hfz7_0; try clear hfz7_1; try clear hfz8_0; try clear hfz8_1
    obtain ⟨kq, x103_18, rfl, HA, HJ18, BK281, BK282, HB⟩ := hcut
    cases kq with
    | zero => exact absurd HA.out (by simp [dancestudiolaw03_awake.j1])
    | succ kj18 =>
     have H := HA.out
     clear HA
     simp only [dancestudiolaw03_awake.j1] at H
     by_cases c40 : x103_18 = true
     ·
      subst c40
      have H1 : (none) = some r := by rw [if_pos rfl] at H; exact H
      clear H
      have H := H1
      clear H1
      exact absurd H (by simp)
     replace c40 := Bool.eq_false_iff.mpr c40
     subst c40
     have H1 : ((dancestudiolaw03_disc.f 0 0 0 1000).bind fun bt295 => ((dancestudiolaw03_disc.f 600 1000 600 0).bind fun bt300 => ((geom_Touch.f kj18 bt295.1 bt295.2.1 bt295.2.2.1 bt295.2.2.2.1 bt295.2.2.2.2 bt300.1 bt300.2.1 bt300.2.2.1 bt300.2.2.2.1 bt300.2.2.2.2).bind fun bt305 => ((dancestudiolaw03_disc.f 0 0 0 1000).bind fun bt307 => ((dancestudiolaw03_disc.f 599 1000 599 0).bind fun bt312 => ((geom_Touch.f kj18 bt307.1 bt307.2.1 bt307.2.2.1 bt307.2.2.2.1 bt307.2.2.2.2 bt312.1 bt312.2.1 bt312.2.2.1 bt312.2.2.2.1 bt312.2.2.2.2).bind fun bt317 => (if bt305.2 = 0 then (if bt317.2 = 0 then (if bt305.1 = true then (dancestudiolaw03_awake.j2 kj18 true) else (dancestudiolaw03_awake.j2 kj18 (!bt317.1))) else (dancestudiolaw03_awake.j2 kj18 true)) else (dancestudiolaw03_awake.j2 kj18 true)))))))) = some r := by rw [if_neg (show ¬ (false = true) by decide)] at H; exact H
     clear H
     have H := H1
     clear H1
     replace H := Option.bind_eq_some_iff.mp H
     obtain ⟨⟨t295, t296, t297, t298, t299⟩, A410, H⟩ := H
     replace H : ((dancestudiolaw03_disc.f 600 1000 600 0).bind fun bt300 => ((geom_Touch.f kj18 t295 t296 t297 t298 t299 bt300.1 bt300.2.1 bt300.2.2.1 bt300.2.2.2.1 bt300.2.2.2.2).bind fun bt305 => ((dancestudiolaw03_disc.f 0 0 0 1000).bind fun bt307 => ((dancestudiolaw03_disc.f 599 1000 599 0).bind fun bt312 => ((geom_Touch.f kj18 bt307.1 bt307.2.1 bt307.2.2.1 bt307.2.2.2.1 bt307.2.2.2.2 bt312.1 bt312.2.1 bt312.2.2.1 bt312.2.2.2.1 bt312.2.2.2.2).bind fun bt317 => (if bt305.2 = 0 then (if bt317.2 = 0 then (if bt305.1 = true then (dancestudiolaw03_awake.j2 kj18 true) else (dancestudiolaw03_awake.j2 kj18 (!bt317.1))) else (dancestudiolaw03_awake.j2 kj18 true)) else (dancestudiolaw03_awake.j2 kj18 true))))))) = some r := H
     have A41 := Aside0.mk A410
     clear A410
     replace H := Option.bind_eq_some_iff.mp H
     obtain ⟨⟨t300, t301, t302, t303, t304⟩, A420, H⟩ := H
     replace H : ((geom_Touch.f kj18 t295 t296 t297 t298 t299 t300 t301 t302 t303 t304).bind fun bt305 => ((dancestudiolaw03_disc.f 0 0 0 1000).bind fun bt307 => ((dancestudiolaw03_disc.f 599 1000 599 0).bind fun bt312 => ((geom_Touch.f kj18 bt307.1 bt307.2.1 bt307.2.2.1 bt307.2.2.2.1 bt307.2.2.2.2 bt312.1 bt312.2.1 bt312.2.2.1 bt312.2.2.2.1 bt312.2.2.2.2).bind fun bt317 => (if bt305.2 = 0 then (if bt317.2 = 0 then (if bt305.1 = true then (dancestudiolaw03_awake.j2 kj18 true) else (dancestudiolaw03_awake.j2 kj18 (!bt317.1))) else (dancestudiolaw03_awake.j2 kj18 true)) else (dancestudiolaw03_awake.j2 kj18 true)))))) = some r := H
     have A42 := Aside0.mk A420
     clear A420
     replace H := Option.bind_eq_some_iff.mp H
     obtain ⟨⟨t305, t306⟩, A430, H⟩ := H
     replace H : ((dancestudiolaw03_disc.f 0 0 0 1000).bind fun bt307 => ((dancestudiolaw03_disc.f 599 1000 599 0).bind fun bt312 => ((geom_Touch.f kj18 bt307.1 bt307.2.1 bt307.2.2.1 bt307.2.2.2.1 bt307.2.2.2.2 bt312.1 bt312.2.1 bt312.2.2.1 bt312.2.2.2.1 bt312.2.2.2.2).bind fun bt317 => (if t306 = 0 then (if bt317.2 = 0 then (if t305 = true then (dancestudiolaw03_awake.j2 kj18 true) else (dancestudiolaw03_awake.j2 kj18 (!bt317.1))) else (dancestudiolaw03_awake.j2 kj18 true)) else (dancestudiolaw03_awake.j2 kj18 true))))) = some r := H
     have A43 := Aside0.mk A430
     clear A430
     replace H := Option.bind_eq_some_iff.mp H
     obtain ⟨⟨t307, t308, t309, t310, t311⟩, A440, H⟩ := H
     replace H : ((dancestudiolaw03_disc.f 599 1000 599 0).bind fun bt312 => ((geom_Touch.f kj18 t307 t308 t309 t310 t311 bt312.1 bt312.2.1 bt312.2.2.1 bt312.2.2.2.1 bt312.2.2.2.2).bind fun bt317 => (if t306 = 0 then (if bt317.2 = 0 then (if t305 = true then (dancestudiolaw03_awake.j2 kj18 true) else (dancestudiolaw03_awake.j2 kj18 (!bt317.1))) else (dancestudiolaw03_awake.j2 kj18 true)) else (dancestudiolaw03_awake.j2 kj18 true)))) = some r := H
     have A44 := Aside0.mk A440
     clear A440
     replace H := Option.bind_eq_some_iff.mp H
     obtain ⟨⟨t312, t313, t314, t315, t316⟩, A450, H⟩ := H
     replace H : ((geom_Touch.f kj18 t307 t308 t309 t310 t311 t312 t313 t314 t315 t316).bind fun bt317 => (if t306 = 0 then (if bt317.2 = 0 then (if t305 = true then (dancestudiolaw03_awake.j2 kj18 true) else (dancestudiolaw03_awake.j2 kj18 (!bt317.1))) else (dancestudiolaw03_awake.j2 kj18 true)) else (dancestudiolaw03_awake.j2 kj18 true))) = some r := H
     have A45 := Aside0.mk A450
     clear A450
     replace H := Option.bind_eq_some_iff.mp H
     obtain ⟨⟨t317, t318⟩, A460, H⟩ := H
     replace H : (if t306 = 0 then (if t318 = 0 then (if t305 = true then (dancestudiolaw03_awake.j2 kj18 true) else (dancestudiolaw03_awake.j2 kj18 (!t317))) else (dancestudiolaw03_awake.j2 kj18 true)) else (dancestudiolaw03_awake.j2 kj18 true)) = some r := H
     have A46 := Aside0.mk A460
     clear A460
     have HC47 := Aside0.mk H
     clear H
     go_upto_region 14 with (first | ((with_reducible refine gate_callee (f := 35) rfl ?_); refine goesL_ (some 105) rfl rfl Try.func35 (by kernel_rfl) rfl #[.int .i64 0, .int .i64 0, .int .i64 0, .int .i64 1000] rfl (by (try simp only [List.map_toArray, List.map_cons, List.map_nil]); first | done | rfl | (simp only [List.length_drop, List.length_take]; rfl)) ?_; (with_reducible refine (dancestudiolaw03_disc.calls 0 0 0 1000 t295 t296 t297 t298 t299 _ A41.out).mono ?_); rintro e w48 ⟨rfl, hb⟩; refine ⟨_, rfl, ?_⟩; replace BK281 := Aside0.mk (blk_below BK281.out hb); replace BK282 := Aside0.mk (blk_below BK282.out hb); replace HB := Aside0.mk (below_step HB.out hb); (try clear hb); (try clear hb2); (try clear hk); (try clear hi)) | ((with_reducible refine gate_callee (f := 35) rfl ?_); refine goesL_ (some 106) rfl rfl Try.func35 (by kernel_rfl) rfl #[.int .i64 600, .int .i64 1000, .int .i64 600, .int .i64 0] rfl (by (try simp only [List.map_toArray, List.map_cons, List.map_nil]); first | done | rfl | (simp only [List.length_drop, List.length_take]; rfl)) ?_; (with_reducible refine (dancestudiolaw03_disc.calls 600 1000 600 0 t300 t301 t302 t303 t304 _ A42.out).mono ?_); rintro e w49 ⟨rfl, hb⟩; refine ⟨_, rfl, ?_⟩; replace BK281 := Aside0.mk (blk_below BK281.out hb); replace BK282 := Aside0.mk (blk_below BK282.out hb); replace HB := Aside0.mk (below_step HB.out hb); (try clear hb); (try clear hb2); (try clear hk); (try clear hi)) | ((with_reducible refine gate_callee (f := 18) rfl ?_); refine goesL_ (some 107) rfl rfl Try.func18 (by kernel_rfl) rfl #[.agg #[.int .i64 t295, .int .i64 t296, .int .i64 t297, .int .i64 t298, .int .i64 t299], .agg #[.int .i64 t300, .int .i64 t301, .int .i64 t302, .int .i64 t303, .int .i64 t304]] rfl (by (try simp only [List.map_toArray, List.map_cons, List.map_nil]); first | done | rfl | (simp only [List.length_drop, List.length_take]; rfl)) ?_; (with_reducible refine (geom_Touch.calls kj18 t295 t296 t297 t298 t299 t300 t301 t302 t303 t304 t305 t306 _ A43.out).mono ?_); rintro e w50 ⟨rfl, hb⟩; refine ⟨_, rfl, ?_⟩; replace BK281 := Aside0.mk (blk_below BK281.out hb); replace BK282 := Aside0.mk (blk_below BK282.out hb); replace HB := Aside0.mk (below_step HB.out hb); (try clear hb); (try clear hb2); (try clear hk); (try clear hi)) | ((with_reducible refine gate_callee (f := 35) rfl ?_); refine goesL_ (some 111) rfl rfl Try.func35 (by kernel_rfl) rfl #[.int .i64 0, .int .i64 0, .int .i64 0, .int .i64 1000] rfl (by (try simp only [List.map_toArray, List.map_cons, List.map_nil]); first | done | rfl | (simp only [List.length_drop, List.length_take]; rfl)) ?_; (with_reducible refine (dancestudiolaw03_disc.calls 0 0 0 1000 t307 t308 t309 t310 t311 _ A44.out).mono ?_); rintro e w51 ⟨rfl, hb⟩; refine ⟨_, rfl, ?_⟩; replace BK281 := Aside0.mk (blk_below BK281.out hb); replace BK282 := Aside0.mk (blk_below BK282.out hb); replace HB := Aside0.mk (below_step HB.out hb); (try clear hb); (try clear hb2); (try clear hk); (try clear hi)) | ((with_reducible refine gate_callee (f := 35) rfl ?_); refine goesL_ (some 112) rfl rfl Try.func35 (by kernel_rfl) rfl #[.int .i64 599, .int .i64 1000, .int .i64 599, .int .i64 0] rfl (by (try simp only [List.map_toArray, List.map_cons, List.map_nil]); first | done | rfl | (simp only [List.length_drop, List.length_take]; rfl)) ?_; (with_reducible refine (dancestudiolaw03_disc.calls 599 1000 599 0 t312 t313 t314 t315 t316 _ A45.out).mono ?_); rintro e w52 ⟨rfl, hb⟩; refine ⟨_, rfl, ?_⟩; replace BK281 := Aside0.mk (blk_below BK281.out hb); replace BK282 := Aside0.mk (blk_below BK282.out hb); replace HB := Aside0.mk (below_step HB.out hb); (try clear hb); (try clear hb2); (try clear hk); (try clear hi)) | ((with_reducible refine gate_callee (f := 18) rfl ?_); refine goesL_ (some 113) rfl rfl Try.func18 (by kernel_rfl) rfl #[.agg #[.int .i64 t307, .int .i64 t308, .int .i64 t309, .int .i64 t310, .int .i64 t311], .agg #[.int .i64 t312, .int .i64 t313, .int .i64 t314, .int .i64 t315, .int .i64 t316]] rfl (by (try simp only [List.map_toArray, List.map_cons, List.map_nil]); first | done | rfl | (simp only [List.length_drop, List.length_take]; rfl)) ?_; (with_reducible refine (geom_Touch.calls kj18 t307 t308 t309 t310 t311 t312 t313 t314 t315 t316 t317 t318 _ A46.out).mono ?_); rintro e w53 ⟨rfl, hb⟩; refine ⟨_, rfl, ?_⟩; replace BK281 := Aside0.mk (blk_below BK281.out hb); replace BK282 := Aside0.mk (blk_below BK282.out hb); replace HB := Aside0.mk (below_step HB.out hb); (try clear hb); (try clear hb2); (try clear hk); (try clear hi)))
     (try simp only [Act.put, List.setIfInBounds_toArray, List.set_cons_zero, List.set_cons_succ])
     go_cut [128] (fun v128 wc => ∃ (kq : Nat) (x128_46 : Bool), v128 = .bool x128_46 ∧ Aside0 (dancestudiolaw03_awake.j2 kq x128_46 = some r) ∧ Aside0 (kq ≤ kj18) ∧ Aside0 (wc.heap[gb281]? = some (.cells #[.int .i64 (-10), .int .i64 0] 23 (0, 0))) ∧ Aside0 (wc.heap[gb282]? = some (.cells #[.int .i64 10, .int .i64 0] 23 (0, 0))) ∧ Aside0 (Below w.heap.size w wc))
     case first =>
      have H := HC47.out
      clear HC47
      by_cases c54 : t306 = 0
      rotate_left
      ·
       rw [if_neg c54] at H
       have c54b0 : (t306 == 0) = false := beq_eq_false_iff_ne.mpr c54
       have c54b1 : (t306 != 0) = true := bne_iff_ne.mpr c54
       (first | rw [c54b0] | (simp only [i64_w, i32_w]; rw [c54b0]) | skip)
       have H' := Aside0.mk H
       clear H
       go_wp2
       go_meet
       case rel => exact ⟨_, (true), (by first | rfl | (simp; done) | (simp [*]; done)), H', ⟨by have := HJ2.out; have := HJ18.out; first | omega | exact Nat.le_refl _⟩, ⟨BK281.out⟩, ⟨BK282.out⟩, ⟨HB.out⟩⟩
      rw [if_pos c54] at H
      have c54b0 : (t306 == 0) = true := beq_iff_eq.mpr c54
      have c54b1 : (t306 != 0) = false := bne_eq_false_iff_eq.mpr c54
      clear c54
      (first | rw [c54b0] | (simp only [i64_w, i32_w]; rw [c54b0]) | skip)
      by_cases c55 : t318 = 0
      rotate_left
      ·
       rw [if_neg c55] at H
       have c55b0 : (t318 == 0) = false := beq_eq_false_iff_ne.mpr c55
       have c55b1 : (t318 != 0) = true := bne_iff_ne.mpr c55
       have H' := Aside0.mk H
       clear H
       go_wp2
       go_meet
       case rel => exact ⟨_, (true), (by first | rfl | (simp; done) | (simp [*]; done)), H', ⟨by have := HJ2.out; have := HJ18.out; first | omega | exact Nat.le_refl _⟩, ⟨BK281.out⟩, ⟨BK282.out⟩, ⟨HB.out⟩⟩
      rw [if_pos c55] at H
      have c55b0 : (t318 == 0) = true := beq_iff_eq.mpr c55
      have c55b1 : (t318 != 0) = false := bne_eq_false_iff_eq.mpr c55
      clear c55
      by_cases c56 : t305 = true
      ·
       subst c56
       have H1 : (dancestudiolaw03_awake.j2 kj18 true) = some r := by rw [if_pos rfl] at H; exact H
       clear H
       have H := H1
       clear H1
       have H' := Aside0.mk H
       clear H
       go_wp2
       go_meet
       case rel => exact ⟨_, (true), (by first | rfl | (simp; done) | (simp [*]; done)), H', ⟨by have := HJ2.out; have := HJ18.out; first | omega | exact Nat.le_refl _⟩, ⟨BK281.out⟩, ⟨BK282.out⟩, ⟨HB.out⟩⟩
      replace c56 := Bool.eq_false_iff.mpr c56
      subst c56
      have H1 : (dancestudiolaw03_awake.j2 kj18 (!t317)) = some r := by rw [if_neg (show ¬ (false = true) by decide)] at H; exact H
      clear H
      have H := H1
      clear H1
      have H' := Aside0.mk H
      clear H
      go_wp2
      go_meet
      case rel => exact ⟨_, (!t317), (by first | rfl | (simp; done) | (simp [*]; done)), H', ⟨by have := HJ2.out; have := HJ18.out; first | omega | exact Nat.le_refl _⟩, ⟨BK281.out⟩, ⟨BK282.out⟩, ⟨HB.out⟩⟩
     case rest =>
      clear HC47; try clear c1; try clear c2; try clear p2; try clear c3; try clear c4; try clear c5; try clear c6; try clear c11; try clear c11b0; try clear c11b1; try clear c12; try clear c12b0; try clear c12b1; try clear c13; try clear c13b0; try clear c13b1; try clear c14; try clear c15; try clear c16; try clear c18; try clear c20; try clear c33; try clear c33b0; try clear c33b1; try clear c34; try clear c34b0; try clear c34b1; try clear c35; try clear c35b0; try clear c35b1; try clear c36; try clear c36b0; try clear c36b1; try clear c37; try clear c38; try clear c39; try clear c40; try clear c54; try clear c54b0; try clear c54b1; try clear c55; try clear c55b0; try clear c55b1; try clear c56; try clear hcz21_0; try clear hcz21_1; try clear hcz22_0; try clear hcz22_1; try clear hcz24_0; try clear hcz24_1; try clear hcz25_0; try clear hcz25_1; try clear hcz27_0; try clear hcz27_1; try clear hcz28_0; try clear hcz28_1; try clear hcz30_0; try clear hcz30_1; try clear hcz31_0; try clear hcz31_1; try clear hcz7_0; try clear hcz7_1; try clear hcz8_0; try clear hcz8_1; try clear hfz21_0; try clear hfz21_1; try clear hfz22_0; try clear hfz22_1; try clear hfz24_0; try clear hfz24_1; try clear hfz25_0; try clear hfz25_1; try clear hfz27_0; try clear hfz27_1; try clear hfz28_0; try clear hfz28_1; try clear hfz30_0; try clear hfz30_1; try clear hfz31_0; try clear hfz31_1; try clear hfz7_0; try clear hfz7_1; try clear hfz8_0; try clear hfz8_1
      obtain ⟨kq, x128_46, rfl, HA, HJ46, BK281, BK282, HB⟩ := hcut
      cases kq with
      | zero => exact absurd HA.out (by simp [dancestudiolaw03_awake.j2])
      | succ kj46 =>
       have H := HA.out
       clear HA
       simp only [dancestudiolaw03_awake.j2] at H
       by_cases c57 : x128_46 = true
       ·
        subst c57
        have H1 : (none) = some r := by rw [if_pos rfl] at H; exact H
        clear H
        have H := H1
        clear H1
        exact absurd H (by simp)
       replace c57 := Bool.eq_false_iff.mpr c57
       subst c57
       have H1 : ((some (([(⟨0, 0⟩ : S23), (⟨2, 0⟩ : S23), (⟨1, 1⟩ : S23), (⟨2, 2⟩ : S23), (⟨0, 2⟩ : S23), (⟨1, 0⟩ : S23)] : List (S23)) : List (S23))).bind fun y319 => ((geom_Hull.f kj46 y319).bind fun bt322 => ((geom_Inside.f kj46 1 0 y319).bind fun bt326 => ((geom_Inside.f kj46 3 1 y319).bind fun bt328 => (if bt322.2 = 0 then (if bt326.2 = 0 then (if bt328.2 = 0 then (if bt326.1 = true then (if bt328.1 = true then (none) else ((dancestudioref03_Same.f kj46 bt322.1 (([(⟨0, 0⟩ : S23), (⟨2, 0⟩ : S23), (⟨2, 2⟩ : S23), (⟨0, 2⟩ : S23)] : List (S23)))).bind fun t333 => (some t333))) else (none)) else (none)) else (none)) else (none)))))) = some r := by rw [if_neg (show ¬ (false = true) by decide)] at H; exact H
       clear H
       have H := H1
       clear H1
       obtain ⟨y319, hy319⟩ : ∃ y_ : List (S23), y_ = (([(⟨0, 0⟩ : S23), (⟨2, 0⟩ : S23), (⟨1, 1⟩ : S23), (⟨2, 2⟩ : S23), (⟨0, 2⟩ : S23), (⟨1, 0⟩ : S23)] : List (S23))) := ⟨_, rfl⟩
       replace H : ((geom_Hull.f kj46 y319).bind fun bt322 => ((geom_Inside.f kj46 1 0 y319).bind fun bt326 => ((geom_Inside.f kj46 3 1 y319).bind fun bt328 => (if bt322.2 = 0 then (if bt326.2 = 0 then (if bt328.2 = 0 then (if bt326.1 = true then (if bt328.1 = true then (none) else ((dancestudioref03_Same.f kj46 bt322.1 (([(⟨0, 0⟩ : S23), (⟨2, 0⟩ : S23), (⟨2, 2⟩ : S23), (⟨0, 2⟩ : S23)] : List (S23)))).bind fun t333 => (some t333))) else (none)) else (none)) else (none)) else (none))))) = some r := by first | (rw [hy319]; with_reducible exact H) | (have H2_ := (Option.bind_some _ _).symm.trans H; rw [hy319]; with_reducible exact H2_) | (have H2_ := (Option.bind_some _ _).symm.trans H; with_reducible exact H2_) | with_reducible exact H | (rw [hy319]; exact H) | exact H
       have Ny319 := Aside0.mk hy319
       clear hy319
       replace H := Option.bind_eq_some_iff.mp H
       obtain ⟨⟨t322, t323⟩, A580, H⟩ := H
       replace H : ((geom_Inside.f kj46 1 0 y319).bind fun bt326 => ((geom_Inside.f kj46 3 1 y319).bind fun bt328 => (if t323 = 0 then (if bt326.2 = 0 then (if bt328.2 = 0 then (if bt326.1 = true then (if bt328.1 = true then (none) else ((dancestudioref03_Same.f kj46 t322 (([(⟨0, 0⟩ : S23), (⟨2, 0⟩ : S23), (⟨2, 2⟩ : S23), (⟨0, 2⟩ : S23)] : List (S23)))).bind fun t333 => (some t333))) else (none)) else (none)) else (none)) else (none)))) = some r := H
       have A58 := Aside0.mk A580
       clear A580
       replace H := Option.bind_eq_some_iff.mp H
       obtain ⟨⟨t326, t327⟩, A590, H⟩ := H
       replace H : ((geom_Inside.f kj46 3 1 y319).bind fun bt328 => (if t323 = 0 then (if t327 = 0 then (if bt328.2 = 0 then (if t326 = true then (if bt328.1 = true then (none) else ((dancestudioref03_Same.f kj46 t322 (([(⟨0, 0⟩ : S23), (⟨2, 0⟩ : S23), (⟨2, 2⟩ : S23), (⟨0, 2⟩ : S23)] : List (S23)))).bind fun t333 => (some t333))) else (none)) else (none)) else (none)) else (none))) = some r := H
       have A59 := Aside0.mk A590
       clear A590
       replace H := Option.bind_eq_some_iff.mp H
       obtain ⟨⟨t328, t329⟩, A600, H⟩ := H
       replace H : (if t323 = 0 then (if t327 = 0 then (if t329 = 0 then (if t326 = true then (if t328 = true then (none) else ((dancestudioref03_Same.f kj46 t322 (([(⟨0, 0⟩ : S23), (⟨2, 0⟩ : S23), (⟨2, 2⟩ : S23), (⟨0, 2⟩ : S23)] : List (S23)))).bind fun t333 => (some t333))) else (none)) else (none)) else (none)) else (none)) = some r := H
       have A60 := Aside0.mk A600
       clear A600
       by_cases c61 : t323 = 0
       rotate_left
       ·
        rw [if_neg c61] at H
        exact absurd H (by simp)
       rw [if_pos c61] at H
       have c61b0 : (t323 == 0) = true := beq_iff_eq.mpr c61
       have c61b1 : (t323 != 0) = false := bne_eq_false_iff_eq.mpr c61
       clear c61
       by_cases c62 : t327 = 0
       rotate_left
       ·
        rw [if_neg c62] at H
        exact absurd H (by simp)
       rw [if_pos c62] at H
       have c62b0 : (t327 == 0) = true := beq_iff_eq.mpr c62
       have c62b1 : (t327 != 0) = false := bne_eq_false_iff_eq.mpr c62
       clear c62
       by_cases c63 : t329 = 0
       rotate_left
       ·
        rw [if_neg c63] at H
        exact absurd H (by simp)
       rw [if_pos c63] at H
       have c63b0 : (t329 == 0) = true := beq_iff_eq.mpr c63
       have c63b1 : (t329 != 0) = false := bne_eq_false_iff_eq.mpr c63
       clear c63
       by_cases c64 : t326 = true
       rotate_left
       ·
        replace c64 := Bool.eq_false_iff.mpr c64
        subst c64
        have H1 : (none) = some r := by rw [if_neg (show ¬ (false = true) by decide)] at H; exact H
        clear H
        have H := H1
        clear H1
        exact absurd H (by simp)
       subst c64
       have H1 : (if t328 = true then (none) else ((dancestudioref03_Same.f kj46 t322 (([(⟨0, 0⟩ : S23), (⟨2, 0⟩ : S23), (⟨2, 2⟩ : S23), (⟨0, 2⟩ : S23)] : List (S23)))).bind fun t333 => (some t333))) = some r := by rw [if_pos rfl] at H; exact H
       clear H
       have H := H1
       clear H1
       by_cases c65 : t328 = true
       ·
        subst c65
        have H1 : (none) = some r := by rw [if_pos rfl] at H; exact H
        clear H
        have H := H1
        clear H1
        exact absurd H (by simp)
       replace c65 := Bool.eq_false_iff.mpr c65
       subst c65
       have H1 : ((dancestudioref03_Same.f kj46 t322 (([(⟨0, 0⟩ : S23), (⟨2, 0⟩ : S23), (⟨2, 2⟩ : S23), (⟨0, 2⟩ : S23)] : List (S23)))).bind fun t333 => (some t333)) = some r := by rw [if_neg (show ¬ (false = true) by decide)] at H; exact H
       clear H
       have H := H1
       clear H1
       obtain ⟨y330, hy330⟩ : ∃ y_ : List (S23), y_ = (([(⟨0, 0⟩ : S23), (⟨2, 0⟩ : S23), (⟨2, 2⟩ : S23), (⟨0, 2⟩ : S23)] : List (S23))) := ⟨_, rfl⟩
       replace H : ((dancestudioref03_Same.f kj46 t322 y330).bind fun t333 => (some t333)) = some r := by first | (rw [hy330]; with_reducible exact H) | (have H2_ := (Option.bind_some _ _).symm.trans H; rw [hy330]; with_reducible exact H2_) | (have H2_ := (Option.bind_some _ _).symm.trans H; with_reducible exact H2_) | with_reducible exact H | (rw [hy330]; exact H) | exact H
       have Ny330 := Aside0.mk hy330
       clear hy330
       replace H := Option.bind_eq_some_iff.mp H
       obtain ⟨t333, A660, H⟩ := H
       replace H : (some t333) = some r := H
       have A66 := Aside0.mk A660
       clear A660
       obtain rfl := Option.some.inj H
       go_wp2_with (first | ((with_reducible refine gate_dst (N := 135) rfl ?_); (try (refine gate_guard (by rfl) ?_; dsimp only)); refine Kd.R_lit k23 _ 23 ?hg (N := 135) ?hd (xs := ([(⟨0, 0⟩ : S23), (⟨2, 0⟩ : S23), (⟨1, 1⟩ : S23), (⟨2, 2⟩ : S23), (⟨0, 2⟩ : S23), (⟨1, 0⟩ : S23)] : List (S23))) (inner := [.int .i64 0, .int .i64 0, .int .i64 2, .int .i64 0, .int .i64 1, .int .i64 1, .int .i64 2, .int .i64 2, .int .i64 0, .int .i64 2, .int .i64 1, .int .i64 0]) (ok := fun _ => True) (okp := fun _ => True) ?hr ?hp (fun _ hk => hk) trivial (Below.refl _ _) (Nat.le_refl _) (by simp) ?_; (case hd => rfl); (case hg => rfl); (case hr => first | (go_simp; done) | (go_simp; rfl)); (case hp => exact (Reps.c2 (show Kd.M k23 _ _ _ (⟨0, 0⟩ : S23) [.int .i64 0, .int .i64 0] from (k23_mkM _ _ _ (⟨0, 0⟩ : S23) )) (Reps.c2 (show Kd.M k23 _ _ _ (⟨2, 0⟩ : S23) [.int .i64 2, .int .i64 0] from (k23_mkM _ _ _ (⟨2, 0⟩ : S23) )) (Reps.c2 (show Kd.M k23 _ _ _ (⟨1, 1⟩ : S23) [.int .i64 1, .int .i64 1] from (k23_mkM _ _ _ (⟨1, 1⟩ : S23) )) (Reps.c2 (show Kd.M k23 _ _ _ (⟨2, 2⟩ : S23) [.int .i64 2, .int .i64 2] from (k23_mkM _ _ _ (⟨2, 2⟩ : S23) )) (Reps.c2 (show Kd.M k23 _ _ _ (⟨0, 2⟩ : S23) [.int .i64 0, .int .i64 2] from (k23_mkM _ _ _ (⟨0, 2⟩ : S23) )) (Reps.c2 (show Kd.M k23 _ _ _ (⟨1, 0⟩ : S23) [.int .i64 1, .int .i64 0] from (k23_mkM _ _ _ (⟨1, 0⟩ : S23) )) (Reps.none _ _)))))))); intro v320 w67 ho68 hb hg_ hnew_; clear hg_ hnew_; (first | rw [← Ny319.out] at ho68 | (simp only [Int.reduceToNat] at ho68; rw [← Ny319.out] at ho68)); have HO321 := Aside0.mk (Kd.R_lower (Kd.R_newB (Kd.R_newB ho68 (g := gb281) (o := .cells #[.int .i64 (-10), .int .i64 0] 23 (0, 0)) BK281.out) (g := gb282) (o := .cells #[.int .i64 10, .int .i64 0] 23 (0, 0)) BK282.out) (below_size HB.out)); replace BK281 := Aside0.mk (blk_below BK281.out hb); replace BK282 := Aside0.mk (blk_below BK282.out hb); replace HB := Aside0.mk (below_step HB.out hb); clear hb ho68; obtain ⟨Ao69, co69, eo69⟩ := Kd.R_slice HO321.out; subst eo69) | ((with_reducible refine gate_callee (f := 20) rfl ?_); refine goesL_ (some 138) rfl rfl Try.func20 (by kernel_rfl) rfl #[.slice Ao69 y319.length co69] rfl (by (try simp only [List.map_toArray, List.map_cons, List.map_nil]); first | done | rfl | (simp only [List.length_drop, List.length_take]; rfl)) ?_; (with_reducible refine (geom_Hull.calls kj46 _ _ y319 t322 t323 _ ?side1 ?side2 A58.out).mono ?_); (case side1 => repeat (first | exact (Kd.R_reads' HO321.out).2.2 | (with_reducible refine Kd.C_alloc ?_ _) | (with_reducible refine Kd.C_drewN ?_ _) | (with_reducible refine Kd.C_drew ?_))); (case side2 => exact (Kd.R_reads' HO321.out).2.1); rintro e w70 ⟨v324, rfl, ho0, hb⟩; refine ⟨_, rfl, ?_⟩; have HO325 := Aside0.mk (Kd.R_lower (Kd.R_newB (Kd.R_newB (Kd.R_new' ho0 (Kd.R_lt HO321.out)) (g := gb281) (o := .cells #[.int .i64 (-10), .int .i64 0] 23 (0, 0)) BK281.out) (g := gb282) (o := .cells #[.int .i64 10, .int .i64 0] 23 (0, 0)) BK282.out) (below_size HB.out)); replace HO321 := Aside0.mk (Kd.R_elder' HO321.out (Kd.R_base ho0) hb); replace BK281 := Aside0.mk (blk_below BK281.out hb); replace BK282 := Aside0.mk (blk_below BK282.out hb); replace HB := Aside0.mk (below_step HB.out hb); (try clear hb); (try clear hb2); (try clear hk); (try clear hi); (try clear ho0)) | ((with_reducible refine gate_callee (f := 23) rfl ?_); refine goesL_ (some 144) rfl rfl Try.func23 (by kernel_rfl) rfl #[.agg #[.int .i64 1, .int .i64 0], .slice Ao69 y319.length co69] rfl (by (try simp only [List.map_toArray, List.map_cons, List.map_nil]); first | done | rfl | (simp only [List.length_drop, List.length_take]; rfl)) ?_; (with_reducible refine (geom_Inside.calls kj46 1 0 _ _ y319 true t327 _ ?side1 ?side2 A59.out).mono ?_); (case side1 => repeat (first | exact (Kd.R_reads' HO321.out).2.2 | (with_reducible refine Kd.C_alloc ?_ _) | (with_reducible refine Kd.C_drewN ?_ _) | (with_reducible refine Kd.C_drew ?_))); (case side2 => exact (Kd.R_reads' HO321.out).2.1); rintro e w71 ⟨rfl, hb⟩; refine ⟨_, rfl, ?_⟩; replace HO321 := Aside0.mk (Kd.R_below HO321.out hb); replace HO325 := Aside0.mk (Kd.R_below HO325.out hb); replace BK281 := Aside0.mk (blk_below BK281.out hb); replace BK282 := Aside0.mk (blk_below BK282.out hb); replace HB := Aside0.mk (below_step HB.out hb); (try clear hb); (try clear hb2); (try clear hk); (try clear hi)) | ((with_reducible refine gate_callee (f := 23) rfl ?_); refine goesL_ (some 150) rfl rfl Try.func23 (by kernel_rfl) rfl #[.agg #[.int .i64 3, .int .i64 1], .slice Ao69 y319.length co69] rfl (by (try simp only [List.map_toArray, List.map_cons, List.map_nil]); first | done | rfl | (simp only [List.length_drop, List.length_take]; rfl)) ?_; (with_reducible refine (geom_Inside.calls kj46 3 1 _ _ y319 false t329 _ ?side1 ?side2 A60.out).mono ?_); (case side1 => repeat (first | exact (Kd.R_reads' HO321.out).2.2 | (with_reducible refine Kd.C_alloc ?_ _) | (with_reducible refine Kd.C_drewN ?_ _) | (with_reducible refine Kd.C_drew ?_))); (case side2 => exact (Kd.R_reads' HO321.out).2.1); rintro e w72 ⟨rfl, hb⟩; refine ⟨_, rfl, ?_⟩; replace HO321 := Aside0.mk (Kd.R_below HO321.out hb); replace HO325 := Aside0.mk (Kd.R_below HO325.out hb); replace BK281 := Aside0.mk (blk_below BK281.out hb); replace BK282 := Aside0.mk (blk_below BK282.out hb); replace HB := Aside0.mk (below_step HB.out hb); (try clear hb); (try clear hb2); (try clear hk); (try clear hi)) | ((with_reducible refine gate_dst (N := 176) rfl ?_); (try (refine gate_guard (by rfl) ?_; dsimp only)); refine Kd.R_lit k23 _ 23 ?hg (N := 176) ?hd (xs := ([(⟨0, 0⟩ : S23), (⟨2, 0⟩ : S23), (⟨2, 2⟩ : S23), (⟨0, 2⟩ : S23)] : List (S23))) (inner := [.int .i64 0, .int .i64 0, .int .i64 2, .int .i64 0, .int .i64 2, .int .i64 2, .int .i64 0, .int .i64 2]) (ok := fun _ => True) (okp := fun _ => True) ?hr ?hp (fun _ hk => hk) trivial (Below.refl _ _) (Nat.le_refl _) (by simp) ?_; (case hd => rfl); (case hg => rfl); (case hr => first | (go_simp; done) | (go_simp; rfl)); (case hp => exact (Reps.c2 (show Kd.M k23 _ _ _ (⟨0, 0⟩ : S23) [.int .i64 0, .int .i64 0] from (k23_mkM _ _ _ (⟨0, 0⟩ : S23) )) (Reps.c2 (show Kd.M k23 _ _ _ (⟨2, 0⟩ : S23) [.int .i64 2, .int .i64 0] from (k23_mkM _ _ _ (⟨2, 0⟩ : S23) )) (Reps.c2 (show Kd.M k23 _ _ _ (⟨2, 2⟩ : S23) [.int .i64 2, .int .i64 2] from (k23_mkM _ _ _ (⟨2, 2⟩ : S23) )) (Reps.c2 (show Kd.M k23 _ _ _ (⟨0, 2⟩ : S23) [.int .i64 0, .int .i64 2] from (k23_mkM _ _ _ (⟨0, 2⟩ : S23) )) (Reps.none _ _)))))); intro v331 w73 ho74 hb hg_ hnew_; clear hg_ hnew_; (first | rw [← Ny330.out] at ho74 | (simp only [Int.reduceToNat] at ho74; rw [← Ny330.out] at ho74)); have HO332 := Aside0.mk (Kd.R_lower (Kd.R_newB (Kd.R_newB (Kd.R_new' (Kd.R_new' ho74 (Kd.R_lt HO321.out)) (Kd.R_lt HO325.out)) (g := gb281) (o := .cells #[.int .i64 (-10), .int .i64 0] 23 (0, 0)) BK281.out) (g := gb282) (o := .cells #[.int .i64 10, .int .i64 0] 23 (0, 0)) BK282.out) (below_size HB.out)); replace HO321 := Aside0.mk (Kd.R_elder' HO321.out (Kd.R_base ho74) hb); replace HO325 := Aside0.mk (Kd.R_elder' HO325.out (Kd.R_base ho74) hb); replace BK281 := Aside0.mk (blk_below BK281.out hb); replace BK282 := Aside0.mk (blk_below BK282.out hb); replace HB := Aside0.mk (below_step HB.out hb); clear hb ho74; obtain ⟨Ao75, co75, eo75⟩ := Kd.R_slice HO325.out; subst eo75; obtain ⟨Ao76, co76, eo76⟩ := Kd.R_slice HO332.out; subst eo76) | (go_at_call 22; (with_reducible refine (dancestudioref03_Same.calls kj46 _ _ t322 _ _ y330 t333 _ ?side1 ?side2 ?side3 ?side4 A66.out).mono ?_); (case side1 => repeat (first | exact (Kd.R_reads' HO325.out).2.2 | (with_reducible refine Kd.C_alloc ?_ _) | (with_reducible refine Kd.C_drewN ?_ _) | (with_reducible refine Kd.C_drew ?_))); (case side2 => exact (Kd.R_reads' HO325.out).2.1); (case side3 => repeat (first | exact (Kd.R_reads' HO332.out).2.2 | (with_reducible refine Kd.C_alloc ?_ _) | (with_reducible refine Kd.C_drewN ?_ _) | (with_reducible refine Kd.C_drew ?_))); (case side4 => exact (Kd.R_reads' HO332.out).2.1); rintro e w' ⟨rfl, ⟨nd, rfl⟩⟩))
       go_ret
       exact ⟨by first | rfl | (simp [errW_none, errW_some] <;> rfl) | (simp [*, errW_none, errW_some] <;> rfl), by repeat (first | (with_reducible first | exact HB.out | apply below_alloc | apply pw_below_drewN | apply below_drew1 | refine below_set ?_ GE281.out | refine below_set ?_ GE282.out) | exact HB.out)⟩
end Go.Proofs.Ytmilejcbkpkplaa.PAll
-- Written by wip/tools/handprint.py: walks of the functions that the law reaches; Lean checks them.
namespace Go.Proofs.Ytmilejcbkpkplaa.PAll
open Go.RowKit Go.Proofs.YtmilejcbkpkplaaW.PrintWords Go.Proofs.YtmilejcbkpkplaaW.PrintLast Go.Proofs.YtmilejcbkpkplaaW.PrintMore
attribute [local go_sem] max2_int min2_int max_two min_two max_three min_three max_four min_four   -- for this text's walks alone
set_option linter.unusedVariables false
set_option linter.unusedSimpArgs false

/-! ### dancestudiolaw03_small: function 26 -/
def dancestudiolaw03_small.f (a0_0 : Int) (a0_1 : Int) : Option (Bool) := if a0_0 ≥ (-16384) then (if a0_0 ≤ 16384 then (if a0_1 ≥ (-16384) then (some (decide (a0_1 ≤ 16384))) else (some false)) else (some false)) else (some false)
set_option maxHeartbeats 8000000 in
set_option maxRecDepth 100000 in
theorem dancestudiolaw03_small.calls (a0_0 : Int) (a0_1 : Int) (r : Bool) (w : World) (h : dancestudiolaw03_small.f a0_0 a0_1 = some r) :
  Calls Try.prog 26 #[.agg #[.int .i64 a0_0, .int .i64 a0_1]] w fun e w' => e = .returned (.bool r) ∧ Below w.heap.size w w' := by
 have hu23 := Try.underlying23
 have HB := Aside0.mk (Below.refl w.heap.size w)
 have H : (if a0_0 ≥ (-16384) then (if a0_0 ≤ 16384 then (if a0_1 ≥ (-16384) then (some (decide (a0_1 ≤ 16384))) else (some false)) else (some false)) else (some false)) = some r := h
 clear h
 by_cases c2 : a0_0 ≥ (-16384)
 ·
  rw [if_pos c2] at H
  have c2b0 : decide ((-16384) ≤ a0_0) = true := decide_eq_true c2
  clear c2
  by_cases c3 : a0_0 ≤ 16384
  ·
   rw [if_pos c3] at H
   have c3b0 : decide (a0_0 ≤ 16384) = true := decide_eq_true c3
   clear c3
   by_cases c4 : a0_1 ≥ (-16384)
   ·
    rw [if_pos c4] at H
    have c4b0 : decide ((-16384) ≤ a0_1) = true := decide_eq_true c4
    clear c4
    obtain rfl := Option.some.inj H
    go_enter Try.func26, Try.ntmps26
    go_wp2_with (first | ((with_reducible refine gate_dst (N := 1) rfl ?_); refine box_event ?hg (N := 1) ?hd (cs := #[.int .i64 a0_0, .int .i64 a0_1]) (t := 23) ?hr ?_; (case hd => rfl); (case hg => rfl); (case hr => first | (go_simp; done) | (go_simp; rfl)); intro gb514 hg w5 hbox hb; have n0_ := Aside0.mk (below_step (by repeat (first | (with_reducible first | exact HB.out | apply below_alloc | apply pw_below_drewN | apply below_drew1) | exact HB.out)) hb); have n1_ := Aside0.mk (hbox); have n2_ := Aside0.mk ((by rw [hg]; exact (below_size (by repeat (first | (with_reducible first | exact HB.out | apply below_alloc | apply pw_below_drewN | apply below_drew1) | exact HB.out))) : w.heap.size ≤ gb514)); have n3_ := Aside0.mk ((by rw [hg]; exact (below_size (by repeat (first | (with_reducible first | exact HB.out | apply below_alloc | apply pw_below_drewN | apply below_drew1) | exact HB.out))) : w.heap.size ≤ gb514)); clear HB; have HB := n0_; have BK514 := n1_; have GW514 := n2_; have GE514 := n3_; clear n0_ n1_ n2_ n3_; clear hb hbox hg; have hcz6_0 : w5.cell? ⟨gb514, 0, none⟩ = some (.int .i64 a0_0) := (blk_cell BK514.out 0).trans rfl; have hcz6_1 : w5.cell? ⟨gb514, 1, none⟩ = some (.int .i64 a0_1) := (blk_cell BK514.out 1).trans rfl; have hfz6_0 := blk_frozen BK514.out 0; have hfz6_1 := blk_frozen BK514.out 1))
    go_ret
    exact ⟨by first | rfl | (simp [errW_none, errW_some] <;> rfl) | (simp [*, errW_none, errW_some] <;> rfl), by repeat (first | (with_reducible first | exact HB.out | apply below_alloc | apply pw_below_drewN | apply below_drew1 | refine below_set ?_ GE514.out) | exact HB.out)⟩
   ·
    rw [if_neg c4] at H
    have c4b0 : decide ((-16384) ≤ a0_1) = false := decide_eq_false c4
    clear c4
    obtain rfl := Option.some.inj H
    go_enter Try.func26, Try.ntmps26
    go_wp2_with (first | ((with_reducible refine gate_dst (N := 1) rfl ?_); refine box_event ?hg (N := 1) ?hd (cs := #[.int .i64 a0_0, .int .i64 a0_1]) (t := 23) ?hr ?_; (case hd => rfl); (case hg => rfl); (case hr => first | (go_simp; done) | (go_simp; rfl)); intro gb514 hg w7 hbox hb; have n0_ := Aside0.mk (below_step (by repeat (first | (with_reducible first | exact HB.out | apply below_alloc | apply pw_below_drewN | apply below_drew1) | exact HB.out)) hb); have n1_ := Aside0.mk (hbox); have n2_ := Aside0.mk ((by rw [hg]; exact (below_size (by repeat (first | (with_reducible first | exact HB.out | apply below_alloc | apply pw_below_drewN | apply below_drew1) | exact HB.out))) : w.heap.size ≤ gb514)); have n3_ := Aside0.mk ((by rw [hg]; exact (below_size (by repeat (first | (with_reducible first | exact HB.out | apply below_alloc | apply pw_below_drewN | apply below_drew1) | exact HB.out))) : w.heap.size ≤ gb514)); clear HB; have HB := n0_; have BK514 := n1_; have GW514 := n2_; have GE514 := n3_; clear n0_ n1_ n2_ n3_; clear hb hbox hg; have hcz8_0 : w7.cell? ⟨gb514, 0, none⟩ = some (.int .i64 a0_0) := (blk_cell BK514.out 0).trans rfl; have hcz8_1 : w7.cell? ⟨gb514, 1, none⟩ = some (.int .i64 a0_1) := (blk_cell BK514.out 1).trans rfl; have hfz8_0 := blk_frozen BK514.out 0; have hfz8_1 := blk_frozen BK514.out 1))
    go_ret
    exact ⟨by first | rfl | (simp [errW_none, errW_some] <;> rfl) | (simp [*, errW_none, errW_some] <;> rfl), by repeat (first | (with_reducible first | exact HB.out | apply below_alloc | apply pw_below_drewN | apply below_drew1 | refine below_set ?_ GE514.out) | exact HB.out)⟩
  ·
   rw [if_neg c3] at H
   have c3b0 : decide (a0_0 ≤ 16384) = false := decide_eq_false c3
   clear c3
   obtain rfl := Option.some.inj H
   go_enter Try.func26, Try.ntmps26
   go_wp2_with (first | ((with_reducible refine gate_dst (N := 1) rfl ?_); refine box_event ?hg (N := 1) ?hd (cs := #[.int .i64 a0_0, .int .i64 a0_1]) (t := 23) ?hr ?_; (case hd => rfl); (case hg => rfl); (case hr => first | (go_simp; done) | (go_simp; rfl)); intro gb514 hg w9 hbox hb; have n0_ := Aside0.mk (below_step (by repeat (first | (with_reducible first | exact HB.out | apply below_alloc | apply pw_below_drewN | apply below_drew1) | exact HB.out)) hb); have n1_ := Aside0.mk (hbox); have n2_ := Aside0.mk ((by rw [hg]; exact (below_size (by repeat (first | (with_reducible first | exact HB.out | apply below_alloc | apply pw_below_drewN | apply below_drew1) | exact HB.out))) : w.heap.size ≤ gb514)); have n3_ := Aside0.mk ((by rw [hg]; exact (below_size (by repeat (first | (with_reducible first | exact HB.out | apply below_alloc | apply pw_below_drewN | apply below_drew1) | exact HB.out))) : w.heap.size ≤ gb514)); clear HB; have HB := n0_; have BK514 := n1_; have GW514 := n2_; have GE514 := n3_; clear n0_ n1_ n2_ n3_; clear hb hbox hg; have hcz10_0 : w9.cell? ⟨gb514, 0, none⟩ = some (.int .i64 a0_0) := (blk_cell BK514.out 0).trans rfl; have hcz10_1 : w9.cell? ⟨gb514, 1, none⟩ = some (.int .i64 a0_1) := (blk_cell BK514.out 1).trans rfl; have hfz10_0 := blk_frozen BK514.out 0; have hfz10_1 := blk_frozen BK514.out 1))
   go_ret
   exact ⟨by first | rfl | (simp [errW_none, errW_some] <;> rfl) | (simp [*, errW_none, errW_some] <;> rfl), by repeat (first | (with_reducible first | exact HB.out | apply below_alloc | apply pw_below_drewN | apply below_drew1 | refine below_set ?_ GE514.out) | exact HB.out)⟩
 ·
  rw [if_neg c2] at H
  have c2b0 : decide ((-16384) ≤ a0_0) = false := decide_eq_false c2
  clear c2
  obtain rfl := Option.some.inj H
  go_enter Try.func26, Try.ntmps26
  go_wp2_with (first | ((with_reducible refine gate_dst (N := 1) rfl ?_); refine box_event ?hg (N := 1) ?hd (cs := #[.int .i64 a0_0, .int .i64 a0_1]) (t := 23) ?hr ?_; (case hd => rfl); (case hg => rfl); (case hr => first | (go_simp; done) | (go_simp; rfl)); intro gb514 hg w11 hbox hb; have n0_ := Aside0.mk (below_step (by repeat (first | (with_reducible first | exact HB.out | apply below_alloc | apply pw_below_drewN | apply below_drew1) | exact HB.out)) hb); have n1_ := Aside0.mk (hbox); have n2_ := Aside0.mk ((by rw [hg]; exact (below_size (by repeat (first | (with_reducible first | exact HB.out | apply below_alloc | apply pw_below_drewN | apply below_drew1) | exact HB.out))) : w.heap.size ≤ gb514)); have n3_ := Aside0.mk ((by rw [hg]; exact (below_size (by repeat (first | (with_reducible first | exact HB.out | apply below_alloc | apply pw_below_drewN | apply below_drew1) | exact HB.out))) : w.heap.size ≤ gb514)); clear HB; have HB := n0_; have BK514 := n1_; have GW514 := n2_; have GE514 := n3_; clear n0_ n1_ n2_ n3_; clear hb hbox hg; have hcz12_0 : w11.cell? ⟨gb514, 0, none⟩ = some (.int .i64 a0_0) := (blk_cell BK514.out 0).trans rfl; have hcz12_1 : w11.cell? ⟨gb514, 1, none⟩ = some (.int .i64 a0_1) := (blk_cell BK514.out 1).trans rfl; have hfz12_0 := blk_frozen BK514.out 0; have hfz12_1 := blk_frozen BK514.out 1))
  go_ret
  exact ⟨by first | rfl | (simp [errW_none, errW_some] <;> rfl) | (simp [*, errW_none, errW_some] <;> rfl), by repeat (first | (with_reducible first | exact HB.out | apply below_alloc | apply pw_below_drewN | apply below_drew1 | refine below_set ?_ GE514.out) | exact HB.out)⟩
end Go.Proofs.Ytmilejcbkpkplaa.PAll
-- Written by wip/tools/handprint.py: walks of the functions that the law reaches; Lean checks them.
namespace Go.Proofs.Ytmilejcbkpkplaa.PAll
open Go.RowKit Go.Proofs.YtmilejcbkpkplaaW.PrintWords Go.Proofs.YtmilejcbkpkplaaW.PrintLast Go.Proofs.YtmilejcbkpkplaaW.PrintMore
attribute [local go_sem] max2_int min2_int max_two min_two max_three min_three max_four min_four   -- for this text's walks alone
set_option linter.unusedVariables false
set_option linter.unusedSimpArgs false

/-! ### dancestudiolaw03_shifted: function 27 -/
def dancestudiolaw03_shifted.f (a0_0 : Int) (a0_1 : Int) (a1_0 : Int) (a1_1 : Int) : Option (Int × Int) := some (wrap64 (a0_0 + a1_0), wrap64 (a0_1 + a1_1))
set_option maxHeartbeats 8000000 in
set_option maxRecDepth 100000 in
theorem dancestudiolaw03_shifted.calls (a0_0 : Int) (a0_1 : Int) (a1_0 : Int) (a1_1 : Int) (r1 : Int) (r2 : Int) (w : World) (h : dancestudiolaw03_shifted.f a0_0 a0_1 a1_0 a1_1 = some (r1, r2)) :
  Calls Try.prog 27 #[.agg #[.int .i64 a0_0, .int .i64 a0_1], .agg #[.int .i64 a1_0, .int .i64 a1_1]] w fun e w' => e = .returned (.agg #[.int .i64 r1, .int .i64 r2]) ∧ Below w.heap.size w w' := by
 have hu23 := Try.underlying23
 have HB := Aside0.mk (Below.refl w.heap.size w)
 have H : (some (wrap64 (a0_0 + a1_0), wrap64 (a0_1 + a1_1))) = some (r1, r2) := h
 clear h
 simp only [Option.some.injEq, Prod.mk.injEq] at H
 obtain ⟨rfl, rfl⟩ := H
 go_enter Try.func27, Try.ntmps27
 go_wp2_with (first | ((with_reducible refine gate_dst (N := 2) rfl ?_); refine box_event ?hg (N := 2) ?hd (cs := #[.int .i64 a0_0, .int .i64 a0_1]) (t := 23) ?hr ?_; (case hd => rfl); (case hg => rfl); (case hr => first | (go_simp; done) | (go_simp; rfl)); intro gb515 hg w3 hbox hb; have n0_ := Aside0.mk (below_step (by repeat (first | (with_reducible first | exact HB.out | apply below_alloc | apply pw_below_drewN | apply below_drew1) | exact HB.out)) hb); have n1_ := Aside0.mk (hbox); have n2_ := Aside0.mk ((by rw [hg]; exact (below_size (by repeat (first | (with_reducible first | exact HB.out | apply below_alloc | apply pw_below_drewN | apply below_drew1) | exact HB.out))) : w.heap.size ≤ gb515)); have n3_ := Aside0.mk ((by rw [hg]; exact (below_size (by repeat (first | (with_reducible first | exact HB.out | apply below_alloc | apply pw_below_drewN | apply below_drew1) | exact HB.out))) : w.heap.size ≤ gb515)); clear HB; have HB := n0_; have BK515 := n1_; have GW515 := n2_; have GE515 := n3_; clear n0_ n1_ n2_ n3_; clear hb hbox hg) | ((with_reducible refine gate_dst (N := 3) rfl ?_); refine box_event ?hg (N := 3) ?hd (cs := #[.int .i64 a1_0, .int .i64 a1_1]) (t := 23) ?hr ?_; (case hd => rfl); (case hg => rfl); (case hr => first | (go_simp; done) | (go_simp; rfl)); intro gb516 hg w4 hbox hb; have n0_ := Aside0.mk (blk_below (g := gb515) (o := .cells #[.int .i64 a0_0, .int .i64 a0_1] 23 (0, 0)) (by (with_reducible repeat (first | refine blk_drewN ?_ _ | refine blk_drew ?_ | refine blk_alloc ?_ _)); exact BK515.out) hb); have n1_ := Aside0.mk (below_step (by repeat (first | (with_reducible first | exact HB.out | apply below_alloc | apply pw_below_drewN | apply below_drew1 | refine below_set ?_ GE515.out) | exact HB.out)) hb); have n2_ := Aside0.mk (hbox); have n3_ := Aside0.mk ((by rw [hg]; exact (below_size (by repeat (first | (with_reducible first | exact HB.out | apply below_alloc | apply pw_below_drewN | apply below_drew1 | refine below_set ?_ GE515.out) | exact HB.out))) : w.heap.size ≤ gb516)); have n4_ := Aside0.mk ((by rw [hg]; exact (below_size (by repeat (first | (with_reducible first | exact HB.out | apply below_alloc | apply pw_below_drewN | apply below_drew1 | refine below_set ?_ GE515.out) | exact HB.out))) : w.heap.size ≤ gb516)); have n5_ := Aside0.mk ((by rw [hg]; exact Nat.ne_of_lt (blk_lt (g := gb515) (o := .cells #[.int .i64 a0_0, .int .i64 a0_1] 23 (0, 0)) (by (with_reducible repeat (first | refine blk_drewN ?_ _ | refine blk_drew ?_ | refine blk_alloc ?_ _)); exact BK515.out)) : gb515 ≠ gb516)); have n6_ := Aside0.mk ((by rw [hg]; exact Nat.ne_of_gt (blk_lt (g := gb515) (o := .cells #[.int .i64 a0_0, .int .i64 a0_1] 23 (0, 0)) (by (with_reducible repeat (first | refine blk_drewN ?_ _ | refine blk_drew ?_ | refine blk_alloc ?_ _)); exact BK515.out)) : gb516 ≠ gb515)); clear BK515; clear HB; have BK515 := n0_; have HB := n1_; have BK516 := n2_; have GW516 := n3_; have GE516 := n4_; have NB515_516 := n5_; have NB516_515 := n6_; clear n0_ n1_ n2_ n3_ n4_ n5_ n6_; clear hb hbox hg) | ((with_reducible refine gate_dst (N := 4) rfl ?_); refine box_event ?hg (N := 4) ?hd (cs := #[.int .i64 0, .int .i64 0]) (t := 23) ?hr ?_; (case hd => rfl); (case hg => rfl); (case hr => first | (go_simp; done) | (go_simp; rfl)); intro gb517 hg w5 hbox hb; have n0_ := Aside0.mk (blk_below (g := gb515) (o := .cells #[.int .i64 a0_0, .int .i64 a0_1] 23 (0, 0)) (by (with_reducible repeat (first | refine blk_drewN ?_ _ | refine blk_drew ?_ | refine blk_alloc ?_ _)); exact BK515.out) hb); have n1_ := Aside0.mk (blk_below (g := gb516) (o := .cells #[.int .i64 a1_0, .int .i64 a1_1] 23 (0, 0)) (by (with_reducible repeat (first | refine blk_drewN ?_ _ | refine blk_drew ?_ | refine blk_alloc ?_ _)); exact BK516.out) hb); have n2_ := Aside0.mk (below_step (by repeat (first | (with_reducible first | exact HB.out | apply below_alloc | apply pw_below_drewN | apply below_drew1 | refine below_set ?_ GE515.out | refine below_set ?_ GE516.out) | exact HB.out)) hb); have n3_ := Aside0.mk (hbox); have n4_ := Aside0.mk ((by rw [hg]; exact (below_size (by repeat (first | (with_reducible first | exact HB.out | apply below_alloc | apply pw_below_drewN | apply below_drew1 | refine below_set ?_ GE515.out | refine below_set ?_ GE516.out) | exact HB.out))) : w.heap.size ≤ gb517)); have n5_ := Aside0.mk ((by rw [hg]; exact (below_size (by repeat (first | (with_reducible first | exact HB.out | apply below_alloc | apply pw_below_drewN | apply below_drew1 | refine below_set ?_ GE515.out | refine below_set ?_ GE516.out) | exact HB.out))) : w.heap.size ≤ gb517)); have n6_ := Aside0.mk ((by rw [hg]; exact Nat.ne_of_lt (blk_lt (g := gb515) (o := .cells #[.int .i64 a0_0, .int .i64 a0_1] 23 (0, 0)) (by (with_reducible repeat (first | refine blk_drewN ?_ _ | refine blk_drew ?_ | refine blk_alloc ?_ _)); exact BK515.out)) : gb515 ≠ gb517)); have n7_ := Aside0.mk ((by rw [hg]; exact Nat.ne_of_gt (blk_lt (g := gb515) (o := .cells #[.int .i64 a0_0, .int .i64 a0_1] 23 (0, 0)) (by (with_reducible repeat (first | refine blk_drewN ?_ _ | refine blk_drew ?_ | refine blk_alloc ?_ _)); exact BK515.out)) : gb517 ≠ gb515)); have n8_ := Aside0.mk ((by rw [hg]; exact Nat.ne_of_lt (blk_lt (g := gb516) (o := .cells #[.int .i64 a1_0, .int .i64 a1_1] 23 (0, 0)) (by (with_reducible repeat (first | refine blk_drewN ?_ _ | refine blk_drew ?_ | refine blk_alloc ?_ _)); exact BK516.out)) : gb516 ≠ gb517)); have n9_ := Aside0.mk ((by rw [hg]; exact Nat.ne_of_gt (blk_lt (g := gb516) (o := .cells #[.int .i64 a1_0, .int .i64 a1_1] 23 (0, 0)) (by (with_reducible repeat (first | refine blk_drewN ?_ _ | refine blk_drew ?_ | refine blk_alloc ?_ _)); exact BK516.out)) : gb517 ≠ gb516)); clear BK515; clear BK516; clear HB; have BK515 := n0_; have BK516 := n1_; have HB := n2_; have BK517 := n3_; have GW517 := n4_; have GE517 := n5_; have NB515_517 := n6_; have NB517_515 := n7_; have NB516_517 := n8_; have NB517_516 := n9_; clear n0_ n1_ n2_ n3_ n4_ n5_ n6_ n7_ n8_ n9_; clear hb hbox hg; have hnb6 := NB515_516.out; have hnc6 := NB516_515.out; have hnb7 := NB515_517.out; have hnc7 := NB517_515.out; have hcz8_0 : w5.cell? ⟨gb515, 0, none⟩ = some (.int .i64 a0_0) := (blk_cell BK515.out 0).trans rfl; have hcz8_1 : w5.cell? ⟨gb515, 1, none⟩ = some (.int .i64 a0_1) := (blk_cell BK515.out 1).trans rfl; have hfz8_0 := blk_frozen BK515.out 0; have hfz8_1 := blk_frozen BK515.out 1; have hnb9 := NB516_517.out; have hnc9 := NB517_516.out; have hcz10_0 : w5.cell? ⟨gb516, 0, none⟩ = some (.int .i64 a1_0) := (blk_cell BK516.out 0).trans rfl; have hcz10_1 : w5.cell? ⟨gb516, 1, none⟩ = some (.int .i64 a1_1) := (blk_cell BK516.out 1).trans rfl; have hfz10_0 := blk_frozen BK516.out 0; have hfz10_1 := blk_frozen BK516.out 1; have hcz11_0 : w5.cell? ⟨gb517, 0, none⟩ = some (.int .i64 0) := (blk_cell BK517.out 0).trans rfl; have hcz11_1 : w5.cell? ⟨gb517, 1, none⟩ = some (.int .i64 0) := (blk_cell BK517.out 1).trans rfl; have hfz11_0 := blk_frozen BK517.out 0; have hfz11_1 := blk_frozen BK517.out 1))
 refine bodyPost_ret (results_cell_row rfl _ _ gb517 23 #[.int .i64 (wrap64 (a0_0 + a1_0)), .int .i64 (wrap64 (a0_1 + a1_1))] (0, 0) _ rfl (by (with_reducible repeat (first | refine blk_drewN ?_ _ | refine blk_drew ?_ | refine blk_alloc ?_ _)); refine blk_put (cs := #[.int .i64 (wrap64 (a0_0 + a1_0)), .int .i64 0]) ?_ 1 _ rfl; (with_reducible repeat (first | refine blk_drewN ?_ _ | refine blk_drew ?_ | refine blk_alloc ?_ _)); refine blk_put (cs := #[.int .i64 0, .int .i64 0]) ?_ 0 _ rfl; (with_reducible repeat (first | refine blk_drewN ?_ _ | refine blk_drew ?_ | refine blk_alloc ?_ _)); exact BK517.out) Try.underlying23 rfl (by kernel_rfl)) rfl ?_
 exact ⟨by first | rfl | (simp [errW_none, errW_some] <;> rfl) | (simp [*, errW_none, errW_some] <;> rfl), by repeat (first | (with_reducible first | exact HB.out | apply below_alloc | apply pw_below_drewN | apply below_drew1 | refine below_set ?_ GE515.out | refine below_set ?_ GE516.out | refine below_set ?_ GE517.out) | exact HB.out)⟩
end Go.Proofs.Ytmilejcbkpkplaa.PAll
